-- Written by a program of this session out of the translation.
import Derived.Test.YtflmjiadahknkaaPx0
import Derived.Test.YtflmjiadahknkaaERefWrite
namespace Go.Proofs.Ytflmjiadahknkaa.P
open Go.RowKit Go.Proofs.YtflmjiadahknkaaW.PrintWords Go.Proofs.YtflmjiadahknkaaW.PrintLast Go.Proofs.YtflmjiadahknkaaW.PrintMore
attribute [local go_sem] max2_int min2_int max_two min_two max_three min_three max_four min_four   -- for this text's walks alone
set_option linter.unusedVariables false
set_option linter.unusedSimpArgs false

/-! ### rickyardref02_Eight: function 28 -/
def rickyardref02_Eight.f (a0 : Int) : Option (List Int) := (rickyardref01_Write.f 0 a0).bind fun t347 => (if 8 ≤ (t347.length : Int) then (some (t347.drop (8 : Int).toNat)) else (none))
set_option maxHeartbeats 8000000 in
set_option maxRecDepth 100000 in
theorem rickyardref02_Eight.calls (a0 : Int) (r : List Int) (w : World) (h : rickyardref02_Eight.f a0 = some r) :
    Calls Try.prog 28 #[.int .u64 a0] w fun e w' => ∃ v0_ : Value, e = .returned (v0_) ∧ Kd.Q (Kd.int .u8) 5 w' w.heap.size (fun _ => True) v0_ r ∧ Below w.heap.size w w' := by
  have hu24 := Try.underlying24
  have HB := Aside0.mk (Below.refl w.heap.size w)
  have H : ((rickyardref01_Write.f 0 a0).bind fun t347 => (if 8 ≤ (t347.length : Int) then (some (t347.drop (8 : Int).toNat)) else (none))) = some r := h
  clear h
  replace H := Option.bind_eq_some_iff.mp H
  obtain ⟨t347, A20, H⟩ := H
  replace H : (if 8 ≤ (t347.length : Int) then (some (t347.drop (8 : Int).toNat)) else (none)) = some r := H
  have A2 := Aside0.mk A20
  clear A20
  by_cases c3 : 8 ≤ (t347.length : Int)
  · rw [if_pos c3] at H
    have c3b0 := eq_true c3
    have c3b1 : decide (8 ≤ (t347.length : Int)) = true := decide_eq_true c3
    clear c3
    obtain ⟨y350, hy350⟩ : ∃ y_ : List Int, y_ = (t347.drop (8 : Int).toNat) := ⟨_, rfl⟩
    replace H : (some y350) = some r := by first | (rw [hy350]; with_reducible exact H) | (have H2_ := (Option.bind_some _ _).symm.trans H; rw [hy350]; with_reducible exact H2_) | (have H2_ := (Option.bind_some _ _).symm.trans H; with_reducible exact H2_) | with_reducible exact H | (rw [hy350]; exact H) | exact H
    have Ny350 := Aside0.mk hy350
    clear hy350
    obtain rfl := Option.some.inj H
    go_enter Try.func28, Try.ntmps28
    go_wp2_with (first | ((with_reducible refine gate_callee (f := 29) rfl ?_); refine goesL_ (some 6) rfl rfl Try.func29 (by kernel_rfl) rfl #[.agg #[.int .i64 0, .int .u64 a0]] rfl (by (try simp only [List.map_toArray, List.map_cons, List.map_nil]); first | done | rfl | (simp only [List.length_drop, List.length_take]; rfl)) ?_; (with_reducible refine (rickyardref01_Write.calls 0 a0 t347 _ A2.out).mono ?_); rintro e w4 ⟨v348, rfl, ho0, hb⟩; refine ⟨_, rfl, ?_⟩; have n0_ := Aside0.mk (Kd.R_lower ho0 (below_size (by repeat (first | (with_reducible first | exact HB.out | apply below_alloc | apply pw_below_drewN | apply below_drew1) | exact HB.out)))); have n1_ := Aside0.mk (below_step (by repeat (first | (with_reducible first | exact HB.out | apply below_alloc | apply pw_below_drewN | apply below_drew1) | exact HB.out)) hb); clear HB; have HO349 := n0_; have HB := n1_; clear n0_ n1_; (try clear hb); (try clear hb2); (try clear hk); (try clear hi); (try clear ho0); obtain ⟨Ao5, co5, eo5⟩ := Kd.R_slice HO349.out; subst eo5; have q6 : (8 : Int) ≤ ((t347.length : Int) : Int) := of_decide_eq_true (by first | (with_reducible assumption) | assumption); obtain ⟨i06, hi06, _, hsz6, _⟩ := info_parts info5; have hcut6 := cut_from (P := Try.prog) 36 5 .i64 Try.underlying36 hi06 1 hsz6 Ao5 t347.length co5 8 (by omega) q6; have hr6 := Kd.Q_drop (k := (8 : Int).toNat) (Kd.Q_of_R HO349.out) (by omega); obtain ⟨A6, hA6⟩ : ∃ A1, A1 = (if co5 = (8 : Int).toNat then Ao5 else (Ao5 : Option Addr).map (·.add ((8 : Int).toNat * 1))) := ⟨_, rfl⟩; obtain ⟨c6, hc6⟩ : ∃ c1, c1 = co5 - (8 : Int).toNat := ⟨_, rfl⟩; have hy6 : y350.length = t347.length - (8 : Int).toNat := (by rw [Ny350.out, List.length_drop]); rw [← Ny350.out] at hr6; rw [← hy6, ← hA6, ← hc6] at hcut6; replace hr6 : Kd.Q (Kd.int .u8) 5 w4 w.heap.size (fun _ => True) (.slice A6 y350.length c6) y350 := (by rw [hA6, hc6, hy6]; exact hr6); have HE6 : Aside0 ((Value.slice A6 y350.length c6).ownBlock = (.slice Ao5 t347.length co5 : Value).ownBlock) := ⟨by rw [hA6]; split <;> (cases (Ao5 : Option Addr) <;> rfl)⟩; clear hy6 hi06 hsz6 HO349 hA6 hc6; have HO352 := Aside0.mk hr6; clear hr6; replace q6 := eq_true q6))
    go_ret
    exact ⟨_, by first | rfl | (simp [errW_none, errW_some] <;> rfl) | (simp [*, errW_none, errW_some] <;> rfl), by (with_reducible repeat (first | apply Kd.Q_alloc | apply Kd.Q_drewN | apply Kd.Q_drew)); exact HO352.out, by repeat (first | (with_reducible first | exact HB.out | apply below_alloc | apply pw_below_drewN | apply below_drew1) | exact HB.out)⟩
  · rw [if_neg c3] at H
    exact absurd H (by simp)

end Go.Proofs.Ytflmjiadahknkaa.P
