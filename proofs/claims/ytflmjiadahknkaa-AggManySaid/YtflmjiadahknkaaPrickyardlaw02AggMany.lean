-- Written by a program of this session out of the translation.
import Derived.Test.YtflmjiadahknkaaPx0
import Derived.Test.YtflmjiadahknkaaPEq1
import Derived.Test.YtflmjiadahknkaaPaggMany
import Derived.Test.YtflmjiadahknkaaPrickyardlaw02alive
import Derived.Test.YtflmjiadahknkaaPrickyardref02Many
namespace Go.Proofs.Ytflmjiadahknkaa.P
open Go.RowKit Go.Proofs.YtflmjiadahknkaaW.PrintWords Go.Proofs.YtflmjiadahknkaaW.PrintLast Go.Proofs.YtflmjiadahknkaaW.PrintMore
attribute [local go_sem] max2_int min2_int max_two min_two max_three min_three max_four min_four   -- for this text's walks alone
set_option linter.unusedVariables false
set_option linter.unusedSimpArgs false

attribute [local go_sem high] eqA26
/-! ### rickyardlaw02_AggMany: function 5 -/
def rickyardlaw02_AggMany.f (k : Nat) (l0 : List Int) : Option (Bool) := if (l0.length : Int) > 300 then ((rickyardlaw02_alive.f k).bind fun t282 => (some t282)) else ((rickyardlaw02_alive.f k).bind fun t283 => (if t283 = true then ((agg_Many.f k l0).bind fun bt284 => ((rickyardref02_Many.f k l0).bind fun bt290 => (some (bt284.1 == bt290.1 && (bt284.2.1 == bt290.2.1 && ((bt284.2.2.1 == bt290.2.2.1 && (bt284.2.2.2.1 == bt290.2.2.2.1)) && (bt284.2.2.2.2.1 == bt290.2.2.2.2.1 && (bt284.2.2.2.2.2 == bt290.2.2.2.2.2)))))))) else (some false)))
theorem rickyardlaw02_AggMany.mono : ∀ a0 k, LeO (rickyardlaw02_AggMany.f k a0) (rickyardlaw02_AggMany.f (k + 1) a0) := by
  intro a0 k
  unfold rickyardlaw02_AggMany.f
  repeat' first
      | (with_reducible exact agg_Many.mono _ _)
      | (with_reducible exact rickyardlaw02_alive.mono _)
      | (with_reducible exact rickyardref02_Many.mono _ _)
      | (with_reducible exact LeO.refl _)
      | (with_reducible exact LeO.none _)
      | (with_reducible refine LeO.ite ?_ ?_)
      | (with_reducible refine LeO.bind ?_ (fun _ => ?_))
      | exact agg_Many.mono _ _
      | exact rickyardlaw02_alive.mono _
      | exact rickyardref02_Many.mono _ _
      | exact LeO.none _
      | refine LeO.ite ?_ ?_
      | refine LeO.bind ?_ (fun _ => ?_)
set_option maxHeartbeats 8000000 in
set_option maxRecDepth 100000 in
theorem rickyardlaw02_AggMany.calls (k : Nat) (A0 : Option Addr) (c0 : Nat) (l0 : List Int) (r : Bool) (w : World) (hr0 : Kd.C (Kd.int .i64) w A0 l0.length l0) (hc0 : l0.length ≤ c0) (h : rickyardlaw02_AggMany.f k l0 = some r) (hr_ : r = true) :
    Calls Try.prog 5 #[.slice A0 l0.length c0] w fun e w' => e = .returned (.bool r) ∧ Below w.heap.size w w' := by
  have HR_ := Aside0.mk hr_
  clear hr_
  have HR0 := Aside0.mk hr0
  have HC0 := Aside0.mk hc0
  clear hr0 hc0
  have HB := Aside0.mk (Below.refl w.heap.size w)
  have H : (if (l0.length : Int) > 300 then ((rickyardlaw02_alive.f k).bind fun t282 => (some t282)) else ((rickyardlaw02_alive.f k).bind fun t283 => (if t283 = true then ((agg_Many.f k l0).bind fun bt284 => ((rickyardref02_Many.f k l0).bind fun bt290 => (some (bt284.1 == bt290.1 && (bt284.2.1 == bt290.2.1 && ((bt284.2.2.1 == bt290.2.2.1 && (bt284.2.2.2.1 == bt290.2.2.2.1)) && (bt284.2.2.2.2.1 == bt290.2.2.2.2.1 && (bt284.2.2.2.2.2 == bt290.2.2.2.2.2)))))))) else (some false)))) = some r := h
  clear h
  by_cases c2 : (l0.length : Int) > 300
  · rw [if_pos c2] at H
    have c2b0 : decide (300 < (l0.length : Int)) = true := decide_eq_true c2
    have c2b1 : decide (300 < l0.length) = true := decide_eq_true (by omega)
    clear c2
    replace H := Option.bind_eq_some_iff.mp H
    obtain ⟨t282, A30, H⟩ := H
    replace H : (some t282) = some r := H
    have A3 := Aside0.mk A30
    clear A30
    obtain rfl := Option.some.inj H
    go_enter Try.func5, Try.ntmps5
    go_wp2_with (first | ((with_reducible refine gate_callee (f := 10) rfl ?_); refine goesL_ (some 6) rfl rfl Try.func10 (by kernel_rfl) rfl #[] rfl (by (try simp only [List.map_toArray, List.map_cons, List.map_nil]); first | done | rfl | (simp only [List.length_drop, List.length_take]; rfl)) ?_; (with_reducible refine (rickyardlaw02_alive.calls k  t282 _ A3.out).mono ?_); rintro e w4 ⟨rfl, hb⟩; refine ⟨_, rfl, ?_⟩; have n0_ := Aside0.mk (below_step (by repeat (first | (with_reducible first | exact HB.out | apply below_alloc | apply pw_below_drewN | apply below_drew1) | exact HB.out)) hb); clear HB; have HB := n0_; clear n0_; (try clear hb); (try clear hb2); (try clear hk); (try clear hi)))
    go_ret
    exact ⟨by first | rfl | (simp [errW_none, errW_some] <;> rfl) | (simp [*, errW_none, errW_some] <;> rfl), by repeat (first | (with_reducible first | exact HB.out | apply below_alloc | apply pw_below_drewN | apply below_drew1) | exact HB.out)⟩
  · rw [if_neg c2] at H
    have c2b0 : decide (300 < (l0.length : Int)) = false := decide_eq_false c2
    have c2b1 : decide (300 < l0.length) = false := decide_eq_false (by omega)
    clear c2
    replace H := Option.bind_eq_some_iff.mp H
    obtain ⟨t283, A50, H⟩ := H
    replace H : (if t283 = true then ((agg_Many.f k l0).bind fun bt284 => ((rickyardref02_Many.f k l0).bind fun bt290 => (some (bt284.1 == bt290.1 && (bt284.2.1 == bt290.2.1 && ((bt284.2.2.1 == bt290.2.2.1 && (bt284.2.2.2.1 == bt290.2.2.2.1)) && (bt284.2.2.2.2.1 == bt290.2.2.2.2.1 && (bt284.2.2.2.2.2 == bt290.2.2.2.2.2)))))))) else (some false)) = some r := H
    have A5 := Aside0.mk A50
    clear A50
    by_cases c6 : t283 = true
    · subst c6
      have H1 : ((agg_Many.f k l0).bind fun bt284 => ((rickyardref02_Many.f k l0).bind fun bt290 => (some (bt284.1 == bt290.1 && (bt284.2.1 == bt290.2.1 && ((bt284.2.2.1 == bt290.2.2.1 && (bt284.2.2.2.1 == bt290.2.2.2.1)) && (bt284.2.2.2.2.1 == bt290.2.2.2.2.1 && (bt284.2.2.2.2.2 == bt290.2.2.2.2.2)))))))) = some r := by rw [if_pos rfl] at H; exact H
      clear H
      have H := H1
      clear H1
      replace H := Option.bind_eq_some_iff.mp H
      obtain ⟨⟨t284, t285, t286, t287, t288, t289⟩, A70, H⟩ := H
      replace H : ((rickyardref02_Many.f k l0).bind fun bt290 => (some (t284 == bt290.1 && (t285 == bt290.2.1 && ((t286 == bt290.2.2.1 && (t287 == bt290.2.2.2.1)) && (t288 == bt290.2.2.2.2.1 && (t289 == bt290.2.2.2.2.2))))))) = some r := H
      have A7 := Aside0.mk A70
      clear A70
      replace H := Option.bind_eq_some_iff.mp H
      obtain ⟨⟨t290, t291, t292, t293, t294, t295⟩, A80, H⟩ := H
      replace H : (some (t284 == t290 && (t285 == t291 && ((t286 == t292 && (t287 == t293)) && (t288 == t294 && (t289 == t295)))))) = some r := H
      have A8 := Aside0.mk A80
      clear A80
      obtain rfl := Option.some.inj H
      go_enter Try.func5, Try.ntmps5
      go_wp2_with (first | ((with_reducible refine gate_callee (f := 10) rfl ?_); refine goesL_ (some 7) rfl rfl Try.func10 (by kernel_rfl) rfl #[] rfl (by (try simp only [List.map_toArray, List.map_cons, List.map_nil]); first | done | rfl | (simp only [List.length_drop, List.length_take]; rfl)) ?_; (with_reducible refine (rickyardlaw02_alive.calls k  true _ A5.out).mono ?_); rintro e w9 ⟨rfl, hb⟩; refine ⟨_, rfl, ?_⟩; have n0_ := Aside0.mk (below_step (by repeat (first | (with_reducible first | exact HB.out | apply below_alloc | apply pw_below_drewN | apply below_drew1) | exact HB.out)) hb); clear HB; have HB := n0_; clear n0_; (try clear hb); (try clear hb2); (try clear hk); (try clear hi)) | (go_at_call 12; (with_reducible refine (agg_Many.calls k _ _ l0 t284 t285 t286 t287 t288 t289 _ ?side1 ?side2 A7.out).mono ?_); (case side1 => repeat (first | exact (Kd.C_below HR0.out HB.out) | (with_reducible refine Kd.C_alloc ?_ _) | (with_reducible refine Kd.C_drewN ?_ _) | (with_reducible refine Kd.C_drew ?_))); (case side2 => exact HC0.out); rintro e w10 ⟨rfl, hb⟩; have n0_ := Aside0.mk (below_step (by repeat (first | (with_reducible first | exact HB.out | apply below_alloc | apply pw_below_drewN | apply below_drew1) | exact HB.out)) hb); clear HB; have HB := n0_; clear n0_; (try clear hb); (try clear hb2); (try clear hk); (try clear hi)) | (go_at_call 13; (with_reducible refine (rickyardref02_Many.calls k _ _ l0 t290 t291 t292 t293 t294 t295 _ ?side1 ?side2 A8.out).mono ?_); (case side1 => repeat (first | exact (Kd.C_below HR0.out HB.out) | (with_reducible refine Kd.C_alloc ?_ _) | (with_reducible refine Kd.C_drewN ?_ _) | (with_reducible refine Kd.C_drew ?_))); (case side2 => exact HC0.out); rintro e w11 ⟨rfl, hb⟩; have n0_ := Aside0.mk (below_step (by repeat (first | (with_reducible first | exact HB.out | apply below_alloc | apply pw_below_drewN | apply below_drew1) | exact HB.out)) hb); clear HB; have HB := n0_; clear n0_; (try clear hb); (try clear hb2); (try clear hk); (try clear hi)))
      go_ret
      exact ⟨by first | rfl | (simp [errW_none, errW_some] <;> rfl) | (simp [*, errW_none, errW_some] <;> rfl), by repeat (first | (with_reducible first | exact HB.out | apply below_alloc | apply pw_below_drewN | apply below_drew1) | exact HB.out)⟩
    · replace c6 := Bool.eq_false_iff.mpr c6
      subst c6
      have H1 : (some false) = some r := by rw [if_neg (show ¬ (false = true) by decide)] at H; exact H
      clear H
      have H := H1
      clear H1
      exact absurd ((Option.some.inj H).trans HR_.out) (by decide)

/-- THE ONE PURE STATEMENT of rickyardlaw02_AggMany: yours. -/
def rickyardlaw02_AggMany.Pure : Prop := ∀ (l0 : List Int), l0.length ≤ maxLen → l0.length * 8 ≤ 140737488351232 → (∀ x ∈ l0, (Lit.int .i64 x).wf = true) → ∃ k, rickyardlaw02_AggMany.f k l0 = some true
theorem rickyardlaw02_AggMany.walk (P : rickyardlaw02_AggMany.Pure) (a0 : Option Addr) (len0 cap0 : Nat) (z0 : List Int) (w : World) (w0 : (a0 = none ∧ len0 = 0 ∧ cap0 = 0 ∧ z0 = []) ∨ ∃ x, a0 = some x ∧ len0 ≤ cap0 ∧ cap0 ≤ maxLen ∧ z0.length = cap0 ∧ (∀ i, i < z0.length → w.cell? (x.add i) = some (.int .i64 (z0.getD i 0))) ∧ ∀ n ∈ z0, (Lit.int .i64 n).wf = true) (y0 : len0 * 8 ≤ 140737488351232) :
    Calls Try.prog 5 #[.slice a0 len0 cap0] w fun e w' => e = .returned (.bool true) ∧ Below w.heap.size w w' := by
  obtain ⟨l0, rfl, hr0, hm0, hw0, hc0⟩ := ReadsInt.ofRowC w0
  obtain ⟨k, h⟩ := P l0 hm0 y0 hw0
  refine (rickyardlaw02_AggMany.calls k _ _ l0 true w (Kd.C_of_reads (d := (0 : Int)) (h1 := fun _ => rfl) hr0) hc0 h rfl).mono ?_
  rintro e w' ⟨rfl, hd⟩
  exact ⟨rfl, hd⟩

end Go.Proofs.Ytflmjiadahknkaa.P
