/- The document's list: where it stands; Place, Size. No conditions. -/
import Derived.Test.YteomanpaladdjaaPx0
import Derived.Test.YteomanpaladdjaaSkRises
import Derived.Test.YteomanpaladdjaaPrickyardref02Right
import Derived.Test.YteomanpaladdjaaPrickyardref02Merge
namespace Go.Proofs.Yteomanpaladdjaa.P
open Go.RowKit Go.Proofs.YteomanpaladdjaaW.PrintWords Go.Proofs.YteomanpaladdjaaW.PrintLast Go.Proofs.YteomanpaladdjaaW.PrintMore
attribute [local go_sem] max2_int min2_int max_two min_two max_three min_three max_four min_four   -- for this text's walks alone
set_option linter.unusedVariables false
set_option linter.unusedSimpArgs false

/-! ### rickyardref05_Copy: function 21 -/
def rickyardref05_Copy.f (l0 : List Int) : Option (List Int) := if ([] : List Int).length + l0.length < 140737488355328 then (some (([] : List Int) ++ l0)) else (none)
set_option maxHeartbeats 8000000 in
set_option maxRecDepth 100000 in
theorem rickyardref05_Copy.calls (A0 : Option Addr) (c0 : Nat) (l0 : List Int) (r : List Int) (w : World) (hr0 : Kd.C (Kd.int .u8) w A0 l0.length l0) (hc0 : l0.length ≤ c0) (h : rickyardref05_Copy.f l0 = some r) :
    Calls Try.prog 21 #[.slice A0 l0.length c0] w fun e w' => ∃ v0_ : Value, e = .returned (v0_) ∧ Kd.R (Kd.int .u8) 5 w' w.heap.size (fun _ => True) v0_ r ∧ Below w.heap.size w w' := by
  have HR0 := Aside0.mk hr0
  have HC0 := Aside0.mk hc0
  clear hr0 hc0
  have HB := Aside0.mk (Below.refl w.heap.size w)
  have H : (if ([] : List Int).length + l0.length < 140737488355328 then (some (([] : List Int) ++ l0)) else (none)) = some r := h
  clear h
  by_cases c2 : ([] : List Int).length + l0.length < 140737488355328
  · rw [if_pos c2] at H
    have LMc2 := Aside0.mk c2
    clear c2
    obtain ⟨y114, hy114⟩ : ∃ y_ : List Int, y_ = (([] : List Int) ++ l0) := ⟨_, rfl⟩
    replace H : (some y114) = some r := by first | (rw [hy114]; with_reducible exact H) | (have H2_ := (Option.bind_some _ _).symm.trans H; rw [hy114]; with_reducible exact H2_) | (have H2_ := (Option.bind_some _ _).symm.trans H; with_reducible exact H2_) | with_reducible exact H | (rw [hy114]; exact H) | exact H
    have Ny114 := Aside0.mk hy114
    clear hy114
    obtain rfl := Option.some.inj H
    go_enter Try.func21, Try.ntmps21
    go_wp2_with (first | ((with_reducible refine gate_builtin (b := .append) (xs := #[.tmp 4, .tmp 5]) rfl ?_); at_builtin; refine Kd.R_append_rows (Kd.int .u8) (w0 := w) w.heap.size rfl (.tmp 4) (.tmp 5) 23 5 (.int .u8 0) 1 rfl Try.underlying23 info5 rfl (by decide) (by omega) (.slice none 0 0) ([] : List Int) l0 _ _ _ (fun _ => True) (fun _ => False) rfl rfl ?aO ?aR (fun _ _ h => h) (fun _ h => h.elim) ?aF ?aB ?aS ?aL ?_; (case aR => repeat (first | exact HR0.out | (with_reducible refine Kd.C_alloc ?_ _) | (with_reducible refine Kd.C_drewN ?_ _) | (with_reducible refine Kd.C_drew ?_))); (case aB => exact (by repeat (first | (with_reducible first | exact HB.out | apply below_alloc | apply pw_below_drewN | apply below_drew1) | exact HB.out))); (case aF => exact (fun _ _ => trivial)); (case aO => exact ((Kd.R_nil _ _ _ _ (fun _ => True)))); (case aS => exact (below_size (by repeat (first | (with_reducible first | exact HB.out | apply below_alloc | apply pw_below_drewN | apply below_drew1) | exact HB.out)))); (case aL => have := LMc2.out; omega); intro v115 w3 ho hb hg hat; rw [← Ny114.out] at ho; have n0_ := Aside0.mk (hb); have n1_ := Aside0.mk (ho); clear HB; have HB := n0_; have HO116 := n1_; clear n0_ n1_; clear ho hb hg hat))
    go_ret
    exact ⟨_, by first | rfl | (simp [errW_none, errW_some] <;> rfl) | (simp [*, errW_none, errW_some] <;> rfl), by (with_reducible repeat (first | apply Kd.R_alloc | apply Kd.R_drewN | apply Kd.R_drew)); exact HO116.out, by repeat (first | (with_reducible first | exact HB.out | apply below_alloc | apply pw_below_drewN | apply below_drew1) | exact HB.out)⟩
  · rw [if_neg c2] at H
    exact absurd H (by simp)

end Go.Proofs.Yteomanpaladdjaa.P
namespace Go.Proofs.Yteomanpaladdjaa.P
open Go.RowKit Go.Proofs.Yteomanpaladdjaa.Pure Go.Proofs.YteomanpaladdjaaW.PrintWords Go.Proofs.YteomanpaladdjaaW.PrintLast Go.Proofs.YteomanpaladdjaaW.PrintMore
set_option linter.unusedVariables false
set_option linter.unusedSimpArgs false
theorem refRight_f (x : Ag) : rickyardref02_Right.f x.f0 x.f1 x.f2.f0 x.f2.f1 x.f3 x.f4 = some (rightB x) := by
  unfold rickyardref02_Right.f rightB
  by_cases h0 : x.f0 = 0
  · rw [if_pos h0, if_pos h0]
    cases x.f1 with
    | true => rfl
    | false =>
      rw [if_neg (by decide)]
      by_cases h2 : x.f2.f0 = 0
      · by_cases h3 : x.f2.f1 = 0
        · by_cases h4 : x.f3 = 0
          · rw [if_pos h2, if_pos h3, if_pos h4]; simp [h2, h3, h4]
          · rw [if_pos h2, if_pos h3, if_neg h4]; simp [h2, h3, h4]
        · rw [if_pos h2, if_neg h3]; simp [h2, h3]
      · rw [if_neg h2]; simp [h2]
  · rw [if_neg h0, if_neg h0]
    cases x.f1 with
    | true =>
      by_cases h1 : x.f0 = 18446744073709551615
      · rw [if_pos rfl, if_pos h1]; simp [h1]
      · rw [if_pos rfl, if_neg h1]; simp [h1]
    | false => rw [if_neg (by decide)]; simp
theorem refRight_calls (x : Ag) (w : World) : Calls Try.prog 35 #[agV x] w fun e w' => e = .returned (.bool (rightB x)) ∧ Below w.heap.size w w' := rickyardref02_Right.calls _ _ _ _ _ _ _ w (refRight_f x)
set_option maxHeartbeats 2000000 in
set_option maxRecDepth 100000 in
theorem Place_calls (W : World) (g : Nat) (A : Option Addr) (c : Nat) (es : List En) (fr : Bool) (hG : W.heap[g]? = some (.cells #[.slice A es.length c, .bool fr] 51 (0, 0))) (hC : Kd.C k38 W A es.length es) (hl : es.length ≤ 5000)
    (B : Option Addr) (d : Nat) (key : List Int) (hk : Kd.C (Kd.int .u8) W B key.length key) (X Y : List En) (hXY : es = X ++ Y) (hX : ∀ m ∈ X, cmpI m.f0 key < 0) (hY : ∀ m ∈ Y, ¬ cmpI m.f0 key < 0) :
    Calls Try.prog 36 #[.pointer (some ⟨g, 0, none⟩), .slice B key.length d] W fun e w' => e = .returned (.int .i64 (X.length : Int)) ∧ Below W.heap.size W w' := by
  have hu := Try.underlying51
  obtain ⟨p, hp⟩ : ∃ p, X.length = p := ⟨_, rfl⟩
  obtain ⟨en, hen⟩ : ∃ n, es.length = n := ⟨_, rfl⟩
  have HAT := Aside0.mk (show ∀ i x, es[i]? = some x → (i < p → cmpI x.f0 key < 0) ∧ (p ≤ i → ¬ cmpI x.f0 key < 0) from fun i x hx => by
    rw [hXY] at hx
    refine ⟨fun h => ?_, fun h => ?_⟩
    · rw [List.getElem?_append_left (by omega)] at hx
      exact hX x (List.mem_of_getElem? hx)
    · rw [List.getElem?_append_right (by omega)] at hx
      exact hY x (List.mem_of_getElem? hx))
  have HPE := Aside0.mk (show p ≤ en ∧ en ≤ 5000 from ⟨by rw [← hen, hXY, List.length_append]; omega, by omega⟩)
  have HEN := Aside0.mk hen
  have HC := Aside0.mk hC
  have HK := Aside0.mk hk
  rw [hen] at hG
  rw [hp]
  have HG := Aside0.mk hG
  have hls := fun (t : TypeId) (a b : ByteArray) (W : World) => lss_run (P := Try.prog) t a b W
  clear hG hC hk hXY hX hY hp hen hl
  go_enter Try.func36, Try.ntmps36
  go_wp2
  go_loopg [5] (en + 1) (fun kq v5 w' => ∃ (i : Nat), v5 = .int .i64 (i : Int) ∧ Aside0 (i ≤ p ∧ kq = en + 1 - i) ∧ Aside0 (Below W.heap.size W w'))
  case atStart => exact ⟨0, rfl, ⟨Nat.zero_le _, rfl⟩, ⟨Below.refl _ _⟩⟩
  case round =>
    obtain ⟨i, rfl, HI, HB⟩ := hrel
    have hg0 := blk_below HG.out HB.out
    have c0 : wr.cell? ⟨g, 0, none⟩ = some (.slice A en c) := (blk_cell hg0 0).trans rfl
    have HG0 := Aside0.mk hg0
    clear hg0
    by_cases hi : i < en
    · have d3 : decide ((i : Int) < (en : Int)) = true := decide_eq_true (by omega)
      have d3b : decide (i < en) = true := decide_eq_true hi
      have i1 : (0 ≤ (i : Int)) = True := eq_true (by omega)
      have i2 : ((i : Int) < (en : Int)) = True := eq_true (by omega)
      have i3 : (i < en) = True := eq_true hi
      obtain ⟨x, hx⟩ : ∃ x, es[i]? = some x := ⟨_, List.getElem?_eq_getElem (by rw [HEN.out]; exact hi)⟩
      obtain ⟨ad, Bx, dx, hA, k0, _, _, _, _, _, _, lx, cx⟩ := at_en (Kd.C_below HC.out HB.out) hx
      subst hA
      have hcv1 := fun n_ : Nat => Kd.C_string (P := Try.prog) (A := Bx) (c := dx) Try.underlying23 Try.underlying5 Try.underlying9 (Kd.C_drewN cx n_)
      have hcvk := fun n_ : Nat => Kd.C_string (P := Try.prog) (A := B) (c := d) Try.underlying23 Try.underlying5 Try.underlying9 (Kd.C_drewN (Kd.C_below HK.out HB.out) n_)
      have hw1 : wrap64 ((i : Int) + 1) = ((i + 1 : Nat) : Int) := w64_up (by have := HPE.out; omega)
      have HW1 := Aside0.mk hw1
      have hat := HAT.out i x hx
      by_cases hip : i < p
      · have hst : Op.bytesLess (strOfNums x.f0).toList (strOfNums key).toList = true := by rw [str_lt, decide_eq_true (hat.1 hip)]
        have HIP := Aside0.mk (And.intro hip hi)
        clear hx lx cx hw1 hat hip hi
        go_wp2
        go_quiet (fail)
        go_wp2
        go_roundg (en + 1 - (i + 1))
        case measure => have := HI.out.2; have := HIP.out; omega
        case rel => exact ⟨i + 1, by first | rfl | rw [HW1.out], ⟨HIP.out.1, rfl⟩, ⟨pw_below_drewN HB.out _⟩⟩
      · have hst : Op.bytesLess (strOfNums x.f0).toList (strOfNums key).toList = false := by rw [str_lt, decide_eq_false (by have h_ := hat.2 (by omega); omega)]
        have HE := Aside0.mk (show i = p by have := HI.out.1; omega)
        clear hx lx cx hw1 hat hip hi
        go_wp2
        go_quiet (fail)
        go_wp2
        go_ret
        exact ⟨by rw [HE.out]; rfl, pw_below_drewN HB.out _⟩
    · have d3 : decide ((i : Int) < (en : Int)) = false := decide_eq_false (by omega)
      have d3b : decide (i < en) = false := decide_eq_false hi
      have HE := Aside0.mk (show i = p by have := HI.out.1; have := HPE.out; omega)
      clear hi
      go_wp2
      go_quiet (fail)
      go_wp2
      go_ret
      exact ⟨by rw [HE.out]; rfl, pw_below_drewN HB.out _⟩
theorem size_take {es : List En} {i : Nat} {x : En} (h : es[i]? = some x) : sizeE (es.take (i + 1)) = sizeE (es.take i) + ((x.f0.length : Int) + 41) := by
  rw [List.take_add_one, h]
  show sizeE (es.take i ++ [x]) = _
  rw [sizeE_app, sizeE_cons]
  simp [sizeE]
theorem size_wrap {s : Int} {n : Nat} (h0 : 0 ≤ s ∧ s ≤ 4611686018427387904) (h1 : n ≤ 256) : wrap64 (wrap64 (s + (n : Int)) + 41) = s + ((n : Int) + 41) := by
  have e : wrap64 (s + (n : Int)) = s + (n : Int) := by unfold wrap64; omega
  rw [e]; unfold wrap64; omega
set_option maxHeartbeats 2000000 in
set_option maxRecDepth 100000 in
theorem RSize_calls (W : World) (g : Nat) (A : Option Addr) (c : Nat) (es : List En) (fr : Bool) (hG : W.heap[g]? = some (.cells #[.slice A es.length c, .bool fr] 51 (0, 0))) (hC : Kd.C k38 W A es.length es) (hl : es.length ≤ 5000) (hk : ∀ y ∈ es, y.f0.length ≤ 256) :
    Calls Try.prog 25 #[.pointer (some ⟨g, 0, none⟩)] W fun e w' => e = .returned (.int .i64 (sizeE es)) ∧ Below W.heap.size W w' := by
  have hu := Try.underlying51
  obtain ⟨en, hen⟩ : ∃ n, es.length = n := ⟨_, rfl⟩
  have HPE := Aside0.mk (show en ≤ 5000 by omega)
  have HEN := Aside0.mk hen
  have HC := Aside0.mk hC
  have HK := Aside0.mk hk
  rw [hen] at hG
  have HG := Aside0.mk hG
  clear hG hC hk hen hl
  go_enter Try.func25, Try.ntmps25
  go_wp2
  go_loopg [3, 4] (en + 1) (fun kq v3 v4 w' => ∃ (i : Nat) (s : Int), v4 = .int .i64 (i : Int) ∧ v3 = .int .i64 s ∧ Aside0 (i ≤ en ∧ kq = en + 1 - i ∧ s = sizeE (es.take i)) ∧ Aside0 (w' = W))
  case atStart => exact ⟨0, 0, rfl, rfl, ⟨Nat.zero_le _, rfl, by rw [List.take_zero]; rfl⟩, ⟨rfl⟩⟩
  case round =>
    obtain ⟨i, s, rfl, rfl, HI, HW⟩ := hrel
    have hg0 := HG.out
    rw [← HW.out] at hg0
    have c0 : wr.cell? ⟨g, 0, none⟩ = some (.slice A en c) := (blk_cell hg0 0).trans rfl
    clear hg0
    by_cases hi : i < en
    · have d3 : decide ((i : Int) < (en : Int)) = true := decide_eq_true (by omega)
      have d3b : decide (i < en) = true := decide_eq_true hi
      have i1 : (0 ≤ (i : Int)) = True := eq_true (by omega)
      have i2 : ((i : Int) < (en : Int)) = True := eq_true (by omega)
      have i3 : (i < en) = True := eq_true hi
      obtain ⟨x, hx⟩ : ∃ x, es[i]? = some x := ⟨_, List.getElem?_eq_getElem (by rw [HEN.out]; exact hi)⟩
      have hCw := HC.out
      rw [← HW.out] at hCw
      obtain ⟨ad, Bx, dx, hA, k0, _, _, _, _, _, _, lx, cx⟩ := at_en hCw hx
      subst hA
      have hw1 : wrap64 ((i : Int) + 1) = ((i + 1 : Nat) : Int) := w64_up (by have := HPE.out; omega)
      have HW1 := Aside0.mk hw1
      have HWS := Aside0.mk (show wrap64 (wrap64 (s + (x.f0.length : Int)) + 41) = sizeE (es.take (i + 1)) by
        rw [size_take hx, ← HI.out.2.2]
        refine size_wrap ?_ (HK.out x (List.mem_of_getElem? hx))
        have h1 := sizeE_bound (es := es.take i) (fun y hy => HK.out y (List.mem_of_mem_take hy))
        rw [List.length_take] at h1
        rw [HI.out.2.2]
        have := HPE.out
        omega)
      have HIL := Aside0.mk hi
      clear hx lx cx hw1 hi hCw
      go_wp2
      go_roundg (en + 1 - (i + 1))
      case measure => have := HI.out.2.1; have := HIL.out; omega
      case rel => exact ⟨i + 1, _, by first | rfl | rw [HW1.out], rfl, ⟨HIL.out, rfl, HWS.out⟩, HW⟩
    · have d3 : decide ((i : Int) < (en : Int)) = false := decide_eq_false (by omega)
      have d3b : decide (i < en) = false := decide_eq_false hi
      have HE := Aside0.mk (show s = sizeE es by have h1 := HI.out; rw [List.take_of_length_le (by rw [HEN.out]; omega)] at h1; exact h1.2.2)
      clear hi
      go_wp2
      go_ret
      exact ⟨by rw [HE.out]; rfl, by rw [HW.out]; exact Below.refl _ _⟩
end Go.Proofs.Yteomanpaladdjaa.P
