-- Written by a program of this session out of the translation.
import Derived.Test.YticddiiigfkamaaPx0
namespace Go.Proofs.Yticddiiigfkamaa.P
open Go.RowKit Go.Proofs.YticddiiigfkamaaW.PrintWords Go.Proofs.YticddiiigfkamaaW.PrintLast Go.Proofs.YticddiiigfkamaaW.PrintMore
attribute [local go_sem] max2_int min2_int max_two min_two max_three min_three max_four min_four   -- for this text's walks alone
set_option linter.unusedVariables false
set_option linter.unusedSimpArgs false

/-! ### rickyardlaw09_Same: function 17 -/
def rickyardlaw09_Same.l0 : Nat → List (S39) → List (S47) → Int → Option (Bool)
  | 0, _, _, _ => none
  | k + 1, x0, x1, x5 => if x5 < (x0.length : Int) then (if 0 ≤ x5 then (if x5 < (x1.length : Int) then (if (strOfNums ((rd_T39 x0 x5).f0)).toList = (strOfNums ((rd_T47 x1 x5).f0)).toList then (if (strOfNums ((rd_T39 x0 x5).f1)).toList = (strOfNums ((rd_T47 x1 x5).f1)).toList then (rickyardlaw09_Same.l0 k x0 x1 (wrap64 (x5 + 1))) else (some false)) else (some false)) else (none)) else (none)) else (some true)
def rickyardlaw09_Same.f (k : Nat) (l0 : List (S39)) (l1 : List (S47)) : Option (Bool) := if (l0.length : Int) = (l1.length : Int) then (rickyardlaw09_Same.l0 k l0 l1 0) else (some false)
theorem rickyardlaw09_Same.mono_l : ∀ k, (∀ y0 y1 y2, LeO (rickyardlaw09_Same.l0 k y0 y1 y2) (rickyardlaw09_Same.l0 (k + 1) y0 y1 y2))
  | 0 => fun _ _ _ r h => by simp [rickyardlaw09_Same.l0] at h
  | k + 1 => by
    have ih0 := rickyardlaw09_Same.mono_l k
    · intro y0 y1 y2
      unfold rickyardlaw09_Same.l0
      repeat' first
      | (with_reducible exact ih0 _ _ _)
      | (with_reducible exact LeO.refl _)
      | (with_reducible exact LeO.none _)
      | (with_reducible refine LeO.ite ?_ ?_)
      | (with_reducible refine LeO.bind ?_ (fun _ => ?_))
      | exact ih0 _ _ _
      | exact LeO.none _
      | refine LeO.ite ?_ ?_
      | refine LeO.bind ?_ (fun _ => ?_)
theorem rickyardlaw09_Same.mono : ∀ a0 a1 k, LeO (rickyardlaw09_Same.f k a0 a1) (rickyardlaw09_Same.f (k + 1) a0 a1) := by
  intro a0 a1 k
  have ih0 := rickyardlaw09_Same.mono_l k
  unfold rickyardlaw09_Same.f
  repeat' first
      | (with_reducible exact ih0 _ _ _)
      | (with_reducible exact LeO.refl _)
      | (with_reducible exact LeO.none _)
      | (with_reducible refine LeO.ite ?_ ?_)
      | (with_reducible refine LeO.bind ?_ (fun _ => ?_))
      | exact ih0 _ _ _
      | exact LeO.none _
      | refine LeO.ite ?_ ?_
      | refine LeO.bind ?_ (fun _ => ?_)
set_option maxHeartbeats 8000000 in
set_option maxRecDepth 100000 in
theorem rickyardlaw09_Same.calls (k : Nat) (A0 : Option Addr) (c0 : Nat) (l0 : List (S39)) (A1 : Option Addr) (c1 : Nat) (l1 : List (S47)) (r : Bool) (w : World) (hr0 : Kd.C k39 w A0 l0.length l0) (hc0 : l0.length ≤ c0) (hr1 : Kd.C k47 w A1 l1.length l1) (hc1 : l1.length ≤ c1) (h : rickyardlaw09_Same.f k l0 l1 = some r) :
    Calls Try.prog 17 #[.slice A0 l0.length c0, .slice A1 l1.length c1] w fun e w' => e = .returned (.bool r) ∧ Drawn0 w w' := by
  have HR0 := Aside0.mk hr0
  have HC0 := Aside0.mk hc0
  clear hr0 hc0
  have HR1 := Aside0.mk hr1
  have HC1 := Aside0.mk hc1
  clear hr1 hc1
  have H : (if (l0.length : Int) = (l1.length : Int) then (rickyardlaw09_Same.l0 k l0 l1 0) else (some false)) = some r := h
  clear h
  by_cases c3 : (l0.length : Int) = (l1.length : Int)
  · rw [if_pos c3] at H
    have c3b0 : ((l0.length : Int) == (l1.length : Int)) = true := beq_iff_eq.mpr c3
    have c3b1 : ((l0.length : Int) != (l1.length : Int)) = false := bne_eq_false_iff_eq.mpr c3
    have c3b2 : (l0.length == l1.length) = true := by first | simpa using c3 | (simp at c3 ⊢; omega)
    clear c3
    have H' := Aside0.mk H
    clear H
    go_enter Try.func17, Try.ntmps17
    go_wp2
    repeat (go_quiet (fail); try go_wp2)
    go_loopg [5] k (fun kq v5 w' => ∃ (x5_1 : Int), v5 = .int .i64 x5_1 ∧ Aside0 (rickyardlaw09_Same.l0 kq l0 l1 x5_1 = some r) ∧ Aside0 (kq ≤ k) ∧ Drawn0 w w')
    case atStart => exact ⟨(0), (by first | rfl | (simp; done) | (simp [*]; done)), H', ⟨Nat.le_refl _⟩, by repeat (first | exact Drawn0.refl _ | apply Drawn0.step)⟩
    case round =>
      clear H'
      try clear c1
      try clear p2
      try clear c3
      try clear c3b0
      try clear c3b1
      try clear c3b2
      obtain ⟨x5_1, rfl, HA, HK1, ⟨m1, rfl⟩⟩ := hrel
      cases gk with
      | zero => exact absurd HA.out (by simp [rickyardlaw09_Same.l0])
      | succ k1 =>
        have H := HA.out
        clear HA
        simp only [rickyardlaw09_Same.l0] at H
        by_cases c4 : x5_1 < (l0.length : Int)
        · rw [if_pos c4] at H
          have c4b0 : decide (x5_1 < (l0.length : Int)) = true := decide_eq_true c4
          clear c4
          by_cases c5 : 0 ≤ x5_1
          · rw [if_pos c5] at H
            have c5b0 : decide (0 ≤ x5_1) = true := decide_eq_true c5
            clear c5
            by_cases c6 : x5_1 < (l1.length : Int)
            · rw [if_pos c6] at H
              have c6b0 : decide (x5_1 < (l1.length : Int)) = true := decide_eq_true c6
              clear c6
              by_cases c7 : (strOfNums ((rd_T39 l0 x5_1).f0)).toList = (strOfNums ((rd_T47 l1 x5_1).f0)).toList
              · rw [if_pos c7] at H
                have c7b0 : ((strOfNums ((rd_T39 l0 x5_1).f0)).toList == (strOfNums ((rd_T47 l1 x5_1).f0)).toList) = true := beq_iff_eq.mpr c7
                have c7b1 : ((strOfNums ((rd_T39 l0 x5_1).f0)).toList != (strOfNums ((rd_T47 l1 x5_1).f0)).toList) = false := bne_eq_false_iff_eq.mpr c7
                clear c7
                by_cases c8 : (strOfNums ((rd_T39 l0 x5_1).f1)).toList = (strOfNums ((rd_T47 l1 x5_1).f1)).toList
                · rw [if_pos c8] at H
                  have c8b0 : ((strOfNums ((rd_T39 l0 x5_1).f1)).toList == (strOfNums ((rd_T47 l1 x5_1).f1)).toList) = true := beq_iff_eq.mpr c8
                  have c8b1 : ((strOfNums ((rd_T39 l0 x5_1).f1)).toList != (strOfNums ((rd_T47 l1 x5_1).f1)).toList) = false := bne_eq_false_iff_eq.mpr c8
                  clear c8
                  have H' := Aside0.mk H
                  clear H
                  have p226 : 0 ≤ (x5_1 : Int) := of_decide_eq_true (by first | (with_reducible assumption) | assumption)
                  have q226 : x5_1 < (l0.length : Int) := of_decide_eq_true (by first | (with_reducible assumption) | assumption)
                  obtain ⟨ad226, A226_0, c226_0, A226_1, c226_1, e226, hx226_0, hx226_1, hl226_0, hi226_0, hl226_1, hi226_1⟩ := at_T39 HR0.out x5_1 p226 q226
                  cases e226
                  have HR226_0 := Aside0.mk hi226_0
                  have HC226_0 := Aside0.mk hl226_0
                  clear hi226_0 hl226_0
                  have HR226_1 := Aside0.mk hi226_1
                  have HC226_1 := Aside0.mk hl226_1
                  clear hi226_1 hl226_1
                  replace p226 := eq_true p226
                  replace q226 := eq_true q226
                  have hcv9 := Kd.C_string (P := Try.prog) (A := A226_0) (c := c226_0) Try.underlying23 Try.underlying5 Try.underlying9 HR226_0.out
                  have hcv9n := fun n_ : Nat => Kd.C_string (P := Try.prog) (A := A226_0) (c := c226_0) Try.underlying23 Try.underlying5 Try.underlying9 (Kd.C_drewN HR226_0.out n_)
                  (try simp only [World.drewN_drewN] at hcv9n)
                  have p227 : 0 ≤ (x5_1 : Int) := of_decide_eq_true (by first | (with_reducible assumption) | assumption)
                  have q227 : x5_1 < (l1.length : Int) := of_decide_eq_true (by first | (with_reducible assumption) | assumption)
                  obtain ⟨ad227, A227_0, c227_0, A227_1, c227_1, e227, hx227_0, hx227_1, hl227_0, hi227_0, hl227_1, hi227_1⟩ := at_T47 HR1.out x5_1 p227 q227
                  cases e227
                  have HR227_0 := Aside0.mk hi227_0
                  have HC227_0 := Aside0.mk hl227_0
                  clear hi227_0 hl227_0
                  have HR227_1 := Aside0.mk hi227_1
                  have HC227_1 := Aside0.mk hl227_1
                  clear hi227_1 hl227_1
                  replace p227 := eq_true p227
                  replace q227 := eq_true q227
                  have hcv10 := Kd.C_string (P := Try.prog) (A := A227_0) (c := c227_0) Try.underlying23 Try.underlying5 Try.underlying9 HR227_0.out
                  have hcv10n := fun n_ : Nat => Kd.C_string (P := Try.prog) (A := A227_0) (c := c227_0) Try.underlying23 Try.underlying5 Try.underlying9 (Kd.C_drewN HR227_0.out n_)
                  (try simp only [World.drewN_drewN] at hcv10n)
                  have p228 : 0 ≤ (x5_1 : Int) := of_decide_eq_true (by first | (with_reducible assumption) | assumption)
                  have q228 : x5_1 < (l0.length : Int) := of_decide_eq_true (by first | (with_reducible assumption) | assumption)
                  obtain ⟨ad228, A228_0, c228_0, A228_1, c228_1, e228, hx228_0, hx228_1, hl228_0, hi228_0, hl228_1, hi228_1⟩ := at_T39 HR0.out x5_1 p228 q228
                  obtain rfl : ad226 = ad228 := (by injection e228)
                  have HR228_0 := Aside0.mk hi228_0
                  have HC228_0 := Aside0.mk hl228_0
                  clear hi228_0 hl228_0
                  have HR228_1 := Aside0.mk hi228_1
                  have HC228_1 := Aside0.mk hl228_1
                  clear hi228_1 hl228_1
                  replace p228 := eq_true p228
                  replace q228 := eq_true q228
                  have ea_ := Option.some.inj (hx226_0.symm.trans hx228_0)
                  injection ea_ with ea_ en_ ec_
                  subst ea_
                  subst ec_
                  clear en_
                  have ea_ := Option.some.inj (hx226_1.symm.trans hx228_1)
                  injection ea_ with ea_ en_ ec_
                  subst ea_
                  subst ec_
                  clear en_
                  have hcv11 := Kd.C_string (P := Try.prog) (A := A226_1) (c := c226_1) Try.underlying23 Try.underlying5 Try.underlying9 HR228_1.out
                  have hcv11n := fun n_ : Nat => Kd.C_string (P := Try.prog) (A := A226_1) (c := c226_1) Try.underlying23 Try.underlying5 Try.underlying9 (Kd.C_drewN HR228_1.out n_)
                  (try simp only [World.drewN_drewN] at hcv11n)
                  have p229 : 0 ≤ (x5_1 : Int) := of_decide_eq_true (by first | (with_reducible assumption) | assumption)
                  have q229 : x5_1 < (l1.length : Int) := of_decide_eq_true (by first | (with_reducible assumption) | assumption)
                  obtain ⟨ad229, A229_0, c229_0, A229_1, c229_1, e229, hx229_0, hx229_1, hl229_0, hi229_0, hl229_1, hi229_1⟩ := at_T47 HR1.out x5_1 p229 q229
                  obtain rfl : ad227 = ad229 := (by injection e229)
                  have HR229_0 := Aside0.mk hi229_0
                  have HC229_0 := Aside0.mk hl229_0
                  clear hi229_0 hl229_0
                  have HR229_1 := Aside0.mk hi229_1
                  have HC229_1 := Aside0.mk hl229_1
                  clear hi229_1 hl229_1
                  replace p229 := eq_true p229
                  replace q229 := eq_true q229
                  have ea_ := Option.some.inj (hx227_0.symm.trans hx229_0)
                  injection ea_ with ea_ en_ ec_
                  subst ea_
                  subst ec_
                  clear en_
                  have ea_ := Option.some.inj (hx227_1.symm.trans hx229_1)
                  injection ea_ with ea_ en_ ec_
                  subst ea_
                  subst ec_
                  clear en_
                  have hcv12 := Kd.C_string (P := Try.prog) (A := A227_1) (c := c227_1) Try.underlying23 Try.underlying5 Try.underlying9 HR229_1.out
                  have hcv12n := fun n_ : Nat => Kd.C_string (P := Try.prog) (A := A227_1) (c := c227_1) Try.underlying23 Try.underlying5 Try.underlying9 (Kd.C_drewN HR229_1.out n_)
                  (try simp only [World.drewN_drewN] at hcv12n)
                  go_wp2
                  repeat (go_quiet (fail); try go_wp2)
                  go_roundg k1
                  case measure => have := HK1.out; omega
                  case rel => exact ⟨(wrap64 (x5_1 + 1)), (by first | rfl | (simp; done) | (simp [*]; done)), H', ⟨by have := HK1.out; omega⟩, by repeat (first | exact Drawn0.refl _ | apply Drawn0.step)⟩
                · rw [if_neg c8] at H
                  have c8b0 : ((strOfNums ((rd_T39 l0 x5_1).f1)).toList == (strOfNums ((rd_T47 l1 x5_1).f1)).toList) = false := beq_eq_false_iff_ne.mpr c8
                  have c8b1 : ((strOfNums ((rd_T39 l0 x5_1).f1)).toList != (strOfNums ((rd_T47 l1 x5_1).f1)).toList) = true := bne_iff_ne.mpr c8
                  obtain rfl := Option.some.inj H
                  have p226 : 0 ≤ (x5_1 : Int) := of_decide_eq_true (by first | (with_reducible assumption) | assumption)
                  have q226 : x5_1 < (l0.length : Int) := of_decide_eq_true (by first | (with_reducible assumption) | assumption)
                  obtain ⟨ad226, A226_0, c226_0, A226_1, c226_1, e226, hx226_0, hx226_1, hl226_0, hi226_0, hl226_1, hi226_1⟩ := at_T39 HR0.out x5_1 p226 q226
                  cases e226
                  have HR226_0 := Aside0.mk hi226_0
                  have HC226_0 := Aside0.mk hl226_0
                  clear hi226_0 hl226_0
                  have HR226_1 := Aside0.mk hi226_1
                  have HC226_1 := Aside0.mk hl226_1
                  clear hi226_1 hl226_1
                  replace p226 := eq_true p226
                  replace q226 := eq_true q226
                  have hcv13 := Kd.C_string (P := Try.prog) (A := A226_0) (c := c226_0) Try.underlying23 Try.underlying5 Try.underlying9 HR226_0.out
                  have hcv13n := fun n_ : Nat => Kd.C_string (P := Try.prog) (A := A226_0) (c := c226_0) Try.underlying23 Try.underlying5 Try.underlying9 (Kd.C_drewN HR226_0.out n_)
                  (try simp only [World.drewN_drewN] at hcv13n)
                  have p227 : 0 ≤ (x5_1 : Int) := of_decide_eq_true (by first | (with_reducible assumption) | assumption)
                  have q227 : x5_1 < (l1.length : Int) := of_decide_eq_true (by first | (with_reducible assumption) | assumption)
                  obtain ⟨ad227, A227_0, c227_0, A227_1, c227_1, e227, hx227_0, hx227_1, hl227_0, hi227_0, hl227_1, hi227_1⟩ := at_T47 HR1.out x5_1 p227 q227
                  cases e227
                  have HR227_0 := Aside0.mk hi227_0
                  have HC227_0 := Aside0.mk hl227_0
                  clear hi227_0 hl227_0
                  have HR227_1 := Aside0.mk hi227_1
                  have HC227_1 := Aside0.mk hl227_1
                  clear hi227_1 hl227_1
                  replace p227 := eq_true p227
                  replace q227 := eq_true q227
                  have hcv14 := Kd.C_string (P := Try.prog) (A := A227_0) (c := c227_0) Try.underlying23 Try.underlying5 Try.underlying9 HR227_0.out
                  have hcv14n := fun n_ : Nat => Kd.C_string (P := Try.prog) (A := A227_0) (c := c227_0) Try.underlying23 Try.underlying5 Try.underlying9 (Kd.C_drewN HR227_0.out n_)
                  (try simp only [World.drewN_drewN] at hcv14n)
                  have p228 : 0 ≤ (x5_1 : Int) := of_decide_eq_true (by first | (with_reducible assumption) | assumption)
                  have q228 : x5_1 < (l0.length : Int) := of_decide_eq_true (by first | (with_reducible assumption) | assumption)
                  obtain ⟨ad228, A228_0, c228_0, A228_1, c228_1, e228, hx228_0, hx228_1, hl228_0, hi228_0, hl228_1, hi228_1⟩ := at_T39 HR0.out x5_1 p228 q228
                  obtain rfl : ad226 = ad228 := (by injection e228)
                  have HR228_0 := Aside0.mk hi228_0
                  have HC228_0 := Aside0.mk hl228_0
                  clear hi228_0 hl228_0
                  have HR228_1 := Aside0.mk hi228_1
                  have HC228_1 := Aside0.mk hl228_1
                  clear hi228_1 hl228_1
                  replace p228 := eq_true p228
                  replace q228 := eq_true q228
                  have ea_ := Option.some.inj (hx226_0.symm.trans hx228_0)
                  injection ea_ with ea_ en_ ec_
                  subst ea_
                  subst ec_
                  clear en_
                  have ea_ := Option.some.inj (hx226_1.symm.trans hx228_1)
                  injection ea_ with ea_ en_ ec_
                  subst ea_
                  subst ec_
                  clear en_
                  have hcv15 := Kd.C_string (P := Try.prog) (A := A226_1) (c := c226_1) Try.underlying23 Try.underlying5 Try.underlying9 HR228_1.out
                  have hcv15n := fun n_ : Nat => Kd.C_string (P := Try.prog) (A := A226_1) (c := c226_1) Try.underlying23 Try.underlying5 Try.underlying9 (Kd.C_drewN HR228_1.out n_)
                  (try simp only [World.drewN_drewN] at hcv15n)
                  have p229 : 0 ≤ (x5_1 : Int) := of_decide_eq_true (by first | (with_reducible assumption) | assumption)
                  have q229 : x5_1 < (l1.length : Int) := of_decide_eq_true (by first | (with_reducible assumption) | assumption)
                  obtain ⟨ad229, A229_0, c229_0, A229_1, c229_1, e229, hx229_0, hx229_1, hl229_0, hi229_0, hl229_1, hi229_1⟩ := at_T47 HR1.out x5_1 p229 q229
                  obtain rfl : ad227 = ad229 := (by injection e229)
                  have HR229_0 := Aside0.mk hi229_0
                  have HC229_0 := Aside0.mk hl229_0
                  clear hi229_0 hl229_0
                  have HR229_1 := Aside0.mk hi229_1
                  have HC229_1 := Aside0.mk hl229_1
                  clear hi229_1 hl229_1
                  replace p229 := eq_true p229
                  replace q229 := eq_true q229
                  have ea_ := Option.some.inj (hx227_0.symm.trans hx229_0)
                  injection ea_ with ea_ en_ ec_
                  subst ea_
                  subst ec_
                  clear en_
                  have ea_ := Option.some.inj (hx227_1.symm.trans hx229_1)
                  injection ea_ with ea_ en_ ec_
                  subst ea_
                  subst ec_
                  clear en_
                  have hcv16 := Kd.C_string (P := Try.prog) (A := A227_1) (c := c227_1) Try.underlying23 Try.underlying5 Try.underlying9 HR229_1.out
                  have hcv16n := fun n_ : Nat => Kd.C_string (P := Try.prog) (A := A227_1) (c := c227_1) Try.underlying23 Try.underlying5 Try.underlying9 (Kd.C_drewN HR229_1.out n_)
                  (try simp only [World.drewN_drewN] at hcv16n)
                  go_wp2
                  repeat (go_quiet (fail); try go_wp2)
                  go_ret
                  exact ⟨by first | rfl | (simp; done) | (simp [*]; done), by repeat (first | exact Drawn0.refl _ | apply Drawn0.step)⟩
              · rw [if_neg c7] at H
                have c7b0 : ((strOfNums ((rd_T39 l0 x5_1).f0)).toList == (strOfNums ((rd_T47 l1 x5_1).f0)).toList) = false := beq_eq_false_iff_ne.mpr c7
                have c7b1 : ((strOfNums ((rd_T39 l0 x5_1).f0)).toList != (strOfNums ((rd_T47 l1 x5_1).f0)).toList) = true := bne_iff_ne.mpr c7
                obtain rfl := Option.some.inj H
                have p226 : 0 ≤ (x5_1 : Int) := of_decide_eq_true (by first | (with_reducible assumption) | assumption)
                have q226 : x5_1 < (l0.length : Int) := of_decide_eq_true (by first | (with_reducible assumption) | assumption)
                obtain ⟨ad226, A226_0, c226_0, A226_1, c226_1, e226, hx226_0, hx226_1, hl226_0, hi226_0, hl226_1, hi226_1⟩ := at_T39 HR0.out x5_1 p226 q226
                cases e226
                have HR226_0 := Aside0.mk hi226_0
                have HC226_0 := Aside0.mk hl226_0
                clear hi226_0 hl226_0
                have HR226_1 := Aside0.mk hi226_1
                have HC226_1 := Aside0.mk hl226_1
                clear hi226_1 hl226_1
                replace p226 := eq_true p226
                replace q226 := eq_true q226
                have hcv17 := Kd.C_string (P := Try.prog) (A := A226_0) (c := c226_0) Try.underlying23 Try.underlying5 Try.underlying9 HR226_0.out
                have hcv17n := fun n_ : Nat => Kd.C_string (P := Try.prog) (A := A226_0) (c := c226_0) Try.underlying23 Try.underlying5 Try.underlying9 (Kd.C_drewN HR226_0.out n_)
                (try simp only [World.drewN_drewN] at hcv17n)
                have p227 : 0 ≤ (x5_1 : Int) := of_decide_eq_true (by first | (with_reducible assumption) | assumption)
                have q227 : x5_1 < (l1.length : Int) := of_decide_eq_true (by first | (with_reducible assumption) | assumption)
                obtain ⟨ad227, A227_0, c227_0, A227_1, c227_1, e227, hx227_0, hx227_1, hl227_0, hi227_0, hl227_1, hi227_1⟩ := at_T47 HR1.out x5_1 p227 q227
                cases e227
                have HR227_0 := Aside0.mk hi227_0
                have HC227_0 := Aside0.mk hl227_0
                clear hi227_0 hl227_0
                have HR227_1 := Aside0.mk hi227_1
                have HC227_1 := Aside0.mk hl227_1
                clear hi227_1 hl227_1
                replace p227 := eq_true p227
                replace q227 := eq_true q227
                have hcv18 := Kd.C_string (P := Try.prog) (A := A227_0) (c := c227_0) Try.underlying23 Try.underlying5 Try.underlying9 HR227_0.out
                have hcv18n := fun n_ : Nat => Kd.C_string (P := Try.prog) (A := A227_0) (c := c227_0) Try.underlying23 Try.underlying5 Try.underlying9 (Kd.C_drewN HR227_0.out n_)
                (try simp only [World.drewN_drewN] at hcv18n)
                go_wp2
                repeat (go_quiet (fail); try go_wp2)
                go_ret
                exact ⟨by first | rfl | (simp; done) | (simp [*]; done), by repeat (first | exact Drawn0.refl _ | apply Drawn0.step)⟩
            · rw [if_neg c6] at H
              exact absurd H (by simp)
          · rw [if_neg c5] at H
            exact absurd H (by simp)
        · rw [if_neg c4] at H
          have c4b0 : decide (x5_1 < (l0.length : Int)) = false := decide_eq_false c4
          clear c4
          obtain rfl := Option.some.inj H
          go_wp2
          repeat (go_quiet (fail); try go_wp2)
          go_ret
          exact ⟨by first | rfl | (simp; done) | (simp [*]; done), by repeat (first | exact Drawn0.refl _ | apply Drawn0.step)⟩
  · rw [if_neg c3] at H
    have c3b0 : ((l0.length : Int) == (l1.length : Int)) = false := beq_eq_false_iff_ne.mpr c3
    have c3b1 : ((l0.length : Int) != (l1.length : Int)) = true := bne_iff_ne.mpr c3
    have c3b2 : (l0.length == l1.length) = false := by first | simpa using c3 | (simp at c3 ⊢; omega)
    obtain rfl := Option.some.inj H
    go_enter Try.func17, Try.ntmps17
    go_wp2
    repeat (go_quiet (fail); try go_wp2)
    go_ret
    exact ⟨by first | rfl | (simp; done) | (simp [*]; done), by repeat (first | exact Drawn0.refl _ | apply Drawn0.step)⟩

end Go.Proofs.Yticddiiigfkamaa.P
