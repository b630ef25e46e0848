-- Written by a program of this session out of the translation.
import Derived.Test.YticddiiigfkamaaPx0
namespace Go.Proofs.Yticddiiigfkamaa.P
open Go.RowKit Go.Proofs.YticddiiigfkamaaW.PrintWords Go.Proofs.YticddiiigfkamaaW.PrintLast Go.Proofs.YticddiiigfkamaaW.PrintMore
attribute [local go_sem] max2_int min2_int max_two min_two max_three min_three max_four min_four   -- for this text's walks alone
set_option linter.unusedVariables false
set_option linter.unusedSimpArgs false

/-! ### rickyardlaw09_Same: function 17 -/
def rickyardlaw09_Same.l0 : Nat → List (S39) → List (S47) → Int → Option (Bool)
  | 0, _, _, _ => none
  | k + 1, x0, x1, x5 => if x5 < (x0.length : Int) then (if 0 ≤ x5 then (if x5 < (x1.length : Int) then (if (strOfNums ((rd_T39 x0 x5).f0)).toList = (strOfNums ((rd_T47 x1 x5).f0)).toList then (if (strOfNums ((rd_T39 x0 x5).f1)).toList = (strOfNums ((rd_T47 x1 x5).f1)).toList then (rickyardlaw09_Same.l0 k x0 x1 (wrap64 (x5 + 1))) else (some false)) else (some false)) else (none)) else (none)) else (some true)
def rickyardlaw09_Same.f (k : Nat) (l0 : List (S39)) (l1 : List (S47)) : Option (Bool) := if (l0.length : Int) = (l1.length : Int) then (rickyardlaw09_Same.l0 k l0 l1 0) else (some false)
theorem rickyardlaw09_Same.mono_l : ∀ k, (∀ y0 y1 y2, LeO (rickyardlaw09_Same.l0 k y0 y1 y2) (rickyardlaw09_Same.l0 (k + 1) y0 y1 y2))
  | 0 => fun _ _ _ r h => by simp [rickyardlaw09_Same.l0] at h
  | k + 1 => by
    have ih0 := rickyardlaw09_Same.mono_l k
    · intro y0 y1 y2
      unfold rickyardlaw09_Same.l0
      repeat' first
      | (with_reducible exact ih0 _ _ _)
      | (with_reducible exact LeO.refl _)
      | (with_reducible exact LeO.none _)
      | (with_reducible refine LeO.ite ?_ ?_)
      | (with_reducible refine LeO.bind ?_ (fun _ => ?_))
      | exact ih0 _ _ _
      | exact LeO.none _
      | refine LeO.ite ?_ ?_
      | refine LeO.bind ?_ (fun _ => ?_)
theorem rickyardlaw09_Same.mono : ∀ a0 a1 k, LeO (rickyardlaw09_Same.f k a0 a1) (rickyardlaw09_Same.f (k + 1) a0 a1) := by
  intro a0 a1 k
  have ih0 := rickyardlaw09_Same.mono_l k
  unfold rickyardlaw09_Same.f
  repeat' first
      | (with_reducible exact ih0 _ _ _)
      | (with_reducible exact LeO.refl _)
      | (with_reducible exact LeO.none _)
      | (with_reducible refine LeO.ite ?_ ?_)
      | (with_reducible refine LeO.bind ?_ (fun _ => ?_))
      | exact ih0 _ _ _
      | exact LeO.none _
      | refine LeO.ite ?_ ?_
      | refine LeO.bind ?_ (fun _ => ?_)
set_option maxHeartbeats 8000000 in
set_option maxRecDepth 100000 in
theorem rickyardlaw09_Same.calls (k : Nat) (A0 : Option Addr) (c0 : Nat) (l0 : List (S39)) (A1 : Option Addr) (c1 : Nat) (l1 : List (S47)) (r : Bool) (w : World) (hr0 : Kd.C k39 w A0 l0.length l0) (hc0 : l0.length ≤ c0) (hr1 : Kd.C k47 w A1 l1.length l1) (hc1 : l1.length ≤ c1) (h : rickyardlaw09_Same.f k l0 l1 = some r) :
    Calls Try.prog 17 #[.slice A0 l0.length c0, .slice A1 l1.length c1] w fun e w' => e = .returned (.bool r) ∧ Drawn0 w w' := by
  have HR0 := Aside0.mk hr0
  have HC0 := Aside0.mk hc0
  clear hr0 hc0
  have HR1 := Aside0.mk hr1
  have HC1 := Aside0.mk hc1
  clear hr1 hc1
  have H : (if (l0.length : Int) = (l1.length : Int) then (rickyardlaw09_Same.l0 k l0 l1 0) else (some false)) = some r := h
  clear h
  by_cases c3 : (l0.length : Int) = (l1.length : Int)
  · rw [if_pos c3] at H
    have c3b0 : ((l0.length : Int) == (l1.length : Int)) = true := beq_iff_eq.mpr c3
    have c3b1 : ((l0.length : Int) != (l1.length : Int)) = false := bne_eq_false_iff_eq.mpr c3
    have c3b2 : (l0.length == l1.length) = true := by first | simpa using c3 | (simp at c3 ⊢; omega)
    clear c3
    have H' := Aside0.mk H
    clear H
    go_enter Try.func17, Try.ntmps17
    go_wp2
    repeat (go_quiet (fail); try go_wp2)
    go_loopg [5] k (fun kq v5 w' => ∃ (x5_1 : Int), v5 = .int .i64 x5_1 ∧ Aside0 (rickyardlaw09_Same.l0 kq l0 l1 x5_1 = some r) ∧ Aside0 (kq ≤ k) ∧ Drawn0 w w')
    case atStart => exact ⟨(0), (by first | rfl | (simp; done) | (simp [*]; done)), H', ⟨Nat.le_refl _⟩, by repeat (first | exact Drawn0.refl _ | apply Drawn0.step)⟩
    case round =>
      clear H'
      try clear c1
      try clear p2
      try clear c3
      try clear c3b0
      try clear c3b1
      try clear c3b2
      obtain ⟨x5_1, rfl, HA, HK1, ⟨m1, rfl⟩⟩ := hrel
      cases gk with
      | zero => exact absurd HA.out (by simp [rickyardlaw09_Same.l0])
      | succ k1 =>
        have H := HA.out
        clear HA
        simp only [rickyardlaw09_Same.l0] at H
        by_cases c4 : x5_1 < (l0.length : Int)
        · rw [if_pos c4] at H
          have c4b0 : decide (x5_1 < (l0.length : Int)) = true := decide_eq_true c4
          clear c4
          by_cases c5 : 0 ≤ x5_1
          · rw [if_pos c5] at H
            have c5b0 : decide (0 ≤ x5_1) = true := decide_eq_true c5
            clear c5
            by_cases c6 : x5_1 < (l1.length : Int)
            · rw [if_pos c6] at H
              have c6b0 : decide (x5_1 < (l1.length : Int)) = true := decide_eq_true c6
              clear c6
              by_cases c7 : (strOfNums ((rd_T39 l0 x5_1).f0)).toList = (strOfNums ((rd_T47 l1 x5_1).f0)).toList
              · rw [if_pos c7] at H
                have c7b0 : ((strOfNums ((rd_T39 l0 x5_1).f0)).toList == (strOfNums ((rd_T47 l1 x5_1).f0)).toList) = true := beq_iff_eq.mpr c7
                have c7b1 : ((strOfNums ((rd_T39 l0 x5_1).f0)).toList != (strOfNums ((rd_T47 l1 x5_1).f0)).toList) = false := bne_eq_false_iff_eq.mpr c7
                clear c7
                by_cases c8 : (strOfNums ((rd_T39 l0 x5_1).f1)).toList = (strOfNums ((rd_T47 l1 x5_1).f1)).toList
                · rw [if_pos c8] at H
                  have c8b0 : ((strOfNums ((rd_T39 l0 x5_1).f1)).toList == (strOfNums ((rd_T47 l1 x5_1).f1)).toList) = true := beq_iff_eq.mpr c8
                  have c8b1 : ((strOfNums ((rd_T39 l0 x5_1).f1)).toList != (strOfNums ((rd_T47 l1 x5_1).f1)).toList) = false := bne_eq_false_iff_eq.mpr c8
                  clear c8
                  have H' := Aside0.mk H
                  clear H
                  have p161 : 0 ≤ (x5_1 : Int) := of_decide_eq_true (by first | (with_reducible assumption) | assumption)
                  have q161 : x5_1 < (l0.length : Int) := of_decide_eq_true (by first | (with_reducible assumption) | assumption)
                  obtain ⟨ad161, A161_0, c161_0, A161_1, c161_1, e161, hx161_0, hx161_1, hl161_0, hi161_0, hl161_1, hi161_1⟩ := at_T39 HR0.out x5_1 p161 q161
                  cases e161
                  have HR161_0 := Aside0.mk hi161_0
                  have HC161_0 := Aside0.mk hl161_0
                  clear hi161_0 hl161_0
                  have HR161_1 := Aside0.mk hi161_1
                  have HC161_1 := Aside0.mk hl161_1
                  clear hi161_1 hl161_1
                  replace p161 := eq_true p161
                  replace q161 := eq_true q161
                  have hcv9 := Kd.C_string (P := Try.prog) (A := A161_0) (c := c161_0) Try.underlying23 Try.underlying5 Try.underlying9 HR161_0.out
                  have hcv9n := fun n_ : Nat => Kd.C_string (P := Try.prog) (A := A161_0) (c := c161_0) Try.underlying23 Try.underlying5 Try.underlying9 (Kd.C_drewN HR161_0.out n_)
                  (try simp only [World.drewN_drewN] at hcv9n)
                  have p162 : 0 ≤ (x5_1 : Int) := of_decide_eq_true (by first | (with_reducible assumption) | assumption)
                  have q162 : x5_1 < (l1.length : Int) := of_decide_eq_true (by first | (with_reducible assumption) | assumption)
                  obtain ⟨ad162, A162_0, c162_0, A162_1, c162_1, e162, hx162_0, hx162_1, hl162_0, hi162_0, hl162_1, hi162_1⟩ := at_T47 HR1.out x5_1 p162 q162
                  cases e162
                  have HR162_0 := Aside0.mk hi162_0
                  have HC162_0 := Aside0.mk hl162_0
                  clear hi162_0 hl162_0
                  have HR162_1 := Aside0.mk hi162_1
                  have HC162_1 := Aside0.mk hl162_1
                  clear hi162_1 hl162_1
                  replace p162 := eq_true p162
                  replace q162 := eq_true q162
                  have hcv10 := Kd.C_string (P := Try.prog) (A := A162_0) (c := c162_0) Try.underlying23 Try.underlying5 Try.underlying9 HR162_0.out
                  have hcv10n := fun n_ : Nat => Kd.C_string (P := Try.prog) (A := A162_0) (c := c162_0) Try.underlying23 Try.underlying5 Try.underlying9 (Kd.C_drewN HR162_0.out n_)
                  (try simp only [World.drewN_drewN] at hcv10n)
                  have p163 : 0 ≤ (x5_1 : Int) := of_decide_eq_true (by first | (with_reducible assumption) | assumption)
                  have q163 : x5_1 < (l0.length : Int) := of_decide_eq_true (by first | (with_reducible assumption) | assumption)
                  obtain ⟨ad163, A163_0, c163_0, A163_1, c163_1, e163, hx163_0, hx163_1, hl163_0, hi163_0, hl163_1, hi163_1⟩ := at_T39 HR0.out x5_1 p163 q163
                  obtain rfl : ad161 = ad163 := (by injection e163)
                  have HR163_0 := Aside0.mk hi163_0
                  have HC163_0 := Aside0.mk hl163_0
                  clear hi163_0 hl163_0
                  have HR163_1 := Aside0.mk hi163_1
                  have HC163_1 := Aside0.mk hl163_1
                  clear hi163_1 hl163_1
                  replace p163 := eq_true p163
                  replace q163 := eq_true q163
                  have ea_ := Option.some.inj (hx161_0.symm.trans hx163_0)
                  injection ea_ with ea_ en_ ec_
                  subst ea_
                  subst ec_
                  clear en_
                  have ea_ := Option.some.inj (hx161_1.symm.trans hx163_1)
                  injection ea_ with ea_ en_ ec_
                  subst ea_
                  subst ec_
                  clear en_
                  have hcv11 := Kd.C_string (P := Try.prog) (A := A161_1) (c := c161_1) Try.underlying23 Try.underlying5 Try.underlying9 HR163_1.out
                  have hcv11n := fun n_ : Nat => Kd.C_string (P := Try.prog) (A := A161_1) (c := c161_1) Try.underlying23 Try.underlying5 Try.underlying9 (Kd.C_drewN HR163_1.out n_)
                  (try simp only [World.drewN_drewN] at hcv11n)
                  have p164 : 0 ≤ (x5_1 : Int) := of_decide_eq_true (by first | (with_reducible assumption) | assumption)
                  have q164 : x5_1 < (l1.length : Int) := of_decide_eq_true (by first | (with_reducible assumption) | assumption)
                  obtain ⟨ad164, A164_0, c164_0, A164_1, c164_1, e164, hx164_0, hx164_1, hl164_0, hi164_0, hl164_1, hi164_1⟩ := at_T47 HR1.out x5_1 p164 q164
                  obtain rfl : ad162 = ad164 := (by injection e164)
                  have HR164_0 := Aside0.mk hi164_0
                  have HC164_0 := Aside0.mk hl164_0
                  clear hi164_0 hl164_0
                  have HR164_1 := Aside0.mk hi164_1
                  have HC164_1 := Aside0.mk hl164_1
                  clear hi164_1 hl164_1
                  replace p164 := eq_true p164
                  replace q164 := eq_true q164
                  have ea_ := Option.some.inj (hx162_0.symm.trans hx164_0)
                  injection ea_ with ea_ en_ ec_
                  subst ea_
                  subst ec_
                  clear en_
                  have ea_ := Option.some.inj (hx162_1.symm.trans hx164_1)
                  injection ea_ with ea_ en_ ec_
                  subst ea_
                  subst ec_
                  clear en_
                  have hcv12 := Kd.C_string (P := Try.prog) (A := A162_1) (c := c162_1) Try.underlying23 Try.underlying5 Try.underlying9 HR164_1.out
                  have hcv12n := fun n_ : Nat => Kd.C_string (P := Try.prog) (A := A162_1) (c := c162_1) Try.underlying23 Try.underlying5 Try.underlying9 (Kd.C_drewN HR164_1.out n_)
                  (try simp only [World.drewN_drewN] at hcv12n)
                  go_wp2
                  repeat (go_quiet (fail); try go_wp2)
                  go_roundg k1
                  case measure => have := HK1.out; omega
                  case rel => exact ⟨(wrap64 (x5_1 + 1)), (by first | rfl | (simp; done) | (simp [*]; done)), H', ⟨by have := HK1.out; omega⟩, by repeat (first | exact Drawn0.refl _ | apply Drawn0.step)⟩
                · rw [if_neg c8] at H
                  have c8b0 : ((strOfNums ((rd_T39 l0 x5_1).f1)).toList == (strOfNums ((rd_T47 l1 x5_1).f1)).toList) = false := beq_eq_false_iff_ne.mpr c8
                  have c8b1 : ((strOfNums ((rd_T39 l0 x5_1).f1)).toList != (strOfNums ((rd_T47 l1 x5_1).f1)).toList) = true := bne_iff_ne.mpr c8
                  obtain rfl := Option.some.inj H
                  have p161 : 0 ≤ (x5_1 : Int) := of_decide_eq_true (by first | (with_reducible assumption) | assumption)
                  have q161 : x5_1 < (l0.length : Int) := of_decide_eq_true (by first | (with_reducible assumption) | assumption)
                  obtain ⟨ad161, A161_0, c161_0, A161_1, c161_1, e161, hx161_0, hx161_1, hl161_0, hi161_0, hl161_1, hi161_1⟩ := at_T39 HR0.out x5_1 p161 q161
                  cases e161
                  have HR161_0 := Aside0.mk hi161_0
                  have HC161_0 := Aside0.mk hl161_0
                  clear hi161_0 hl161_0
                  have HR161_1 := Aside0.mk hi161_1
                  have HC161_1 := Aside0.mk hl161_1
                  clear hi161_1 hl161_1
                  replace p161 := eq_true p161
                  replace q161 := eq_true q161
                  have hcv13 := Kd.C_string (P := Try.prog) (A := A161_0) (c := c161_0) Try.underlying23 Try.underlying5 Try.underlying9 HR161_0.out
                  have hcv13n := fun n_ : Nat => Kd.C_string (P := Try.prog) (A := A161_0) (c := c161_0) Try.underlying23 Try.underlying5 Try.underlying9 (Kd.C_drewN HR161_0.out n_)
                  (try simp only [World.drewN_drewN] at hcv13n)
                  have p162 : 0 ≤ (x5_1 : Int) := of_decide_eq_true (by first | (with_reducible assumption) | assumption)
                  have q162 : x5_1 < (l1.length : Int) := of_decide_eq_true (by first | (with_reducible assumption) | assumption)
                  obtain ⟨ad162, A162_0, c162_0, A162_1, c162_1, e162, hx162_0, hx162_1, hl162_0, hi162_0, hl162_1, hi162_1⟩ := at_T47 HR1.out x5_1 p162 q162
                  cases e162
                  have HR162_0 := Aside0.mk hi162_0
                  have HC162_0 := Aside0.mk hl162_0
                  clear hi162_0 hl162_0
                  have HR162_1 := Aside0.mk hi162_1
                  have HC162_1 := Aside0.mk hl162_1
                  clear hi162_1 hl162_1
                  replace p162 := eq_true p162
                  replace q162 := eq_true q162
                  have hcv14 := Kd.C_string (P := Try.prog) (A := A162_0) (c := c162_0) Try.underlying23 Try.underlying5 Try.underlying9 HR162_0.out
                  have hcv14n := fun n_ : Nat => Kd.C_string (P := Try.prog) (A := A162_0) (c := c162_0) Try.underlying23 Try.underlying5 Try.underlying9 (Kd.C_drewN HR162_0.out n_)
                  (try simp only [World.drewN_drewN] at hcv14n)
                  have p163 : 0 ≤ (x5_1 : Int) := of_decide_eq_true (by first | (with_reducible assumption) | assumption)
                  have q163 : x5_1 < (l0.length : Int) := of_decide_eq_true (by first | (with_reducible assumption) | assumption)
                  obtain ⟨ad163, A163_0, c163_0, A163_1, c163_1, e163, hx163_0, hx163_1, hl163_0, hi163_0, hl163_1, hi163_1⟩ := at_T39 HR0.out x5_1 p163 q163
                  obtain rfl : ad161 = ad163 := (by injection e163)
                  have HR163_0 := Aside0.mk hi163_0
                  have HC163_0 := Aside0.mk hl163_0
                  clear hi163_0 hl163_0
                  have HR163_1 := Aside0.mk hi163_1
                  have HC163_1 := Aside0.mk hl163_1
                  clear hi163_1 hl163_1
                  replace p163 := eq_true p163
                  replace q163 := eq_true q163
                  have ea_ := Option.some.inj (hx161_0.symm.trans hx163_0)
                  injection ea_ with ea_ en_ ec_
                  subst ea_
                  subst ec_
                  clear en_
                  have ea_ := Option.some.inj (hx161_1.symm.trans hx163_1)
                  injection ea_ with ea_ en_ ec_
                  subst ea_
                  subst ec_
                  clear en_
                  have hcv15 := Kd.C_string (P := Try.prog) (A := A161_1) (c := c161_1) Try.underlying23 Try.underlying5 Try.underlying9 HR163_1.out
                  have hcv15n := fun n_ : Nat => Kd.C_string (P := Try.prog) (A := A161_1) (c := c161_1) Try.underlying23 Try.underlying5 Try.underlying9 (Kd.C_drewN HR163_1.out n_)
                  (try simp only [World.drewN_drewN] at hcv15n)
                  have p164 : 0 ≤ (x5_1 : Int) := of_decide_eq_true (by first | (with_reducible assumption) | assumption)
                  have q164 : x5_1 < (l1.length : Int) := of_decide_eq_true (by first | (with_reducible assumption) | assumption)
                  obtain ⟨ad164, A164_0, c164_0, A164_1, c164_1, e164, hx164_0, hx164_1, hl164_0, hi164_0, hl164_1, hi164_1⟩ := at_T47 HR1.out x5_1 p164 q164
                  obtain rfl : ad162 = ad164 := (by injection e164)
                  have HR164_0 := Aside0.mk hi164_0
                  have HC164_0 := Aside0.mk hl164_0
                  clear hi164_0 hl164_0
                  have HR164_1 := Aside0.mk hi164_1
                  have HC164_1 := Aside0.mk hl164_1
                  clear hi164_1 hl164_1
                  replace p164 := eq_true p164
                  replace q164 := eq_true q164
                  have ea_ := Option.some.inj (hx162_0.symm.trans hx164_0)
                  injection ea_ with ea_ en_ ec_
                  subst ea_
                  subst ec_
                  clear en_
                  have ea_ := Option.some.inj (hx162_1.symm.trans hx164_1)
                  injection ea_ with ea_ en_ ec_
                  subst ea_
                  subst ec_
                  clear en_
                  have hcv16 := Kd.C_string (P := Try.prog) (A := A162_1) (c := c162_1) Try.underlying23 Try.underlying5 Try.underlying9 HR164_1.out
                  have hcv16n := fun n_ : Nat => Kd.C_string (P := Try.prog) (A := A162_1) (c := c162_1) Try.underlying23 Try.underlying5 Try.underlying9 (Kd.C_drewN HR164_1.out n_)
                  (try simp only [World.drewN_drewN] at hcv16n)
                  go_wp2
                  repeat (go_quiet (fail); try go_wp2)
                  go_ret
                  exact ⟨by first | rfl | (simp; done) | (simp [*]; done), by repeat (first | exact Drawn0.refl _ | apply Drawn0.step)⟩
              · rw [if_neg c7] at H
                have c7b0 : ((strOfNums ((rd_T39 l0 x5_1).f0)).toList == (strOfNums ((rd_T47 l1 x5_1).f0)).toList) = false := beq_eq_false_iff_ne.mpr c7
                have c7b1 : ((strOfNums ((rd_T39 l0 x5_1).f0)).toList != (strOfNums ((rd_T47 l1 x5_1).f0)).toList) = true := bne_iff_ne.mpr c7
                obtain rfl := Option.some.inj H
                have p161 : 0 ≤ (x5_1 : Int) := of_decide_eq_true (by first | (with_reducible assumption) | assumption)
                have q161 : x5_1 < (l0.length : Int) := of_decide_eq_true (by first | (with_reducible assumption) | assumption)
                obtain ⟨ad161, A161_0, c161_0, A161_1, c161_1, e161, hx161_0, hx161_1, hl161_0, hi161_0, hl161_1, hi161_1⟩ := at_T39 HR0.out x5_1 p161 q161
                cases e161
                have HR161_0 := Aside0.mk hi161_0
                have HC161_0 := Aside0.mk hl161_0
                clear hi161_0 hl161_0
                have HR161_1 := Aside0.mk hi161_1
                have HC161_1 := Aside0.mk hl161_1
                clear hi161_1 hl161_1
                replace p161 := eq_true p161
                replace q161 := eq_true q161
                have hcv17 := Kd.C_string (P := Try.prog) (A := A161_0) (c := c161_0) Try.underlying23 Try.underlying5 Try.underlying9 HR161_0.out
                have hcv17n := fun n_ : Nat => Kd.C_string (P := Try.prog) (A := A161_0) (c := c161_0) Try.underlying23 Try.underlying5 Try.underlying9 (Kd.C_drewN HR161_0.out n_)
                (try simp only [World.drewN_drewN] at hcv17n)
                have p162 : 0 ≤ (x5_1 : Int) := of_decide_eq_true (by first | (with_reducible assumption) | assumption)
                have q162 : x5_1 < (l1.length : Int) := of_decide_eq_true (by first | (with_reducible assumption) | assumption)
                obtain ⟨ad162, A162_0, c162_0, A162_1, c162_1, e162, hx162_0, hx162_1, hl162_0, hi162_0, hl162_1, hi162_1⟩ := at_T47 HR1.out x5_1 p162 q162
                cases e162
                have HR162_0 := Aside0.mk hi162_0
                have HC162_0 := Aside0.mk hl162_0
                clear hi162_0 hl162_0
                have HR162_1 := Aside0.mk hi162_1
                have HC162_1 := Aside0.mk hl162_1
                clear hi162_1 hl162_1
                replace p162 := eq_true p162
                replace q162 := eq_true q162
                have hcv18 := Kd.C_string (P := Try.prog) (A := A162_0) (c := c162_0) Try.underlying23 Try.underlying5 Try.underlying9 HR162_0.out
                have hcv18n := fun n_ : Nat => Kd.C_string (P := Try.prog) (A := A162_0) (c := c162_0) Try.underlying23 Try.underlying5 Try.underlying9 (Kd.C_drewN HR162_0.out n_)
                (try simp only [World.drewN_drewN] at hcv18n)
                go_wp2
                repeat (go_quiet (fail); try go_wp2)
                go_ret
                exact ⟨by first | rfl | (simp; done) | (simp [*]; done), by repeat (first | exact Drawn0.refl _ | apply Drawn0.step)⟩
            · rw [if_neg c6] at H
              exact absurd H (by simp)
          · rw [if_neg c5] at H
            exact absurd H (by simp)
        · rw [if_neg c4] at H
          have c4b0 : decide (x5_1 < (l0.length : Int)) = false := decide_eq_false c4
          clear c4
          obtain rfl := Option.some.inj H
          go_wp2
          repeat (go_quiet (fail); try go_wp2)
          go_ret
          exact ⟨by first | rfl | (simp; done) | (simp [*]; done), by repeat (first | exact Drawn0.refl _ | apply Drawn0.step)⟩
  · rw [if_neg c3] at H
    have c3b0 : ((l0.length : Int) == (l1.length : Int)) = false := beq_eq_false_iff_ne.mpr c3
    have c3b1 : ((l0.length : Int) != (l1.length : Int)) = true := bne_iff_ne.mpr c3
    have c3b2 : (l0.length == l1.length) = false := by first | simpa using c3 | (simp at c3 ⊢; omega)
    obtain rfl := Option.some.inj H
    go_enter Try.func17, Try.ntmps17
    go_wp2
    repeat (go_quiet (fail); try go_wp2)
    go_ret
    exact ⟨by first | rfl | (simp; done) | (simp [*]; done), by repeat (first | exact Drawn0.refl _ | apply Drawn0.step)⟩

end Go.Proofs.Yticddiiigfkamaa.P
