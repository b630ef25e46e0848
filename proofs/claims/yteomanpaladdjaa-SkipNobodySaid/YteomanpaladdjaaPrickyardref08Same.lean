-- Written by a program of this session out of the translation.
import Derived.Test.YteomanpaladdjaaPx0
import Derived.Test.YteomanpaladdjaaPEq0
namespace Go.Proofs.Yteomanpaladdjaa.P
open Go.RowKit Go.Proofs.YteomanpaladdjaaW.PrintWords Go.Proofs.YteomanpaladdjaaW.PrintLast Go.Proofs.YteomanpaladdjaaW.PrintMore
attribute [local go_sem] max2_int min2_int max_two min_two max_three min_three max_four min_four   -- for this text's walks alone
set_option linter.unusedVariables false
set_option linter.unusedSimpArgs false

attribute [local go_sem high] eqA36
/-! ### rickyardref08_Same: function 11 -/
def rickyardref08_Same.l0 : Nat → List (S38) → List (S38) → Int → Option (Bool)
  | 0, _, _, _ => none
  | k + 1, x0, x1, x5 => if x5 < (x0.length : Int) then (if 0 ≤ x5 then (if x5 < (x1.length : Int) then (if (strOfNums ((rd_T38 x0 x5).f0)).toList = (strOfNums ((rd_T38 x1 x5).f0)).toList then (if (!(((rd_T38 x0 x5).f1.f0) == ((rd_T38 x1 x5).f1.f0)) || (!(((rd_T38 x0 x5).f1.f1) == ((rd_T38 x1 x5).f1.f1)) || ((!(((rd_T38 x0 x5).f1.f2.f0) == ((rd_T38 x1 x5).f1.f2.f0)) || (!(((rd_T38 x0 x5).f1.f2.f1) == ((rd_T38 x1 x5).f1.f2.f1)))) || (!(((rd_T38 x0 x5).f1.f3) == ((rd_T38 x1 x5).f1.f3)) || (!(((rd_T38 x0 x5).f1.f4) == ((rd_T38 x1 x5).f1.f4))))))) = true then (some false) else (rickyardref08_Same.l0 k x0 x1 (wrap64 (x5 + 1)))) else (some false)) else (none)) else (none)) else (some true)
def rickyardref08_Same.f (k : Nat) (l0 : List (S38)) (l1 : List (S38)) : Option (Bool) := if (l0.length : Int) = (l1.length : Int) then (rickyardref08_Same.l0 k l0 l1 0) else (some false)
theorem rickyardref08_Same.mono_l : ∀ k, (∀ y0 y1 y2, LeO (rickyardref08_Same.l0 k y0 y1 y2) (rickyardref08_Same.l0 (k + 1) y0 y1 y2))
  | 0 => fun _ _ _ r h => by simp [rickyardref08_Same.l0] at h
  | k + 1 => by
    have ih0 := rickyardref08_Same.mono_l k
    · intro y0 y1 y2
      unfold rickyardref08_Same.l0
      repeat' first
      | (with_reducible exact ih0 _ _ _)
      | (with_reducible exact LeO.refl _)
      | (with_reducible exact LeO.none _)
      | (with_reducible refine LeO.ite ?_ ?_)
      | (with_reducible refine LeO.bind ?_ (fun _ => ?_))
      | exact ih0 _ _ _
      | exact LeO.none _
      | refine LeO.ite ?_ ?_
      | refine LeO.bind ?_ (fun _ => ?_)
theorem rickyardref08_Same.mono : ∀ a0 a1 k, LeO (rickyardref08_Same.f k a0 a1) (rickyardref08_Same.f (k + 1) a0 a1) := by
  intro a0 a1 k
  have ih0 := rickyardref08_Same.mono_l k
  unfold rickyardref08_Same.f
  repeat' first
      | (with_reducible exact ih0 _ _ _)
      | (with_reducible exact LeO.refl _)
      | (with_reducible exact LeO.none _)
      | (with_reducible refine LeO.ite ?_ ?_)
      | (with_reducible refine LeO.bind ?_ (fun _ => ?_))
      | exact ih0 _ _ _
      | exact LeO.none _
      | refine LeO.ite ?_ ?_
      | refine LeO.bind ?_ (fun _ => ?_)
set_option maxHeartbeats 8000000 in
set_option maxRecDepth 100000 in
theorem rickyardref08_Same.calls (k : Nat) (A0 : Option Addr) (c0 : Nat) (l0 : List (S38)) (A1 : Option Addr) (c1 : Nat) (l1 : List (S38)) (r : Bool) (w : World) (hr0 : Kd.C k38 w A0 l0.length l0) (hc0 : l0.length ≤ c0) (hr1 : Kd.C k38 w A1 l1.length l1) (hc1 : l1.length ≤ c1) (h : rickyardref08_Same.f k l0 l1 = some r) :
    Calls Try.prog 11 #[.slice A0 l0.length c0, .slice A1 l1.length c1] w fun e w' => e = .returned (.bool r) ∧ Drawn0 w w' := by
  have hu36 := Try.underlying36
  have HR0 := Aside0.mk hr0
  have HC0 := Aside0.mk hc0
  clear hr0 hc0
  have HR1 := Aside0.mk hr1
  have HC1 := Aside0.mk hc1
  clear hr1 hc1
  have H : (if (l0.length : Int) = (l1.length : Int) then (rickyardref08_Same.l0 k l0 l1 0) else (some false)) = some r := h
  clear h
  by_cases c3 : (l0.length : Int) = (l1.length : Int)
  · rw [if_pos c3] at H
    have c3b0 : ((l0.length : Int) == (l1.length : Int)) = true := beq_iff_eq.mpr c3
    have c3b1 : ((l0.length : Int) != (l1.length : Int)) = false := bne_eq_false_iff_eq.mpr c3
    have c3b2 : (l0.length == l1.length) = true := by first | simpa using c3 | (simp at c3 ⊢; omega)
    clear c3
    have H' := Aside0.mk H
    clear H
    go_enter Try.func11, Try.ntmps11
    go_wp2
    repeat (go_quiet (fail); try go_wp2)
    go_loopg [5] k (fun kq v5 w' => ∃ (x5_1 : Int), v5 = .int .i64 x5_1 ∧ Aside0 (rickyardref08_Same.l0 kq l0 l1 x5_1 = some r) ∧ Aside0 (kq ≤ k) ∧ Drawn0 w w')
    case atStart => exact ⟨(0), (by first | rfl | (simp; done) | (simp [*]; done)), H', ⟨Nat.le_refl _⟩, by repeat (first | exact Drawn0.refl _ | apply Drawn0.step)⟩
    case round =>
      clear H'
      try clear c1
      try clear p2
      try clear c3
      try clear c3b0
      try clear c3b1
      try clear c3b2
      obtain ⟨x5_1, rfl, HA, HK1, ⟨m1, rfl⟩⟩ := hrel
      cases gk with
      | zero => exact absurd HA.out (by simp [rickyardref08_Same.l0])
      | succ k1 =>
        have H := HA.out
        clear HA
        simp only [rickyardref08_Same.l0] at H
        by_cases c4 : x5_1 < (l0.length : Int)
        · rw [if_pos c4] at H
          have c4b0 : decide (x5_1 < (l0.length : Int)) = true := decide_eq_true c4
          clear c4
          by_cases c5 : 0 ≤ x5_1
          · rw [if_pos c5] at H
            have c5b0 : decide (0 ≤ x5_1) = true := decide_eq_true c5
            clear c5
            by_cases c6 : x5_1 < (l1.length : Int)
            · rw [if_pos c6] at H
              have c6b0 : decide (x5_1 < (l1.length : Int)) = true := decide_eq_true c6
              clear c6
              by_cases c7 : (strOfNums ((rd_T38 l0 x5_1).f0)).toList = (strOfNums ((rd_T38 l1 x5_1).f0)).toList
              · rw [if_pos c7] at H
                have c7b0 : ((strOfNums ((rd_T38 l0 x5_1).f0)).toList == (strOfNums ((rd_T38 l1 x5_1).f0)).toList) = true := beq_iff_eq.mpr c7
                have c7b1 : ((strOfNums ((rd_T38 l0 x5_1).f0)).toList != (strOfNums ((rd_T38 l1 x5_1).f0)).toList) = false := bne_eq_false_iff_eq.mpr c7
                clear c7
                by_cases c8 : (!(((rd_T38 l0 x5_1).f1.f0) == ((rd_T38 l1 x5_1).f1.f0)) || (!(((rd_T38 l0 x5_1).f1.f1) == ((rd_T38 l1 x5_1).f1.f1)) || ((!(((rd_T38 l0 x5_1).f1.f2.f0) == ((rd_T38 l1 x5_1).f1.f2.f0)) || (!(((rd_T38 l0 x5_1).f1.f2.f1) == ((rd_T38 l1 x5_1).f1.f2.f1)))) || (!(((rd_T38 l0 x5_1).f1.f3) == ((rd_T38 l1 x5_1).f1.f3)) || (!(((rd_T38 l0 x5_1).f1.f4) == ((rd_T38 l1 x5_1).f1.f4))))))) = true
                · rw [if_pos c8] at H
                  have c8b0 : (!(((rd_T38 l0 x5_1).f1.f0) == ((rd_T38 l1 x5_1).f1.f0)) || (!(((rd_T38 l0 x5_1).f1.f1) == ((rd_T38 l1 x5_1).f1.f1)) || ((!(((rd_T38 l0 x5_1).f1.f2.f0) == ((rd_T38 l1 x5_1).f1.f2.f0)) || (!(((rd_T38 l0 x5_1).f1.f2.f1) == ((rd_T38 l1 x5_1).f1.f2.f1)))) || (!(((rd_T38 l0 x5_1).f1.f3) == ((rd_T38 l1 x5_1).f1.f3)) || (!(((rd_T38 l0 x5_1).f1.f4) == ((rd_T38 l1 x5_1).f1.f4))))))) = true := c8
                  clear c8
                  obtain rfl := Option.some.inj H
                  have p109 : 0 ≤ (x5_1 : Int) := of_decide_eq_true (by first | (with_reducible assumption) | assumption)
                  have q109 : x5_1 < (l0.length : Int) := of_decide_eq_true (by first | (with_reducible assumption) | assumption)
                  obtain ⟨ad109, A109_0, c109_0, e109, hx109_0, hx109_1, hx109_2, hx109_3, hx109_4, hx109_5, hx109_6, hl109_0, hi109_0⟩ := at_T38 HR0.out x5_1 p109 q109
                  cases e109
                  have HR109_0 := Aside0.mk hi109_0
                  have HC109_0 := Aside0.mk hl109_0
                  clear hi109_0 hl109_0
                  replace p109 := eq_true p109
                  replace q109 := eq_true q109
                  have hcv9 := Kd.C_string (P := Try.prog) (A := A109_0) (c := c109_0) Try.underlying23 Try.underlying5 Try.underlying9 HR109_0.out
                  have hcv9n := fun n_ : Nat => Kd.C_string (P := Try.prog) (A := A109_0) (c := c109_0) Try.underlying23 Try.underlying5 Try.underlying9 (Kd.C_drewN HR109_0.out n_)
                  (try simp only [World.drewN_drewN] at hcv9n)
                  have p110 : 0 ≤ (x5_1 : Int) := of_decide_eq_true (by first | (with_reducible assumption) | assumption)
                  have q110 : x5_1 < (l1.length : Int) := of_decide_eq_true (by first | (with_reducible assumption) | assumption)
                  obtain ⟨ad110, A110_0, c110_0, e110, hx110_0, hx110_1, hx110_2, hx110_3, hx110_4, hx110_5, hx110_6, hl110_0, hi110_0⟩ := at_T38 HR1.out x5_1 p110 q110
                  cases e110
                  have HR110_0 := Aside0.mk hi110_0
                  have HC110_0 := Aside0.mk hl110_0
                  clear hi110_0 hl110_0
                  replace p110 := eq_true p110
                  replace q110 := eq_true q110
                  have hcv10 := Kd.C_string (P := Try.prog) (A := A110_0) (c := c110_0) Try.underlying23 Try.underlying5 Try.underlying9 HR110_0.out
                  have hcv10n := fun n_ : Nat => Kd.C_string (P := Try.prog) (A := A110_0) (c := c110_0) Try.underlying23 Try.underlying5 Try.underlying9 (Kd.C_drewN HR110_0.out n_)
                  (try simp only [World.drewN_drewN] at hcv10n)
                  have p111 : 0 ≤ (x5_1 : Int) := of_decide_eq_true (by first | (with_reducible assumption) | assumption)
                  have q111 : x5_1 < (l0.length : Int) := of_decide_eq_true (by first | (with_reducible assumption) | assumption)
                  obtain ⟨ad111, A111_0, c111_0, e111, hx111_0, hx111_1, hx111_2, hx111_3, hx111_4, hx111_5, hx111_6, hl111_0, hi111_0⟩ := at_T38 HR0.out x5_1 p111 q111
                  obtain rfl : ad109 = ad111 := (by injection e111)
                  have HR111_0 := Aside0.mk hi111_0
                  have HC111_0 := Aside0.mk hl111_0
                  clear hi111_0 hl111_0
                  replace p111 := eq_true p111
                  replace q111 := eq_true q111
                  have ea_ := Option.some.inj (hx109_0.symm.trans hx111_0)
                  injection ea_ with ea_ en_ ec_
                  subst ea_
                  subst ec_
                  clear en_
                  have p112 : 0 ≤ (x5_1 : Int) := of_decide_eq_true (by first | (with_reducible assumption) | assumption)
                  have q112 : x5_1 < (l1.length : Int) := of_decide_eq_true (by first | (with_reducible assumption) | assumption)
                  obtain ⟨ad112, A112_0, c112_0, e112, hx112_0, hx112_1, hx112_2, hx112_3, hx112_4, hx112_5, hx112_6, hl112_0, hi112_0⟩ := at_T38 HR1.out x5_1 p112 q112
                  obtain rfl : ad110 = ad112 := (by injection e112)
                  have HR112_0 := Aside0.mk hi112_0
                  have HC112_0 := Aside0.mk hl112_0
                  clear hi112_0 hl112_0
                  replace p112 := eq_true p112
                  replace q112 := eq_true q112
                  have ea_ := Option.some.inj (hx110_0.symm.trans hx112_0)
                  injection ea_ with ea_ en_ ec_
                  subst ea_
                  subst ec_
                  clear en_
                  go_wp2
                  repeat (go_quiet (fail); try go_wp2)
                  go_ret
                  exact ⟨by first | rfl | (simp; done) | (simp [*]; done), by repeat (first | exact Drawn0.refl _ | apply Drawn0.step)⟩
                · rw [if_neg c8] at H
                  have c8b0 : (!(((rd_T38 l0 x5_1).f1.f0) == ((rd_T38 l1 x5_1).f1.f0)) || (!(((rd_T38 l0 x5_1).f1.f1) == ((rd_T38 l1 x5_1).f1.f1)) || ((!(((rd_T38 l0 x5_1).f1.f2.f0) == ((rd_T38 l1 x5_1).f1.f2.f0)) || (!(((rd_T38 l0 x5_1).f1.f2.f1) == ((rd_T38 l1 x5_1).f1.f2.f1)))) || (!(((rd_T38 l0 x5_1).f1.f3) == ((rd_T38 l1 x5_1).f1.f3)) || (!(((rd_T38 l0 x5_1).f1.f4) == ((rd_T38 l1 x5_1).f1.f4))))))) = false := by simpa using c8
                  clear c8
                  have H' := Aside0.mk H
                  clear H
                  have p109 : 0 ≤ (x5_1 : Int) := of_decide_eq_true (by first | (with_reducible assumption) | assumption)
                  have q109 : x5_1 < (l0.length : Int) := of_decide_eq_true (by first | (with_reducible assumption) | assumption)
                  obtain ⟨ad109, A109_0, c109_0, e109, hx109_0, hx109_1, hx109_2, hx109_3, hx109_4, hx109_5, hx109_6, hl109_0, hi109_0⟩ := at_T38 HR0.out x5_1 p109 q109
                  cases e109
                  have HR109_0 := Aside0.mk hi109_0
                  have HC109_0 := Aside0.mk hl109_0
                  clear hi109_0 hl109_0
                  replace p109 := eq_true p109
                  replace q109 := eq_true q109
                  have hcv11 := Kd.C_string (P := Try.prog) (A := A109_0) (c := c109_0) Try.underlying23 Try.underlying5 Try.underlying9 HR109_0.out
                  have hcv11n := fun n_ : Nat => Kd.C_string (P := Try.prog) (A := A109_0) (c := c109_0) Try.underlying23 Try.underlying5 Try.underlying9 (Kd.C_drewN HR109_0.out n_)
                  (try simp only [World.drewN_drewN] at hcv11n)
                  have p110 : 0 ≤ (x5_1 : Int) := of_decide_eq_true (by first | (with_reducible assumption) | assumption)
                  have q110 : x5_1 < (l1.length : Int) := of_decide_eq_true (by first | (with_reducible assumption) | assumption)
                  obtain ⟨ad110, A110_0, c110_0, e110, hx110_0, hx110_1, hx110_2, hx110_3, hx110_4, hx110_5, hx110_6, hl110_0, hi110_0⟩ := at_T38 HR1.out x5_1 p110 q110
                  cases e110
                  have HR110_0 := Aside0.mk hi110_0
                  have HC110_0 := Aside0.mk hl110_0
                  clear hi110_0 hl110_0
                  replace p110 := eq_true p110
                  replace q110 := eq_true q110
                  have hcv12 := Kd.C_string (P := Try.prog) (A := A110_0) (c := c110_0) Try.underlying23 Try.underlying5 Try.underlying9 HR110_0.out
                  have hcv12n := fun n_ : Nat => Kd.C_string (P := Try.prog) (A := A110_0) (c := c110_0) Try.underlying23 Try.underlying5 Try.underlying9 (Kd.C_drewN HR110_0.out n_)
                  (try simp only [World.drewN_drewN] at hcv12n)
                  have p111 : 0 ≤ (x5_1 : Int) := of_decide_eq_true (by first | (with_reducible assumption) | assumption)
                  have q111 : x5_1 < (l0.length : Int) := of_decide_eq_true (by first | (with_reducible assumption) | assumption)
                  obtain ⟨ad111, A111_0, c111_0, e111, hx111_0, hx111_1, hx111_2, hx111_3, hx111_4, hx111_5, hx111_6, hl111_0, hi111_0⟩ := at_T38 HR0.out x5_1 p111 q111
                  obtain rfl : ad109 = ad111 := (by injection e111)
                  have HR111_0 := Aside0.mk hi111_0
                  have HC111_0 := Aside0.mk hl111_0
                  clear hi111_0 hl111_0
                  replace p111 := eq_true p111
                  replace q111 := eq_true q111
                  have ea_ := Option.some.inj (hx109_0.symm.trans hx111_0)
                  injection ea_ with ea_ en_ ec_
                  subst ea_
                  subst ec_
                  clear en_
                  have p112 : 0 ≤ (x5_1 : Int) := of_decide_eq_true (by first | (with_reducible assumption) | assumption)
                  have q112 : x5_1 < (l1.length : Int) := of_decide_eq_true (by first | (with_reducible assumption) | assumption)
                  obtain ⟨ad112, A112_0, c112_0, e112, hx112_0, hx112_1, hx112_2, hx112_3, hx112_4, hx112_5, hx112_6, hl112_0, hi112_0⟩ := at_T38 HR1.out x5_1 p112 q112
                  obtain rfl : ad110 = ad112 := (by injection e112)
                  have HR112_0 := Aside0.mk hi112_0
                  have HC112_0 := Aside0.mk hl112_0
                  clear hi112_0 hl112_0
                  replace p112 := eq_true p112
                  replace q112 := eq_true q112
                  have ea_ := Option.some.inj (hx110_0.symm.trans hx112_0)
                  injection ea_ with ea_ en_ ec_
                  subst ea_
                  subst ec_
                  clear en_
                  go_wp2
                  repeat (go_quiet (fail); try go_wp2)
                  go_roundg k1
                  case measure => have := HK1.out; omega
                  case rel => exact ⟨(wrap64 (x5_1 + 1)), (by first | rfl | (simp; done) | (simp [*]; done)), H', ⟨by have := HK1.out; omega⟩, by repeat (first | exact Drawn0.refl _ | apply Drawn0.step)⟩
              · rw [if_neg c7] at H
                have c7b0 : ((strOfNums ((rd_T38 l0 x5_1).f0)).toList == (strOfNums ((rd_T38 l1 x5_1).f0)).toList) = false := beq_eq_false_iff_ne.mpr c7
                have c7b1 : ((strOfNums ((rd_T38 l0 x5_1).f0)).toList != (strOfNums ((rd_T38 l1 x5_1).f0)).toList) = true := bne_iff_ne.mpr c7
                obtain rfl := Option.some.inj H
                have p109 : 0 ≤ (x5_1 : Int) := of_decide_eq_true (by first | (with_reducible assumption) | assumption)
                have q109 : x5_1 < (l0.length : Int) := of_decide_eq_true (by first | (with_reducible assumption) | assumption)
                obtain ⟨ad109, A109_0, c109_0, e109, hx109_0, hx109_1, hx109_2, hx109_3, hx109_4, hx109_5, hx109_6, hl109_0, hi109_0⟩ := at_T38 HR0.out x5_1 p109 q109
                cases e109
                have HR109_0 := Aside0.mk hi109_0
                have HC109_0 := Aside0.mk hl109_0
                clear hi109_0 hl109_0
                replace p109 := eq_true p109
                replace q109 := eq_true q109
                have hcv13 := Kd.C_string (P := Try.prog) (A := A109_0) (c := c109_0) Try.underlying23 Try.underlying5 Try.underlying9 HR109_0.out
                have hcv13n := fun n_ : Nat => Kd.C_string (P := Try.prog) (A := A109_0) (c := c109_0) Try.underlying23 Try.underlying5 Try.underlying9 (Kd.C_drewN HR109_0.out n_)
                (try simp only [World.drewN_drewN] at hcv13n)
                have p110 : 0 ≤ (x5_1 : Int) := of_decide_eq_true (by first | (with_reducible assumption) | assumption)
                have q110 : x5_1 < (l1.length : Int) := of_decide_eq_true (by first | (with_reducible assumption) | assumption)
                obtain ⟨ad110, A110_0, c110_0, e110, hx110_0, hx110_1, hx110_2, hx110_3, hx110_4, hx110_5, hx110_6, hl110_0, hi110_0⟩ := at_T38 HR1.out x5_1 p110 q110
                cases e110
                have HR110_0 := Aside0.mk hi110_0
                have HC110_0 := Aside0.mk hl110_0
                clear hi110_0 hl110_0
                replace p110 := eq_true p110
                replace q110 := eq_true q110
                have hcv14 := Kd.C_string (P := Try.prog) (A := A110_0) (c := c110_0) Try.underlying23 Try.underlying5 Try.underlying9 HR110_0.out
                have hcv14n := fun n_ : Nat => Kd.C_string (P := Try.prog) (A := A110_0) (c := c110_0) Try.underlying23 Try.underlying5 Try.underlying9 (Kd.C_drewN HR110_0.out n_)
                (try simp only [World.drewN_drewN] at hcv14n)
                go_wp2
                repeat (go_quiet (fail); try go_wp2)
                go_ret
                exact ⟨by first | rfl | (simp; done) | (simp [*]; done), by repeat (first | exact Drawn0.refl _ | apply Drawn0.step)⟩
            · rw [if_neg c6] at H
              exact absurd H (by simp)
          · rw [if_neg c5] at H
            exact absurd H (by simp)
        · rw [if_neg c4] at H
          have c4b0 : decide (x5_1 < (l0.length : Int)) = false := decide_eq_false c4
          clear c4
          obtain rfl := Option.some.inj H
          go_wp2
          repeat (go_quiet (fail); try go_wp2)
          go_ret
          exact ⟨by first | rfl | (simp; done) | (simp [*]; done), by repeat (first | exact Drawn0.refl _ | apply Drawn0.step)⟩
  · rw [if_neg c3] at H
    have c3b0 : ((l0.length : Int) == (l1.length : Int)) = false := beq_eq_false_iff_ne.mpr c3
    have c3b1 : ((l0.length : Int) != (l1.length : Int)) = true := bne_iff_ne.mpr c3
    have c3b2 : (l0.length == l1.length) = false := by first | simpa using c3 | (simp at c3 ⊢; omega)
    obtain rfl := Option.some.inj H
    go_enter Try.func11, Try.ntmps11
    go_wp2
    repeat (go_quiet (fail); try go_wp2)
    go_ret
    exact ⟨by first | rfl | (simp; done) | (simp [*]; done), by repeat (first | exact Drawn0.refl _ | apply Drawn0.step)⟩

end Go.Proofs.Yteomanpaladdjaa.P
