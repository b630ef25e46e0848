-- Written by a program of this session out of the translation.
import Derived.Test.YtihdomhiiolojaaPx0
import Derived.Test.YtihdomhiiolojaaPEq0
namespace Go.Proofs.Ytihdomhiiolojaa.P
open Go.RowKit Go.Proofs.YtihdomhiiolojaaW.PrintWords Go.Proofs.YtihdomhiiolojaaW.PrintLast Go.Proofs.YtihdomhiiolojaaW.PrintMore
attribute [local go_sem] max2_int min2_int max_two min_two max_three min_three max_four min_four   -- for this text's walks alone
set_option linter.unusedVariables false
set_option linter.unusedSimpArgs false

attribute [local go_sem high] eqA39
/-! ### rickyardref08_Same: function 18 -/
def rickyardref08_Same.l0 : Nat → List (S41) → List (S41) → Int → Option (Bool)
  | 0, _, _, _ => none
  | k + 1, x0, x1, x5 => if x5 < (x0.length : Int) then (if 0 ≤ x5 then (if x5 < (x1.length : Int) then (if (strOfNums ((rd_T41 x0 x5).f0)).toList = (strOfNums ((rd_T41 x1 x5).f0)).toList then (if (!(((rd_T41 x0 x5).f1.f0) == ((rd_T41 x1 x5).f1.f0)) || (!(((rd_T41 x0 x5).f1.f1) == ((rd_T41 x1 x5).f1.f1)) || ((!(((rd_T41 x0 x5).f1.f2.f0) == ((rd_T41 x1 x5).f1.f2.f0)) || (!(((rd_T41 x0 x5).f1.f2.f1) == ((rd_T41 x1 x5).f1.f2.f1)))) || (!(((rd_T41 x0 x5).f1.f3) == ((rd_T41 x1 x5).f1.f3)) || (!(((rd_T41 x0 x5).f1.f4) == ((rd_T41 x1 x5).f1.f4))))))) = true then (some false) else (rickyardref08_Same.l0 k x0 x1 (wrap64 (x5 + 1)))) else (some false)) else (none)) else (none)) else (some true)
def rickyardref08_Same.f (k : Nat) (l0 : List (S41)) (l1 : List (S41)) : Option (Bool) := if (l0.length : Int) = (l1.length : Int) then (rickyardref08_Same.l0 k l0 l1 0) else (some false)
theorem rickyardref08_Same.mono_l : ∀ k, (∀ y0 y1 y2, LeO (rickyardref08_Same.l0 k y0 y1 y2) (rickyardref08_Same.l0 (k + 1) y0 y1 y2))
  | 0 => fun _ _ _ r h => by simp [rickyardref08_Same.l0] at h
  | k + 1 => by
    have ih0 := rickyardref08_Same.mono_l k
    · intro y0 y1 y2
      unfold rickyardref08_Same.l0
      repeat' first
      | (with_reducible exact ih0 _ _ _)
      | (with_reducible exact LeO.refl _)
      | (with_reducible exact LeO.none _)
      | (with_reducible refine LeO.ite ?_ ?_)
      | (with_reducible refine LeO.bind ?_ (fun _ => ?_))
      | exact ih0 _ _ _
      | exact LeO.none _
      | refine LeO.ite ?_ ?_
      | refine LeO.bind ?_ (fun _ => ?_)
theorem rickyardref08_Same.mono : ∀ a0 a1 k, LeO (rickyardref08_Same.f k a0 a1) (rickyardref08_Same.f (k + 1) a0 a1) := by
  intro a0 a1 k
  have ih0 := rickyardref08_Same.mono_l k
  unfold rickyardref08_Same.f
  repeat' first
      | (with_reducible exact ih0 _ _ _)
      | (with_reducible exact LeO.refl _)
      | (with_reducible exact LeO.none _)
      | (with_reducible refine LeO.ite ?_ ?_)
      | (with_reducible refine LeO.bind ?_ (fun _ => ?_))
      | exact ih0 _ _ _
      | exact LeO.none _
      | refine LeO.ite ?_ ?_
      | refine LeO.bind ?_ (fun _ => ?_)
set_option maxHeartbeats 8000000 in
set_option maxRecDepth 100000 in
theorem rickyardref08_Same.calls (k : Nat) (A0 : Option Addr) (c0 : Nat) (l0 : List (S41)) (A1 : Option Addr) (c1 : Nat) (l1 : List (S41)) (r : Bool) (w : World) (hr0 : Kd.C k41 w A0 l0.length l0) (hc0 : l0.length ≤ c0) (hr1 : Kd.C k41 w A1 l1.length l1) (hc1 : l1.length ≤ c1) (h : rickyardref08_Same.f k l0 l1 = some r) :
    Calls Try.prog 18 #[.slice A0 l0.length c0, .slice A1 l1.length c1] w fun e w' => e = .returned (.bool r) ∧ Drawn0 w w' := by
  have hu39 := Try.underlying39
  have HR0 := Aside0.mk hr0
  have HC0 := Aside0.mk hc0
  clear hr0 hc0
  have HR1 := Aside0.mk hr1
  have HC1 := Aside0.mk hc1
  clear hr1 hc1
  have H : (if (l0.length : Int) = (l1.length : Int) then (rickyardref08_Same.l0 k l0 l1 0) else (some false)) = some r := h
  clear h
  by_cases c3 : (l0.length : Int) = (l1.length : Int)
  · rw [if_pos c3] at H
    have c3b0 : ((l0.length : Int) == (l1.length : Int)) = true := beq_iff_eq.mpr c3
    have c3b1 : ((l0.length : Int) != (l1.length : Int)) = false := bne_eq_false_iff_eq.mpr c3
    have c3b2 : (l0.length == l1.length) = true := by first | simpa using c3 | (simp at c3 ⊢; omega)
    clear c3
    have H' := Aside0.mk H
    clear H
    go_enter Try.func18, Try.ntmps18
    go_wp2
    repeat (go_quiet (fail); try go_wp2)
    go_loopg [5] k (fun kq v5 w' => ∃ (x5_1 : Int), v5 = .int .i64 x5_1 ∧ Aside0 (rickyardref08_Same.l0 kq l0 l1 x5_1 = some r) ∧ Aside0 (kq ≤ k) ∧ Drawn0 w w')
    case atStart => exact ⟨(0), (by first | rfl | (simp; done) | (simp [*]; done)), H', ⟨Nat.le_refl _⟩, by repeat (first | exact Drawn0.refl _ | apply Drawn0.step)⟩
    case round =>
      clear H'
      try clear c1
      try clear p2
      try clear c3
      try clear c3b0
      try clear c3b1
      try clear c3b2
      obtain ⟨x5_1, rfl, HA, HK1, ⟨m1, rfl⟩⟩ := hrel
      cases gk with
      | zero => exact absurd HA.out (by simp [rickyardref08_Same.l0])
      | succ k1 =>
        have H := HA.out
        clear HA
        simp only [rickyardref08_Same.l0] at H
        by_cases c4 : x5_1 < (l0.length : Int)
        · rw [if_pos c4] at H
          have c4b0 : decide (x5_1 < (l0.length : Int)) = true := decide_eq_true c4
          clear c4
          by_cases c5 : 0 ≤ x5_1
          · rw [if_pos c5] at H
            have c5b0 : decide (0 ≤ x5_1) = true := decide_eq_true c5
            clear c5
            by_cases c6 : x5_1 < (l1.length : Int)
            · rw [if_pos c6] at H
              have c6b0 : decide (x5_1 < (l1.length : Int)) = true := decide_eq_true c6
              clear c6
              by_cases c7 : (strOfNums ((rd_T41 l0 x5_1).f0)).toList = (strOfNums ((rd_T41 l1 x5_1).f0)).toList
              · rw [if_pos c7] at H
                have c7b0 : ((strOfNums ((rd_T41 l0 x5_1).f0)).toList == (strOfNums ((rd_T41 l1 x5_1).f0)).toList) = true := beq_iff_eq.mpr c7
                have c7b1 : ((strOfNums ((rd_T41 l0 x5_1).f0)).toList != (strOfNums ((rd_T41 l1 x5_1).f0)).toList) = false := bne_eq_false_iff_eq.mpr c7
                clear c7
                by_cases c8 : (!(((rd_T41 l0 x5_1).f1.f0) == ((rd_T41 l1 x5_1).f1.f0)) || (!(((rd_T41 l0 x5_1).f1.f1) == ((rd_T41 l1 x5_1).f1.f1)) || ((!(((rd_T41 l0 x5_1).f1.f2.f0) == ((rd_T41 l1 x5_1).f1.f2.f0)) || (!(((rd_T41 l0 x5_1).f1.f2.f1) == ((rd_T41 l1 x5_1).f1.f2.f1)))) || (!(((rd_T41 l0 x5_1).f1.f3) == ((rd_T41 l1 x5_1).f1.f3)) || (!(((rd_T41 l0 x5_1).f1.f4) == ((rd_T41 l1 x5_1).f1.f4))))))) = true
                · rw [if_pos c8] at H
                  have c8b0 : (!(((rd_T41 l0 x5_1).f1.f0) == ((rd_T41 l1 x5_1).f1.f0)) || (!(((rd_T41 l0 x5_1).f1.f1) == ((rd_T41 l1 x5_1).f1.f1)) || ((!(((rd_T41 l0 x5_1).f1.f2.f0) == ((rd_T41 l1 x5_1).f1.f2.f0)) || (!(((rd_T41 l0 x5_1).f1.f2.f1) == ((rd_T41 l1 x5_1).f1.f2.f1)))) || (!(((rd_T41 l0 x5_1).f1.f3) == ((rd_T41 l1 x5_1).f1.f3)) || (!(((rd_T41 l0 x5_1).f1.f4) == ((rd_T41 l1 x5_1).f1.f4))))))) = true := c8
                  clear c8
                  obtain rfl := Option.some.inj H
                  have p208 : 0 ≤ (x5_1 : Int) := of_decide_eq_true (by first | (with_reducible assumption) | assumption)
                  have q208 : x5_1 < (l0.length : Int) := of_decide_eq_true (by first | (with_reducible assumption) | assumption)
                  obtain ⟨ad208, A208_0, c208_0, e208, hx208_0, hx208_1, hx208_2, hx208_3, hx208_4, hx208_5, hx208_6, hl208_0, hi208_0⟩ := at_T41 HR0.out x5_1 p208 q208
                  cases e208
                  have HR208_0 := Aside0.mk hi208_0
                  have HC208_0 := Aside0.mk hl208_0
                  clear hi208_0 hl208_0
                  replace p208 := eq_true p208
                  replace q208 := eq_true q208
                  have hcv9 := Kd.C_string (P := Try.prog) (A := A208_0) (c := c208_0) Try.underlying34 Try.underlying5 Try.underlying9 HR208_0.out
                  have hcv9n := fun n_ : Nat => Kd.C_string (P := Try.prog) (A := A208_0) (c := c208_0) Try.underlying34 Try.underlying5 Try.underlying9 (Kd.C_drewN HR208_0.out n_)
                  (try simp only [World.drewN_drewN] at hcv9n)
                  have p209 : 0 ≤ (x5_1 : Int) := of_decide_eq_true (by first | (with_reducible assumption) | assumption)
                  have q209 : x5_1 < (l1.length : Int) := of_decide_eq_true (by first | (with_reducible assumption) | assumption)
                  obtain ⟨ad209, A209_0, c209_0, e209, hx209_0, hx209_1, hx209_2, hx209_3, hx209_4, hx209_5, hx209_6, hl209_0, hi209_0⟩ := at_T41 HR1.out x5_1 p209 q209
                  cases e209
                  have HR209_0 := Aside0.mk hi209_0
                  have HC209_0 := Aside0.mk hl209_0
                  clear hi209_0 hl209_0
                  replace p209 := eq_true p209
                  replace q209 := eq_true q209
                  have hcv10 := Kd.C_string (P := Try.prog) (A := A209_0) (c := c209_0) Try.underlying34 Try.underlying5 Try.underlying9 HR209_0.out
                  have hcv10n := fun n_ : Nat => Kd.C_string (P := Try.prog) (A := A209_0) (c := c209_0) Try.underlying34 Try.underlying5 Try.underlying9 (Kd.C_drewN HR209_0.out n_)
                  (try simp only [World.drewN_drewN] at hcv10n)
                  have p210 : 0 ≤ (x5_1 : Int) := of_decide_eq_true (by first | (with_reducible assumption) | assumption)
                  have q210 : x5_1 < (l0.length : Int) := of_decide_eq_true (by first | (with_reducible assumption) | assumption)
                  obtain ⟨ad210, A210_0, c210_0, e210, hx210_0, hx210_1, hx210_2, hx210_3, hx210_4, hx210_5, hx210_6, hl210_0, hi210_0⟩ := at_T41 HR0.out x5_1 p210 q210
                  obtain rfl : ad208 = ad210 := (by injection e210)
                  have HR210_0 := Aside0.mk hi210_0
                  have HC210_0 := Aside0.mk hl210_0
                  clear hi210_0 hl210_0
                  replace p210 := eq_true p210
                  replace q210 := eq_true q210
                  have ea_ := Option.some.inj (hx208_0.symm.trans hx210_0)
                  injection ea_ with ea_ en_ ec_
                  subst ea_
                  subst ec_
                  clear en_
                  have p211 : 0 ≤ (x5_1 : Int) := of_decide_eq_true (by first | (with_reducible assumption) | assumption)
                  have q211 : x5_1 < (l1.length : Int) := of_decide_eq_true (by first | (with_reducible assumption) | assumption)
                  obtain ⟨ad211, A211_0, c211_0, e211, hx211_0, hx211_1, hx211_2, hx211_3, hx211_4, hx211_5, hx211_6, hl211_0, hi211_0⟩ := at_T41 HR1.out x5_1 p211 q211
                  obtain rfl : ad209 = ad211 := (by injection e211)
                  have HR211_0 := Aside0.mk hi211_0
                  have HC211_0 := Aside0.mk hl211_0
                  clear hi211_0 hl211_0
                  replace p211 := eq_true p211
                  replace q211 := eq_true q211
                  have ea_ := Option.some.inj (hx209_0.symm.trans hx211_0)
                  injection ea_ with ea_ en_ ec_
                  subst ea_
                  subst ec_
                  clear en_
                  go_wp2
                  repeat (go_quiet (fail); try go_wp2)
                  go_ret
                  exact ⟨by first | rfl | (simp; done) | (simp [*]; done), by repeat (first | exact Drawn0.refl _ | apply Drawn0.step)⟩
                · rw [if_neg c8] at H
                  have c8b0 : (!(((rd_T41 l0 x5_1).f1.f0) == ((rd_T41 l1 x5_1).f1.f0)) || (!(((rd_T41 l0 x5_1).f1.f1) == ((rd_T41 l1 x5_1).f1.f1)) || ((!(((rd_T41 l0 x5_1).f1.f2.f0) == ((rd_T41 l1 x5_1).f1.f2.f0)) || (!(((rd_T41 l0 x5_1).f1.f2.f1) == ((rd_T41 l1 x5_1).f1.f2.f1)))) || (!(((rd_T41 l0 x5_1).f1.f3) == ((rd_T41 l1 x5_1).f1.f3)) || (!(((rd_T41 l0 x5_1).f1.f4) == ((rd_T41 l1 x5_1).f1.f4))))))) = false := by simpa using c8
                  clear c8
                  have H' := Aside0.mk H
                  clear H
                  have p208 : 0 ≤ (x5_1 : Int) := of_decide_eq_true (by first | (with_reducible assumption) | assumption)
                  have q208 : x5_1 < (l0.length : Int) := of_decide_eq_true (by first | (with_reducible assumption) | assumption)
                  obtain ⟨ad208, A208_0, c208_0, e208, hx208_0, hx208_1, hx208_2, hx208_3, hx208_4, hx208_5, hx208_6, hl208_0, hi208_0⟩ := at_T41 HR0.out x5_1 p208 q208
                  cases e208
                  have HR208_0 := Aside0.mk hi208_0
                  have HC208_0 := Aside0.mk hl208_0
                  clear hi208_0 hl208_0
                  replace p208 := eq_true p208
                  replace q208 := eq_true q208
                  have hcv11 := Kd.C_string (P := Try.prog) (A := A208_0) (c := c208_0) Try.underlying34 Try.underlying5 Try.underlying9 HR208_0.out
                  have hcv11n := fun n_ : Nat => Kd.C_string (P := Try.prog) (A := A208_0) (c := c208_0) Try.underlying34 Try.underlying5 Try.underlying9 (Kd.C_drewN HR208_0.out n_)
                  (try simp only [World.drewN_drewN] at hcv11n)
                  have p209 : 0 ≤ (x5_1 : Int) := of_decide_eq_true (by first | (with_reducible assumption) | assumption)
                  have q209 : x5_1 < (l1.length : Int) := of_decide_eq_true (by first | (with_reducible assumption) | assumption)
                  obtain ⟨ad209, A209_0, c209_0, e209, hx209_0, hx209_1, hx209_2, hx209_3, hx209_4, hx209_5, hx209_6, hl209_0, hi209_0⟩ := at_T41 HR1.out x5_1 p209 q209
                  cases e209
                  have HR209_0 := Aside0.mk hi209_0
                  have HC209_0 := Aside0.mk hl209_0
                  clear hi209_0 hl209_0
                  replace p209 := eq_true p209
                  replace q209 := eq_true q209
                  have hcv12 := Kd.C_string (P := Try.prog) (A := A209_0) (c := c209_0) Try.underlying34 Try.underlying5 Try.underlying9 HR209_0.out
                  have hcv12n := fun n_ : Nat => Kd.C_string (P := Try.prog) (A := A209_0) (c := c209_0) Try.underlying34 Try.underlying5 Try.underlying9 (Kd.C_drewN HR209_0.out n_)
                  (try simp only [World.drewN_drewN] at hcv12n)
                  have p210 : 0 ≤ (x5_1 : Int) := of_decide_eq_true (by first | (with_reducible assumption) | assumption)
                  have q210 : x5_1 < (l0.length : Int) := of_decide_eq_true (by first | (with_reducible assumption) | assumption)
                  obtain ⟨ad210, A210_0, c210_0, e210, hx210_0, hx210_1, hx210_2, hx210_3, hx210_4, hx210_5, hx210_6, hl210_0, hi210_0⟩ := at_T41 HR0.out x5_1 p210 q210
                  obtain rfl : ad208 = ad210 := (by injection e210)
                  have HR210_0 := Aside0.mk hi210_0
                  have HC210_0 := Aside0.mk hl210_0
                  clear hi210_0 hl210_0
                  replace p210 := eq_true p210
                  replace q210 := eq_true q210
                  have ea_ := Option.some.inj (hx208_0.symm.trans hx210_0)
                  injection ea_ with ea_ en_ ec_
                  subst ea_
                  subst ec_
                  clear en_
                  have p211 : 0 ≤ (x5_1 : Int) := of_decide_eq_true (by first | (with_reducible assumption) | assumption)
                  have q211 : x5_1 < (l1.length : Int) := of_decide_eq_true (by first | (with_reducible assumption) | assumption)
                  obtain ⟨ad211, A211_0, c211_0, e211, hx211_0, hx211_1, hx211_2, hx211_3, hx211_4, hx211_5, hx211_6, hl211_0, hi211_0⟩ := at_T41 HR1.out x5_1 p211 q211
                  obtain rfl : ad209 = ad211 := (by injection e211)
                  have HR211_0 := Aside0.mk hi211_0
                  have HC211_0 := Aside0.mk hl211_0
                  clear hi211_0 hl211_0
                  replace p211 := eq_true p211
                  replace q211 := eq_true q211
                  have ea_ := Option.some.inj (hx209_0.symm.trans hx211_0)
                  injection ea_ with ea_ en_ ec_
                  subst ea_
                  subst ec_
                  clear en_
                  go_wp2
                  repeat (go_quiet (fail); try go_wp2)
                  go_roundg k1
                  case measure => have := HK1.out; omega
                  case rel => exact ⟨(wrap64 (x5_1 + 1)), (by first | rfl | (simp; done) | (simp [*]; done)), H', ⟨by have := HK1.out; omega⟩, by repeat (first | exact Drawn0.refl _ | apply Drawn0.step)⟩
              · rw [if_neg c7] at H
                have c7b0 : ((strOfNums ((rd_T41 l0 x5_1).f0)).toList == (strOfNums ((rd_T41 l1 x5_1).f0)).toList) = false := beq_eq_false_iff_ne.mpr c7
                have c7b1 : ((strOfNums ((rd_T41 l0 x5_1).f0)).toList != (strOfNums ((rd_T41 l1 x5_1).f0)).toList) = true := bne_iff_ne.mpr c7
                obtain rfl := Option.some.inj H
                have p208 : 0 ≤ (x5_1 : Int) := of_decide_eq_true (by first | (with_reducible assumption) | assumption)
                have q208 : x5_1 < (l0.length : Int) := of_decide_eq_true (by first | (with_reducible assumption) | assumption)
                obtain ⟨ad208, A208_0, c208_0, e208, hx208_0, hx208_1, hx208_2, hx208_3, hx208_4, hx208_5, hx208_6, hl208_0, hi208_0⟩ := at_T41 HR0.out x5_1 p208 q208
                cases e208
                have HR208_0 := Aside0.mk hi208_0
                have HC208_0 := Aside0.mk hl208_0
                clear hi208_0 hl208_0
                replace p208 := eq_true p208
                replace q208 := eq_true q208
                have hcv13 := Kd.C_string (P := Try.prog) (A := A208_0) (c := c208_0) Try.underlying34 Try.underlying5 Try.underlying9 HR208_0.out
                have hcv13n := fun n_ : Nat => Kd.C_string (P := Try.prog) (A := A208_0) (c := c208_0) Try.underlying34 Try.underlying5 Try.underlying9 (Kd.C_drewN HR208_0.out n_)
                (try simp only [World.drewN_drewN] at hcv13n)
                have p209 : 0 ≤ (x5_1 : Int) := of_decide_eq_true (by first | (with_reducible assumption) | assumption)
                have q209 : x5_1 < (l1.length : Int) := of_decide_eq_true (by first | (with_reducible assumption) | assumption)
                obtain ⟨ad209, A209_0, c209_0, e209, hx209_0, hx209_1, hx209_2, hx209_3, hx209_4, hx209_5, hx209_6, hl209_0, hi209_0⟩ := at_T41 HR1.out x5_1 p209 q209
                cases e209
                have HR209_0 := Aside0.mk hi209_0
                have HC209_0 := Aside0.mk hl209_0
                clear hi209_0 hl209_0
                replace p209 := eq_true p209
                replace q209 := eq_true q209
                have hcv14 := Kd.C_string (P := Try.prog) (A := A209_0) (c := c209_0) Try.underlying34 Try.underlying5 Try.underlying9 HR209_0.out
                have hcv14n := fun n_ : Nat => Kd.C_string (P := Try.prog) (A := A209_0) (c := c209_0) Try.underlying34 Try.underlying5 Try.underlying9 (Kd.C_drewN HR209_0.out n_)
                (try simp only [World.drewN_drewN] at hcv14n)
                go_wp2
                repeat (go_quiet (fail); try go_wp2)
                go_ret
                exact ⟨by first | rfl | (simp; done) | (simp [*]; done), by repeat (first | exact Drawn0.refl _ | apply Drawn0.step)⟩
            · rw [if_neg c6] at H
              exact absurd H (by simp)
          · rw [if_neg c5] at H
            exact absurd H (by simp)
        · rw [if_neg c4] at H
          have c4b0 : decide (x5_1 < (l0.length : Int)) = false := decide_eq_false c4
          clear c4
          obtain rfl := Option.some.inj H
          go_wp2
          repeat (go_quiet (fail); try go_wp2)
          go_ret
          exact ⟨by first | rfl | (simp; done) | (simp [*]; done), by repeat (first | exact Drawn0.refl _ | apply Drawn0.step)⟩
  · rw [if_neg c3] at H
    have c3b0 : ((l0.length : Int) == (l1.length : Int)) = false := beq_eq_false_iff_ne.mpr c3
    have c3b1 : ((l0.length : Int) != (l1.length : Int)) = true := bne_iff_ne.mpr c3
    have c3b2 : (l0.length == l1.length) = false := by first | simpa using c3 | (simp at c3 ⊢; omega)
    obtain rfl := Option.some.inj H
    go_enter Try.func18, Try.ntmps18
    go_wp2
    repeat (go_quiet (fail); try go_wp2)
    go_ret
    exact ⟨by first | rfl | (simp; done) | (simp [*]; done), by repeat (first | exact Drawn0.refl _ | apply Drawn0.step)⟩

end Go.Proofs.Ytihdomhiiolojaa.P
