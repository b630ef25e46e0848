-- Written by a program of this session out of the translation.
import Derived.Test.YtliafeandefocaaPx0
namespace Go.Proofs.Ytliafeandefocaa.P
open Go.RowKit Go.Proofs.YtliafeandefocaaW.PrintWords Go.Proofs.YtliafeandefocaaW.PrintLast Go.Proofs.YtliafeandefocaaW.PrintMore
attribute [local go_sem] max2_int min2_int max_two min_two max_three min_three max_four min_four   -- for this text's walks alone
set_option linter.unusedVariables false
set_option linter.unusedSimpArgs false

/-! ### rickyardref07_Fit: function 23 -/
def rickyardref07_Fit.l0 : Nat → Int → Option (Int × Int × Int)
  | 0, _ => none
  | k + 1, x5 => if (Int.tmod x5 8) > 0 then (rickyardref07_Fit.l0 k (wrap64 (x5 + 1))) else (if x5 < 8 then (rickyardref07_Fit.l0 k (wrap64 (x5 + 1))) else (some (x5, 6, 0)))
def rickyardref07_Fit.f (k : Nat) (a0 : Int) : Option (Int × Int × Int) := if a0 < 0 then (some (0, 0, 1)) else (if a0 > 6553 then (some (65536, 6, 0)) else (rickyardref07_Fit.l0 k (wrap64 (10 * a0))))
theorem rickyardref07_Fit.mono_l : ∀ k, (∀ y0, LeO (rickyardref07_Fit.l0 k y0) (rickyardref07_Fit.l0 (k + 1) y0))
  | 0 => fun _ r h => by simp [rickyardref07_Fit.l0] at h
  | k + 1 => by
    have ih0 := rickyardref07_Fit.mono_l k
    · intro y0
      unfold rickyardref07_Fit.l0
      repeat' first
      | (with_reducible exact ih0 _)
      | (with_reducible exact LeO.refl _)
      | (with_reducible exact LeO.none _)
      | (with_reducible refine LeO.ite ?_ ?_)
      | (with_reducible refine LeO.bind ?_ (fun _ => ?_))
      | exact ih0 _
      | exact LeO.none _
      | refine LeO.ite ?_ ?_
      | refine LeO.bind ?_ (fun _ => ?_)
theorem rickyardref07_Fit.mono : ∀ a0 k, LeO (rickyardref07_Fit.f k a0) (rickyardref07_Fit.f (k + 1) a0) := by
  intro a0 k
  have ih0 := rickyardref07_Fit.mono_l k
  unfold rickyardref07_Fit.f
  repeat' first
      | (with_reducible exact ih0 _)
      | (with_reducible exact LeO.refl _)
      | (with_reducible exact LeO.none _)
      | (with_reducible refine LeO.ite ?_ ?_)
      | (with_reducible refine LeO.bind ?_ (fun _ => ?_))
      | exact ih0 _
      | exact LeO.none _
      | refine LeO.ite ?_ ?_
      | refine LeO.bind ?_ (fun _ => ?_)
set_option maxHeartbeats 8000000 in
set_option maxRecDepth 100000 in
theorem rickyardref07_Fit.calls (k : Nat) (a0 : Int) (r1 : Int) (r2 : Int) (r3 : Int) (w : World) (h : rickyardref07_Fit.f k a0 = some (r1, r2, r3)) :
    Calls Try.prog 23 #[.int .i64 a0] w fun e w' => e = .returned (.tuple #[.int .i64 r1, .int .i64 r2, .int .i64 r3]) ∧ Drawn0 w w' := by
  have H : (if a0 < 0 then (some (0, 0, 1)) else (if a0 > 6553 then (some (65536, 6, 0)) else (rickyardref07_Fit.l0 k (wrap64 (10 * a0))))) = some (r1, r2, r3) := h
  clear h
  by_cases c2 : a0 < 0
  · rw [if_pos c2] at H
    have c2b0 : decide (a0 < 0) = true := decide_eq_true c2
    clear c2
    simp only [Option.some.injEq, Prod.mk.injEq] at H
    obtain ⟨rfl, rfl, rfl⟩ := H
    go_enter Try.func23, Try.ntmps23
    go_wp2
    go_ret3
    exact ⟨by first | rfl | (simp; done) | (simp [*]; done), by repeat (first | exact Drawn0.refl _ | apply Drawn0.step)⟩
  · rw [if_neg c2] at H
    have c2b0 : decide (a0 < 0) = false := decide_eq_false c2
    clear c2
    by_cases c3 : a0 > 6553
    · rw [if_pos c3] at H
      have c3b0 : decide (6553 < a0) = true := decide_eq_true c3
      clear c3
      simp only [Option.some.injEq, Prod.mk.injEq] at H
      obtain ⟨rfl, rfl, rfl⟩ := H
      go_enter Try.func23, Try.ntmps23
      go_wp2
      go_ret3
      exact ⟨by first | rfl | (simp; done) | (simp [*]; done), by repeat (first | exact Drawn0.refl _ | apply Drawn0.step)⟩
    · rw [if_neg c3] at H
      have c3b0 : decide (6553 < a0) = false := decide_eq_false c3
      clear c3
      have H' := Aside0.mk H
      clear H
      go_enter Try.func23, Try.ntmps23
      go_wp2
      go_loopg [5] k (fun kq v5 w' => ∃ (x5_1 : Int), v5 = .int .i64 x5_1 ∧ Aside0 (rickyardref07_Fit.l0 kq x5_1 = some (r1, r2, r3)) ∧ Aside0 (kq ≤ k) ∧ Drawn0 w w')
      case atStart => exact ⟨(wrap64 (10 * a0)), (by first | rfl | (simp; done) | (simp [*]; done)), H', ⟨Nat.le_refl _⟩, by repeat (first | exact Drawn0.refl _ | apply Drawn0.step)⟩
      case round =>
        clear H'
        try clear c2
        try clear c2b0
        try clear p2
        try clear c3
        try clear c3b0
        obtain ⟨x5_1, rfl, HA, HK1, ⟨m1, rfl⟩⟩ := hrel
        cases gk with
        | zero => exact absurd HA.out (by simp [rickyardref07_Fit.l0])
        | succ k1 =>
          have H := HA.out
          clear HA
          simp only [rickyardref07_Fit.l0] at H
          by_cases c4 : (Int.tmod x5_1 8) > 0
          · rw [if_pos c4] at H
            have c4b0 : decide (0 < (Int.tmod x5_1 8)) = true := decide_eq_true c4
            clear c4
            have H' := Aside0.mk H
            clear H
            go_wp2
            go_roundg k1
            case measure => have := HK1.out; omega
            case rel => exact ⟨(wrap64 (x5_1 + 1)), (by first | rfl | (simp; done) | (simp [*]; done)), H', ⟨by have := HK1.out; omega⟩, by repeat (first | exact Drawn0.refl _ | apply Drawn0.step)⟩
          · rw [if_neg c4] at H
            have c4b0 : decide (0 < (Int.tmod x5_1 8)) = false := decide_eq_false c4
            clear c4
            by_cases c5 : x5_1 < 8
            · rw [if_pos c5] at H
              have c5b0 : decide (x5_1 < 8) = true := decide_eq_true c5
              clear c5
              have H' := Aside0.mk H
              clear H
              go_wp2
              go_roundg k1
              case measure => have := HK1.out; omega
              case rel => exact ⟨(wrap64 (x5_1 + 1)), (by first | rfl | (simp; done) | (simp [*]; done)), H', ⟨by have := HK1.out; omega⟩, by repeat (first | exact Drawn0.refl _ | apply Drawn0.step)⟩
            · rw [if_neg c5] at H
              have c5b0 : decide (x5_1 < 8) = false := decide_eq_false c5
              clear c5
              simp only [Option.some.injEq, Prod.mk.injEq] at H
              obtain ⟨rfl, rfl, rfl⟩ := H
              go_wp2
              go_ret3
              exact ⟨by first | rfl | (simp; done) | (simp [*]; done), by repeat (first | exact Drawn0.refl _ | apply Drawn0.step)⟩

end Go.Proofs.Ytliafeandefocaa.P
