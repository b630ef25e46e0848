-- Written by a program of this session out of the translation.
import Derived.Test.YtliafeandefocaaPx0
namespace Go.Proofs.Ytliafeandefocaa.P
open Go.RowKit Go.Proofs.YtliafeandefocaaW.PrintWords Go.Proofs.YtliafeandefocaaW.PrintLast Go.Proofs.YtliafeandefocaaW.PrintMore
attribute [local go_sem] max2_int min2_int max_two min_two max_three min_three max_four min_four   -- for this text's walks alone
set_option linter.unusedVariables false
set_option linter.unusedSimpArgs false

/-! ### bloom_Fit: function 22 -/
def bloom_Fit.f (a0 : Int) : Option (Int × Int × Int) := if a0 < 0 then (some (0, 0, 1)) else (some (mn (mx (wrap64 ((wrap64 (Int.tdiv (wrap64 ((wrap64 ((mn a0 65536) * 10)) + 7)) 8)) * 8)) 8) 65536, 6, 0))
set_option maxHeartbeats 8000000 in
set_option maxRecDepth 100000 in
theorem bloom_Fit.calls (a0 : Int) (r1 : Int) (r2 : Int) (r3 : Int) (w : World) (h : bloom_Fit.f a0 = some (r1, r2, r3)) :
    Calls Try.prog 22 #[.int .i64 a0] w fun e w' => e = .returned (.tuple #[.int .i64 r1, .int .i64 r2, .int .i64 r3]) ∧ Below w.heap.size w w' := by
  have HB := Aside0.mk (Below.refl w.heap.size w)
  have H : (if a0 < 0 then (some (0, 0, 1)) else (some (mn (mx (wrap64 ((wrap64 (Int.tdiv (wrap64 ((wrap64 ((mn a0 65536) * 10)) + 7)) 8)) * 8)) 8) 65536, 6, 0))) = some (r1, r2, r3) := h
  clear h
  by_cases c2 : a0 < 0
  · rw [if_pos c2] at H
    have c2b0 : decide (a0 < 0) = true := decide_eq_true c2
    clear c2
    simp only [Option.some.injEq, Prod.mk.injEq] at H
    obtain ⟨rfl, rfl, rfl⟩ := H
    go_enter Try.func22, Try.ntmps22
    go_wp2
    go_ret3
    exact ⟨by first | rfl | (simp [errW_none, errW_some] <;> rfl) | (simp [*, errW_none, errW_some] <;> rfl), by repeat (first | (with_reducible first | exact HB.out | apply below_alloc | apply pw_below_drewN | apply below_drew1) | exact HB.out)⟩
  · rw [if_neg c2] at H
    have c2b0 : decide (a0 < 0) = false := decide_eq_false c2
    clear c2
    obtain ⟨ji3, hji3⟩ : ∃ j_ : Int, (mn a0 65536) = j_ := ⟨_, rfl⟩
    replace H : (some (mn (mx (wrap64 ((wrap64 (Int.tdiv (wrap64 ((wrap64 ((ji3) * 10)) + 7)) 8)) * 8)) 8) 65536, 6, 0)) = some (r1, r2, r3) := by first | (rw [hji3] at H; exact H) | (simp only [hji3] at H ⊢; exact H)
    (try (have hji3h : ji3 ≤ 65536 := by (rw [← hji3]; unfold mn; (repeat' split) <;> omega)))
    (try (have hji3g : ji3 ≤ 64 := by omega))
    have hji3_ : (if 65536 < a0 then 65536 else a0) = ji3 := hji3
    obtain ⟨ji4, hji4⟩ : ∃ j_ : Int, (mx (wrap64 ((wrap64 (Int.tdiv (wrap64 ((wrap64 ((ji3) * 10)) + 7)) 8)) * 8)) 8) = j_ := ⟨_, rfl⟩
    replace H : (some (mn (ji4) 65536, 6, 0)) = some (r1, r2, r3) := by first | (rw [hji4] at H; exact H) | (simp only [hji4] at H ⊢; exact H)
    have hji4_ : (if (wrap64 ((wrap64 (Int.tdiv (wrap64 ((wrap64 ((ji3) * 10)) + 7)) 8)) * 8)) < 8 then 8 else (wrap64 ((wrap64 (Int.tdiv (wrap64 ((wrap64 ((ji3) * 10)) + 7)) 8)) * 8))) = ji4 := hji4
    obtain ⟨ji5, hji5⟩ : ∃ j_ : Int, (mn (ji4) 65536) = j_ := ⟨_, rfl⟩
    replace H : (some (ji5, 6, 0)) = some (r1, r2, r3) := by first | (rw [hji5] at H; exact H) | (simp only [hji5] at H ⊢; exact H)
    have hji5_ : (if 65536 < (ji4) then 65536 else (ji4)) = ji5 := hji5
    simp only [Option.some.injEq, Prod.mk.injEq] at H
    obtain ⟨rfl, rfl, rfl⟩ := H
    go_enter Try.func22, Try.ntmps22
    go_wp2
    go_ret3
    exact ⟨by first | rfl | (simp [errW_none, errW_some] <;> rfl) | (simp only [← hji3, ← hji4, ← hji5]; first | rfl | (simp [errW_none, errW_some] <;> rfl)) | (simp [*, errW_none, errW_some] <;> rfl), by repeat (first | (with_reducible first | exact HB.out | apply below_alloc | apply pw_below_drewN | apply below_drew1) | exact HB.out)⟩

end Go.Proofs.Ytliafeandefocaa.P
