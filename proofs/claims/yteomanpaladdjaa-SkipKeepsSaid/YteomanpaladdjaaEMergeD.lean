/- agg.Merge: its contract, in the print's form. No conditions. -/
import Derived.Test.YteomanpaladdjaaEMergeC
namespace Go.Proofs.Yteomanpaladdjaa.P
open Go.RowKit Go.Proofs.YteomanpaladdjaaW.PrintWords Go.Proofs.YteomanpaladdjaaW.PrintLast Go.Proofs.YteomanpaladdjaaW.PrintMore
set_option linter.unusedVariables false
set_option linter.unusedSimpArgs false

theorem agg_Merge.calls (a0_0 : Int) (a0_1 : Bool) (a0_2 a0_3 a0_4 a0_5 : Int) (a1_0 : Int) (a1_1 : Bool) (a1_2 a1_3 a1_4 a1_5 : Int) (r1 : Int) (r2 : Bool) (r3 r4 r5 r6 : Int) (w : World) (h : agg_Merge.f a0_0 a0_1 a0_2 a0_3 a0_4 a0_5 a1_0 a1_1 a1_2 a1_3 a1_4 a1_5 = some (r1, r2, r3, r4, r5, r6)) :
    Calls Try.prog 15 #[.agg #[.int .u64 a0_0, .bool a0_1, .int .i64 a0_2, .int .u64 a0_3, .int .i64 a0_4, .int .i64 a0_5], .agg #[.int .u64 a1_0, .bool a1_1, .int .i64 a1_2, .int .u64 a1_3, .int .i64 a1_4, .int .i64 a1_5]] w fun e w' => e = .returned (.agg #[.int .u64 r1, .bool r2, .int .i64 r3, .int .u64 r4, .int .i64 r5, .int .i64 r6]) ∧ Below w.heap.size w w' := by
  unfold agg_Merge.f at h
  by_cases h0 : a0_0 = 0
  · rw [if_pos h0] at h
    cases h
    subst h0
    exact merge_zero0 _ _ _ _ _ _ _ _ _ _ _ w
  rw [if_neg h0] at h
  have e0 : (a0_0 == 0) = false := beq_eq_false_iff_ne.mpr h0
  by_cases h1 : a1_0 = 0
  · rw [if_pos h1] at h
    cases h
    subst h1
    exact merge_zero1 _ _ _ _ _ _ _ _ _ _ _ w e0
  rw [if_neg h1] at h
  have e1 : (a1_0 == 0) = false := beq_eq_false_iff_ne.mpr h1
  obtain ⟨⟨s1, s2⟩, hs, h⟩ := Option.bind_eq_some_iff.mp h
  have hm := Option.some.inj h
  have h3 : r3 = s1 ∧ r4 = s2 := by
    unfold mergeS at hm
    split at hm <;> (cases hm; exact ⟨rfl, rfl⟩)
  obtain ⟨rfl, rfl⟩ := h3
  cases a0_1 with
  | false => exact merge_plain _ _ _ _ _ _ _ _ _ _ _ _ _ _ _ _ _ w e0 e1 hs hm
  | true => exact merge_over _ _ _ _ _ _ _ _ _ _ _ _ _ _ _ _ _ w e0 e1 hs hm

end Go.Proofs.Yteomanpaladdjaa.P
