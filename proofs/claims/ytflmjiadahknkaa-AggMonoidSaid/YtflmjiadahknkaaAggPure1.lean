/- What agg's functions compute, in plain Lean: 'alive' is true; Right and Merge always answer. No conditions. -/
import Derived.Test.YtflmjiadahknkaaPrickyardlaw02alive
import Derived.Test.YtflmjiadahknkaaPaggRight
import Derived.Test.YtflmjiadahknkaaEMergeD
namespace Go.Proofs.Ytflmjiadahknkaa.Pure
open Go.RowKit Go.Proofs.Ytflmjiadahknkaa.P Go.Proofs.YtflmjiadahknkaaW.PrintWords Go.Proofs.YtflmjiadahknkaaW.PrintLast
set_option linter.unusedVariables false
set_option linter.unusedSimpArgs false

theorem alive02_60 : rickyardlaw02_alive.f 60 = some true := by decide +kernel
theorem alive02_f (k : Nat) (hk : 60 ≤ k) : rickyardlaw02_alive.f k = some true := by
  obtain ⟨d, rfl⟩ := Nat.exists_eq_add_of_le hk
  clear hk
  induction d with
  | zero => exact alive02_60
  | succ d ih => exact rickyardlaw02_alive.mono (60 + d) _ ih

abbrev AggT := Int × Bool × Int × Int × Int × Int
/-- What may be known. -/
def RightP (n : Int) (o : Bool) (x y a b : Int) : Prop := (n = 0 ∧ o = false ∧ x = 0 ∧ y = 0 ∧ a = 0 ∧ b = 0) ∨ (n ≠ 0 ∧ a ≤ b ∧ (o = true → n = 18446744073709551615))
theorem right_f (n : Int) (o : Bool) (x y a b : Int) : ∃ r, agg_Right.f n o x y a b = some r ∧ (r = true ↔ RightP n o x y a b) := by
  unfold agg_Right.f RightP
  by_cases h : n = 0
  · rw [if_pos h]
    subst h
    refine ⟨_, rfl, ?_⟩
    cases o <;> simp [and_assoc]
  · rw [if_neg h]
    by_cases h1 : a ≤ b
    · rw [if_pos h1]
      cases o with
      | true => exact ⟨_, rfl, by simp [h, h1]⟩
      | false => exact ⟨_, rfl, by simp [h, h1]⟩
    · rw [if_neg h1]
      exact ⟨_, rfl, by simp [h, h1]⟩
theorem wide_f {x0 y0 x1 y1 : Int} (h0 : 0 ≤ y0 ∧ y0 < 18446744073709551616) (h1 : 0 ≤ y1 ∧ y1 < 18446744073709551616) : wide_Add.f x0 y0 x1 y1 = some (addHi x0 y0 x1 y1, addLo y0 y1) := by
  unfold wide_Add.f
  rw [if_pos ⟨h0.1, h0.2, h1.1, h1.2⟩]
theorem wf_u64 {y : Int} (h : (Lit.int .u64 y).wf = true) : 0 ≤ y ∧ y < 18446744073709551616 := by
  simp [Lit.wf, IntKind.min, IntKind.max, IntKind.signed, IntKind.bits] at h
  omega
/-- Merge of two that both have facts. -/
def mergeT (n0 : Int) (o0 : Bool) (x0 y0 a0 b0 n1 : Int) (o1 : Bool) (x1 y1 a1 b1 : Int) : AggT :=
  if n0 = 0 then (n1, o1, x1, y1, a1, b1) else if n1 = 0 then (n0, o0, x0, y0, a0, b0) else mergeS n0 o0 a0 b0 n1 o1 a1 b1 (addHi x0 y0 x1 y1, addLo y0 y1)
theorem merge_f {n0 : Int} {o0 : Bool} {x0 y0 a0 b0 n1 : Int} {o1 : Bool} {x1 y1 a1 b1 : Int} (h0 : 0 ≤ y0 ∧ y0 < 18446744073709551616) (h1 : 0 ≤ y1 ∧ y1 < 18446744073709551616) :
    agg_Merge.f n0 o0 x0 y0 a0 b0 n1 o1 x1 y1 a1 b1 = some (mergeT n0 o0 x0 y0 a0 b0 n1 o1 x1 y1 a1 b1) := by
  unfold agg_Merge.f mergeT
  rw [wide_f h0 h1]
  split
  · rfl
  · split <;> rfl

end Go.Proofs.Ytflmjiadahknkaa.Pure
