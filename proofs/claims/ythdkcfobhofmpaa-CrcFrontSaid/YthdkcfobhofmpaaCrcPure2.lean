/- All frames at a text's front, as a plain function. Plain Lean. -/
import Derived.Test.YthdkcfobhofmpaaCrcPure1
namespace Go.Proofs.Ythdkcfobhofmpaa.Pure
open Go.RowKit Go.Proofs.Ythdkcfobhofmpaa.P Go.Proofs.YthdkcfobhofmpaaW.PrintWords Go.Proofs.YthdkcfobhofmpaaW.PrintLast
set_option linter.unusedVariables false
set_option linter.unusedSimpArgs false

theorem nextS_ok {l d : List Int} {n : Int} (hl : IsBytes l) (h : nextS l = (d, n, 0)) : 8 ≤ n ∧ n ≤ l.length ∧ (d.length : Int) + 8 = n ∧ IsBytes d := by
  unfold nextS at h
  have hr := num4_range hl
  by_cases h1 : l.length < 4
  · rw [if_pos h1] at h; simp at h
  · rw [if_neg h1] at h
    by_cases h2 : 65535 < num4 l
    · rw [if_pos h2] at h; simp at h
    · rw [if_neg h2] at h
      by_cases h3 : (l.length : Int) < num4 l + 8
      · rw [if_pos h3] at h; simp at h
      · rw [if_neg h3] at h
        by_cases h4 : num4 (l.drop ((num4 l).toNat + 4)) = sumOf (l.take ((num4 l).toNat + 4))
        · rw [if_pos h4] at h
          simp only [Prod.mk.injEq, and_true] at h
          obtain ⟨rfl, rfl⟩ := h
          refine ⟨by omega, by omega, ?_, (hl.take _).drop _⟩
          simp only [List.length_drop, List.length_take]
          omega
        · rw [if_neg h4] at h; simp at h
theorem nextS_bad {l d : List Int} {n e : Int} (h : nextS l = (d, n, e)) (he : e ≠ 0) : d = [] ∧ n = 0 := by
  unfold nextS at h
  repeat' split at h
  all_goals (simp only [Prod.mk.injEq] at h; obtain ⟨rfl, rfl, rfl⟩ := h)
  all_goals first | exact ⟨rfl, rfl⟩ | exact absurd rfl he

/-- From place at on, what has come being out. -/
def allN : Nat → List Int → Nat → List (List Int) → List (List Int) × Nat
  | 0, _, at_, out => (out, at_)
  | k + 1, l, at_, out => if (nextS (l.drop at_)).2.2 = 0 then allN k l (at_ + (nextS (l.drop at_)).2.1.toNat) (out ++ [(nextS (l.drop at_)).1]) else (out, at_)
def allS (l : List Int) : List (List Int) × Nat := allN (l.length + 1) l 0 []

theorem allN_stop (l : List Int) (at_ : Nat) (out : List (List Int)) (h : (nextS (l.drop at_)).2.2 ≠ 0) (k : Nat) : allN k l at_ out = (out, at_) := by
  cases k with
  | zero => rfl
  | succ k => unfold allN; rw [if_neg h]
/-- More rounds tell the same. -/
theorem allN_fuel (l : List Int) : ∀ (k j at_ : Nat) (out : List (List Int)), l.length - at_ + 1 ≤ k → l.length - at_ + 1 ≤ j → IsBytes l → at_ ≤ l.length → allN k l at_ out = allN j l at_ out := by
  intro k
  induction k with
  | zero => intro j at_ out h1 _ _ _; omega
  | succ k ih =>
    intro j at_ out h1 h2 hl ha
    obtain ⟨j, rfl⟩ : ∃ i, j = i + 1 := ⟨j - 1, by omega⟩
    unfold allN
    by_cases he : (nextS (l.drop at_)).2.2 = 0
    · rw [if_pos he, if_pos he]
      have hok := nextS_ok (hl.drop at_) (show nextS (l.drop at_) = ((nextS (l.drop at_)).1, (nextS (l.drop at_)).2.1, 0) by rw [← he])
      rw [List.length_drop] at hok
      exact ih j _ _ (by omega) (by omega) hl (by omega)
    · rw [if_neg he, if_neg he]

instance (l : List Int) : Decidable (IsBytes l) := by unfold IsBytes; infer_instance

end Go.Proofs.Ythdkcfobhofmpaa.Pure
