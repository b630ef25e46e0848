/- 'a > b' of strings, told as 'b < a'. No conditions. -/
import Derived.Test.YtihdomhiiolojaaPx0
namespace Go.Proofs.Ytihdomhiiolojaa.P
open Go.RowKit

theorem bytesLess_gt : ∀ x y : List UInt8, (!(Op.bytesLess x y || x == y)) = Op.bytesLess y x
  | [], [] => rfl
  | [], b :: y => rfl
  | a :: x, [] => rfl
  | a :: x, b :: y => by
    have ih := bytesLess_gt x y
    simp only [Op.bytesLess]
    by_cases h : a = b
    · subst h
      have h1 : decide (a < a) = false := decide_eq_false (UInt8.lt_irrefl a)
      have h2 : (a :: x == a :: y) = (x == y) := by simp
      rw [h1, h2]
      simpa using ih
    · have h3 : (a :: x == b :: y) = false := by simp [h]
      have h4 : (a == b) = false := by simp [h]
      have h5 : (b == a) = false := beq_eq_false_iff_ne.2 (fun e => h e.symm)
      rw [h3, h4, h5]
      by_cases h6 : a < b
      · have h7 : decide (b < a) = false := decide_eq_false (fun h8 => UInt8.lt_asymm h6 h8)
        rw [decide_eq_true h6, h7]; rfl
      · have h7 : b < a := by
          rcases UInt8.lt_or_lt_of_ne h with h8 | h8
          · exact absurd h8 h6
          · exact h8
        rw [decide_eq_false h6, decide_eq_true h7]; rfl
theorem gtr_run {P : Program} (t : TypeId) (a b : ByteArray) (w : World) : (binOp .gtr t (.string a) (.string b)).run P w = .ok (.bool (Op.bytesLess b.toList a.toList)) w := by
  rw [← bytesLess_gt]
  simp [binOp, Op.stringOp]
end Go.Proofs.Ytihdomhiiolojaa.P
