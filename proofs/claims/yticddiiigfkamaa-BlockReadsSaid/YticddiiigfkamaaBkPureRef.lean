/- The document's Short and Common, and the order of strings, in plain Lean. No conditions. -/
import Derived.Test.YticddiiigfkamaaPrickyardref09Common
import Derived.Test.YticddiiigfkamaaPrickyardref04Short
import Derived.Test.YticddiiigfkamaaBkSpec
namespace Go.Proofs.Yticddiiigfkamaa.Pure
open Go.RowKit Go.Proofs.Yticddiiigfkamaa.P Go.Proofs.YticddiiigfkamaaW.PrintWords Go.Proofs.YticddiiigfkamaaW.PrintLast
set_option linter.unusedVariables false
set_option linter.unusedSimpArgs false

theorem refShort_f (n : Nat) (h : n < 16384) (k : Nat) : rickyardref04_Short.f (k + 2) (n : Int) = some (shortL n) := by
  rw [rickyardref04_Short.f]
  unfold shortL
  by_cases h1 : n < 128
  · rw [if_pos (by omega), if_pos (by decide), if_pos h1, show ((n : Int) % 256) = n by omega]; rfl
  · have e1 : (IntKind.u64.wrap (Int.tmod (n : Int) 128 + 128)) % 256 = ((n % 128 + 128 : Nat) : Int) := by
      rw [Int.tmod_eq_emod_of_nonneg (by omega), IntWalk.u64_in _ (by omega)]; omega
    have e2 : IntKind.u64.wrap (Int.tdiv (n : Int) 128) = ((n / 128 : Nat) : Int) := by
      rw [Int.tdiv_eq_ediv_of_nonneg (by omega), IntWalk.u64_in _ (by omega)]; omega
    rw [if_neg (by omega), if_pos (by decide), if_neg h1, e1, e2]
    simp only [Option.bind_some]
    rw [rickyardref04_Short.f, if_pos (by omega), if_pos (by decide)]
    simp only [Option.bind_some]
    rw [if_pos (by simp), show ((n / 128 : Nat) : Int) % 256 = ((n / 128 : Nat) : Int) by omega]
    rfl
theorem w64_1 (n : Nat) (h : n < 9223372036854775806) : wrap64 (1 + (n : Int)) = ((n + 1 : Nat) : Int) := by unfold wrap64; omega
theorem refCommon_f : ∀ (a b : List Int) (k : Nat), a.length ≤ 9223372036854775806 → a.length < k → rickyardref09_Common.f k a b = some ((cmn a b : Nat) : Int)
  | a, b, 0, _, h => absurd h (Nat.not_lt_zero _)
  | [], b, k + 1, _, _ => by rw [rickyardref09_Common.f, if_pos (by simp)]; simp [cmn]
  | x :: a, [], k + 1, _, _ => by rw [rickyardref09_Common.f, if_neg (by simp only [List.length_cons]; omega), if_pos (by simp)]; simp [cmn]
  | x :: a, y :: b, k + 1, ha, hk => by
    simp only [List.length_cons] at ha hk
    have ih := refCommon_f a b k (by omega) (by omega)
    have hc := (cmn_le a b).1
    rw [rickyardref09_Common.f, if_neg (by simp only [List.length_cons]; omega), if_neg (by simp only [List.length_cons]; omega), if_pos (by simp only [List.length_cons]; omega), if_pos (by simp only [List.length_cons]; omega)]
    show (if x = y then _ else _) = _
    rw [cmn]
    by_cases h : x = y
    · rw [if_pos h, if_pos h, if_pos (by simp only [List.length_cons]; omega), if_pos (by simp only [List.length_cons]; omega)]
      show ((rickyardref09_Common.f k a b).bind _) = _
      rw [ih]
      simp only [Option.bind_some]
      rw [w64_1 _ (by omega)]
    · rw [if_neg h, if_neg h]; rfl
theorem less_cmpL : ∀ (a b : List UInt8), Op.bytesLess a b = decide (Lib.compareBytes a b < 0)
  | [], [] => rfl
  | [], _ :: _ => rfl
  | _ :: _, [] => rfl
  | a :: x, b :: y => by
    rw [Op.bytesLess, Lib.compareBytes, less_cmpL x y]
    by_cases h : a < b
    · rw [if_pos h]; simp [h]
    · rw [if_neg h]
      by_cases h2 : b < a
      · rw [if_pos h2]
        have : a ≠ b := by rintro rfl; exact h h2
        simp [h, this]
      · rw [if_neg h2]
        have : a = b := UInt8.le_antisymm (UInt8.not_lt.1 h2) (UInt8.not_lt.1 h)
        simp [h, this]
theorem less_cmp (a b : List Int) : Op.bytesLess (strOfNums a).toList (strOfNums b).toList = decide (cmpI a b < 0) := by
  rw [less_cmpL, Go.Lib.strOfNums_toList, Go.Lib.strOfNums_toList]
  rfl
end Go.Proofs.Yticddiiigfkamaa.Pure
