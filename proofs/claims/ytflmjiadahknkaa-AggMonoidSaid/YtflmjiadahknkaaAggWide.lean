/- Numbers modulo 2^128 as pairs, for agg. No conditions. -/
import Derived.Test.YtflmjiadahknkaaEAdd
import Derived.Test.YtflmjiadahknkaaPwideOf
namespace Go.Proofs.Ytflmjiadahknkaa.P
open Go.RowKit Go.Proofs.YtflmjiadahknkaaW.PrintWords Go.Proofs.YtflmjiadahknkaaW.PrintLast Go.Proofs.YtflmjiadahknkaaW.PrintMore
set_option linter.unusedVariables false
set_option linter.unusedSimpArgs false

theorem of_wf_i64 {v : Int} (h : (Lit.int .i64 v).wf = true) : -9223372036854775808 ≤ v ∧ v < 9223372036854775808 := by
  simp only [Lit.wf, Bool.and_eq_true, decide_eq_true_eq] at h
  have h1 : IntKind.i64.min = -9223372036854775808 := by decide
  have h2 : IntKind.i64.max = 9223372036854775807 := by decide
  omega
theorem of_wf_u64 {v : Int} (h : (Lit.int .u64 v).wf = true) : 0 ≤ v ∧ v < 18446744073709551616 := by
  simp only [Lit.wf, Bool.and_eq_true, decide_eq_true_eq] at h
  have h1 : IntKind.u64.min = 0 := by decide
  have h2 : IntKind.u64.max = 18446744073709551615 := by decide
  omega
theorem of_wf_u8 {v : Int} (h : (Lit.int .u8 v).wf = true) : 0 ≤ v ∧ v < 256 := by
  simp only [Lit.wf, Bool.and_eq_true, decide_eq_true_eq] at h
  have h1 : IntKind.u8.min = 0 := by decide
  have h2 : IntKind.u8.max = 255 := by decide
  omega

/-- The pair of halves of a whole number. -/
def mkHi (n : Int) : Int := wrap64 (n / 18446744073709551616)
def mkLo (n : Int) : Int := n % 18446744073709551616
def vl (hi lo : Int) : Int := hi * 18446744073709551616 + lo
theorem mkLo_nn (n : Int) : 0 ≤ mkLo n := by unfold mkLo; omega
theorem mkLo_lt (n : Int) : mkLo n < 18446744073709551616 := by unfold mkLo; omega
theorem mkHi_ge (n : Int) : -9223372036854775808 ≤ mkHi n := by unfold mkHi wrap64; omega
theorem mkHi_lt (n : Int) : mkHi n < 9223372036854775808 := by unfold mkHi wrap64; omega
/-- Of a number within the bounds the pair tells all. -/
theorem vl_mk (n : Int) (h : -170141183460469231731687303715884105728 ≤ n) (h' : n < 170141183460469231731687303715884105728) : vl (mkHi n) (mkLo n) = n := by
  unfold vl mkHi mkLo wrap64; omega
theorem vl_mk_mod (n : Int) : ∃ q : Int, vl (mkHi n) (mkLo n) = n + q * 340282366920938463463374607431768211456 := by
  refine ⟨(vl (mkHi n) (mkLo n) - n) / 340282366920938463463374607431768211456, ?_⟩
  unfold vl mkHi mkLo wrap64; omega
theorem mk_mod (n m q : Int) (h : m = n + q * 340282366920938463463374607431768211456) : mkHi m = mkHi n ∧ mkLo m = mkLo n := by
  subst h; unfold mkHi mkLo wrap64; omega
theorem mk_vl (hi lo : Int) (h0 : 0 ≤ lo) (h1 : lo < 18446744073709551616) (h2 : -9223372036854775808 ≤ hi) (h3 : hi < 9223372036854775808) : mkHi (vl hi lo) = hi ∧ mkLo (vl hi lo) = lo := by
  unfold vl mkHi mkLo wrap64; omega
theorem mk_inj (n m : Int) (h : mkHi n = mkHi m) (h' : mkLo n = mkLo m) : ∃ q : Int, m = n + q * 340282366920938463463374607431768211456 := by
  refine ⟨(m - n) / 340282366920938463463374607431768211456, ?_⟩
  unfold mkHi mkLo wrap64 at *; omega

theorem add_mk (a0 a1 b0 b1 : Int) (h1 : 0 ≤ a1) (h2 : a1 < 18446744073709551616) (h3 : 0 ≤ b1) (h4 : b1 < 18446744073709551616) :
    addHi a0 a1 b0 b1 = mkHi (vl a0 a1 + vl b0 b1) ∧ addLo a1 b1 = mkLo (vl a0 a1 + vl b0 b1) := by
  unfold addHi addLo sumHi sumLo sumCy mkHi mkLo vl wrap64
  simp only [IntKind.wrap_u64]
  omega
theorem add_f (a0 a1 b0 b1 : Int) (h1 : 0 ≤ a1) (h2 : a1 < 18446744073709551616) (h3 : 0 ≤ b1) (h4 : b1 < 18446744073709551616) :
    wide_Add.f a0 a1 b0 b1 = some (mkHi (vl a0 a1 + vl b0 b1), mkLo (vl a0 a1 + vl b0 b1)) := by
  unfold wide_Add.f
  rw [if_pos ⟨h1, h2, h3, h4⟩, (add_mk a0 a1 b0 b1 h1 h2 h3 h4).1, (add_mk a0 a1 b0 b1 h1 h2 h3 h4).2]
/-- The sum of two numbers modulo 2^128. -/
theorem add_mk_mk (n m : Int) : wide_Add.f (mkHi n) (mkLo n) (mkHi m) (mkLo m) = some (mkHi (n + m), mkLo (n + m)) := by
  rw [add_f _ _ _ _ (mkLo_nn _) (mkLo_lt _) (mkLo_nn _) (mkLo_lt _)]
  obtain ⟨q, hq⟩ := vl_mk_mod n
  obtain ⟨p, hp⟩ := vl_mk_mod m
  have := mk_mod (n + m) (vl (mkHi n) (mkLo n) + vl (mkHi m) (mkLo m)) (q + p) (by rw [hq, hp, Int.add_mul]; omega)
  rw [this.1, this.2]

theorem of_f (v : Int) (h : -9223372036854775808 ≤ v) (h' : v < 9223372036854775808) : wide_Of.f v = some (mkHi v, mkLo v) := by
  unfold wide_Of.f mkHi mkLo wrap64
  rw [IntKind.wrap_u64]
  have : v / 9223372036854775808 = (v / 18446744073709551616 + 9223372036854775808) % 18446744073709551616 - 9223372036854775808 := by omega
  rw [this]

end Go.Proofs.Ytflmjiadahknkaa.P
