/- What the code's numbers of 128 digits are: whole numbers modulo 2^128. Plain Lean over the printed functions. -/
import Derived.Test.YtjmobjjajnnodaaEAdd
import Derived.Test.YtjmobjjajnnodaaEPrint
import Derived.Test.YtjmobjjajnnodaaPwideOf
import Derived.Test.YtjmobjjajnnodaaPwideCmp
import Derived.Test.YtjmobjjajnnodaaPwideTimes
import Derived.Test.YtjmobjjajnnodaaPbitsMul64
import Derived.Test.YtjmobjjajnnodaaPwideParse
import Derived.Test.YtjmobjjajnnodaaPrickyardlaw01alive
import Derived.Lib.Mul64
import Derived.Laws.Bits64b
namespace Go.Proofs.Ytjmobjjajnnodaa.P
open Go.RowKit Go.Proofs.YtjmobjjajnnodaaW.PrintWords Go.Proofs.YtjmobjjajnnodaaW.PrintLast Go.Proofs.YtjmobjjajnnodaaW.PrintMore
set_option linter.unusedVariables false
set_option linter.unusedSimpArgs false

theorem of_wf_i64 {v : Int} (h : (Lit.int .i64 v).wf = true) : -9223372036854775808 ≤ v ∧ v < 9223372036854775808 := by
  simp only [Lit.wf, Bool.and_eq_true, decide_eq_true_eq] at h
  have h1 : IntKind.i64.min = -9223372036854775808 := by decide
  have h2 : IntKind.i64.max = 9223372036854775807 := by decide
  omega
theorem of_wf_u64 {v : Int} (h : (Lit.int .u64 v).wf = true) : 0 ≤ v ∧ v < 18446744073709551616 := by
  simp only [Lit.wf, Bool.and_eq_true, decide_eq_true_eq] at h
  have h1 : IntKind.u64.min = 0 := by decide
  have h2 : IntKind.u64.max = 18446744073709551615 := by decide
  omega
theorem of_wf_u8 {v : Int} (h : (Lit.int .u8 v).wf = true) : 0 ≤ v ∧ v < 256 := by
  simp only [Lit.wf, Bool.and_eq_true, decide_eq_true_eq] at h
  have h1 : IntKind.u8.min = 0 := by decide
  have h2 : IntKind.u8.max = 255 := by decide
  omega

/-- The pair of halves of a whole number. -/
def mkHi (n : Int) : Int := wrap64 (n / 18446744073709551616)
def mkLo (n : Int) : Int := n % 18446744073709551616
def vl (hi lo : Int) : Int := hi * 18446744073709551616 + lo
theorem mkLo_nn (n : Int) : 0 ≤ mkLo n := by unfold mkLo; omega
theorem mkLo_lt (n : Int) : mkLo n < 18446744073709551616 := by unfold mkLo; omega
theorem mkHi_ge (n : Int) : -9223372036854775808 ≤ mkHi n := by unfold mkHi wrap64; omega
theorem mkHi_lt (n : Int) : mkHi n < 9223372036854775808 := by unfold mkHi wrap64; omega
/-- Of a number within the bounds the pair tells all. -/
theorem vl_mk (n : Int) (h : -170141183460469231731687303715884105728 ≤ n) (h' : n < 170141183460469231731687303715884105728) : vl (mkHi n) (mkLo n) = n := by
  unfold vl mkHi mkLo wrap64; omega
theorem vl_mk_mod (n : Int) : ∃ q : Int, vl (mkHi n) (mkLo n) = n + q * 340282366920938463463374607431768211456 := by
  refine ⟨(vl (mkHi n) (mkLo n) - n) / 340282366920938463463374607431768211456, ?_⟩
  unfold vl mkHi mkLo wrap64; omega
theorem mk_mod (n m q : Int) (h : m = n + q * 340282366920938463463374607431768211456) : mkHi m = mkHi n ∧ mkLo m = mkLo n := by
  subst h; unfold mkHi mkLo wrap64; omega
theorem mk_vl (hi lo : Int) (h0 : 0 ≤ lo) (h1 : lo < 18446744073709551616) (h2 : -9223372036854775808 ≤ hi) (h3 : hi < 9223372036854775808) : mkHi (vl hi lo) = hi ∧ mkLo (vl hi lo) = lo := by
  unfold vl mkHi mkLo wrap64; omega
theorem mk_inj (n m : Int) (h : mkHi n = mkHi m) (h' : mkLo n = mkLo m) : ∃ q : Int, m = n + q * 340282366920938463463374607431768211456 := by
  refine ⟨(m - n) / 340282366920938463463374607431768211456, ?_⟩
  unfold mkHi mkLo wrap64 at *; omega

theorem add_mk (a0 a1 b0 b1 : Int) (h1 : 0 ≤ a1) (h2 : a1 < 18446744073709551616) (h3 : 0 ≤ b1) (h4 : b1 < 18446744073709551616) :
    addHi a0 a1 b0 b1 = mkHi (vl a0 a1 + vl b0 b1) ∧ addLo a1 b1 = mkLo (vl a0 a1 + vl b0 b1) := by
  unfold addHi addLo sumHi sumLo sumCy mkHi mkLo vl wrap64
  simp only [IntKind.wrap_u64]
  omega
theorem add_f (a0 a1 b0 b1 : Int) (h1 : 0 ≤ a1) (h2 : a1 < 18446744073709551616) (h3 : 0 ≤ b1) (h4 : b1 < 18446744073709551616) :
    wide_Add.f a0 a1 b0 b1 = some (mkHi (vl a0 a1 + vl b0 b1), mkLo (vl a0 a1 + vl b0 b1)) := by
  unfold wide_Add.f
  rw [if_pos ⟨h1, h2, h3, h4⟩, (add_mk a0 a1 b0 b1 h1 h2 h3 h4).1, (add_mk a0 a1 b0 b1 h1 h2 h3 h4).2]
/-- The sum of two numbers modulo 2^128. -/
theorem add_mk_mk (n m : Int) : wide_Add.f (mkHi n) (mkLo n) (mkHi m) (mkLo m) = some (mkHi (n + m), mkLo (n + m)) := by
  rw [add_f _ _ _ _ (mkLo_nn _) (mkLo_lt _) (mkLo_nn _) (mkLo_lt _)]
  obtain ⟨q, hq⟩ := vl_mk_mod n
  obtain ⟨p, hp⟩ := vl_mk_mod m
  have := mk_mod (n + m) (vl (mkHi n) (mkLo n) + vl (mkHi m) (mkLo m)) (q + p) (by rw [hq, hp, Int.add_mul]; omega)
  rw [this.1, this.2]

theorem of_f (v : Int) (h : -9223372036854775808 ≤ v) (h' : v < 9223372036854775808) : wide_Of.f v = some (mkHi v, mkLo v) := by
  unfold wide_Of.f mkHi mkLo wrap64
  rw [IntKind.wrap_u64]
  have : v / 9223372036854775808 = (v / 18446744073709551616 + 9223372036854775808) % 18446744073709551616 - 9223372036854775808 := by omega
  rw [this]

theorem xor_i64 (x : Int) (h : -9223372036854775808 ≤ x) (h' : x < 9223372036854775808) : Go.bits .xor .i64 (-1) x = -1 - x := by
  have e1 : BitVec.ofInt 64 (-1) = BitVec.allOnes 64 := by decide
  have e2 : (BitVec.ofInt 64 x).toNat = (x % 18446744073709551616).toNat := by rw [BitVec.toNat_ofInt]; rfl
  show IntKind.i64.wrap ((BitVec.ofInt 64 (-1) ^^^ BitVec.ofInt 64 x).toNat : Int) = _
  rw [e1, BitVec.allOnes_xor, BitVec.toNat_not, e2]
  simp only [IntKind.wrap_i64]
  omega
theorem xor_u64 (x : Int) (h : 0 ≤ x) (h' : x < 18446744073709551616) : Go.bits .xor .u64 IntKind.u64.max x = 18446744073709551615 - x := by
  have e1 : BitVec.ofInt 64 (IntKind.u64.max) = BitVec.allOnes 64 := by decide
  have e2 : (BitVec.ofInt 64 x).toNat = (x % 18446744073709551616).toNat := by rw [BitVec.toNat_ofInt]; rfl
  show IntKind.u64.wrap ((BitVec.ofInt 64 (IntKind.u64.max) ^^^ BitVec.ofInt 64 x).toNat : Int) = _
  rw [e1, BitVec.allOnes_xor, BitVec.toNat_not, e2]
  simp only [IntKind.wrap_u64]
  omega

theorem neg_mk (a0 a1 : Int) (h1 : 0 ≤ a1) (h2 : a1 < 18446744073709551616) (h3 : -9223372036854775808 ≤ a0) (h4 : a0 < 9223372036854775808) :
    negHi a0 a1 = mkHi (-(vl a0 a1)) ∧ negLo a1 = mkLo (-(vl a0 a1)) := by
  unfold negHi negLo notLo
  rw [xor_i64 a0 h3 h4, xor_u64 a1 h1 h2]
  have := add_mk (-1 - a0) (18446744073709551615 - a1) 0 1 (by omega) (by omega) (by omega) (by omega)
  rw [this.1, this.2]
  have e : vl (-1 - a0) (18446744073709551615 - a1) + vl 0 1 = -(vl a0 a1) := by unfold vl; omega
  rw [e]
  exact ⟨rfl, rfl⟩
theorem neg_f (a0 a1 : Int) (h1 : 0 ≤ a1) (h2 : a1 < 18446744073709551616) (h3 : -9223372036854775808 ≤ a0) (h4 : a0 < 9223372036854775808) :
    wide_Minus.f a0 a1 = some (mkHi (-(vl a0 a1)), mkLo (-(vl a0 a1))) := by
  unfold wide_Minus.f
  rw [(neg_mk a0 a1 h1 h2 h3 h4).1, (neg_mk a0 a1 h1 h2 h3 h4).2]
theorem neg_mk_mk (n : Int) : wide_Minus.f (mkHi n) (mkLo n) = some (mkHi (-n), mkLo (-n)) := by
  rw [neg_f _ _ (mkLo_nn _) (mkLo_lt _) (mkHi_ge _) (mkHi_lt _)]
  obtain ⟨q, hq⟩ := vl_mk_mod n
  have := mk_mod (-n) (-(vl (mkHi n) (mkLo n))) (-q) (by rw [hq, Int.neg_mul]; omega)
  rw [this.1, this.2]

theorem cmp_f (k : Nat) (a0 a1 b0 b1 : Int) (h1 : 0 ≤ a1) (h2 : a1 < 18446744073709551616) (h3 : 0 ≤ b1) (h4 : b1 < 18446744073709551616) :
    wide_Cmp.f (k + 1) a0 a1 b0 b1 = some (if vl a0 a1 < vl b0 b1 then -1 else if vl a0 a1 = vl b0 b1 then 0 else 1) := by
  unfold wide_Cmp.f
  simp only [wide_Cmp.j0, decide_eq_true_eq, Bool.and_eq_true, beq_iff_eq]
  unfold vl
  (repeat' split) <;> first | rfl | (exfalso; omega) | (exfalso; simp_all; done)

theorem mul64_f (x y : Nat) (hx : x < 18446744073709551616) (hy : y < 18446744073709551616) :
    bits_Mul64.f x y = some (((x * y / 18446744073709551616 : Nat) : Int), ((x * y % 18446744073709551616 : Nat) : Int)) := by
  obtain ⟨l1, l2, l3, l4⟩ := Go.Lib.mul64_hi x y hx hy
  have hl1 : (x % 4294967296) * (y % 4294967296) < 18446744073709551616 := l1
  have ex : Go.bits .and .u64 (x : Int) 4294967295 = ((x % 4294967296 : Nat) : Int) := by rw [bits_and_32 _ (by omega) (by omega)]; omega
  have ey : Go.bits .and .u64 (y : Int) 4294967295 = ((y % 4294967296 : Nat) : Int) := by rw [bits_and_32 _ (by omega) (by omega)]; omega
  have w1 : ∀ n : Nat, n < 18446744073709551616 → IntKind.u64.wrap (n : Int) = n := fun n h => wrap_u64_id _ (by omega) (by omega)
  have dx : (x : Int) / 4294967296 = ((x / 4294967296 : Nat) : Int) := by omega
  have dy : (y : Int) / 4294967296 = ((y / 4294967296 : Nat) : Int) := by omega
  unfold bits_Mul64.f
  rw [ex, ey, dx, dy]
  have b11 := Go.Lib.half_mul_le (a := x / 4294967296) (b := y / 4294967296) (by omega) (by omega)
  have b10 := Go.Lib.half_mul_le (a := x / 4294967296) (b := y % 4294967296) (by omega) (by omega)
  have b01 := Go.Lib.half_mul_le (a := x % 4294967296) (b := y / 4294967296) (by omega) (by omega)
  have b00 := Go.Lib.half_mul_le (a := x % 4294967296) (b := y % 4294967296) (by omega) (by omega)
  simp only [← Int.natCast_mul]
  rw [← l4]
  have exy : x * y % 18446744073709551616 = (x * y) % 18446744073709551616 := rfl
  generalize x * y = xy at *
  generalize (x / 4294967296) * (y / 4294967296) = p11 at *
  generalize (x / 4294967296) * (y % 4294967296) = p10 at *
  generalize (x % 4294967296) * (y / 4294967296) = p01 at *
  generalize (x % 4294967296) * (y % 4294967296) = p00 at *
  rw [w1 p11 (by omega), w1 p10 (by omega), w1 p01 (by omega), w1 p00 (by omega)]
  rw [show ((p10 : Int) + (p00 : Int) / 4294967296) = ((p10 + p00 / 4294967296 : Nat) : Int) from by omega, w1 _ l2, bits_and_32 _ (by omega) (by omega)]
  rw [show (((p10 + p00 / 4294967296 : Nat) : Int) % 4294967296 + (p01 : Int)) = (((p10 + p00 / 4294967296) % 4294967296 + p01 : Nat) : Int) from by omega, w1 _ l3]
  rw [show ((p11 : Int) + ((p10 + p00 / 4294967296 : Nat) : Int) / 4294967296) = ((p11 + (p10 + p00 / 4294967296) / 4294967296 : Nat) : Int) from by omega, w1 _ (by omega)]
  rw [show (((p11 + (p10 + p00 / 4294967296) / 4294967296 : Nat) : Int) + (((p10 + p00 / 4294967296) % 4294967296 + p01 : Nat) : Int) / 4294967296) = ((p11 + (p10 + p00 / 4294967296) / 4294967296 + ((p10 + p00 / 4294967296) % 4294967296 + p01) / 4294967296 : Nat) : Int) from by omega, w1 _ (by rw [l4]; omega)]
  rw [IntKind.wrap_u64]
  simp

/-- A product is the product modulo 2^128. -/
theorem times_f (v n : Int) (hv : -9223372036854775808 ≤ v) (hv' : v < 9223372036854775808) (hn : 0 ≤ n) (hn' : n < 18446744073709551616) :
    wide_Times.f v n = some (mkHi (v * n), mkLo (v * n)) := by
  obtain ⟨N, rfl⟩ := Int.eq_ofNat_of_zero_le hn
  obtain ⟨u, hu⟩ : ∃ u : Nat, (u : Int) = v % 18446744073709551616 := ⟨(v % 18446744073709551616).toNat, by omega⟩
  have hu' : u < 18446744073709551616 := by omega
  have hN : N < 18446744073709551616 := by omega
  unfold wide_Times.f
  rw [IntKind.wrap_u64, ← hu, mul64_f u N hu' hN]
  simp only [Option.bind_some]
  have hlt : u * N / 18446744073709551616 < 18446744073709551616 := by
    have : u * N < 18446744073709551616 * 18446744073709551616 := Nat.mul_lt_mul'' hu' hN
    omega
  by_cases c : v < 0
  · rw [if_pos c]
    have e : v = (u : Int) - 18446744073709551616 := by omega
    have e2 : v * (N : Int) = ((u * N : Nat) : Int) - 18446744073709551616 * (N : Int) := by rw [e, Int.sub_mul, Int.natCast_mul]
    rw [e2]
    generalize u * N = P at *
    rw [IntKind.wrap_u64]
    unfold mkHi mkLo wrap64
    congr 2 <;> omega
  · rw [if_neg c]
    have e : v = (u : Int) := by omega
    have e2 : v * (N : Int) = ((u * N : Nat) : Int) := by rw [e, Int.natCast_mul]
    rw [e2]
    generalize u * N = P at *
    unfold mkHi mkLo wrap64
    congr 2 <;> omega

theorem alive01_parse : ∀ k, 60 ≤ k → wide_Parse.f k (⟨#[49, 56, 52, 52, 54, 55, 52, 52, 48, 55, 51, 55, 48, 57, 53, 53, 49, 54, 49, 54]⟩ : ByteArray) = some (1, 0, 0) := by
  intro k hk
  induction k with
  | zero => omega
  | succ k ih =>
    by_cases h : 60 ≤ k
    · exact wide_Parse.mono _ k _ (ih h)
    · obtain rfl : k = 59 := by omega
      decide +kernel
theorem dec15 : dec 15 = [49, 53] := by rw [dec_ge (by decide), dec_lt (by decide)]; rfl
theorem alive01_print : wide_Print.f (-1) 18446744073709551601 = some (strOfNums [45, 49, 53]) := by
  unfold wide_Print.f
  rw [if_pos (by decide)]
  have e : prOut (-1) 18446744073709551601 = [45, 49, 53] := by
    unfold prOut
    rw [if_pos (by decide), show prN (-1) 18446744073709551601 = 15 from by decide +kernel, dec15]
  rw [e]
theorem alive01_f (k : Nat) (hk : 60 ≤ k) : rickyardlaw01_alive.f k = some true := by
  unfold rickyardlaw01_alive.f
  rw [alive01_parse k hk]
  simp only [Option.bind_some]
  rw [show wide_Times.f (-3) 5 = some (-1, 18446744073709551601) from by decide +kernel]
  simp only [Option.bind_some]
  rw [alive01_print]
  simp only [Option.bind_some]
  rw [if_pos (by decide +kernel), if_pos trivial, if_pos (by decide)]
  rw [of_f (-1) (by decide) (by decide), of_f 1 (by decide) (by decide)]
  simp only [Option.bind_some]
  obtain ⟨j, rfl⟩ : ∃ j, k = j + 1 := ⟨k - 1, by omega⟩
  rw [cmp_f j _ _ _ _ (mkLo_nn _) (mkLo_lt _) (mkLo_nn _) (mkLo_lt _), vl_mk _ (by decide) (by decide), vl_mk _ (by decide) (by decide), if_pos (by decide)]
  rfl
end Go.Proofs.Ytjmobjjajnnodaa.P
