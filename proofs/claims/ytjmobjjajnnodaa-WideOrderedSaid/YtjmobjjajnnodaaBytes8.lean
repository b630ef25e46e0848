/- A number of 128 digits and its sixteen bytes, as the code and as the reference tell them. No conditions. -/
import Derived.Test.YtjmobjjajnnodaaEWideRead
import Derived.Test.YtjmobjjajnnodaaEWrite
import Derived.Test.YtjmobjjajnnodaaERefWrite
namespace Go.Proofs.Ytjmobjjajnnodaa.P
open Go.RowKit Go.Proofs.YtjmobjjajnnodaaW.PrintWords Go.Proofs.YtjmobjjajnnodaaW.PrintLast Go.Proofs.YtjmobjjajnnodaaW.PrintMore
set_option linter.unusedVariables false
set_option linter.unusedSimpArgs false

theorem bdig_hi (l : List Int) : acc8 (fun j => bdig l (8 + j)) 8 = accB l 0 8 := by
  simp only [acc8, accB, bdig]
theorem bdig_lo (l : List Int) : acc8 (bdig l) 8 = accB l 8 8 := by
  simp only [acc8, accB, bdig]
theorem read_same (l : List Int) : rickyardref01_Read.f l = wide_Read.f l := by
  unfold rickyardref01_Read.f wide_Read.f
  rw [bdig_hi, bdig_lo]

/-- Eight bytes of a number, the greatest first. -/
def e8 (n : Nat) : List Int := (List.range 8).map fun j => ((n / 256 ^ (7 - j) % 256 : Nat) : Int)
theorem e8_lit (n : Nat) : e8 n = [((n / 72057594037927936 % 256 : Nat) : Int), ((n / 281474976710656 % 256 : Nat) : Int), ((n / 1099511627776 % 256 : Nat) : Int), ((n / 4294967296 % 256 : Nat) : Int), ((n / 16777216 % 256 : Nat) : Int), ((n / 65536 % 256 : Nat) : Int), ((n / 256 % 256 : Nat) : Int), ((n % 256 : Nat) : Int)] := by
  have e : e8 n = [((n / 256 ^ 7 % 256 : Nat) : Int), ((n / 256 ^ 6 % 256 : Nat) : Int), ((n / 256 ^ 5 % 256 : Nat) : Int), ((n / 256 ^ 4 % 256 : Nat) : Int), ((n / 256 ^ 3 % 256 : Nat) : Int), ((n / 256 ^ 2 % 256 : Nat) : Int), ((n / 256 ^ 1 % 256 : Nat) : Int), ((n / 256 ^ 0 % 256 : Nat) : Int)] := rfl
  rw [e]
  simp
theorem e8_len (n : Nat) : (e8 n).length = 8 := by simp [e8]
theorem cons_eq {a b : Int} {l m : List Int} (h : a = b) (k : l = m) : a :: l = b :: m := by rw [h, k]
theorem wl_e8 (a0 a1 : Int) (h0 : 0 ≤ a1) (h1 : a1 < 18446744073709551616) : wl a0 a1 8 = e8 (IntKind.u64.wrap a0).toNat ++ e8 a1.toNat := by
  have hw : wl a0 a1 8 = [a0 / 72057594037927936 % 256, a0 / 281474976710656 % 256, a0 / 1099511627776 % 256, a0 / 4294967296 % 256, a0 / 16777216 % 256, a0 / 65536 % 256, a0 / 256 % 256, a0 / 1 % 256, a1 / 72057594037927936 % 256, a1 / 281474976710656 % 256, a1 / 1099511627776 % 256, a1 / 4294967296 % 256, a1 / 16777216 % 256, a1 / 65536 % 256, a1 / 256 % 256, a1 / 1 % 256] := rfl
  have hx : 0 ≤ IntKind.u64.wrap a0 ∧ IntKind.u64.wrap a0 < 18446744073709551616 := by rw [IntKind.wrap_u64]; omega
  have hxe : ∃ q : Int, a0 = IntKind.u64.wrap a0 + q * 18446744073709551616 := ⟨a0 / 18446744073709551616, by rw [IntKind.wrap_u64]; omega⟩
  rw [hw, e8_lit, e8_lit]
  obtain ⟨q, hq⟩ := hxe
  generalize IntKind.u64.wrap a0 = X at hx hq
  subst hq
  obtain ⟨N, rfl⟩ := Int.eq_ofNat_of_zero_le hx.1
  obtain ⟨M, rfl⟩ := Int.eq_ofNat_of_zero_le h0
  rw [Int.toNat_natCast, Int.toNat_natCast]
  refine cons_eq (by omega) (cons_eq (by omega) (cons_eq (by omega) (cons_eq (by omega) (cons_eq (by omega) (cons_eq (by omega) (cons_eq (by omega) (cons_eq (by omega) ?_)))))))
  refine cons_eq (by omega) (cons_eq (by omega) (cons_eq (by omega) (cons_eq (by omega) (cons_eq (by omega) (cons_eq (by omega) (cons_eq (by omega) (cons_eq (by omega) rfl)))))))
theorem ref_e8 (a0 a1 : Int) (h0 : 0 ≤ a1) (h1 : a1 < 18446744073709551616) : refBytes (big a0 a1) 16 = e8 (IntKind.u64.wrap a0).toNat ++ e8 a1.toNat := by
  have hw : refBytes (big a0 a1) 16 = [(dg (big a0 a1) 15 : Int), (dg (big a0 a1) 14 : Int), (dg (big a0 a1) 13 : Int), (dg (big a0 a1) 12 : Int), (dg (big a0 a1) 11 : Int), (dg (big a0 a1) 10 : Int), (dg (big a0 a1) 9 : Int), (dg (big a0 a1) 8 : Int), (dg (big a0 a1) 7 : Int), (dg (big a0 a1) 6 : Int), (dg (big a0 a1) 5 : Int), (dg (big a0 a1) 4 : Int), (dg (big a0 a1) 3 : Int), (dg (big a0 a1) 2 : Int), (dg (big a0 a1) 1 : Int), (dg (big a0 a1) 0 : Int)] := rfl
  have hx : 0 ≤ IntKind.u64.wrap a0 ∧ IntKind.u64.wrap a0 < 18446744073709551616 := by rw [IntKind.wrap_u64]; omega
  rw [hw, e8_lit, e8_lit]
  unfold dg big bigOf
  generalize IntKind.u64.wrap a0 = X at hx
  obtain ⟨N, rfl⟩ := Int.eq_ofNat_of_zero_le hx.1
  obtain ⟨M, rfl⟩ := Int.eq_ofNat_of_zero_le h0
  rw [Int.toNat_natCast, Int.toNat_natCast]
  have hM : M < 18446744073709551616 := by omega
  have hN : N < 18446744073709551616 := by omega
  clear hx h0 h1
  simp only [Nat.reducePow]
  refine cons_eq (by omega) (cons_eq (by omega) (cons_eq (by omega) (cons_eq (by omega) (cons_eq (by omega) (cons_eq (by omega) (cons_eq (by omega) (cons_eq (by omega) ?_)))))))
  refine cons_eq (by omega) (cons_eq (by omega) (cons_eq (by omega) (cons_eq (by omega) (cons_eq (by omega) (cons_eq (by omega) (cons_eq (by omega) (cons_eq (by omega) rfl)))))))
theorem write_same (a0 a1 : Int) (h0 : 0 ≤ a1) (h1 : a1 < 18446744073709551616) : rickyardref01_Write.f a0 a1 = wide_Write.f a0 a1 := by
  unfold rickyardref01_Write.f wide_Write.f
  rw [if_pos ⟨h0, h1⟩, wl_e8 a0 a1 h0 h1, ref_e8 a0 a1 h0 h1]

end Go.Proofs.Ytjmobjjajnnodaa.P
