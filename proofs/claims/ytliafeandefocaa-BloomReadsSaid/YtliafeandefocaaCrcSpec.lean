/- The sum of chapter 5 on bit vectors, in plain Lean. No conditions. -/
import Derived.Test.YtliafeandefocaaPx0
namespace Go.Proofs.Ytliafeandefocaa.P
open Go.RowKit Go.Proofs.YtliafeandefocaaW.PrintWords Go.Proofs.YtliafeandefocaaW.PrintLast Go.Proofs.YtliafeandefocaaW.PrintMore
set_option linter.unusedVariables false
set_option linter.unusedSimpArgs false

/-- One turn of the register. -/
def cstep (c : BitVec 32) : BitVec 32 := if c.getLsbD 0 then (c >>> 1) ^^^ 2197175160#32 else c >>> 1
def cstepN : Nat → BitVec 32 → BitVec 32
  | 0, c => c
  | n + 1, c => cstepN n (cstep c)
def cupd (c : BitVec 32) (x : Int) : BitVec 32 := cstepN 8 (c ^^^ BitVec.ofInt 32 x)
def cfold (c : BitVec 32) (l : List Int) : BitVec 32 := l.foldl cupd c
def cmore (s : BitVec 32) (l : List Int) : BitVec 32 := ~~~ (cfold (~~~ s) l)
/-- A bit vector as the whole number that Go has. -/
def bvi (c : BitVec 32) : Int := (c.toNat : Int)

theorem bvi_lt (c : BitVec 32) : bvi c < 4294967296 := by have := c.isLt; unfold bvi; omega
theorem bvi_nonneg (c : BitVec 32) : 0 ≤ bvi c := by unfold bvi; omega
theorem ofInt_bvi (c : BitVec 32) : BitVec.ofInt 32 (bvi c) = c := by
  unfold bvi
  apply BitVec.eq_of_toNat_eq
  rw [BitVec.toNat_ofInt]
  have := c.isLt
  omega
theorem bvi_ofInt (x : Int) : bvi (BitVec.ofInt 32 x) = x % (4294967296 : Int) := by
  unfold bvi
  rw [BitVec.toNat_ofInt]
  omega
theorem bvi_inj {a b : BitVec 32} : bvi a = bvi b ↔ a = b := by
  unfold bvi
  constructor
  · intro h; exact BitVec.eq_of_toNat_eq (by omega)
  · rintro rfl; rfl
theorem ofInt_mod (x : Int) : BitVec.ofInt 32 (x % (4294967296 : Int)) = BitVec.ofInt 32 x := by
  apply BitVec.eq_of_toNat_eq
  simp only [BitVec.toNat_ofInt]
  omega
theorem wrap_u32_toNat (c : BitVec 32) : IntKind.u32.wrap (c.toNat : Int) = (c.toNat : Int) := by
  have := c.isLt
  rw [IntKind.wrap_u32]; omega
theorem bits_xor_u32 (x y : Int) : Go.bits .xor .u32 x y = bvi (BitVec.ofInt 32 x ^^^ BitVec.ofInt 32 y) := by
  unfold Go.bits bvi
  exact wrap_u32_toNat _
theorem bits_and_u32 (x y : Int) : Go.bits .and .u32 x y = bvi (BitVec.ofInt 32 x &&& BitVec.ofInt 32 y) := by
  unfold Go.bits bvi
  exact wrap_u32_toNat _
theorem bits_or_u32 (x y : Int) : Go.bits .or .u32 x y = bvi (BitVec.ofInt 32 x ||| BitVec.ofInt 32 y) := by
  unfold Go.bits bvi
  exact wrap_u32_toNat _
theorem bits_xor_u8 (x y : Int) : Go.bits .xor .u8 x y = ((BitVec.ofInt 8 x ^^^ BitVec.ofInt 8 y).toNat : Int) := by
  have h : ∀ c : BitVec 8, IntKind.u8.wrap (c.toNat : Int) = (c.toNat : Int) := fun c => by
    have := c.isLt
    rw [IntKind.wrap_u8]; omega
  unfold Go.bits
  exact h _
theorem bits_not_u32 (x : Int) : Go.bits .xor .u32 4294967295 x = bvi (~~~ BitVec.ofInt 32 x) := by
  rw [bits_xor_u32]
  congr 1
theorem sub_not_u32 (x : Int) : (4294967295 - x) % (4294967296 : Int) = bvi (~~~ BitVec.ofInt 32 x) := by
  unfold bvi
  rw [BitVec.toNat_not, BitVec.toNat_ofInt]
  omega
theorem bvi_half (c : BitVec 32) : bvi c / (2 : Int) = bvi (c >>> 1) := by
  unfold bvi
  rw [BitVec.toNat_ushiftRight, Nat.shiftRight_eq_div_pow]
  omega
theorem bvi_odd (c : BitVec 32) : (bvi c % (2 : Int) = 1) ↔ c.getLsbD 0 = true := by
  unfold bvi
  rw [BitVec.getLsbD, Nat.testBit_zero, decide_eq_true_eq]
  omega
theorem and_one (c : BitVec 32) : Go.bits .and .u32 (bvi c) 1 = 1 ↔ c.getLsbD 0 = true := by
  rw [bits_and_u32, ofInt_bvi, ← bvi_odd]
  unfold bvi
  rw [BitVec.toNat_and]
  have h1 : (BitVec.ofInt 32 1).toNat = 1 := by decide
  rw [h1, Nat.and_one_is_mod]
  omega
theorem poly_i : bvi 2197175160#32 = 2197175160 := by decide
theorem xor_poly (c : BitVec 32) : Go.bits .xor .u32 (bvi c) 2197175160 = bvi (c ^^^ 2197175160#32) := by
  rw [bits_xor_u32, ofInt_bvi]
  congr 1
theorem tmod_two (c : BitVec 32) : Int.tmod (bvi c) 2 = bvi c % (2 : Int) := Int.tmod_eq_emod_of_nonneg (bvi_nonneg c)
theorem tdiv_two (c : BitVec 32) : (Int.tdiv (bvi c) 2) % (4294967296 : Int) = bvi (c >>> 1) := by
  rw [Int.tdiv_eq_ediv_of_nonneg (bvi_nonneg c)]
  have := bvi_lt (c >>> 1); have := bvi_nonneg (c >>> 1); have := bvi_half c; omega
theorem cfold_snoc (c : BitVec 32) (l : List Int) (x : Int) : cfold c (l ++ [x]) = cupd (cfold c l) x := by simp [cfold]
theorem cfold_cons (c : BitVec 32) (x : Int) (l : List Int) : cfold c (x :: l) = cfold (cupd c x) l := rfl
theorem cfold_append (c : BitVec 32) (l m : List Int) : cfold c (l ++ m) = cfold (cfold c l) m := by simp [cfold]
theorem take_succ_rd (l : List Int) (k : Nat) (h : k < l.length) : l.take (k + 1) = l.take k ++ [rd l k] := by
  rw [List.take_succ_eq_append_getElem h]
  simp [rd, List.getD_eq_getElem?_getD, List.getElem?_eq_getElem h]

end Go.Proofs.Ytliafeandefocaa.P
