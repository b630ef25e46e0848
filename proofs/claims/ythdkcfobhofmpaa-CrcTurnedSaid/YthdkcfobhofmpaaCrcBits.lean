/- The register bit by bit: what is turned within 32 digits in a row is told. Plain Lean. -/
import Derived.Test.YthdkcfobhofmpaaCrcPure1
namespace Go.Proofs.Ythdkcfobhofmpaa.Pure
open Go.RowKit Go.Proofs.Ythdkcfobhofmpaa.P Go.Proofs.YthdkcfobhofmpaaW.PrintWords Go.Proofs.YthdkcfobhofmpaaW.PrintLast
set_option linter.unusedVariables false
set_option linter.unusedSimpArgs false

def bb (b : Bool) : BitVec 32 := if b then 1#32 else 0#32
/-- The register over digits. -/
def G (c : BitVec 32) : List Bool → BitVec 32
  | [] => c
  | b :: bs => G (cstep (c ^^^ bb b)) bs
theorem G_append (c : BitVec 32) : ∀ (a b : List Bool), G c (a ++ b) = G (G c a) b := by
  intro a
  induction a generalizing c with
  | nil => intro b; rfl
  | cons x a ih => intro b; simp only [List.cons_append, G]; rw [ih]
theorem cstep_lin (a b : BitVec 32) : cstep (a ^^^ b) = cstep a ^^^ cstep b := by
  unfold cstep
  rw [BitVec.getLsbD_xor, BitVec.ushiftRight_xor_distrib]
  cases a.getLsbD 0 <;> cases b.getLsbD 0 <;> simp
  · rw [BitVec.xor_assoc]
  · rw [BitVec.xor_assoc, BitVec.xor_assoc, BitVec.xor_comm (b >>> 1)]
  · rw [BitVec.xor_assoc, ← BitVec.xor_assoc (2197175160#32), BitVec.xor_comm (2197175160#32) (b >>> 1), BitVec.xor_assoc (b >>> 1), BitVec.xor_self, BitVec.xor_zero]
theorem cstepN_lin (n : Nat) : ∀ (a b : BitVec 32), cstepN n (a ^^^ b) = cstepN n a ^^^ cstepN n b := by
  induction n with
  | zero => intro a b; rfl
  | succ n ih => intro a b; simp only [cstepN]; rw [cstep_lin, ih]
theorem cstep_zero : cstep 0#32 = 0#32 := by decide
theorem cstepN_zero (n : Nat) : cstepN n 0#32 = 0#32 := by
  induction n with
  | zero => rfl
  | succ n ih => simp only [cstepN]; rw [cstep_zero, ih]
/-- The polynomial's top digit stands: no register but nothing becomes nothing. -/
theorem cstep_ne (c : BitVec 32) (h : cstep c = 0#32) : c = 0#32 := by
  unfold cstep at h
  have top : (c >>> 1).getLsbD 31 = false := by simp
  by_cases hb : c.getLsbD 0 = true
  · rw [if_pos hb] at h
    have h2 : (c >>> 1 ^^^ 2197175160#32).getLsbD 31 = false := by rw [h]; rfl
    rw [BitVec.getLsbD_xor, top] at h2
    exact absurd h2 (by decide)
  · rw [if_neg hb] at h
    apply BitVec.eq_of_toNat_eq
    have h3 := congrArg BitVec.toNat h
    rw [BitVec.toNat_ushiftRight, Nat.shiftRight_eq_div_pow] at h3
    have h4 : c.toNat % 2 = 0 := by
      rw [BitVec.getLsbD, Nat.testBit_zero, decide_eq_true_eq] at hb
      omega
    simp at h3 ⊢
    omega
theorem cstepN_ne (n : Nat) : ∀ c : BitVec 32, cstepN n c = 0#32 → c = 0#32 := by
  induction n with
  | zero => intro c h; exact h
  | succ n ih => intro c h; exact cstep_ne c (ih _ h)
theorem cstepN_inj (n : Nat) (a b : BitVec 32) (h : cstepN n a = cstepN n b) : a = b := by
  have h2 : cstepN n (a ^^^ b) = 0#32 := by rw [cstepN_lin, h, BitVec.xor_self]
  have h3 := cstepN_ne n _ h2
  have h4 : a ^^^ b ^^^ b = 0#32 ^^^ b := by rw [h3]
  rw [BitVec.xor_assoc, BitVec.xor_self, BitVec.xor_zero, BitVec.zero_xor] at h4
  exact h4

/-- The lowest m digits, the least first. -/
def bitsN : Nat → Nat → List Bool
  | 0, _ => []
  | m + 1, x => (x % 2 == 1) :: bitsN m (x / 2)
theorem length_bitsN (m : Nat) : ∀ x, (bitsN m x).length = m := by
  induction m with
  | zero => intro x; rfl
  | succ m ih => intro x; simp [bitsN, ih]
theorem bitsN_get (m : Nat) : ∀ (x i : Nat), i < m → (bitsN m x)[i]? = some (x.testBit i) := by
  induction m with
  | zero => intro x i h; omega
  | succ m ih =>
    intro x i h
    cases i with
    | zero => simp [bitsN, Nat.testBit_zero]; rfl
    | succ i =>
      simp only [bitsN, List.getElem?_cons_succ]
      rw [ih _ _ (by omega), Nat.testBit_succ]
theorem split_low (x : Nat) (hx : x < 2 ^ 32) : BitVec.ofNat 32 x = bb (x % 2 == 1) ^^^ BitVec.ofNat 32 (2 * (x / 2)) := by
  apply BitVec.eq_of_getLsbD_eq
  intro i hi
  rw [BitVec.getLsbD_xor, BitVec.getLsbD_ofNat, BitVec.getLsbD_ofNat]
  have hb : (bb (x % 2 == 1)).getLsbD i = (decide (i = 0) && (x % 2 == 1)) := by
    unfold bb
    cases hq : (x % 2 == 1)
    · simp
    · cases i with
      | zero => simp
      | succ i => simp [BitVec.getLsbD_one]
  rw [hb]
  simp only [hi, decide_true, Bool.true_and]
  cases i with
  | zero => simp [Nat.testBit_zero]; rfl
  | succ i =>
    rw [Nat.testBit_succ, Nat.testBit_succ, show 2 * (x / 2) / 2 = x / 2 from by omega]
    simp
theorem cstep_even (y : Nat) (hy : 2 * y < 2 ^ 32) : cstep (BitVec.ofNat 32 (2 * y)) = BitVec.ofNat 32 y := by
  unfold cstep
  have h0 : (BitVec.ofNat 32 (2 * y)).getLsbD 0 = false := by
    rw [BitVec.getLsbD_ofNat, Nat.testBit_zero]; simp
  rw [h0]
  simp only [Bool.false_eq_true, if_false]
  apply BitVec.eq_of_toNat_eq
  rw [BitVec.toNat_ushiftRight, Nat.shiftRight_eq_div_pow, BitVec.toNat_ofNat, BitVec.toNat_ofNat]
  omega
theorem G_bitsN (m : Nat) : ∀ (c : BitVec 32) (x : Nat), x < 2 ^ m → x < 2 ^ 32 → G c (bitsN m x) = cstepN m (c ^^^ BitVec.ofNat 32 x) := by
  induction m with
  | zero =>
    intro c x hx _
    have : x = 0 := by simpa using hx
    subst this
    simp [bitsN, G, cstepN]
  | succ m ih =>
    intro c x hx h32
    simp only [bitsN, G, cstepN]
    rw [ih _ _ (by rw [Nat.pow_succ] at hx; omega) (by omega)]
    congr 1
    conv => rhs; rw [split_low x h32, ← BitVec.xor_assoc, cstep_lin]
    rw [cstep_even _ (by omega)]
theorem G_zeros (c : BitVec 32) (m : Nat) : G c (List.replicate m false) = cstepN m c := by
  induction m generalizing c with
  | zero => rfl
  | succ m ih =>
    rw [List.replicate_succ]
    simp only [G, cstepN]
    rw [ih]
    simp [bb]

/-- All digits of bytes. -/
def bits8 : List Int → List Bool
  | [] => []
  | x :: l => bitsN 8 x.toNat ++ bits8 l
theorem bits8_append (l m : List Int) : bits8 (l ++ m) = bits8 l ++ bits8 m := by
  induction l with
  | nil => rfl
  | cons x l ih => simp only [List.cons_append, bits8]; rw [ih, List.append_assoc]
theorem length_bits8 (l : List Int) : (bits8 l).length = 8 * l.length := by
  induction l with
  | nil => rfl
  | cons x l ih => simp only [bits8, List.length_append, length_bitsN, ih, List.length_cons]; omega
/-- Digit p of bytes. -/
def bit (l : List Int) (p : Nat) : Bool := (rd l ((p / 8 : Nat) : Int)).toNat.testBit (p % 8)
theorem bits8_get : ∀ (l : List Int) (p : Nat), p < 8 * l.length → (bits8 l)[p]? = some (bit l p)
  | [], p, h => by simp at h
  | x :: l, p, h => by
    simp only [bits8]
    by_cases hp : p < 8
    · rw [List.getElem?_append_left (by rw [length_bitsN]; omega), bitsN_get _ _ _ hp]
      unfold bit
      rw [show p / 8 = 0 from by omega, show p % 8 = p from by omega]
      rfl
    · rw [List.getElem?_append_right (by rw [length_bitsN]; omega), length_bitsN, bits8_get l (p - 8) (by simp at h; omega)]
      unfold bit
      rw [show (p - 8) % 8 = p % 8 from by omega, show p / 8 = (p - 8) / 8 + 1 from by omega]
      congr 2
theorem cfold_bits (l : List Int) : ∀ (c : BitVec 32), IsBytes l → cfold c l = G c (bits8 l) := by
  induction l with
  | nil => intro c _; rfl
  | cons x l ih =>
    intro c h
    have hx := h x List.mem_cons_self
    rw [cfold_cons, ih _ (fun y hy => h y (List.mem_cons_of_mem _ hy))]
    simp only [bits8]
    rw [G_append, G_bitsN 8 c x.toNat (by omega) (by omega)]
    unfold cupd
    congr 3
    apply BitVec.eq_of_toNat_eq
    rw [BitVec.toNat_ofInt, BitVec.toNat_ofNat]
    omega
theorem G_lin : ∀ (a b : List Bool) (c d : BitVec 32), a.length = b.length → G (c ^^^ d) (List.zipWith (fun x y => Bool.xor x y) a b) = G c a ^^^ G d b
  | [], [], c, d, _ => rfl
  | x :: a, y :: b, c, d, h => by
    simp only [List.zipWith_cons_cons, G]
    rw [← G_lin a b _ _ (by simpa using h), ← cstep_lin]
    congr 2
    have : bb (Bool.xor x y) = bb x ^^^ bb y := by cases x <;> cases y <;> decide
    rw [this]
    ac_rfl
  | [], _ :: _, _, _, h => by simp at h
  | _ :: _, [], _, _, h => by simp at h

theorem bitsN_join (m : Nat) (b : Nat) (hb : b < 256) (v : Nat) : bitsN (8 + m) (b + 256 * v) = bitsN 8 b ++ bitsN m v := by
  apply List.ext_getElem?
  intro i
  by_cases h8 : i < 8
  · rw [List.getElem?_append_left (by rw [length_bitsN]; omega), bitsN_get _ _ _ (by omega), bitsN_get _ _ _ h8]
    rw [show b + 256 * v = 2 ^ 8 * v + b from by omega, Nat.testBit_two_pow_mul_add _ (by omega), if_pos h8]
  · rw [List.getElem?_append_right (by rw [length_bitsN]; omega), length_bitsN]
    by_cases hm : i < 8 + m
    · rw [bitsN_get _ _ _ hm, bitsN_get _ _ _ (by omega)]
      rw [show b + 256 * v = 2 ^ 8 * v + b from by omega, Nat.testBit_two_pow_mul_add _ (by omega), if_neg h8]
    · rw [List.getElem?_eq_none (by rw [length_bitsN]; omega), List.getElem?_eq_none (by rw [length_bitsN]; omega)]

/-- Four bytes at the end of a text: the register that they leave. -/
theorem cfold_four (l : List Int) (hl : IsBytes l) (h4 : l.length = 4) (c : BitVec 32) : cfold c l = cstepN 32 (c ^^^ BitVec.ofNat 32 (num4 l).toNat) := by
  rw [cfold_bits _ _ hl]
  have hr := num4_range hl
  rw [← G_bitsN 32 c _ (by omega) (by omega)]
  congr 1
  match l, h4 with
  | [a, b, d, e], _ =>
    have ha := hl a (by simp); have hb := hl b (by simp); have hd := hl d (by simp); have he := hl e (by simp)
    have hn : (num4 [a, b, d, e]).toNat = a.toNat + 256 * (b.toNat + 256 * (d.toNat + 256 * e.toNat)) := by
      have : num4 [a, b, d, e] = a + 256 * b + 65536 * d + 16777216 * e := rfl
      rw [this]
      omega
    rw [hn, show 32 = 8 + (8 + (8 + 8)) from rfl, bitsN_join _ _ (by omega), bitsN_join _ _ (by omega), bitsN_join _ _ (by omega)]
    simp only [bits8, List.append_nil]

/-- A text that ends with its own sum leaves a fixed register; and only such a one. -/
theorem sum_fixed (l : List Int) (n : Nat) (hl : IsBytes l) (hn : l.length = n + 4) :
    (num4 (l.drop n) = sumOf (l.take n)) ↔ cfold (~~~ 0#32) l = cstepN 32 (BitVec.allOnes 32) := by
  have hc : cfold (~~~ 0#32) l = cfold (cfold (~~~ 0#32) (l.take n)) (l.drop n) := by rw [← cfold_append, List.take_append_drop]
  rw [hc, cfold_four _ (hl.drop n) (by rw [List.length_drop]; omega)]
  have hr := num4_range (hl.drop n)
  generalize hcc : cfold (~~~ 0#32) (l.take n) = c
  have hs : sumOf (l.take n) = bvi (~~~ c) := by unfold sumOf cmore; rw [hcc]
  rw [hs]
  constructor
  · intro h
    rw [h]
    congr 1
    have : BitVec.ofNat 32 (bvi (~~~ c)).toNat = ~~~ c := by
      apply BitVec.eq_of_toNat_eq
      unfold bvi
      rw [BitVec.toNat_ofNat, Int.toNat_natCast]
      exact Nat.mod_eq_of_lt (~~~ c).isLt
    rw [this, ← BitVec.xor_allOnes, ← BitVec.xor_assoc, BitVec.xor_self, BitVec.zero_xor]
  · intro h
    have h2 := cstepN_inj 32 _ _ h
    have h3 : BitVec.ofNat 32 (num4 (l.drop n)).toNat = ~~~ c := by
      have : c ^^^ (c ^^^ BitVec.ofNat 32 (num4 (l.drop n)).toNat) = c ^^^ BitVec.allOnes 32 := by rw [h2]
      rw [← BitVec.xor_assoc, BitVec.xor_self, BitVec.zero_xor] at this
      rw [this, BitVec.xor_allOnes]
    unfold bvi
    rw [← h3, BitVec.toNat_ofNat, Nat.mod_eq_of_lt (by omega)]
    omega

end Go.Proofs.Ythdkcfobhofmpaa.Pure
