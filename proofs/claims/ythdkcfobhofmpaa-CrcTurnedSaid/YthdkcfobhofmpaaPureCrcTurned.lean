/- rickyardlaw05.CrcTurned: a frame of which some of any 32 digits in a row are turned, within its data and its sum, is none. No conditions. -/
import Derived.Test.YthdkcfobhofmpaaPrickyardlaw05CrcTurned
import Derived.Test.YthdkcfobhofmpaaCrcBits
namespace Go.Proofs.Ythdkcfobhofmpaa.Pure
open Go.RowKit Go.Proofs.Ythdkcfobhofmpaa.P Go.Proofs.YthdkcfobhofmpaaW.PrintWords Go.Proofs.YthdkcfobhofmpaaW.PrintLast Go.Proofs.YthdkcfobhofmpaaW.PrintMore
set_option linter.unusedVariables false
set_option linter.unusedSimpArgs false

/-- The sum of a frame fits. -/
theorem frame_fixed {l : List Int} (hl : IsBytes l) (h : l.length ≤ 65535) : cfold (~~~ 0#32) (frame l) = cstepN 32 (BitVec.allOnes 32) := by
  rw [← sum_fixed (frame l) (l.length + 4) (frame_bytes hl) (by rw [frame_length])]
  have e : (four l.length ++ l).length = l.length + 4 := by simp [four]
  unfold frame
  rw [List.drop_left' e, List.take_left' e]
  have := num4_four (sumOf (four l.length ++ l)) (bvi_nonneg _) (bvi_lt _) []
  rwa [List.append_nil] at this

/-- A digit of a text is turned. -/
theorem flip_bit {l : List Int} (hl : IsBytes l) (q s : Nat) (hq : q < l.length) (hs : s < 8) :
    IsBytes (l.set q (Go.bits .xor .u8 (rd l q) (shl .u8 1 s))) ∧ ∀ p, bit (l.set q (Go.bits .xor .u8 (rd l q) (shl .u8 1 s))) p = Bool.xor (bit l p) (decide (p = 8 * q + s)) := by
  have hb := hl.rd q
  obtain ⟨x, hx⟩ := Int.eq_ofNat_of_zero_le hb.1
  have h1 : shl .u8 1 (s : Int) = ((2 ^ s : Nat) : Int) := by
    unfold shl
    have h2 : min ((s : Int)).toNat IntKind.u8.bits = s := by
      show min ((s : Int)).toNat 8 = s
      omega
    rw [h2, IntKind.wrap_u8]
    have h3 : (2 : Nat) ^ s ≤ 2 ^ 7 := Nat.pow_le_pow_right (by omega) (by omega)
    have h4 : ((1 : Int) * 2 ^ s) = ((2 ^ s : Nat) : Int) := by rw [Int.one_mul]; norm_cast
    rw [h4]
    generalize 2 ^ s = z at h3
    omega
  have hp7 : (2 : Nat) ^ s ≤ 2 ^ 7 := Nat.pow_le_pow_right (by omega) (by omega)
  have h5 : Go.bits .xor .u8 (rd l q) (shl .u8 1 s) = ((x ^^^ 2 ^ s : Nat) : Int) := by
    rw [h1, hx, bits_xor_u8]
    simp only [BitVec.ofInt_natCast, BitVec.toNat_xor, BitVec.toNat_ofNat]
    rw [Nat.mod_eq_of_lt (by omega), Nat.mod_eq_of_lt (by omega)]
  have hlt : x ^^^ 2 ^ s < 2 ^ 8 := Nat.xor_lt_two_pow (by omega) (by omega)
  rw [h5]
  refine ⟨fun y hy => ?_, fun p => ?_⟩
  · rcases List.mem_or_eq_of_mem_set hy with hy | rfl
    · exact hl y hy
    · omega
  · unfold bit
    have e : rd (l.set q ((x ^^^ 2 ^ s : Nat) : Int)) ((p / 8 : Nat) : Int) = if p / 8 = q then ((x ^^^ 2 ^ s : Nat) : Int) else rd l ((p / 8 : Nat) : Int) := by
      unfold Go.Proofs.YthdkcfobhofmpaaW.PrintWords.rd
      rw [List.getD_eq_getElem?_getD, List.getD_eq_getElem?_getD, Int.toNat_natCast, List.getElem?_set]
      by_cases hpq : q = p / 8
      · rw [if_pos hpq, if_pos (by omega), if_pos hpq.symm]; rfl
      · rw [if_neg hpq, if_neg (fun h => hpq h.symm)]
    rw [e]
    by_cases hpq : p / 8 = q
    · rw [if_pos hpq, hpq, hx]
      simp only [Int.toNat_natCast]
      rw [Nat.testBit_xor, Nat.testBit_two_pow]
      congr 1
      rw [decide_eq_decide]
      omega
    · rw [if_neg hpq]
      have : decide (p = 8 * q + s) = false := decide_eq_false (by omega)
      rw [this, Bool.xor_false]

theorem w_sum (a i : Nat) (h : a + i < 4294967296) : wrap64 ((a : Int) + (i : Int)) = ((a + i : Nat) : Int) := by unfold wrap64; omega
theorem w_one (i : Nat) (h : i < 4294967296) : wrap64 ((i : Int) + 1) = ((i + 1 : Nat) : Int) := by unfold wrap64; omega
theorem w_id (i : Nat) (h : i < 4294967296) : wrap64 (i : Int) = (i : Int) := by unfold wrap64; omega
theorem w_u64 (i : Nat) (h : i < 4294967296) : IntKind.u64.wrap (i : Int) = (i : Int) := by
  simp [IntKind.wrap, IntKind.bits, IntKind.signed]; omega
theorem w_div (a : Nat) (h : a < 4294967296) : wrap64 (Int.tdiv (a : Int) 8) = ((a / 8 : Nat) : Int) := by
  have e : Int.tdiv (a : Int) 8 = ((a / 8 : Nat) : Int) := by
    rw [Int.tdiv_eq_ediv_of_nonneg (Int.natCast_nonneg _)]; rfl
  rw [e]
  exact w_id _ (by omega)
theorem w_mod (a : Nat) : IntKind.u64.wrap (Int.tmod (a : Int) 8) = ((a % 8 : Nat) : Int) := by
  have e : Int.tmod (a : Int) 8 = ((a % 8 : Nat) : Int) := by
    rw [Int.tmod_eq_emod_of_nonneg (Int.natCast_nonneg _)]; rfl
  rw [e]
  exact w_u64 _ (by omega)
/-- One round. -/
theorem turned_step (from_ by_ : Nat) (hby : by_ < 4294967296) (n : Nat) (hn : n ≤ 100000) (hfrom : from_ + 32 ≤ 8 * n) (k i : Nat) (hi : i < 32) (x : List Int) (hlen : x.length = n) :
    rickyardlaw05_CrcTurned.l0 (k + 1) by_ x from_ i =
      if by_.testBit i = true then rickyardlaw05_CrcTurned.l0 k by_ (x.set ((from_ + i) / 8) (Go.bits .xor .u8 (rd x (((from_ + i) / 8 : Nat) : Int)) (shl .u8 1 (((from_ + i) % 8 : Nat) : Int)))) from_ ((i + 1 : Nat) : Int)
      else rickyardlaw05_CrcTurned.l0 k by_ x from_ ((i + 1 : Nat) : Int) := by
  have hw := w_one i (by omega)
  have hu := w_u64 i (by omega)
  have hsum := w_sum from_ i (by omega)
  have hq := w_div (from_ + i) (by omega)
  have hs := w_mod (from_ + i)
  have c1 : (i : Int) < 32 := by omega
  have c2 : (0 : Int) ≤ (i : Int) := by omega
  have c3 : (0 : Int) ≤ (((from_ + i) / 8 : Nat) : Int) := by omega
  have c4 : (((from_ + i) / 8 : Nat) : Int) < (x.length : Int) := by omega
  have c5 : (0 : Int) ≤ (((from_ + i) % 8 : Nat) : Int) := by omega
  have hsh : shr .u32 (by_ : Int) (i : Int) = ((by_ / 2 ^ i : Nat) : Int) := by
    unfold shr
    have h2 : min ((i : Int)).toNat IntKind.u32.bits = i := by
      show min ((i : Int)).toNat 32 = i
      omega
    rw [h2]
    norm_cast
  have hb1 : Go.bits .and .u32 ((by_ / 2 ^ i : Nat) : Int) 1 = (((by_ / 2 ^ i) % 2 : Nat) : Int) := by
    rw [bits_and_u32]
    unfold bvi
    have hlt : by_ / 2 ^ i < 4294967296 := Nat.lt_of_le_of_lt (Nat.div_le_self _ _) hby
    rw [BitVec.toNat_and, BitVec.ofInt_natCast, BitVec.toNat_ofNat, Nat.mod_eq_of_lt (by omega), show (BitVec.ofInt 32 1).toNat = 1 from by decide, Nat.and_one_is_mod]
  have htest : by_.testBit i = decide ((by_ / 2 ^ i) % 2 = 1) := by rw [Nat.testBit_eq_decide_div_mod_eq]
  rw [rickyardlaw05_CrcTurned.l0]
  refine (if_pos c1).trans ?_
  rw [hu]
  refine (if_pos c2).trans ?_
  rw [hsh, hb1, hw, hsum, hq, hs, Int.toNat_natCast]
  clear hsum hq hs hsh hb1 hw hu c1 c2
  by_cases hb : (by_ / 2 ^ i) % 2 = 1
  · have e : (((by_ / 2 ^ i) % 2 : Nat) : Int) = 1 := by rw [hb]; rfl
    have e2 : by_.testBit i = true := by rw [htest]; exact decide_eq_true hb
    refine (if_pos e).trans ?_
    refine (if_pos c3).trans ?_
    refine (if_pos c4).trans ?_
    refine (if_pos c5).trans ?_
    exact (if_pos e2).symm
  · have e : ¬ ((((by_ / 2 ^ i) % 2 : Nat) : Int) = 1) := fun h => hb (by exact_mod_cast h)
    have e2 : ¬ (by_.testBit i = true) := by rw [htest]; simpa using hb
    refine (if_neg e).trans ?_
    exact (if_neg e2).symm

/-- The loop's end: what has come of the frame. -/
theorem turned_l0 (from_ by_ : Nat) (hby : by_ < 4294967296) (n : Nat) (hn : n ≤ 100000) (hfrom : from_ + 32 ≤ 8 * n) (d : Nat) :
    ∀ (k i : Nat) (x : List Int), i + d = 32 → IsBytes x → x.length = n → ∃ y : List Int, IsBytes y ∧ y.length = n ∧
      (∀ p, bit y p = Bool.xor (bit x p) (decide (from_ + i ≤ p ∧ p < from_ + 32) && by_.testBit (p - from_))) ∧
      rickyardlaw05_CrcTurned.l0 (k + d + 1) by_ x from_ i = rickyardlaw05_CrcTurned.l0 (k + 1) by_ y from_ 32 := by
  induction d with
  | zero =>
    intro k i x hi hx hlen
    refine ⟨x, hx, hlen, fun p => ?_, ?_⟩
    · have : decide (from_ + i ≤ p ∧ p < from_ + 32) = false := decide_eq_false (by omega)
      rw [this]; simp
    · rw [show k + 0 + 1 = k + 1 from rfl, show (i : Int) = 32 from by omega]
  | succ d ih =>
    intro k i x hi hx hlen
    have key : ∀ p, (decide (from_ + i ≤ p ∧ p < from_ + 32) && by_.testBit (p - from_)) = Bool.xor (decide (p = from_ + i) && by_.testBit i) (decide (from_ + (i + 1) ≤ p ∧ p < from_ + 32) && by_.testBit (p - from_)) := fun p => by
      by_cases hp : p = from_ + i
      · subst hp
        have a1 : decide (from_ + i ≤ from_ + i ∧ from_ + i < from_ + 32) = true := decide_eq_true (by omega)
        have a2 : decide (from_ + (i + 1) ≤ from_ + i ∧ from_ + i < from_ + 32) = false := decide_eq_false (by omega)
        rw [a1, a2, show from_ + i - from_ = i from by omega]
        simp
      · have a1 : decide (p = from_ + i) = false := decide_eq_false hp
        have a2 : decide (from_ + i ≤ p ∧ p < from_ + 32) = decide (from_ + (i + 1) ≤ p ∧ p < from_ + 32) := by rw [decide_eq_decide]; omega
        rw [a1, a2]
        simp
    have hst := turned_step from_ by_ hby n hn hfrom (k + d + 1) i (by omega) x hlen
    by_cases hb : by_.testBit i = true
    · rw [if_pos hb] at hst
      obtain ⟨f1, f2⟩ := flip_bit hx ((from_ + i) / 8) ((from_ + i) % 8) (by omega) (by omega)
      obtain ⟨y, y1, y2, y3, y4⟩ := ih k (i + 1) _ (by omega) f1 (by rw [List.length_set]; exact hlen)
      refine ⟨y, y1, y2, fun p => ?_, hst.trans y4⟩
      rw [y3, f2, key p, hb]
      have a2 : decide (p = 8 * ((from_ + i) / 8) + (from_ + i) % 8) = decide (p = from_ + i) := by rw [decide_eq_decide]; omega
      rw [a2, Bool.and_true, Bool.xor_assoc]
    · rw [if_neg hb] at hst
      obtain ⟨y, y1, y2, y3, y4⟩ := ih k (i + 1) x (by omega) hx hlen
      refine ⟨y, y1, y2, fun p => ?_, hst.trans y4⟩
      have a1 : by_.testBit i = false := by simpa using hb
      rw [y3, key p, a1, Bool.and_false, Bool.false_xor]

/-- What was turned leaves another register. -/
theorem turned_sum (x y : List Int) (hx : IsBytes x) (hy : IsBytes y) (hlen : y.length = x.length) (from_ by_ : Nat) (hby : by_ < 4294967296) (h0 : by_ ≠ 0) (hfrom : from_ + 32 ≤ 8 * x.length)
    (h : ∀ p, bit y p = Bool.xor (bit x p) (decide (from_ ≤ p ∧ p < from_ + 32) && by_.testBit (p - from_))) (c : BitVec 32) : cfold c y ≠ cfold c x := by
  rw [cfold_bits _ _ hx, cfold_bits _ _ hy]
  have e : bits8 y = List.zipWith (fun a b => Bool.xor a b) (bits8 x) (List.replicate from_ false ++ (bitsN 32 by_ ++ List.replicate (8 * x.length - from_ - 32) false)) := by
    apply List.ext_getElem?
    intro p
    rw [List.getElem?_zipWith]
    by_cases hp : p < 8 * x.length
    · rw [bits8_get y p (by omega), bits8_get x p hp]
      have e2 : (List.replicate from_ false ++ (bitsN 32 by_ ++ List.replicate (8 * x.length - from_ - 32) false))[p]? = some (decide (from_ ≤ p ∧ p < from_ + 32) && by_.testBit (p - from_)) := by
        by_cases h1 : p < from_
        · rw [List.getElem?_append_left (by simpa using h1), List.getElem?_replicate, if_pos h1]
          have : decide (from_ ≤ p ∧ p < from_ + 32) = false := decide_eq_false (by omega)
          rw [this]; rfl
        · rw [List.getElem?_append_right (by simp; omega), List.length_replicate]
          by_cases h2 : p - from_ < 32
          · rw [List.getElem?_append_left (by rw [length_bitsN]; omega), bitsN_get _ _ _ h2]
            have : decide (from_ ≤ p ∧ p < from_ + 32) = true := decide_eq_true (by omega)
            rw [this]; rfl
          · rw [List.getElem?_append_right (by rw [length_bitsN]; omega), length_bitsN, List.getElem?_replicate, if_pos (by omega)]
            have : decide (from_ ≤ p ∧ p < from_ + 32) = false := decide_eq_false (by omega)
            rw [this]; rfl
      rw [e2, h p]
    · rw [List.getElem?_eq_none (by rw [length_bits8]; omega), List.getElem?_eq_none (by rw [length_bits8]; omega)]
  have hl : (bits8 x).length = (List.replicate from_ false ++ (bitsN 32 by_ ++ List.replicate (8 * x.length - from_ - 32) false)).length := by
    rw [length_bits8, List.length_append, List.length_append, List.length_replicate, List.length_replicate, length_bitsN]; omega
  have hG : G c (bits8 y) = G c (bits8 x) ^^^ G 0#32 (List.replicate from_ false ++ (bitsN 32 by_ ++ List.replicate (8 * x.length - from_ - 32) false)) := by
    rw [e, ← G_lin _ _ _ _ hl, BitVec.xor_zero]
  rw [hG]
  intro hc
  have hz : G 0#32 (List.replicate from_ false ++ (bitsN 32 by_ ++ List.replicate (8 * x.length - from_ - 32) false)) = 0#32 := by
    have h2 : G c (bits8 x) ^^^ (G c (bits8 x) ^^^ G 0#32 (List.replicate from_ false ++ (bitsN 32 by_ ++ List.replicate (8 * x.length - from_ - 32) false))) = G c (bits8 x) ^^^ G c (bits8 x) := by rw [hc]
    rwa [← BitVec.xor_assoc, BitVec.xor_self, BitVec.zero_xor] at h2
  rw [G_append, G_zeros, cstepN_zero, G_append, G_zeros, G_bitsN 32 _ _ (by omega) (by omega), BitVec.zero_xor] at hz
  have h3 := cstepN_ne _ _ (cstepN_ne _ _ hz)
  have h4 := congrArg BitVec.toNat h3
  rw [BitVec.toNat_ofNat, Nat.mod_eq_of_lt (by omega)] at h4
  exact h0 h4

theorem CrcTurned : rickyardlaw05_CrcTurned.Pure := by
  intro l a1 a2 _ _ hl' ha1 ha2
  have hl := isBytes_wf hl'
  refine ⟨35, ?_⟩
  have hall : rickyardlaw05_CrcTurned.j0 35 l a1 a2 true = some true := by
    rw [rickyardlaw05_CrcTurned.j0]; rfl
  unfold rickyardlaw05_CrcTurned.f
  by_cases h1 : (l.length : Int) > 2000
  · rw [if_pos h1, hall]
  rw [if_neg h1]
  by_cases h2 : a2 = 0
  · rw [if_pos h2, hall]
  rw [if_neg h2]
  by_cases h3 : a1 < 0
  · rw [decide_eq_true h3, hall]
  rw [decide_eq_false h3, rickyardlaw05_CrcTurned.j0, if_neg (by decide), frame_f l (by omega)]
  simp only [Option.bind_some]
  rw [if_pos trivial]
  have hb1 : -9223372036854775808 ≤ a1 ∧ a1 ≤ 9223372036854775807 := by
    simp [Lit.wf, IntKind.min, IntKind.max, IntKind.signed, IntKind.bits] at ha1; omega
  have hb2 : 0 ≤ a2 ∧ a2 < 4294967296 := by
    simp [Lit.wf, IntKind.min, IntKind.max, IntKind.signed, IntKind.bits] at ha2; omega
  obtain ⟨at_, rfl⟩ := Int.eq_ofNat_of_zero_le (show 0 ≤ a1 by omega)
  obtain ⟨by_, rfl⟩ := Int.eq_ofNat_of_zero_le hb2.1
  have hand : Go.bits .and .i64 (at_ : Int) 32767 = ((at_ % 32768 : Nat) : Int) := by
    have hw : ∀ c : Nat, c < 2 ^ 63 → IntKind.i64.wrap (c : Int) = (c : Int) := fun c hc => by rw [IntKind.wrap_i64]; omega
    unfold Go.bits
    have e1 : ((BitVec.ofInt IntKind.i64.bits (at_ : Int)) &&& (BitVec.ofInt IntKind.i64.bits 32767)).toNat = at_ % 32768 := by
      show ((BitVec.ofInt 64 (at_ : Int)) &&& (BitVec.ofInt 64 32767)).toNat = at_ % 32768
      rw [BitVec.toNat_and, BitVec.ofInt_natCast, BitVec.toNat_ofNat, Nat.mod_eq_of_lt (by omega), show (BitVec.ofInt 64 32767).toNat = 2 ^ 15 - 1 from by decide, Nat.and_two_pow_sub_one_eq_mod]
    show IntKind.i64.wrap ((((BitVec.ofInt IntKind.i64.bits (at_ : Int)) &&& (BitVec.ofInt IntKind.i64.bits 32767)).toNat : Nat) : Int) = _
    rw [e1]
    exact hw _ (by omega)
  rw [hand]
  have e1 : wrap64 (32 + ((at_ % 32768 : Nat) : Int)) = ((32 + at_ % 32768 : Nat) : Int) := by unfold wrap64; omega
  have e2 : wrap64 (wrap64 (8 * ((frame l).length : Int)) - 32) = ((8 * (l.length + 8) - 32 : Nat) : Int) := by rw [frame_length]; unfold wrap64; omega
  rw [e1, e2]
  by_cases h4 : ((32 + at_ % 32768 : Nat) : Int) > ((8 * (l.length + 8) - 32 : Nat) : Int)
  · rw [if_pos h4]; rfl
  rw [if_neg h4]
  obtain ⟨y, y1, y2, y3, y4⟩ := turned_l0 (32 + at_ % 32768) by_ (by omega) (l.length + 8) (by omega) (by omega) 32 1 0 (frame l) (by omega) (frame_bytes hl) (frame_length l)
  rw [show ((0 : Int)) = ((0 : Nat) : Int) from rfl, show (34 : Nat) = 1 + 32 + 1 from rfl, y4, rickyardlaw05_CrcTurned.l0, if_neg (by omega), next_f y1 (by omega)]
  have hne := turned_sum (frame l) y (frame_bytes hl) y1 (by rw [y2, frame_length]) (32 + at_ % 32768) by_ (by omega) (by omega) (by rw [frame_length]; omega) (fun p => by rw [y3 p, Nat.add_zero]) (~~~ 0#32)
  rw [frame_fixed hl (by omega)] at hne
  have hnum : num4 y = l.length := by
    have hrd : ∀ j : Nat, j < 4 → rd y (j : Int) = rd (frame l) (j : Int) := fun j hj => by
      have hby := y1.rd j
      have hbf := (frame_bytes hl).rd j
      have ht : (rd y (j : Int)).toNat = (rd (frame l) (j : Int)).toNat := by
        apply Nat.eq_of_testBit_eq
        intro s
        by_cases hs : s < 8
        · have hz := y3 (8 * j + s)
          have hd : decide (32 + at_ % 32768 + 0 ≤ 8 * j + s ∧ 8 * j + s < 32 + at_ % 32768 + 32) = false := decide_eq_false (by omega)
          rw [hd, Bool.false_and, Bool.xor_false] at hz
          unfold bit at hz
          rwa [show (8 * j + s) / 8 = j from by omega, show (8 * j + s) % 8 = s from by omega] at hz
        · have h8 : 2 ^ 8 ≤ 2 ^ s := Nat.pow_le_pow_right (by omega) (by omega)
          rw [Nat.testBit_lt_two_pow (by omega), Nat.testBit_lt_two_pow (by omega)]
      omega
    have hf : num4 (frame l) = l.length := by
      unfold frame
      rw [List.append_assoc]
      exact num4_four _ (by omega) (by omega) _
    have r0 := hrd 0 (by omega); have r1 := hrd 1 (by omega); have r2 := hrd 2 (by omega); have r3 := hrd 3 (by omega)
    rw [← hf]
    unfold num4
    rw [show (0 : Int) = ((0 : Nat) : Int) from rfl, show (1 : Int) = ((1 : Nat) : Int) from rfl, show (2 : Int) = ((2 : Nat) : Int) from rfl, show (3 : Int) = ((3 : Nat) : Int) from rfl, r0, r1, r2, r3]
  have hnx : nextS y = ([], 0, 20) := by
    unfold nextS
    rw [if_neg (by omega), hnum, if_neg (by omega), if_neg (by omega), if_neg]
    rw [show ((l.length : Int)).toNat + 4 = l.length + 4 from by omega, sum_fixed y (l.length + 4) y1 (by omega)]
    exact hne
  rw [hnx]
  rfl

end Go.Proofs.Ythdkcfobhofmpaa.Pure
