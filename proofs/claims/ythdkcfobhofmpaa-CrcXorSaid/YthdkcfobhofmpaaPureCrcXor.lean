/- rickyardlaw05.CrcXor: the sum is linear: three sums xor'ed are the sum of the texts xor'ed. No conditions. -/
import Derived.Test.YthdkcfobhofmpaaPrickyardlaw05CrcXor
namespace Go.Proofs.Ythdkcfobhofmpaa.Pure
open Go.RowKit Go.Proofs.Ythdkcfobhofmpaa.P Go.Proofs.YthdkcfobhofmpaaW.PrintWords Go.Proofs.YthdkcfobhofmpaaW.PrintLast

theorem cstep_xor (a b : BitVec 32) : cstep (a ^^^ b) = cstep a ^^^ cstep b := by
  unfold cstep
  rw [BitVec.getLsbD_xor, BitVec.ushiftRight_xor_distrib]
  cases a.getLsbD 0 <;> cases b.getLsbD 0 <;> simp
  · rw [BitVec.xor_assoc]
  · rw [BitVec.xor_assoc, BitVec.xor_assoc, BitVec.xor_comm (b >>> 1)]
  · rw [BitVec.xor_assoc, ← BitVec.xor_assoc (2197175160#32), BitVec.xor_comm (2197175160#32) (b >>> 1), BitVec.xor_assoc (b >>> 1), BitVec.xor_self, BitVec.xor_zero]
theorem cstepN_xor (n : Nat) : ∀ (a b : BitVec 32), cstepN n (a ^^^ b) = cstepN n a ^^^ cstepN n b := by
  induction n with
  | zero => intro a b; rfl
  | succ n ih => intro a b; simp only [cstepN]; rw [cstep_xor, ih]

/-- Three bytes xor'ed, as Go has it. -/
def x3 (a b c : Int) : Int := Go.bits .xor .u8 (Go.bits .xor .u8 a b) c
theorem ofInt_x3 (a b c : Int) (ha : 0 ≤ a ∧ a < 256) (hb : 0 ≤ b ∧ b < 256) (hc : 0 ≤ c ∧ c < 256) :
    BitVec.ofInt 32 (x3 a b c) = BitVec.ofInt 32 a ^^^ BitVec.ofInt 32 b ^^^ BitVec.ofInt 32 c := by
  obtain ⟨a, rfl⟩ := Int.eq_ofNat_of_zero_le ha.1
  obtain ⟨b, rfl⟩ := Int.eq_ofNat_of_zero_le hb.1
  obtain ⟨c, rfl⟩ := Int.eq_ofNat_of_zero_le hc.1
  have ha' : a < 2 ^ 8 := by omega
  have hb' : b < 2 ^ 8 := by omega
  have hc' : c < 2 ^ 8 := by omega
  unfold x3
  have h8 : ∀ (x y : Nat), x < 2 ^ 8 → y < 2 ^ 8 → Go.bits .xor .u8 (x : Int) (y : Int) = ((x ^^^ y : Nat) : Int) := fun x y hx hy => by
    have hxy : x ^^^ y < 2 ^ 8 := Nat.xor_lt_two_pow hx hy
    rw [bits_xor_u8]
    simp only [BitVec.ofInt_natCast, BitVec.toNat_xor, BitVec.toNat_ofNat]
    rw [Nat.mod_eq_of_lt hx, Nat.mod_eq_of_lt hy]
  rw [h8 a b ha' hb', h8 _ c (Nat.xor_lt_two_pow ha' hb') hc']
  apply BitVec.eq_of_toNat_eq
  have h32 : ∀ x, x < 2 ^ 8 → x % 2 ^ 32 = x := fun x hx => Nat.mod_eq_of_lt (by omega)
  simp only [BitVec.ofInt_natCast, BitVec.toNat_xor, BitVec.toNat_ofNat]
  rw [h32 a ha', h32 b hb', h32 c hc', h32 _ (Nat.xor_lt_two_pow (Nat.xor_lt_two_pow ha' hb') hc')]

def zip3 : List Int → List Int → List Int → List Int
  | a :: l, b :: m, c :: n => x3 a b c :: zip3 l m n
  | _, _, _ => []
def Bytes (l : List Int) : Prop := ∀ x ∈ l, 0 ≤ x ∧ x < 256
theorem cfold_zip3 : ∀ (l m n : List Int) (a b c : BitVec 32), m.length = l.length → n.length = l.length → Bytes l → Bytes m → Bytes n →
    cfold (a ^^^ b ^^^ c) (zip3 l m n) = cfold a l ^^^ cfold b m ^^^ cfold c n
  | [], m, n, a, b, c, hm, hn, _, _, _ => by
    cases m with
    | nil => cases n with
      | nil => rfl
      | cons => simp at hn
    | cons => simp at hm
  | x :: l, m, n, a, b, c, hm, hn, hl', hm', hn' => by
    cases m with
    | nil => simp at hm
    | cons y m => cases n with
      | nil => simp at hn
      | cons z n =>
        simp only [zip3, cfold_cons]
        have e : cupd (a ^^^ b ^^^ c) (x3 x y z) = cupd a x ^^^ cupd b y ^^^ cupd c z := by
          unfold cupd
          rw [ofInt_x3 x y z (hl' x List.mem_cons_self) (hm' y List.mem_cons_self) (hn' z List.mem_cons_self), ← cstepN_xor, ← cstepN_xor]
          congr 1
          ac_rfl
        rw [e]
        exact cfold_zip3 l m n _ _ _ (by simpa using hm) (by simpa using hn) (fun x hx => hl' x (List.mem_cons_of_mem _ hx)) (fun x hx => hm' x (List.mem_cons_of_mem _ hx)) (fun x hx => hn' x (List.mem_cons_of_mem _ hx))

theorem length_zip3 : ∀ (l m n : List Int), m.length = l.length → n.length = l.length → (zip3 l m n).length = l.length
  | [], m, n, hm, hn => by cases m <;> cases n <;> simp_all [zip3]
  | x :: l, m, n, hm, hn => by
    cases m with
    | nil => simp at hm
    | cons y m => cases n with
      | nil => simp at hn
      | cons z n => simp only [zip3, List.length_cons]; rw [length_zip3 l m n (by simpa using hm) (by simpa using hn)]

theorem zip3_get : ∀ (l m n : List Int) (i : Nat), m.length = l.length → n.length = l.length → i < l.length → (zip3 l m n)[i]? = some (x3 (rd l i) (rd m i) (rd n i))
  | [], m, n, i, _, _, hi => by simp at hi
  | x :: l, m, n, i, hm, hn, hi => by
    cases m with
    | nil => simp at hm
    | cons y m => cases n with
      | nil => simp at hn
      | cons z n =>
        cases i with
        | zero => simp [zip3, rd]
        | succ i =>
          have := zip3_get l m n i (by simpa using hm) (by simpa using hn) (by simpa using hi)
          simp only [zip3, List.getElem?_cons_succ]
          rw [this]
          simp [rd]

theorem not_xor3 (a b c : BitVec 32) : ~~~ (a ^^^ b ^^^ c) = ~~~ a ^^^ ~~~ b ^^^ ~~~ c := by
  ext i hi
  simp
theorem not_zero3 : (~~~ (0#32)) ^^^ (~~~ (0#32)) ^^^ (~~~ (0#32)) = ~~~ (0#32) := by decide

/-- The loop: what stands behind round i. -/
theorem xor_l0 (l m n : List Int) (hm : m.length = l.length) (hn : n.length = l.length) (hl : l.length ≤ 9223372036854775806) (d : Nat) :
    ∀ (k i : Nat) (x : List Int), i + d = l.length → x.length = l.length → (∀ j, j < i → x[j]? = (zip3 l m n)[j]?) → (∀ j, i ≤ j → x[j]? = l[j]?) →
      rickyardlaw05_CrcXor.l0 (k + d + 1) l m n x i = rickyardlaw05_CrcXor.l0 (k + 1) l m n (zip3 l m n) l.length := by
  induction d with
  | zero =>
    intro k i x hi hx h1 h2
    have e : x = zip3 l m n := by
      apply List.ext_getElem?
      intro j
      by_cases hj : j < i
      · exact h1 j hj
      · rw [List.getElem?_eq_none (by omega), List.getElem?_eq_none (by rw [length_zip3 l m n hm hn]; omega)]
    rw [e, show k + 0 + 1 = k + 1 from rfl, show i = l.length from by omega]
  | succ d ih =>
    intro k i x hi hx h1 h2
    rw [show k + (d + 1) + 1 = (k + d + 1) + 1 from by omega, rickyardlaw05_CrcXor.l0, if_pos (by omega), if_pos (by omega), if_pos (by omega), if_pos (by omega)]
    have hw : wrap64 ((i : Int) + 1) = ((i + 1 : Nat) : Int) := by unfold wrap64; omega
    rw [hw]
    refine ih k (i + 1) _ (by omega) (by simp [hx]) (fun j hj => ?_) (fun j hj => ?_)
    · rw [List.getElem?_set]
      by_cases hij : ((i : Int)).toNat = j
      · rw [if_pos hij]
        have : j = i := by omega
        subst this
        rw [if_pos (by simp; omega), zip3_get l m n j hm hn (by omega)]
        have : rd x (j : Int) = rd l (j : Int) := by simp [rd, List.getD_eq_getElem?_getD, h2 j (Nat.le_refl _)]
        rw [this]
        rfl
      · rw [if_neg hij]
        exact h1 j (by omega)
    · rw [List.getElem?_set_ne (by omega)]
      exact h2 j (by omega)

theorem CrcXor : rickyardlaw05_CrcXor.Pure := by
  intro l m n _ _ hl _ _ hm _ _ hn
  have hB : ∀ q : List Int, (∀ x ∈ q, (Lit.int .u8 x).wf = true) → Bytes q := fun q h x hx => by
    have h1 := h x hx
    simp [Lit.wf, IntKind.min, IntKind.max, IntKind.signed, IntKind.bits] at h1
    omega
  refine ⟨l.length + 4, ?_⟩
  unfold rickyardlaw05_CrcXor.f
  by_cases h1 : (l.length : Int) > 2000
  · rw [if_pos h1, rickyardlaw05_CrcXor.j0]
    rfl
  · rw [if_neg h1]
    by_cases h2 : (m.length : Int) = l.length
    · rw [if_pos h2]
      by_cases h3 : (n.length : Int) = l.length
      · have e3 : ((n.length : Int) != l.length) = false := by simp [h3]
        rw [e3, rickyardlaw05_CrcXor.j0, if_neg (by decide)]
        unfold rickyardref05_Copy.f
        rw [if_pos (by simp; omega)]
        simp only [Option.bind_some, List.nil_append]
        have hm' : m.length = l.length := by omega
        have hn' : n.length = l.length := by omega
        have := xor_l0 l m n hm' hn' (by omega) l.length 2 0 l (by omega) rfl (fun j hj => by omega) (fun j _ => rfl)
        rw [show l.length + 3 = 2 + l.length + 1 from by omega, show ((0 : Int)) = ((0 : Nat) : Int) from rfl, this, rickyardlaw05_CrcXor.l0, if_neg (by rw [length_zip3 l m n hm' hn']; omega)]
        unfold rickyardlaw05_alive.f crc_Sum.f cMore.f
        simp only [Option.bind_some, if_true]
        congr 1
        rw [bits_xor_u32, bits_xor_u32, ofInt_bvi, ofInt_bvi, ofInt_bvi, ofInt_bvi, beq_iff_eq, bvi_inj]
        unfold cmore
        rw [← not_xor3, ← cfold_zip3 l m n _ _ _ hm' hn' (hB l hl) (hB m hm) (hB n hn)]
        rfl
      · have e3 : ((n.length : Int) != l.length) = true := by simp [h3]
        rw [e3, rickyardlaw05_CrcXor.j0]
        rfl
    · rw [if_neg h2, rickyardlaw05_CrcXor.j0]
      rfl

end Go.Proofs.Ythdkcfobhofmpaa.Pure
