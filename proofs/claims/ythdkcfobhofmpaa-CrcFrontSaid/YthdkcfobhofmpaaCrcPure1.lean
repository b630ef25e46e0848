/- What crc's four, number, Frame and Next come to, as plain functions on lists of bytes. No conditions but that the lists hold bytes. -/
import Derived.Test.YthdkcfobhofmpaaPcrcNext
import Derived.Test.YthdkcfobhofmpaaPcrcFrame
import Derived.Test.YthdkcfobhofmpaaPcrcnumber
import Derived.Test.YthdkcfobhofmpaaCrcSpec
import Derived.Test.YthdkcfobhofmpaaECloneB
import Derived.Lib.Bytes
namespace Go.Proofs.Ythdkcfobhofmpaa.Pure
open Go.RowKit Go.Proofs.Ythdkcfobhofmpaa.P Go.Proofs.YthdkcfobhofmpaaW.PrintWords Go.Proofs.YthdkcfobhofmpaaW.PrintLast
set_option linter.unusedVariables false
set_option linter.unusedSimpArgs false

def IsBytes (l : List Int) : Prop := ∀ x ∈ l, 0 ≤ x ∧ x < 256
theorem isBytes_wf {l : List Int} (h : ∀ x ∈ l, (Lit.int .u8 x).wf = true) : IsBytes l := fun x hx => by
  have h1 := h x hx
  simp [Lit.wf, IntKind.min, IntKind.max, IntKind.signed, IntKind.bits] at h1
  omega
theorem IsBytes.append {l m : List Int} (h : IsBytes l) (k : IsBytes m) : IsBytes (l ++ m) := fun x hx => by
  rcases List.mem_append.1 hx with hx | hx
  · exact h x hx
  · exact k x hx
theorem IsBytes.drop {l : List Int} (h : IsBytes l) (n : Nat) : IsBytes (l.drop n) := fun x hx => h x (List.mem_of_mem_drop hx)
theorem IsBytes.take {l : List Int} (h : IsBytes l) (n : Nat) : IsBytes (l.take n) := fun x hx => h x (List.mem_of_mem_take hx)
theorem IsBytes.rd {l : List Int} (h : IsBytes l) (i : Int) : 0 ≤ rd l i ∧ rd l i < 256 := by
  unfold Go.Proofs.YthdkcfobhofmpaaW.PrintWords.rd
  rw [List.getD_eq_getElem?_getD]
  by_cases hi : i.toNat < l.length
  · rw [List.getElem?_eq_getElem hi]
    exact h _ (List.getElem_mem hi)
  · rw [List.getElem?_eq_none (by omega)]
    simp

theorem strOf_inj {a b : List Int} (ha : IsBytes a) (hb : IsBytes b) : (strOfNums a).toList = (strOfNums b).toList ↔ a = b := by
  rw [Go.Lib.strOfNums_toList, Go.Lib.strOfNums_toList]
  unfold Go.Lib.bytesOf
  constructor
  · intro h
    have hl : a.length = b.length := by have := congrArg List.length h; simpa using this
    apply List.ext_getElem hl
    intro i h1 h2
    have h3 : (a.map fun n : Int => UInt8.ofNat n.toNat)[i]? = (b.map fun n : Int => UInt8.ofNat n.toNat)[i]? := by rw [h]
    rw [List.getElem?_map, List.getElem?_map, List.getElem?_eq_getElem h1, List.getElem?_eq_getElem h2] at h3
    simp only [Option.map_some, Option.some.injEq] at h3
    have h4 := congrArg UInt8.toNat h3
    have p1 := ha _ (List.getElem_mem h1)
    have p2 := hb _ (List.getElem_mem h2)
    rw [UInt8.toNat_ofNat', UInt8.toNat_ofNat'] at h4
    omega
  · rintro rfl; rfl

/-- A number's four bytes, the least first. -/
def four (v : Int) : List Int := [v % 256, (v / 256) % 256, (v / 65536) % 256, (v / 16777216) % 256]
/-- The number of the first four bytes. -/
def num4 (l : List Int) : Int := rd l 0 + 256 * rd l 1 + 65536 * rd l 2 + 16777216 * rd l 3
theorem four_bytes (v : Int) : IsBytes (four v) := fun x hx => by
  simp only [four, List.mem_cons, List.not_mem_nil, or_false] at hx
  rcases hx with rfl | rfl | rfl | rfl <;> omega
theorem four_length (v : Int) : (four v).length = 4 := rfl
theorem rd_append_left {l m : List Int} {i : Int} (h0 : 0 ≤ i) (h : i < l.length) : rd (l ++ m) i = rd l i := by
  unfold Go.Proofs.YthdkcfobhofmpaaW.PrintWords.rd
  rw [List.getD_eq_getElem?_getD, List.getD_eq_getElem?_getD, List.getElem?_append_left (by omega)]
theorem num4_four (v : Int) (h0 : 0 ≤ v) (h : v < 4294967296) (l : List Int) : num4 (four v ++ l) = v := by
  unfold num4
  rw [rd_append_left (by omega) (by simp [four]), rd_append_left (by omega) (by simp [four]), rd_append_left (by omega) (by simp [four]), rd_append_left (by omega) (by simp [four])]
  simp only [four, Go.Proofs.YthdkcfobhofmpaaW.PrintWords.rd, List.getD_eq_getElem?_getD, show (0 : Int).toNat = 0 from rfl, show (1 : Int).toNat = 1 from rfl, show (2 : Int).toNat = 2 from rfl, show (3 : Int).toNat = 3 from rfl, List.getElem?_cons_zero, List.getElem?_cons_succ, Option.getD_some]
  omega
theorem num4_range {l : List Int} (h : IsBytes l) : 0 ≤ num4 l ∧ num4 l < 4294967296 := by
  have a := h.rd 0; have b := h.rd 1; have c := h.rd 2; have d := h.rd 3
  unfold num4; omega

theorem four_f (l : List Int) (v : Int) (h : l.length + 4 < 140737488355328) : crc_four.f l v = some (l ++ four v) := by
  unfold crc_four.f
  simp only [Option.bind_some]
  rw [if_pos (by simpa using h)]
  rfl

theorem or_add (a b i : Nat) (hb : b < 2 ^ i) : b ||| (a * 2 ^ i) = b + a * 2 ^ i := by
  rw [Nat.or_comm, Nat.mul_comm, ← Nat.two_pow_add_eq_or_of_lt hb]
  omega
theorem number_f {l : List Int} (hl : IsBytes l) (h : 4 ≤ l.length) : crc_number.f l = some (num4 l) := by
  have a := hl.rd 0; have b := hl.rd 1; have c := hl.rd 2; have d := hl.rd 3
  unfold crc_number.f num4
  rw [if_pos (by omega), if_pos (by omega), if_pos (by omega), if_pos (by omega)]
  obtain ⟨x0, e0⟩ := Int.eq_ofNat_of_zero_le a.1
  obtain ⟨x1, e1⟩ := Int.eq_ofNat_of_zero_le b.1
  obtain ⟨x2, e2⟩ := Int.eq_ofNat_of_zero_le c.1
  obtain ⟨x3, e3⟩ := Int.eq_ofNat_of_zero_le d.1
  rw [e0] at a ⊢; rw [e1] at b ⊢; rw [e2] at c ⊢; rw [e3] at d ⊢
  have k : ∀ (p q : Nat), p < 2 ^ 32 → q < 2 ^ 32 → Go.bits .or .u32 (p : Int) (q : Int) = ((p ||| q : Nat) : Int) := fun p q hp hq => by
    rw [bits_or_u32]
    unfold bvi
    simp only [BitVec.ofInt_natCast, BitVec.toNat_or, BitVec.toNat_ofNat]
    rw [Nat.mod_eq_of_lt hp, Nat.mod_eq_of_lt hq]
  have f0 : ((x0 : Int) % 4294967296) = ((x0 : Nat) : Int) := by omega
  have f1 : (((x1 : Int) % 4294967296) * 256) % 4294967296 = ((x1 * 2 ^ 8 : Nat) : Int) := by omega
  have f2 : (((x2 : Int) % 4294967296) * 65536) % 4294967296 = ((x2 * 2 ^ 16 : Nat) : Int) := by omega
  have f3 : (((x3 : Int) % 4294967296) * 16777216) % 4294967296 = ((x3 * 2 ^ 24 : Nat) : Int) := by omega
  rw [f0, f1, f2, f3, k _ _ (by omega) (by omega), or_add _ _ 8 (by omega), k _ _ (by omega) (by omega), or_add _ _ 16 (by omega), k _ _ (by omega) (by omega), or_add _ _ 24 (by omega)]
  congr 1
  omega

/-- The sum, as a number. -/
def sumOf (l : List Int) : Int := bvi (cmore 0#32 l)
theorem sum_f (l : List Int) : crc_Sum.f l = some (sumOf l) := rfl
/-- A frame. -/
def frame (l : List Int) : List Int := (four l.length ++ l) ++ four (sumOf (four l.length ++ l))
theorem frame_length (l : List Int) : (frame l).length = l.length + 8 := by simp [frame, four]
theorem frame_bytes {l : List Int} (h : IsBytes l) : IsBytes (frame l) := ((four_bytes _).append h).append (four_bytes _)
theorem frame_f (l : List Int) (h : l.length ≤ 65535) : crc_Frame.f l = some (frame l, 0) := by
  unfold crc_Frame.f
  rw [if_neg (by omega), show ((l.length : Int) % 4294967296) = (l.length : Int) from by omega, four_f _ _ (by simp)]
  simp only [Option.bind_some, List.nil_append]
  rw [if_pos (by simp [four]; omega), sum_f]
  simp only [Option.bind_some]
  rw [four_f _ _ (by simp [four]; omega)]
  rfl

/-- What Next tells. -/
def nextS (l : List Int) : List Int × Int × Int :=
  if l.length < 4 then ([], 0, 10)
  else if 65535 < num4 l then ([], 0, 2)
  else if (l.length : Int) < num4 l + 8 then ([], 0, 10)
  else if num4 (l.drop ((num4 l).toNat + 4)) = sumOf (l.take ((num4 l).toNat + 4)) then ((l.take ((num4 l).toNat + 4)).drop 4, num4 l + 8, 0)
  else ([], 0, 20)
theorem next_f {l : List Int} (hl : IsBytes l) (h : l.length ≤ 140737488351232) : crc_Next.f l = some (nextS l) := by
  unfold crc_Next.f nextS
  by_cases h4 : l.length < 4
  · rw [if_pos (by omega), if_pos h4]
  · rw [if_neg (by omega), if_neg h4, number_f hl (by omega)]
    have hr := num4_range hl
    simp only [Option.bind_some]
    have w0 : wrap64 (num4 l) = num4 l := by unfold wrap64; omega
    rw [w0]
    by_cases h5 : 65535 < num4 l
    · rw [if_pos h5, if_pos h5]
    · rw [if_neg (by omega), if_neg h5]
      have w8 : wrap64 (num4 l + 8) = num4 l + 8 := by unfold wrap64; omega
      have w4 : wrap64 (num4 l + 4) = num4 l + 4 := by unfold wrap64; omega
      rw [w8, w4]
      by_cases h6 : (l.length : Int) < num4 l + 8
      · rw [if_pos h6, if_pos h6]
      · have et : (num4 l + 4).toNat = (num4 l).toNat + 4 := by omega
        rw [if_neg h6, if_neg h6, if_pos (by omega), if_pos (by omega), et, number_f (hl.drop _) (by rw [List.length_drop]; omega), sum_f]
        simp only [Option.bind_some]
        by_cases h7 : num4 (l.drop ((num4 l).toNat + 4)) = sumOf (l.take ((num4 l).toNat + 4))
        · rw [if_pos h7, if_pos h7, if_pos (by omega)]
          unfold slices_Clone_byte_byte.f
          rw [if_pos (by simp only [List.length_drop, List.length_take]; omega)]
          rfl
        · rw [if_neg h7, if_neg h7]

end Go.Proofs.Ythdkcfobhofmpaa.Pure
