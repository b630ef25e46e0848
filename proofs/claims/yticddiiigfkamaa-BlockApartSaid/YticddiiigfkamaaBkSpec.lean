/- A row's bytes, in plain Lean: what two keys have in common, short numbers, pairs. No conditions. -/
import Derived.Test.YticddiiigfkamaaBkRightB
import Derived.Test.YticddiiigfkamaaPblockCommon
import Derived.Test.YticddiiigfkamaaPcodeShort
namespace Go.Proofs.Yticddiiigfkamaa.P
open Go.RowKit Go.Proofs.YticddiiigfkamaaW.PrintWords Go.Proofs.YticddiiigfkamaaW.PrintLast Go.Proofs.YticddiiigfkamaaW.PrintMore
set_option linter.unusedVariables false
set_option linter.unusedSimpArgs false

theorem block_of_cell {w : World} {a : Addr} {v : Value} (h : w.cell? a = some v) : a.block < w.heap.size := by
  by_cases hl : a.block < w.heap.size
  · exact hl
  · have : w.heap[a.block]? = none := Array.getElem?_eq_none (by omega)
    simp [World.cell?, this] at h
theorem cell_bl {w C : World} {a : Addr} {v : Value} (h : w.cell? a = some v) (hb : Below w.heap.size w C) : C.cell? a = some v := (World.cell?_of_block (hb.block _ (block_of_cell h))).trans h
/-- How long the front is that both have. -/
def cmn : List Int → List Int → Nat
  | x :: a, y :: b => if x = y then cmn a b + 1 else 0
  | _, _ => 0
theorem cmn_le : ∀ a b : List Int, cmn a b ≤ a.length ∧ cmn a b ≤ b.length
  | [], _ => by simp [cmn]
  | _ :: _, [] => by simp [cmn]
  | x :: a, y :: b => by
    have := cmn_le a b
    rw [cmn]; split <;> simp <;> omega
theorem cmn_comm : ∀ a b : List Int, cmn a b = cmn b a
  | [], [] => rfl
  | [], _ :: _ => rfl
  | _ :: _, [] => rfl
  | x :: a, y :: b => by
    rw [cmn, cmn, cmn_comm a b]
    by_cases h : x = y
    · rw [if_pos h, if_pos h.symm]
    · rw [if_neg h, if_neg (fun e => h e.symm)]
theorem cmn_take : ∀ a b : List Int, a.take (cmn a b) = b.take (cmn a b)
  | [], b => by simp [cmn]
  | _ :: _, [] => by simp [cmn]
  | x :: a, y :: b => by
    rw [cmn]
    by_cases h : x = y
    · rw [if_pos h, List.take_succ_cons, List.take_succ_cons, h, cmn_take a b]
    · rw [if_neg h]; rfl
/-- Where both go on, they go on unlike. -/
theorem cmn_next : ∀ a b : List Int, cmn a b < a.length → cmn a b < b.length → a[cmn a b]? ≠ b[cmn a b]?
  | [], _, h, _ => by simp at h
  | _ :: _, [], _, h => by simp at h
  | x :: a, y :: b, h1, h2 => by
    rw [cmn] at h1 h2 ⊢
    by_cases h : x = y
    · rw [if_pos h] at h1 h2 ⊢
      simp only [List.length_cons, Nat.add_lt_add_iff_right] at h1 h2
      simp only [List.getElem?_cons_succ]
      exact cmn_next a b h1 h2
    · rw [if_neg h]; simpa using h
theorem rd_nat (l : List Int) {i : Nat} {c : Int} (h : l[i]? = some c) : rd l (i : Int) = c := by
  show l.getD ((i : Int)).toNat 0 = c
  rw [Int.toNat_natCast, List.getD_eq_getElem?_getD, h]; rfl
theorem common_l0 (a b : List Int) (ha : a.length ≤ 9223372036854775806) (d : Nat) : ∀ (k i : Nat), i + d = min a.length b.length → block_Common.l0 (k + d + 1) a b i = some ((i + cmn (a.drop i) (b.drop i) : Nat) : Int) := by
  induction d with
  | zero =>
    intro k i hi
    rw [block_Common.l0]
    have h0 : cmn (a.drop i) (b.drop i) = 0 := by
      by_cases h : i < a.length
      · have hb : b.drop i = [] := List.drop_of_length_le (by omega)
        rw [hb]; cases a.drop i <;> rfl
      · have hb : a.drop i = [] := List.drop_of_length_le (by omega)
        rw [hb]; rfl
    rw [h0, Nat.add_zero]
    by_cases h : (i : Int) < a.length
    · rw [if_pos h, if_neg (by omega)]
    · rw [if_neg h]
  | succ d ih =>
    intro k i hi
    have h1 : i < a.length := by omega
    have h2 : i < b.length := by omega
    obtain ⟨x, hx⟩ : ∃ x, a[i]? = some x := ⟨_, List.getElem?_eq_getElem h1⟩
    obtain ⟨y, hy⟩ : ∃ y, b[i]? = some y := ⟨_, List.getElem?_eq_getElem h2⟩
    have ea : a.drop i = x :: a.drop (i + 1) := by rw [List.drop_eq_getElem_cons h1, (List.getElem?_eq_some_iff.1 hx).2]
    have eb : b.drop i = y :: b.drop (i + 1) := by rw [List.drop_eq_getElem_cons h2, (List.getElem?_eq_some_iff.1 hy).2]
    rw [show k + (d + 1) + 1 = (k + d + 1) + 1 from rfl, block_Common.l0, if_pos (by omega), if_pos (by omega), if_pos (by omega), rd_nat a hx, rd_nat b hy, ea, eb, cmn]
    by_cases h : x = y
    · rw [if_pos h, if_pos h, show wrap64 ((i : Int) + 1) = ((i + 1 : Nat) : Int) by unfold wrap64; omega, ih k (i + 1) (by omega)]
      congr 2; omega
    · rw [if_neg h, if_neg h]; rfl
theorem common_f (a b : List Int) (ha : a.length ≤ 9223372036854775806) (k : Nat) (hk : a.length < k) : block_Common.f k a b = some ((cmn a b : Nat) : Int) := by
  unfold block_Common.f
  have h := common_l0 a b ha (min a.length b.length) (k - min a.length b.length - 1) 0 (by omega)
  rw [show k - min a.length b.length - 1 + min a.length b.length + 1 = k by omega] at h
  simpa using h
/-- In a region that draws. -/
theorem cmn_quiet {A0 : Option Addr} {c0 : Nat} {l0 : List Int} {A1 : Option Addr} {c1 : Nat} {l1 : List Int} {w : World} (hr0 : Kd.C (Kd.int .u8) w A0 l0.length l0) (hc0 : l0.length ≤ c0) (hr1 : Kd.C (Kd.int .u8) w A1 l1.length l1) (hc1 : l1.length ≤ c1) (hl : l0.length ≤ 9223372036854775806) (n : Nat) :
    Calls Try.prog 14 #[.slice A0 l0.length c0, .slice A1 l1.length c1] (w.drewN n) fun e w'' => e = .returned (.int .i64 ((cmn l0 l1 : Nat) : Int)) ∧ ∃ m, w'' = w.drewN m := by
  refine Calls.quiet_of ?_
  refine (block_Common.calls (l0.length + 1) A0 c0 l0 A1 c1 l1 _ (w.drewN n) (Kd.C_below hr0 (pw_below_drewN (Below.refl _ _) n)) hc0 (Kd.C_below hr1 (pw_below_drewN (Below.refl _ _) n)) hc1 (common_f l0 l1 hl _ (by omega))).mono ?_
  rintro e w' ⟨rfl, hd⟩
  exact ⟨rfl, hd.out⟩

/-- A short number. -/
def shortL (n : Nat) : List Int := if n < 128 then [(n : Int)] else [((n % 128 + 128 : Nat) : Int), ((n / 128 : Nat) : Int)]
theorem shortL_len (n : Nat) : (shortL n).length ≤ 2 ∧ 1 ≤ (shortL n).length := by unfold shortL; split <;> simp
theorem or_128 (n : Nat) (h : n < 256) : Go.bits .or .u8 (n : Int) 128 = ((n % 128 + 128 : Nat) : Int) := by
  have : ∀ m : Fin 256, Go.bits .or .u8 (m.val : Int) 128 = ((m.val % 128 + 128 : Nat) : Int) := by decide +kernel
  exact this ⟨n, h⟩
theorem short_f (n : Nat) (h : n < 16384) (k : Nat) : code_Short.f (k + 2) (n : Int) = some (shortL n) := by
  unfold code_Short.f
  rw [show k + 2 = (k + 1) + 1 from rfl, code_Short.l0]
  unfold shortL
  by_cases h1 : n < 128
  · rw [if_neg (by omega), if_pos (by decide), if_pos h1, show ((n : Int) % 256) = n by omega]; rfl
  · rw [if_pos (by omega), if_pos (by decide), if_neg h1, show ((n : Int) % 256) = ((n % 256 : Nat) : Int) by omega, or_128 _ (by omega), show ((n : Int) / 128) = ((n / 128 : Nat) : Int) by omega, code_Short.l0, if_neg (by omega), if_pos (by simp)]
    rw [show (((n / 128 : Nat) : Int) % 256) = ((n / 128 : Nat) : Int) by omega, show n % 256 % 128 = n % 128 by omega]
    rfl
/-- A pair's bytes, n of its key being known. -/
def encP (n : Nat) (p : Pr) : List Int := shortL n ++ shortL (p.f0.length - n) ++ shortL p.f1.length ++ p.f0.drop n ++ p.f1
def cnAt (i : Nat) (last : List Int) (p : Pr) : Nat := if i % 8 = 0 then 0 else cmn last p.f0
theorem cnAt_le (i : Nat) (last : List Int) (p : Pr) : cnAt i last p ≤ p.f0.length := by unfold cnAt; split; exact Nat.zero_le _; exact (cmn_le _ _).2
def encL : Nat → List Int → List Pr → List Int
  | _, _, [] => []
  | i, last, p :: t => encP (cnAt i last p) p ++ encL (i + 1) p.f0 t
def lastK (last : List Int) : List Pr → List Int
  | [] => last
  | p :: t => lastK p.f0 t
theorem encL_snoc (p : Pr) : ∀ (l : List Pr) (i : Nat) (last : List Int), encL i last (l ++ [p]) = encL i last l ++ encP (cnAt (i + l.length) (lastK last l) p) p
  | [], i, last => by simp [encL, lastK]
  | q :: l, i, last => by
    rw [List.cons_append, encL, encL_snoc p l, encL, List.append_assoc, lastK, List.length_cons, show i + 1 + l.length = i + (l.length + 1) by omega]
theorem lastK_take (l : List Pr) {i : Nat} {q : Pr} (h : l[i]? = some q) : ∀ last, lastK last (l.take (i + 1)) = q.f0 := by
  induction l generalizing i with
  | nil => simp at h
  | cons p l ih =>
    intro last
    cases i with
    | zero => simp at h; subst h; rfl
    | succ i => rw [List.take_succ_cons, lastK]; exact ih (by simpa using h) _
/-- The bytes of the first i pairs. -/
def encTo (l : List Pr) (i : Nat) : List Int := encL 0 [] (l.take i)
def prevK (l : List Pr) (i : Nat) : List Int := lastK [] (l.take i)
theorem encTo_succ (l : List Pr) {i : Nat} {p : Pr} (h : l[i]? = some p) : encTo l (i + 1) = encTo l i ++ encP (cnAt i (prevK l i) p) p := by
  unfold encTo prevK
  have hlt := (List.getElem?_eq_some_iff.1 h).1
  rw [List.take_add_one, h]
  show encL 0 [] (l.take i ++ [p]) = _
  rw [encL_snoc, Nat.zero_add, List.length_take, Nat.min_eq_left (by omega)]
theorem prevK_succ (l : List Pr) {i : Nat} {p : Pr} (h : l[i]? = some p) : prevK l (i + 1) = p.f0 := lastK_take l h _
theorem encP_len (n : Nat) (p : Pr) (h0 : p.f0.length ≤ 4096) (h1 : p.f1.length ≤ 4096) : (encP n p).length ≤ 8198 := by
  unfold encP
  have a := shortL_len n
  have b := shortL_len (p.f0.length - n)
  have c := shortL_len p.f1.length
  simp only [List.length_append, List.length_drop]
  omega
theorem encTo_len (l : List Pr) (h : ∀ p ∈ l, p.f0.length ≤ 4096 ∧ p.f1.length ≤ 4096) : ∀ i, i ≤ l.length → (encTo l i).length ≤ 8198 * i := by
  intro i
  induction i with
  | zero => intro _; simp [encTo, encL]
  | succ i ih =>
    intro hi
    obtain ⟨p, hp⟩ : ∃ p, l[i]? = some p := ⟨_, List.getElem?_eq_getElem (by omega)⟩
    have hm := h p (List.mem_of_getElem? hp)
    rw [encTo_succ l hp, List.length_append]
    have := encP_len (cnAt i (prevK l i) p) p hm.1 hm.2
    have := ih (by omega)
    omega
theorem not_long {l : List Pr} (h : l.any longP = false) : ∀ p ∈ l, p.f0.length ≤ 4096 ∧ p.f1.length ≤ 4096 := by
  intro p hp
  rw [List.any_eq_false] at h
  have := h p hp
  unfold longP at this
  simp only [Bool.or_eq_true, decide_eq_true_eq, not_or] at this
  omega
end Go.Proofs.Yticddiiigfkamaa.P
