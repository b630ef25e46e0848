/- A filter's digits, in plain Lean: what is added stays, in whatever order. No conditions. -/
import Derived.Test.YtliafeandefocaaSMore
import Derived.Test.YtliafeandefocaaPcrcSum
namespace Go.Proofs.Ytliafeandefocaa.P
open Go.RowKit Go.Proofs.YtliafeandefocaaW.PrintWords Go.Proofs.YtliafeandefocaaW.PrintLast Go.Proofs.YtliafeandefocaaW.PrintMore
set_option linter.unusedVariables false
set_option linter.unusedSimpArgs false

/-- A key's places: from a on, each b further. -/
def plc (n8 b : Int) : Nat → Int → List Int
  | 0, _ => []
  | k + 1, a => (a % n8) :: plc n8 b k ((a + b) % 4294967296)

def bitAt (l : List Int) (p : Int) : Bool := (l.getD (p / 8).toNat 0).toNat.testBit (p % 8).toNat
def setBit (l : List Int) (p : Int) : List Int := l.set (p / 8).toNat (((l.getD (p / 8).toNat 0).toNat ||| 2 ^ (p % 8).toNat : Nat) : Int)
def addS (l : List Int) (ps : List Int) : List Int := ps.foldl setBit l
def mayS (l : List Int) (ps : List Int) : Bool := ps.all (bitAt l)
def IsB (l : List Int) : Prop := ∀ x ∈ l, 0 ≤ x ∧ x < 256

theorem setBit_length (l : List Int) (p : Int) : (setBit l p).length = l.length := by simp [setBit]
theorem addS_length (ps : List Int) : ∀ l : List Int, (addS l ps).length = l.length := by
  induction ps with
  | nil => intro l; rfl
  | cons p ps ih => intro l; rw [addS, List.foldl_cons]; exact (ih _).trans (setBit_length l p)

theorem setBit_bytes {l : List Int} (h : IsB l) (p : Int) : IsB (setBit l p) := by
  intro x hx
  rcases List.mem_or_eq_of_mem_set hx with h1 | rfl
  · exact h x h1
  · refine ⟨by omega, ?_⟩
    have h0 : (l.getD (p / 8).toNat 0).toNat < 2 ^ 8 := by
      by_cases hi : (p / 8).toNat < l.length
      · rw [List.getD_eq_getElem?_getD, List.getElem?_eq_getElem hi]
        have := h _ (List.getElem_mem hi)
        simp only [Option.getD_some]; omega
      · rw [List.getD_eq_getElem?_getD, List.getElem?_eq_none (by omega)]; simp
    have h1 : (2 : Nat) ^ (p % 8).toNat < 2 ^ 8 := Nat.pow_lt_pow_right (by omega) (by omega)
    have := Nat.or_lt_two_pow h0 h1
    omega
theorem addS_bytes {ps : List Int} : ∀ {l : List Int}, IsB l → IsB (addS l ps) := by
  induction ps with
  | nil => intro l h; exact h
  | cons p ps ih => intro l h; exact ih (setBit_bytes h p)

theorem bitAt_set (l : List Int) (p q : Int) (hp : 0 ≤ p) (hq : 0 ≤ q) (hl : p / 8 < l.length) : bitAt (setBit l p) q = (bitAt l q || decide (p = q)) := by
  unfold bitAt setBit
  by_cases h : (p / 8).toNat = (q / 8).toNat
  · rw [← h, List.getD_eq_getElem?_getD, List.getElem?_set_self (by omega)]
    simp only [Option.getD_some, Int.toNat_natCast, Nat.testBit_or, Nat.testBit_two_pow]
    congr 1
    simp only [decide_eq_decide]
    omega
  · rw [List.getD_eq_getElem?_getD, List.getElem?_set_ne h, ← List.getD_eq_getElem?_getD]
    have : p ≠ q := by omega
    simp [this]

/-- Bytes of one length are told by their digits. -/
theorem ext_bits {l m : List Int} (hl : IsB l) (hm : IsB m) (hn : l.length = m.length) (h : ∀ q : Int, 0 ≤ q → q < 8 * l.length → bitAt l q = bitAt m q) : l = m := by
  refine List.ext_getElem hn fun i h1 h2 => ?_
  have a1 := hl _ (List.getElem_mem h1)
  have a2 := hm _ (List.getElem_mem h2)
  have : l[i].toNat = m[i].toNat := by
    refine Nat.eq_of_testBit_eq fun k => ?_
    by_cases hk : k < 8
    · have := h (8 * i + k) (by omega) (by omega)
      unfold bitAt at this
      have e1 : ((8 * (i : Int) + k) / 8).toNat = i := by omega
      have e2 : ((8 * (i : Int) + k) % 8).toNat = k := by omega
      rw [e1, e2, List.getD_eq_getElem?_getD, List.getD_eq_getElem?_getD, List.getElem?_eq_getElem h1, List.getElem?_eq_getElem h2] at this
      exact this
    · have p8 : 2 ^ 8 ≤ 2 ^ k := Nat.pow_le_pow_right (by omega) (by omega)
      rw [Nat.testBit_lt_two_pow (by omega), Nat.testBit_lt_two_pow (by omega)]
  omega

def Fits (n : Nat) (ps : List Int) : Prop := ∀ p ∈ ps, 0 ≤ p ∧ p < 8 * n

theorem plc_fits (n : Nat) (hn : 0 < n) (b : Int) : ∀ (k : Nat) (a : Int), Fits n (plc (8 * n) b k a) := by
  intro k
  induction k with
  | zero => intro a p hp; cases hp
  | succ k ih =>
    intro a p hp
    rcases List.mem_cons.1 hp with rfl | h
    · exact ⟨Int.emod_nonneg _ (by omega), Int.emod_lt_of_pos _ (by omega)⟩
    · exact ih _ _ h
theorem plc_length (n8 b : Int) : ∀ (k : Nat) (a : Int), (plc n8 b k a).length = k := by
  intro k
  induction k with
  | zero => intro a; rfl
  | succ k ih => intro a; simp [plc, ih]

theorem bitAt_add {n : Nat} : ∀ (ps : List Int) (l : List Int) (q : Int), l.length = n → Fits n ps → 0 ≤ q → bitAt (addS l ps) q = (bitAt l q || decide (q ∈ ps)) := by
  intro ps
  induction ps with
  | nil => intro l q _ _ _; simp [addS]
  | cons p ps ih =>
    intro l q hl hf hq
    have hp := hf p (List.mem_cons_self ..)
    rw [show addS l (p :: ps) = addS (setBit l p) ps from rfl, ih _ _ ((setBit_length l p).trans hl) (fun x hx => hf x (List.mem_cons_of_mem _ hx)) hq, bitAt_set l p q hp.1 hq (by omega), Bool.or_assoc]
    congr 1
    by_cases h1 : p = q
    · simp [h1]
    · have h2 : q ≠ p := fun e => h1 e.symm
      simp [h1, h2]

theorem may_add_self {n : Nat} {l ps : List Int} (hl : l.length = n) (hf : Fits n ps) : mayS (addS l ps) ps = true := by
  unfold mayS
  rw [List.all_eq_true]
  intro p hp
  rw [bitAt_add ps l p hl hf (hf p hp).1]
  simp [hp]
theorem may_add {n : Nat} {l ps qs : List Int} (hl : l.length = n) (hf : Fits n ps) (hq : Fits n qs) (h : mayS l qs = true) : mayS (addS l ps) qs = true := by
  unfold mayS at h ⊢
  rw [List.all_eq_true] at h ⊢
  intro p hp
  rw [bitAt_add ps l p hl hf (hq p hp).1, h p hp]
  simp
theorem add_comm {n : Nat} {l ps qs : List Int} (hl : l.length = n) (hb : IsB l) (hf : Fits n ps) (hq : Fits n qs) : addS (addS l ps) qs = addS (addS l qs) ps := by
  refine ext_bits (addS_bytes (addS_bytes hb)) (addS_bytes (addS_bytes hb)) (by simp only [addS_length]) fun q h0 _ => ?_
  rw [bitAt_add qs _ q ((addS_length ps l).trans hl) hq h0, bitAt_add ps l q hl hf h0, bitAt_add ps _ q ((addS_length qs l).trans hl) hf h0, bitAt_add qs l q hl hq h0, Bool.or_assoc, Bool.or_assoc, Bool.or_comm (decide (q ∈ ps))]
theorem add_self {n : Nat} {l ps : List Int} (hl : l.length = n) (hb : IsB l) (hf : Fits n ps) (h : mayS l ps = true) : addS l ps = l := by
  refine ext_bits (addS_bytes hb) hb (addS_length ps l) fun q h0 _ => ?_
  rw [bitAt_add ps l q hl hf h0]
  by_cases hq : q ∈ ps
  · unfold mayS at h; rw [List.all_eq_true] at h; rw [h q hq]; rfl
  · simp [hq]
/-- All keys' places. -/
def addAll (l : List Int) (pss : List (List Int)) : List Int := pss.foldl addS l
theorem addAll_length (pss : List (List Int)) : ∀ l : List Int, (addAll l pss).length = l.length := by
  induction pss with
  | nil => intro l; rfl
  | cons p ps ih => intro l; exact (ih _).trans (addS_length p l)
theorem addAll_bytes : ∀ {pss : List (List Int)} {l : List Int}, IsB l → IsB (addAll l pss) := by
  intro pss
  induction pss with
  | nil => intro l h; exact h
  | cons p ps ih => intro l h; exact ih (addS_bytes h)
theorem may_all {n : Nat} {qs : List Int} (hq : Fits n qs) : ∀ (pss : List (List Int)) (l : List Int), l.length = n → (∀ ps ∈ pss, Fits n ps) → mayS l qs = true → mayS (addAll l pss) qs = true := by
  intro pss
  induction pss with
  | nil => intro l _ _ h; exact h
  | cons p ps ih => intro l hl hf h; exact ih _ ((addS_length p l).trans hl) (fun x hx => hf x (List.mem_cons_of_mem _ hx)) (may_add hl (hf p (List.mem_cons_self ..)) hq h)
theorem may_of_mem {n : Nat} : ∀ (pss : List (List Int)) (l : List Int) (qs : List Int), l.length = n → (∀ ps ∈ pss, Fits n ps) → qs ∈ pss → mayS (addAll l pss) qs = true := by
  intro pss
  induction pss with
  | nil => intro l qs _ _ h; cases h
  | cons p ps ih =>
    intro l qs hl hf h
    rcases List.mem_cons.1 h with rfl | h1
    · exact may_all (hf _ h) ps _ ((addS_length qs l).trans hl) (fun x hx => hf x (List.mem_cons_of_mem _ hx)) (may_add_self hl (hf _ h))
    · exact ih _ qs ((addS_length p l).trans hl) (fun x hx => hf x (List.mem_cons_of_mem _ hx)) h1
theorem addAll_append (a b : List (List Int)) (l : List Int) : addAll l (a ++ b) = addAll (addAll l a) b := by simp [addAll]
theorem addAll_comm1 {n : Nat} {ps : List Int} (hp : Fits n ps) : ∀ (pss : List (List Int)) (l : List Int), l.length = n → IsB l → (∀ q ∈ pss, Fits n q) → addAll (addS l ps) pss = addS (addAll l pss) ps := by
  intro pss
  induction pss with
  | nil => intro l _ _ _; rfl
  | cons q qs ih =>
    intro l hl hb hf
    rw [show addAll (addS l ps) (q :: qs) = addAll (addS (addS l ps) q) qs from rfl, add_comm hl hb hp (hf q (List.mem_cons_self ..)), ih _ ((addS_length q l).trans hl) (addS_bytes hb) (fun x hx => hf x (List.mem_cons_of_mem _ hx))]
    rfl
theorem addAll_rev {n : Nat} : ∀ (pss : List (List Int)) (l : List Int), l.length = n → IsB l → (∀ q ∈ pss, Fits n q) → addAll l pss.reverse = addAll l pss := by
  intro pss
  induction pss with
  | nil => intro l _ _ _; rfl
  | cons q qs ih =>
    intro l hl hb hf
    rw [List.reverse_cons, addAll_append, ih l hl hb (fun x hx => hf x (List.mem_cons_of_mem _ hx)), show addAll l (q :: qs) = addAll (addS l q) qs from rfl, addAll_comm1 (hf q (List.mem_cons_self ..)) qs l hl hb (fun x hx => hf x (List.mem_cons_of_mem _ hx))]
    rfl
theorem may_zero {n : Nat} {ps : List Int} (h : ps ≠ []) : mayS (List.replicate n 0) ps = false := by
  cases ps with
  | nil => exact absurd rfl h
  | cons p ps =>
    have : bitAt (List.replicate n (0 : Int)) p = false := by
      unfold bitAt
      have : (List.replicate n (0 : Int)).getD (p / 8).toNat 0 = 0 := by
        rw [List.getD_eq_getElem?_getD]
        by_cases h : (p / 8).toNat < n
        · rw [List.getElem?_replicate, if_pos h]; rfl
        · rw [List.getElem?_replicate, if_neg h]; rfl
      rw [this]; simp
    simp [mayS, this]
theorem zeros_bytes (n : Nat) : IsB (List.replicate n (0 : Int)) := fun x hx => by rw [List.eq_of_mem_replicate hx]; omega

/-- A text's sum, and the step of a key's places. -/
def kA (l : List Int) : Int := bvi (cmore 0#32 l)
def kB (l : List Int) : Int := Go.bits .or .u32 (bvi (cmore (BitVec.ofInt 32 (kA l)) [1])) 1
theorem kA_f (l : List Int) : crc_Sum.f l = some (kA l) := rfl
theorem kB_f (l : List Int) : cMore.f (kA l) [1] = some (bvi (cmore (BitVec.ofInt 32 (kA l)) [1])) := rfl
theorem kA_range (l : List Int) : 0 ≤ kA l ∧ kA l < 4294967296 := ⟨bvi_nonneg _, bvi_lt _⟩
/-- A key's places in a filter of n bytes and h hashes. -/
def plcK (n : Nat) (h : Int) (key : List Int) : List Int := plc (8 * n) (kB key) h.toNat (kA key)
theorem plcK_fits (n : Nat) (hn : 0 < n) (h : Int) (key : List Int) : Fits n (plcK n h key) := plc_fits n hn _ _ _
theorem plcK_ne (n : Nat) (h : Int) (hh : 1 ≤ h) (key : List Int) : plcK n h key ≠ [] := by
  intro e
  have := congrArg List.length e
  rw [plcK, plc_length] at this
  simp at this; omega

end Go.Proofs.Ytliafeandefocaa.P
