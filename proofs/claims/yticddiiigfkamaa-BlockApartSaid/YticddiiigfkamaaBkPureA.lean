/- For BlockApart, in plain Lean: Same tells whether rows are one; Write is one-to-one. No conditions. -/
import Derived.Test.YticddiiigfkamaaBkPureR
import Derived.Test.YticddiiigfkamaaBkPureW
namespace Go.Proofs.Yticddiiigfkamaa.Pure
open Go.RowKit Go.Proofs.Yticddiiigfkamaa.P Go.Proofs.YticddiiigfkamaaW.PrintWords Go.Proofs.YticddiiigfkamaaW.PrintLast
set_option linter.unusedVariables false
set_option linter.unusedSimpArgs false

theorem bytesOf_inj : ∀ {a b : List Int}, (∀ x ∈ a, 0 ≤ x ∧ x < 256) → (∀ x ∈ b, 0 ≤ x ∧ x < 256) → Lib.bytesOf a = Lib.bytesOf b → a = b
  | [], [], _, _, _ => rfl
  | [], _ :: _, _, _, h => by simp [Lib.bytesOf] at h
  | _ :: _, [], _, _, h => by simp [Lib.bytesOf] at h
  | x :: a, y :: b, ha, hb, h => by
    simp only [Lib.bytesOf, List.map_cons, List.cons.injEq] at h
    have hx := ha x (by simp)
    have hy := hb y (by simp)
    have e := congrArg UInt8.toNat h.1
    simp only [UInt8.toNat_ofNat'] at e
    have : x = y := by omega
    rw [this, bytesOf_inj (fun z hz => ha z (by simp [hz])) (fun z hz => hb z (by simp [hz])) h.2]
theorem str_eq {a b : List Int} (ha : ∀ x ∈ a, 0 ≤ x ∧ x < 256) (hb : ∀ x ∈ b, 0 ≤ x ∧ x < 256) : (strOfNums a).toList = (strOfNums b).toList ↔ a = b := by
  rw [Go.Lib.strOfNums_toList, Go.Lib.strOfNums_toList]
  exact ⟨bytesOf_inj ha hb, fun h => by rw [h]⟩
def PrB (l : List Pr) : Prop := ∀ p ∈ l, (∀ x ∈ p.f0, 0 ≤ x ∧ x < 256) ∧ ∀ x ∈ p.f1, 0 ≤ x ∧ x < 256
theorem pr_ext {p q : Pr} (h0 : p.f0 = q.f0) (h1 : p.f1 = q.f1) : p = q := by
  cases p; cases q; cases h0; cases h1; rfl
theorem same2_l0 (l m : List Pr) (hl : l.length ≤ 5000) (he : l.length = m.length) (hL : PrB l) (hM : PrB m) : ∀ (d i k : Nat), l.length - i = d → d < k → ∃ r, rickyardlaw09_Same.l0 k l (m.map a47) (i : Int) = some r ∧ (r = true ↔ l.drop i = m.drop i)
  | d, i, 0, _, h => absurd h (Nat.not_lt_zero _)
  | d, i, k + 1, hd, hk => by
    rw [rickyardlaw09_Same.l0]
    by_cases h1 : i < l.length
    · obtain ⟨p, hp⟩ : ∃ p, l[i]? = some p := ⟨_, List.getElem?_eq_getElem h1⟩
      obtain ⟨q, hq⟩ : ∃ q, m[i]? = some q := ⟨_, List.getElem?_eq_getElem (by omega)⟩
      have bp := hL p (List.mem_of_getElem? hp)
      have bq := hM q (List.mem_of_getElem? hq)
      have dl : l.drop i = p :: l.drop (i + 1) := by rw [List.drop_eq_getElem_cons h1]; congr 1; exact (List.getElem?_eq_some_iff.1 hp).2
      have dm : m.drop i = q :: m.drop (i + 1) := by rw [List.drop_eq_getElem_cons (by omega)]; congr 1; exact (List.getElem?_eq_some_iff.1 hq).2
      rw [if_pos (by omega), if_pos (by omega), if_pos (by rw [List.length_map]; omega), rd39 hp, rd47 hq]
      by_cases e0 : p.f0 = q.f0
      · rw [if_pos (show (strOfNums p.f0).toList = (strOfNums (a47 q).f0).toList from (str_eq bp.1 bq.1).2 e0)]
        by_cases e1 : p.f1 = q.f1
        · rw [if_pos (show (strOfNums p.f1).toList = (strOfNums (a47 q).f1).toList from (str_eq bp.2 bq.2).2 e1), w64_up (by omega)]
          obtain ⟨r, hr, hi⟩ := same2_l0 l m hl he hL hM (d - 1) (i + 1) k (by omega) (by omega)
          refine ⟨r, hr, ?_⟩
          rw [hi, dl, dm, pr_ext e0 e1]
          simp
        · rw [if_neg (show ¬ (strOfNums p.f1).toList = (strOfNums (a47 q).f1).toList from fun h => e1 ((str_eq bp.2 bq.2).1 h))]
          refine ⟨false, rfl, ?_⟩
          rw [dl, dm]
          simp only [List.cons.injEq]
          exact ⟨fun h => (by cases h), fun h => absurd (congrArg (fun z : Pr => z.f1) h.1) e1⟩
      · rw [if_neg (show ¬ (strOfNums p.f0).toList = (strOfNums (a47 q).f0).toList from fun h => e0 ((str_eq bp.1 bq.1).1 h))]
        refine ⟨false, rfl, ?_⟩
        rw [dl, dm]
        simp only [List.cons.injEq]
        exact ⟨fun h => (by cases h), fun h => absurd (congrArg (fun z : Pr => z.f0) h.1) e0⟩
    · rw [if_neg (by omega)]
      exact ⟨true, rfl, by rw [List.drop_eq_nil_of_le (by omega), List.drop_eq_nil_of_le (by omega)]; simp⟩
/-- Same, of any two rows. -/
theorem same2_f (l m : List Pr) (hl : l.length ≤ 5000) (hL : PrB l) (hM : PrB m) (k : Nat) (hk : l.length < k) : ∃ r, rickyardlaw09_Same.f k l (m.map a47) = some r ∧ (r = true ↔ l = m) := by
  unfold rickyardlaw09_Same.f
  by_cases he : l.length = m.length
  · rw [if_pos (by rw [List.length_map, he])]
    exact same2_l0 l m hl he hL hM _ 0 k rfl hk
  · rw [if_neg (by rw [List.length_map]; omega)]
    exact ⟨false, rfl, ⟨fun h => (by cases h), fun h => absurd (congrArg List.length h) he⟩⟩
theorem write_inj {l m : List Pr} (hl : rightE l = 0) (hm : rightE m = 0) (hL : PrB l) (hM : PrB m) : encTo l l.length = encTo m m.length ↔ l = m := by
  refine ⟨fun h => ?_, fun h => by rw [h]⟩
  have a := read_write l hl hL
  have b := read_write m hm hM
  rw [h, b] at a
  simp only [Option.some.injEq, Prod.mk.injEq, and_true] at a
  exact a.symm
theorem enc_bytes {l : List Pr} (hl : rightE l = 0) (hL : PrB l) : ∀ x ∈ encTo l l.length, 0 ≤ x ∧ x < 256 := by
  have e : encTo l l.length = encL 0 [] l := by unfold encTo; rw [List.take_length]
  rw [e]
  exact encL_byte l 0 [] (not_long (right_zero hl).2.1) hL
/-- The last answer of BlockApart. -/
theorem apart_end (l m : List Pr) (hn : l.length ≤ 5000) (hl : rightE l = 0) (hm : rightE m = 0) (hL : PrB l) (hM : PrB m) (k : Nat) (hk : l.length < k) :
    ∃ r, rickyardlaw09_Same.f k l (m.map a47) = some r ∧ (((strOfNums (encTo l l.length)).toList == (strOfNums (encTo m m.length)).toList) == r) = true := by
  obtain ⟨r, hr, hi⟩ := same2_f l m hn hL hM k hk
  refine ⟨r, hr, ?_⟩
  by_cases h : l = m
  · have : r = true := hi.2 h
    rw [this, h]; simp
  · have h1 : r = false := by cases r; rfl; exact absurd (hi.1 rfl) h
    have h2 : ¬ (strOfNums (encTo l l.length)).toList = (strOfNums (encTo m m.length)).toList := fun e => h ((write_inj hl hm hL hM).1 ((str_eq (enc_bytes hl hL) (enc_bytes hm hM)).1 e))
    rw [h1, beq_eq_false_iff_ne.2 h2]; rfl
end Go.Proofs.Yticddiiigfkamaa.Pure
