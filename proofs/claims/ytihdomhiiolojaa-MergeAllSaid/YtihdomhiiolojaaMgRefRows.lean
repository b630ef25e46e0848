/- The document's Rows tells what New tells. No conditions. -/
import Derived.Test.YtihdomhiiolojaaMgPure
import Derived.Test.YtihdomhiiolojaaPrickyardref14Rows
namespace Go.Proofs.Ytihdomhiiolojaa.Pure
open Go.RowKit Go.Proofs.Ytihdomhiiolojaa.P Go.Proofs.YtihdomhiiolojaaW.PrintWords Go.Proofs.YtihdomhiiolojaaW.PrintLast
set_option linter.unusedVariables false
set_option linter.unusedSimpArgs false

theorem refRight_f (x : Ag) : rickyardref02_Right.f x.f0 x.f1 x.f2.f0 x.f2.f1 x.f3 x.f4 = some (rightB x) := by
  unfold rickyardref02_Right.f rightB
  by_cases h0 : x.f0 = 0
  · rw [if_pos h0, if_pos h0]
    cases h1 : x.f1 with
    | true => simp
    | false =>
      by_cases h2 : x.f2.f0 = 0 <;> by_cases h3 : x.f2.f1 = 0 <;> by_cases h4 : x.f3 = 0 <;> simp [h2, h3, h4]
  · rw [if_neg h0, if_neg h0]
    cases h1 : x.f1 with
    | true =>
      by_cases h2 : x.f0 = 18446744073709551615 <;> simp [h2]
    | false => simp
theorem row_l1 (l : List En) (hl : l.length ≤ 60) : ∀ (d i k : Nat), l.length - i = d → d < k → rickyardref14_Row.l1 k l (i : Int) = some (if (l.drop i).any wrongP then 3 else 0)
  | d, i, 0, _, h => absurd h (Nat.not_lt_zero _)
  | d, i, k + 1, hd, hk => by
    rw [rickyardref14_Row.l1]
    by_cases h1 : i < l.length
    · obtain ⟨x, hx⟩ : ∃ x, l[i]? = some x := ⟨_, List.getElem?_eq_getElem h1⟩
      have hdr : l.drop i = x :: l.drop (i + 1) := by
        rw [List.drop_eq_getElem_cons h1]
        rw [List.getElem?_eq_getElem h1] at hx
        rw [Option.some.inj hx]
      have ih := row_l1 l hl (d - 1) (i + 1) k (by omega) (by omega)
      rw [if_pos (by omega), if_pos (by omega), rdEn hx, refRight_f, w64_up (by omega), ih, hdr, List.any_cons]
      have hw : wrongP x = !(rightB x.f1) := rfl
      rw [hw]
      cases rightB x.f1 <;> simp
    · rw [if_neg (by omega), List.drop_of_length_le (by omega)]
      rfl
theorem w64_dn {i : Nat} (h : i < 4611686018427387904) : wrap64 (((i + 1 : Nat) : Int) - 1) = (i : Int) := by unfold wrap64; omega
theorem row_l0 (l : List En) (hl : l.length ≤ 60) : ∀ (d i k : Nat), l.length - (i + 1) = d → d + 100 < k → rickyardref14_Row.l0 k l ((i + 1 : Nat) : Int) = some (if risesE (l.drop i) then (if l.any wrongP then 3 else 0) else 50)
  | d, i, 0, _, h => absurd h (Nat.not_lt_zero _)
  | d, i, k + 1, hd, hk => by
    rw [rickyardref14_Row.l0]
    by_cases h1 : i + 1 < l.length
    · obtain ⟨x, hx⟩ : ∃ x, l[i]? = some x := ⟨_, List.getElem?_eq_getElem (by omega)⟩
      obtain ⟨y, hy⟩ : ∃ y, l[i + 1]? = some y := ⟨_, List.getElem?_eq_getElem h1⟩
      have ih := row_l0 l hl (d - 1) (i + 1) k (by omega) (by omega)
      rw [if_pos (by omega), w64_dn (by omega), if_pos (by omega), if_pos (by omega), if_pos (by omega), rdEn hx, rdEn hy, str_lt, w64_up (by omega), ih, risesE_step hx hy]
      by_cases hc : cmpI x.f0 y.f0 < 0
      · rw [decide_eq_true hc, if_pos rfl]; simp
      · rw [decide_eq_false hc, if_neg (by decide)]; simp
    · rw [if_neg (by omega), risesE_end (by omega), if_pos rfl]
      have := row_l1 l hl _ 0 k rfl (by omega)
      rw [List.drop_zero] at this
      exact this
theorem row_f (l : List En) (hl : l.length ≤ 60) (k : Nat) (hk : 200 ≤ k) : rickyardref14_Row.f k l = some (mrightE l) := by
  unfold rickyardref14_Row.f mrightE
  have := row_l0 l hl _ 0 k rfl (by omega)
  rw [List.drop_zero] at this
  exact this
theorem rows_l0 (l : List (List En)) (hs : Small l) : ∀ (d i k : Nat), l.length - i = d → d + 300 < k → rickyardref14_Rows.l0 k l (i : Int) = some (newE (l.drop i))
  | d, i, 0, _, h => absurd h (Nat.not_lt_zero _)
  | d, i, k + 1, hd, hk => by
    have h20 := hs.1
    rw [rickyardref14_Rows.l0]
    by_cases h1 : i < l.length
    · obtain ⟨r, hr⟩ : ∃ r, l[i]? = some r := ⟨_, List.getElem?_eq_getElem h1⟩
      have hdr : l.drop i = r :: l.drop (i + 1) := by
        rw [List.drop_eq_getElem_cons h1]
        rw [List.getElem?_eq_getElem h1] at hr
        rw [Option.some.inj hr]
      have ih := rows_l0 l hs (d - 1) (i + 1) k (by omega) (by omega)
      rw [if_pos (by omega), if_pos (by omega), rdRow hr, row_f r (hs.2 r (List.mem_of_getElem? hr)).1 k (by omega)]
      simp only [Option.bind_some]
      by_cases h0 : mrightE r = 0
      · rw [if_pos h0, w64_up (by omega), ih, hdr]
        unfold newE
        rw [List.find?_cons_of_neg (p := fun r => mrightE r != 0) (by rw [h0]; decide)]
      · rw [if_neg h0, hdr]
        unfold newE
        rw [List.find?_cons_of_pos (p := fun r => mrightE r != 0) (bne_iff_ne.2 h0)]
    · rw [if_neg (by omega), List.drop_of_length_le (by omega)]
      rfl
theorem rows_f (l : List (List En)) (hs : Small l) : rickyardref14_Rows.f 400 l = some (newE l) := by
  unfold rickyardref14_Rows.f
  have := rows_l0 l hs _ 0 400 rfl (by have := hs.1; omega)
  rw [List.drop_zero] at this
  exact this
end Go.Proofs.Ytihdomhiiolojaa.Pure
