/- The heap's step on the rows themselves: which row is next. No conditions. -/
import Derived.Test.YtihdomhiiolojaaMgLaw
import Derived.Test.YtihdomhiiolojaaMgNew
namespace Go.Proofs.Ytihdomhiiolojaa.P
open Go.RowKit Go.Proofs.YtihdomhiiolojaaW.PrintWords Go.Proofs.YtihdomhiiolojaaW.PrintLast Go.Proofs.YtihdomhiiolojaaW.PrintMore
set_option linter.unusedVariables false
set_option linter.unusedSimpArgs false

def keyL (l : List En) : List Int := (rd_T41 l 0).f0
def atL (S : List (List En)) (i : Nat) : List En := S.getD i []
/-- The first of the least fronts of the first i rows. -/
def bestTo (S : List (List En)) : Nat → Option Nat
  | 0 => none
  | i + 1 => if atL S i = [] then bestTo S i else match bestTo S i with
    | none => some i
    | some b => if cmpI (keyL (atL S i)) (keyL (atL S b)) < 0 then some i else some b
theorem bestTo_none {S : List (List En)} : ∀ {i : Nat}, bestTo S i = none → ∀ j, j < i → atL S j = []
  | 0, _, j, hj => absurd hj (Nat.not_lt_zero _)
  | i + 1, h, j, hj => by
    rw [bestTo] at h
    by_cases h0 : atL S i = []
    · rw [if_pos h0] at h
      by_cases hji : j = i
      · rw [hji]; exact h0
      · exact bestTo_none h j (by omega)
    · rw [if_neg h0] at h
      split at h
      · cases h
      · split at h <;> cases h
theorem bestTo_some {S : List (List En)} : ∀ {i b : Nat}, bestTo S i = some b → b < i ∧ atL S b ≠ [] ∧ ∀ j, j < i → atL S j ≠ [] → cmpI (keyL (atL S b)) (keyL (atL S j)) < 0 ∨ (cmpI (keyL (atL S b)) (keyL (atL S j)) = 0 ∧ b ≤ j)
  | 0, b, h => by cases h
  | i + 1, b, h => by
    rw [bestTo] at h
    by_cases h0 : atL S i = []
    · rw [if_pos h0] at h
      obtain ⟨h1, h2, h3⟩ := bestTo_some h
      refine ⟨by omega, h2, fun j hj hne => h3 j ?_ hne⟩
      by_cases hji : j = i
      · rw [hji] at hne; exact absurd h0 hne
      · omega
    · rw [if_neg h0] at h
      split at h
      · next hb =>
        obtain rfl := Option.some.inj h
        refine ⟨by omega, h0, fun j hj hne => ?_⟩
        by_cases hji : j = i
        · rw [hji]; exact .inr ⟨cmpI_self _, Nat.le_refl _⟩
        · exact absurd (bestTo_none hb j (by omega)) hne
      · next b0 hb =>
        obtain ⟨h1, h2, h3⟩ := bestTo_some hb
        split at h
        · next hc =>
          obtain rfl := Option.some.inj h
          refine ⟨by omega, h0, fun j hj hne => ?_⟩
          by_cases hji : j = i
          · rw [hji]; exact .inr ⟨cmpI_self _, Nat.le_refl _⟩
          · rcases h3 j (by omega) hne with h4 | ⟨h4, _⟩
            · exact .inl (cmpI_trans hc h4)
            · exact .inl (cmpI_lt_le hc (by omega))
        · next hc =>
          obtain rfl := Option.some.inj h
          refine ⟨by omega, h2, fun j hj hne => ?_⟩
          by_cases hji : j = i
          · rw [hji]
            have ha := cmpI_anti (keyL (atL S i)) (keyL (atL S b0))
            by_cases h5 : cmpI (keyL (atL S b0)) (keyL (atL S i)) < 0
            · exact .inl h5
            · exact .inr ⟨by omega, by omega⟩
          · exact h3 j (by omega) hne
theorem mem_frsTo {S : List (List En)} {l : List En} {p : Nat} : ∀ {n : Nat}, (l, p) ∈ frsTo S n ↔ p < n ∧ S[p]? = some l ∧ l ≠ []
  | 0 => by simp [frsTo]
  | n + 1 => by
    rw [frsTo]
    cases h : S[n]? with
    | none =>
      simp only []
      rw [mem_frsTo (n := n)]
      constructor
      · rintro ⟨h1, h2⟩; exact ⟨by omega, h2⟩
      · rintro ⟨h1, h2, h3⟩
        refine ⟨?_, h2, h3⟩
        rcases Nat.lt_or_eq_of_le (Nat.lt_succ_iff.1 h1) with h4 | rfl
        · exact h4
        · rw [h] at h2; cases h2
    | some r =>
      simp only []
      by_cases h0 : r = []
      · rw [if_pos h0, mem_frsTo (n := n)]
        constructor
        · rintro ⟨h1, h2⟩; exact ⟨by omega, h2⟩
        · rintro ⟨h1, h2, h3⟩
          refine ⟨?_, h2, h3⟩
          rcases Nat.lt_or_eq_of_le (Nat.lt_succ_iff.1 h1) with h4 | rfl
          · exact h4
          · rw [h] at h2; obtain rfl := Option.some.inj h2; exact absurd h0 h3
      · rw [if_neg h0, List.mem_append, mem_frsTo (n := n), List.mem_singleton]
        constructor
        · rintro (⟨h1, h2⟩ | h1)
          · exact ⟨by omega, h2⟩
          · injection h1 with h1 h2
            subst h1; subst h2
            exact ⟨by omega, h, h0⟩
        · rintro ⟨h1, h2, h3⟩
          rcases Nat.lt_or_eq_of_le (Nat.lt_succ_iff.1 h1) with h4 | rfl
          · exact .inl ⟨h4, h2, h3⟩
          · rw [h] at h2; obtain rfl := Option.some.inj h2; exact .inr rfl
/-- A heap that has nothing stands for rows that have nothing. -/
theorem step_none {S : List (List En)} (h : ([] : List (List En × Nat)).Perm (frsTo S S.length)) : bestTo S S.length = none := by
  cases hb : bestTo S S.length with
  | none => rfl
  | some b =>
    obtain ⟨h1, h2, _⟩ := bestTo_some hb
    obtain ⟨l, hl⟩ : ∃ l, S[b]? = some l := ⟨_, List.getElem?_eq_getElem h1⟩
    have e : atL S b = l := by unfold atL; rw [List.getD_eq_getElem?_getD, hl]; rfl
    rw [e] at h2
    have := h.symm.subset (mem_frsTo.2 ⟨h1, hl, h2⟩)
    simp at this
/-- A heap's first front is the one that the rows tell. -/
theorem step_some {S : List (List En)} {f : Fr} {F : List Fr} (hok : ∀ k, OkAt (f :: F) k) (h : ((f :: F).map prF).Perm (frsTo S S.length)) : bestTo S S.length = some f.p ∧ S[f.p]? = some f.l ∧ f.l ≠ [] := by
  obtain ⟨h1, h2, h3⟩ := mem_frsTo.1 (h.subset (show (f.l, f.p) ∈ (f :: F).map prF by simp [prF]))
  refine ⟨?_, h2, h3⟩
  have ef : atL S f.p = f.l := by unfold atL; rw [List.getD_eq_getElem?_getD, h2]; rfl
  cases hb : bestTo S S.length with
  | none => exact absurd (ef ▸ bestTo_none hb f.p h1) h3
  | some b =>
    obtain ⟨b1, b2, b3⟩ := bestTo_some hb
    obtain ⟨l, hl⟩ : ∃ l, S[b]? = some l := ⟨_, List.getElem?_eq_getElem b1⟩
    have e : atL S b = l := by unfold atL; rw [List.getD_eq_getElem?_getD, hl]; rfl
    have hm := h.symm.subset (mem_frsTo.2 ⟨b1, hl, by rw [← e]; exact b2⟩)
    obtain ⟨y, hy, hyp⟩ := List.mem_map.1 hm
    injection hyp with y1 y2
    obtain ⟨k, hk⟩ := List.getElem?_of_mem hy
    have hle := (leF_iff f y).1 (first_le hok rfl k y hk)
    have hb3 := b3 f.p h1 (by rw [ef]; exact h3)
    rw [e, ef] at hb3
    have ky : keyF y = keyL l := by unfold keyF keyL; rw [y1]
    have kf : keyF f = keyL f.l := rfl
    rw [ky, kf, y2] at hle
    have ha := cmpI_anti (keyL f.l) (keyL l)
    rcases hle with hle | ⟨hle, hp⟩ <;> rcases hb3 with hb3 | ⟨hb3, hq⟩
    · omega
    · omega
    · omega
    · exact congrArg some (by omega)
theorem frsTo_set_lt {S : List (List En)} {p : Nat} {l' : List En} : ∀ {n : Nat}, n ≤ p → frsTo (S.set p l') n = frsTo S n
  | 0, _ => rfl
  | n + 1, h => by
    rw [frsTo, frsTo, frsTo_set_lt (n := n) (by omega), List.getElem?_set_ne (by omega)]
theorem frsTo_set {S : List (List En)} {p : Nat} {l l' : List En} (hl : S[p]? = some l) (h0 : l ≠ []) : ∀ {n : Nat}, p < n → ∃ A B, frsTo S n = A ++ (l, p) :: B ∧ frsTo (S.set p l') n = A ++ ((if l' = [] then [] else [(l', p)]) ++ B)
  | 0, h => absurd h (Nat.not_lt_zero _)
  | n + 1, h => by
    have hp := (List.getElem?_eq_some_iff.1 hl).1
    by_cases e : p = n
    · subst e
      refine ⟨frsTo S p, [], ?_, ?_⟩
      · rw [frsTo_one hl h0]
      · rw [frsTo, frsTo_set_lt (Nat.le_refl _), List.getElem?_set_self hp]
        by_cases h1 : l' = []
        · simp [h1]
        · simp [h1]
    · obtain ⟨A, B, e1, e2⟩ := frsTo_set hl h0 (l' := l') (n := n) (by omega)
      rw [frsTo, frsTo, List.getElem?_set_ne (by omega), e1, e2]
      cases hx : S[n]? with
      | none => exact ⟨A, B, rfl, rfl⟩
      | some r =>
        simp only []
        by_cases h1 : r = []
        · rw [if_pos h1, if_pos h1]; exact ⟨A, B, rfl, rfl⟩
        · rw [if_neg h1, if_neg h1]; exact ⟨A, B ++ [(r, n)], by simp, by simp⟩
/-- Behind a Next the heap stands for the rows without that entry. -/
theorem step_rest {S : List (List En)} {f : Fr} {F : List Fr} (A' : Option Addr) (c' : Nat) (h : ((f :: F).map prF).Perm (frsTo S S.length)) (hp : S[f.p]? = some f.l) (h0 : f.l ≠ []) :
    ((nextF A' c' f F).map prF).Perm (frsTo (S.set f.p f.l.tail) (S.set f.p f.l.tail).length) := by
  obtain ⟨A, B, e1, e2⟩ := frsTo_set hp h0 (l' := f.l.tail) (n := S.length) (List.getElem?_eq_some_iff.1 hp).1
  rw [List.length_set, e2]
  rw [e1] at h
  have h1 : (F.map prF).Perm (A ++ B) := (List.perm_cons (f.l, f.p)).1 (h.trans List.perm_middle)
  refine ((nextF_perm A' c' f F).map prF).trans ?_
  by_cases h2 : 1 < f.l.length
  · rw [if_pos h2]
    have h3 : f.l.tail ≠ [] := by
      intro e
      have := congrArg List.length e
      rw [List.length_tail, List.length_nil] at this
      omega
    rw [if_neg h3, List.map_cons]
    exact (List.Perm.cons _ h1).trans List.perm_middle.symm
  · rw [if_neg h2]
    have h3 : f.l.tail = [] := List.length_eq_zero_iff.1 (by rw [List.length_tail]; omega)
    rw [if_pos h3]
    exact h1
end Go.Proofs.Ytihdomhiiolojaa.P
