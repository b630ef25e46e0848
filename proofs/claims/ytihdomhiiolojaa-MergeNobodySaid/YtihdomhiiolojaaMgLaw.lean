/- The heap's order, in plain Lean: the front at place 0 is the least. No conditions. -/
import Derived.Test.YtihdomhiiolojaaMgNewA
namespace Go.Proofs.Ytihdomhiiolojaa.P
open Go.RowKit Go.Proofs.YtihdomhiiolojaaW.PrintWords Go.Proofs.YtihdomhiiolojaaW.PrintLast Go.Proofs.YtihdomhiiolojaaW.PrintMore
set_option linter.unusedVariables false
set_option linter.unusedSimpArgs false

/-- x does not come behind y. -/
def leF (x y : Fr) : Prop := lessF y x = false
theorem leF_iff (x y : Fr) : leF x y ↔ cmpI (keyF x) (keyF y) < 0 ∨ (cmpI (keyF x) (keyF y) = 0 ∧ x.p ≤ y.p) := by
  have ha := cmpI_anti (keyF x) (keyF y)
  unfold leF lessF
  rw [Bool.or_eq_false_iff, Bool.and_eq_false_iff]
  simp only [decide_eq_false_iff_not]
  constructor
  · rintro ⟨h1, h2 | h2⟩
    · exact .inl (by omega)
    · by_cases h : cmpI (keyF x) (keyF y) < 0
      · exact .inl h
      · exact .inr ⟨by omega, by omega⟩
  · rintro (h | ⟨h1, h2⟩)
    · exact ⟨by omega, .inl (by omega)⟩
    · exact ⟨by omega, .inr (by omega)⟩
theorem leF_refl (x : Fr) : leF x x := (leF_iff x x).2 (.inr ⟨cmpI_self _, Nat.le_refl _⟩)
theorem leF_trans {x y z : Fr} (h1 : leF x y) (h2 : leF y z) : leF x z := by
  rw [leF_iff] at *
  rcases h1 with h1 | ⟨h1, h1'⟩ <;> rcases h2 with h2 | ⟨h2, h2'⟩
  · exact .inl (cmpI_trans h1 h2)
  · exact .inl (cmpI_lt_le h1 (by omega))
  · exact .inl (cmpI_le_lt (by omega) h2)
  · have h3 : cmpI (keyF x) (keyF z) ≤ 0 := cmpI_le_trans (b := keyF y) (by omega) (by omega)
    by_cases h : cmpI (keyF x) (keyF z) < 0
    · exact .inl h
    · exact .inr ⟨by omega, by omega⟩
theorem leF_of_less {x y : Fr} (h : lessF x y = true) : leF x y := by
  rw [leF_iff]
  unfold lessF at h
  rw [Bool.or_eq_true, Bool.and_eq_true] at h
  simp only [decide_eq_true_iff] at h
  rcases h with h | ⟨h, h'⟩
  · exact .inl h
  · exact .inr ⟨h, by omega⟩
theorem leF_anti {x y : Fr} (h1 : leF x y) (h2 : leF y x) : x.p = y.p := by
  rw [leF_iff] at *
  have ha := cmpI_anti (keyF x) (keyF y)
  rcases h1 with h1 | ⟨h1, h1'⟩ <;> rcases h2 with h2 | ⟨h2, h2'⟩ <;> omega
/-- The front at k is not behind its two. -/
def OkAt (F : List Fr) (k : Nat) : Prop := ∀ c, (c = 2 * k + 1 ∨ c = 2 * k + 2) → ∀ x y, F[k]? = some x → F[c]? = some y → leF x y
theorem pick1_le {F : List Fr} {a k : Nat} {x y : Fr} (hx : F[a]? = some x) (hy : F[k]? = some y) : ∃ z, F[pick1 F a k]? = some z ∧ leF z x ∧ leF z y := by
  unfold pick1
  rw [hx, hy]
  simp only []
  by_cases h : lessF y x = true
  · rw [if_pos h]; exact ⟨y, hy, leF_of_less h, leF_refl y⟩
  · rw [if_neg h]; exact ⟨x, hx, leF_refl x, by unfold leF; simpa using h⟩
theorem leastF_le {F : List Fr} {a : Nat} {x : Fr} (hx : F[a]? = some x) : ∃ z, F[leastF F a]? = some z ∧ leF z x ∧ ∀ c, (c = 2 * a + 1 ∨ c = 2 * a + 2) → ∀ y, F[c]? = some y → leF z y := by
  unfold leastF pick2
  by_cases h2 : 2 * a + 2 < F.length
  · rw [if_pos h2, if_pos (by omega)]
    obtain ⟨y1, hy1⟩ : ∃ y, F[2 * a + 1]? = some y := ⟨_, List.getElem?_eq_getElem (by omega)⟩
    obtain ⟨y2, hy2⟩ : ∃ y, F[2 * a + 2]? = some y := ⟨_, List.getElem?_eq_getElem h2⟩
    obtain ⟨z1, hz1, a1, b1⟩ := pick1_le hx hy1
    obtain ⟨z2, hz2, a2, b2⟩ := pick1_le hz1 hy2
    refine ⟨z2, hz2, leF_trans a2 a1, ?_⟩
    rintro c (rfl | rfl) y hy
    · rw [hy1] at hy; obtain rfl := Option.some.inj hy; exact leF_trans a2 b1
    · rw [hy2] at hy; obtain rfl := Option.some.inj hy; exact b2
  · rw [if_neg h2]
    by_cases h1 : 2 * a + 1 < F.length
    · rw [if_pos h1]
      obtain ⟨y1, hy1⟩ : ∃ y, F[2 * a + 1]? = some y := ⟨_, List.getElem?_eq_getElem h1⟩
      obtain ⟨z1, hz1, a1, b1⟩ := pick1_le hx hy1
      refine ⟨z1, hz1, a1, ?_⟩
      rintro c (rfl | rfl) y hy
      · rw [hy1] at hy; obtain rfl := Option.some.inj hy; exact b1
      · rw [List.getElem?_eq_none (by omega)] at hy; cases hy
    · rw [if_neg h1]
      refine ⟨x, hx, leF_refl x, ?_⟩
      rintro c (rfl | rfl) y hy <;> (rw [List.getElem?_eq_none (by omega)] at hy; cases hy)
theorem swapF_perm (F : List Fr) (a m : Nat) : (swapF F a m).Perm F := by
  unfold swapF
  split
  · next x y hx hy =>
    obtain ⟨ha, hxe⟩ := List.getElem?_eq_some_iff.1 hx
    obtain ⟨hm, hye⟩ := List.getElem?_eq_some_iff.1 hy
    rw [← hxe, ← hye]
    exact List.set_set_perm ha hm
  · exact List.Perm.refl _
theorem sinkL_perm : ∀ (k : Nat) (F : List Fr) (a : Nat), (sinkL k F a).Perm F
  | 0, F, _ => List.Perm.refl _
  | k + 1, F, a => by
    rw [sinkL]
    split
    · exact List.Perm.refl _
    · exact (sinkL_perm k _ _).trans (swapF_perm F a _)
theorem heapifyL_perm : ∀ (i : Nat) (F : List Fr), (heapifyL F i).Perm F
  | 0, F => List.Perm.refl _
  | i + 1, F => (heapifyL_perm i _).trans (sinkL_perm _ F i)
theorem sinkL_ok : ∀ (n : Nat) (F : List Fr) (a i : Nat), F.length - a < n → i ≤ a → (∀ k, i ≤ k → k ≠ a → OkAt F k) →
    (∀ q, i ≤ q → (a = 2 * q + 1 ∨ a = 2 * q + 2) → ∀ c, (c = 2 * a + 1 ∨ c = 2 * a + 2) → ∀ x y, F[q]? = some x → F[c]? = some y → leF x y) →
    ∀ k, i ≤ k → OkAt (sinkL n F a) k
  | 0, _, _, _, h, _, _, _ => absurd h (Nat.not_lt_zero _)
  | n + 1, F, a, i, hn, hia, hok, hpar => by
    intro k hk
    rw [sinkL]
    by_cases hla : leastF F a = a
    · rw [if_pos hla]
      by_cases hka : k = a
      · subst hka
        intro c hc x y hx hy
        obtain ⟨z, hz, _, h2⟩ := leastF_le hx
        rw [hla, hx] at hz
        obtain rfl := Option.some.inj hz
        exact h2 c hc y hy
      · exact hok k hk hka
    · rw [if_neg hla]
      rcases leastF_or F a with h | ⟨h3, h4, h5⟩
      · exact absurd h hla
      obtain ⟨x0, hx0⟩ : ∃ x, F[a]? = some x := ⟨_, List.getElem?_eq_getElem (by omega)⟩
      obtain ⟨z, hz, hzx, hzc⟩ := leastF_le hx0
      obtain ⟨m, hm⟩ : ∃ m, leastF F a = m := ⟨_, rfl⟩
      rw [hm] at h3 h4 h5 hz ⊢
      have hsw : swapF F a m = (F.set a z).set m x0 := by unfold swapF; rw [hx0, hz]
      have ga : (swapF F a m)[a]? = some z := by
        rw [hsw, List.getElem?_set_ne (by omega), List.getElem?_set_self (by omega)]
      have gm : (swapF F a m)[m]? = some x0 := by
        rw [hsw, List.getElem?_set_self (by rw [List.length_set]; omega)]
      have go : ∀ j, j ≠ a → j ≠ m → (swapF F a m)[j]? = F[j]? := fun j h1 h2 => by
        rw [hsw, List.getElem?_set_ne (by omega), List.getElem?_set_ne (by omega)]
      refine sinkL_ok n (swapF F a m) m i (by rw [swapF_len]; omega) (by omega) ?_ ?_ k hk
      · intro j hj hjm c hc x y hx hy
        by_cases hja : j = a
        · subst hja
          rw [ga] at hx
          obtain rfl := Option.some.inj hx
          by_cases hcm : c = m
          · subst hcm
            rw [gm] at hy
            obtain rfl := Option.some.inj hy
            exact hzx
          · rw [go c (by omega) hcm] at hy
            exact hzc c hc y hy
        · rw [go j hja hjm] at hx
          by_cases hca : c = a
          · subst hca
            rw [ga] at hy
            obtain rfl := Option.some.inj hy
            exact hpar j hj hc m h5 x _ hx hz
          · by_cases hcm : c = m
            · omega
            · rw [go c hca hcm] at hy
              exact hok j hj hja c hc x y hx hy
      · intro q hq hqm c hc x y hx hy
        obtain rfl : q = a := by omega
        rw [ga] at hx
        obtain rfl := Option.some.inj hx
        rw [go c (by omega) (by omega)] at hy
        exact hok m (by omega) (by omega) c hc _ y hz hy
theorem heapifyL_ok : ∀ (i : Nat) (F : List Fr), (∀ k, i ≤ k → OkAt F k) → ∀ k, OkAt (heapifyL F i) k
  | 0, F, h, k => h k (Nat.zero_le _)
  | i + 1, F, h, k => by
    rw [heapifyL]
    refine heapifyL_ok i _ ?_ k
    intro j hj
    by_cases hi : i < F.length + 1
    · exact sinkL_ok (F.length + 1) F i i (by omega) (Nat.le_refl _) (fun k h1 h2 => h k (by omega)) (fun q h1 h2 => by omega) j hj
    · exact sinkL_ok (F.length + 1) F i i (by omega) (Nat.le_refl _) (fun k h1 h2 => h k (by omega)) (fun q h1 h2 => by omega) j hj
/-- All are in order behind 'heapify'. -/
theorem heapify_ok (F : List Fr) (k : Nat) : OkAt (heapifyL F (F.length / 2 + 1)) k := by
  refine heapifyL_ok _ F ?_ k
  intro j hj c hc x y hx hy
  have := (List.getElem?_eq_some_iff.1 hy).1
  omega
/-- The first is the least. -/
theorem first_le {F : List Fr} (h : ∀ k, OkAt F k) {x : Fr} (hx : F[0]? = some x) : ∀ (k : Nat) (y : Fr), F[k]? = some y → leF x y := by
  intro k
  induction k using Nat.strongRecOn with
  | ind k ih =>
    intro y hy
    by_cases hk : k = 0
    · subst hk
      rw [hx] at hy
      obtain rfl := Option.some.inj hy
      exact leF_refl _
    · have hkl := (List.getElem?_eq_some_iff.1 hy).1
      obtain ⟨z, hz⟩ : ∃ z, F[(k - 1) / 2]? = some z := ⟨_, List.getElem?_eq_getElem (by omega)⟩
      exact leF_trans (ih ((k - 1) / 2) (by omega) z hz) (h ((k - 1) / 2) k (by omega) z y hz hy)
/-- What Next leaves of the fronts: the first one's rest, or none of it. -/
def restF (A' : Option Addr) (c' : Nat) (f : Fr) (F : List Fr) : List Fr :=
  if 1 < f.l.length then ⟨A', c', f.l.tail, f.p⟩ :: F
  else match F.getLast? with | some y => y :: F.dropLast | none => []
def nextF (A' : Option Addr) (c' : Nat) (f : Fr) (F : List Fr) : List Fr := sinkL ((restF A' c' f F).length + 1) (restF A' c' f F) 0
theorem restF_perm (A' : Option Addr) (c' : Nat) (f : Fr) (F : List Fr) : (restF A' c' f F).Perm (if 1 < f.l.length then ⟨A', c', f.l.tail, f.p⟩ :: F else F) := by
  unfold restF
  split
  · exact List.Perm.refl _
  · split
    · next y hy =>
      have hne : F ≠ [] := by rintro rfl; simp at hy
      have e : F = F.dropLast ++ [y] := by
        have := List.dropLast_concat_getLast hne
        rw [List.getLast?_eq_some_getLast hne] at hy
        rw [← Option.some.inj hy]; exact this.symm
      conv => rhs; rw [e]
      exact (List.perm_append_singleton y F.dropLast).symm
    · next hy =>
      have : F = [] := by simpa using hy
      rw [this]
theorem restF_ok (A' : Option Addr) (c' : Nat) {f : Fr} {F : List Fr} (h : ∀ k, OkAt (f :: F) k) : ∀ k, 0 ≤ k → k ≠ 0 → OkAt (restF A' c' f F) k := by
  intro k _ hk c hc x y hx hy
  have hs : ∀ j, j ≠ 0 → ∀ z, (restF A' c' f F)[j]? = some z → (f :: F)[j]? = some z := by
    intro j hj z hz
    obtain ⟨i, rfl⟩ : ∃ i, j = i + 1 := ⟨j - 1, by omega⟩
    unfold restF at hz
    split at hz
    · simpa using hz
    · split at hz
      · simp only [List.getElem?_cons_succ] at hz ⊢
        obtain ⟨hl, he⟩ := List.getElem?_eq_some_iff.1 hz
        rw [List.length_dropLast] at hl
        rw [List.getElem_dropLast] at he
        exact List.getElem?_eq_some_iff.2 ⟨by omega, he⟩
      · simp at hz
  exact h k c hc x y (hs k hk x hx) (hs c (by omega) y hy)
/-- Behind a Next all are in order again. -/
theorem nextF_ok (A' : Option Addr) (c' : Nat) {f : Fr} {F : List Fr} (h : ∀ k, OkAt (f :: F) k) : ∀ k, OkAt (nextF A' c' f F) k := fun k =>
  sinkL_ok _ (restF A' c' f F) 0 0 (by omega) (Nat.le_refl _) (restF_ok A' c' h) (fun q _ h2 => by omega) k (Nat.zero_le _)
theorem nextF_perm (A' : Option Addr) (c' : Nat) (f : Fr) (F : List Fr) : (nextF A' c' f F).Perm (if 1 < f.l.length then ⟨A', c', f.l.tail, f.p⟩ :: F else F) := (sinkL_perm _ _ _).trans (restF_perm A' c' f F)
end Go.Proofs.Ytihdomhiiolojaa.P
