/- Layer 14's laws in plain Lean: Great, Same, and what All tells. No conditions. -/
import Derived.Test.YtihdomhiiolojaaMgRun
import Derived.Test.YtihdomhiiolojaaAgLaw
import Derived.Test.YtihdomhiiolojaaMgAll
import Derived.Test.YtihdomhiiolojaaPrickyardlaw14Great
import Derived.Test.YtihdomhiiolojaaPrickyardref08Same
namespace Go.Proofs.Ytihdomhiiolojaa.Pure
open Go.RowKit Go.Proofs.Ytihdomhiiolojaa.P Go.Proofs.YtihdomhiiolojaaW.PrintWords Go.Proofs.YtihdomhiiolojaaW.PrintLast
set_option linter.unusedVariables false
set_option linter.unusedSimpArgs false

theorem w64_up {i : Nat} (h : i < 4611686018427387904) : wrap64 ((i : Int) + 1) = ((i + 1 : Nat) : Int) := by unfold wrap64; omega
theorem rdRow {l : List (List En)} {i : Nat} {r : List En} (h : l[i]? = some r) : rd_L8 l (i : Int) = r := by simp [rd_L8, List.getD_eq_getElem?_getD, h]
theorem same_l0 (l : List En) (hl : l.length < 4611686018427387904) : ∀ (d i k : Nat), l.length - i = d → d < k → rickyardref08_Same.l0 k l l (i : Int) = some true
  | d, i, 0, _, h => absurd h (Nat.not_lt_zero _)
  | d, i, k + 1, hd, hk => by
    rw [rickyardref08_Same.l0]
    by_cases h1 : i < l.length
    · have ih := same_l0 l hl (d - 1) (i + 1) k (by omega) (by omega)
      rw [if_pos (by omega), if_pos (by omega), if_pos (by omega), if_pos rfl, if_neg (by simp), w64_up (by omega)]
      exact ih
    · rw [if_neg (by omega)]
theorem same_f (l : List En) (hl : l.length < 4611686018427387904) (k : Nat) (hk : l.length < k) : rickyardref08_Same.f k l l = some true := by
  unfold rickyardref08_Same.f
  rw [if_pos rfl]
  exact same_l0 l hl _ 0 k rfl (by omega)
/-- Are there too many rows, or too great ones? -/
theorem great_l1 {l : List (List En)} (hl : l.length ≤ 20) {i : Nat} {r : List En} (hr : l[i]? = some r) (hrl : r.length ≤ 60) {k0 : Nat} {b : Bool} (h : rickyardlaw14_Great.l0 k0 l ((i + 1 : Nat) : Int) = some b) :
    ∀ (d j : Nat), r.length - j = d → j ≤ r.length → ∃ k b', rickyardlaw14_Great.l1 k l (i : Int) (j : Int) = some b' ∧ (b' = false → b = false ∧ ∀ x ∈ r.drop j, x.f0.length ≤ 300)
  | 0, j, hd, hj => by
    have hi := (List.getElem?_eq_some_iff.1 hr).1
    refine ⟨k0 + 1, b, ?_, fun hb => ⟨hb, fun x hx => by rw [List.drop_of_length_le (by omega)] at hx; cases hx⟩⟩
    rw [rickyardlaw14_Great.l1, if_pos (by omega), if_pos (by omega), rdRow hr, if_neg (by omega), w64_up (by omega)]
    exact h
  | d + 1, j, hd, hj => by
    have hi := (List.getElem?_eq_some_iff.1 hr).1
    obtain ⟨x, hx⟩ : ∃ x, r[j]? = some x := ⟨_, List.getElem?_eq_getElem (by omega)⟩
    obtain ⟨k, b', h1, h2⟩ := great_l1 hl hr hrl h d (j + 1) (by omega) (by omega)
    by_cases h3 : x.f0.length ≤ 300
    · refine ⟨k + 1, b', ?_, fun hb => ⟨(h2 hb).1, fun y hy => ?_⟩⟩
      · rw [rickyardlaw14_Great.l1, if_pos (by omega), if_pos (by omega), rdRow hr, if_pos (by omega), if_pos (by omega), rdEn hx, if_neg (by omega), w64_up (by omega)]
        exact h1
      · rw [List.drop_eq_getElem_cons (by omega)] at hy
        rcases List.mem_cons.1 hy with rfl | hy
        · rw [List.getElem?_eq_getElem (by omega)] at hx
          rw [Option.some.inj hx]; exact h3
        · exact (h2 hb).2 y hy
    · refine ⟨1, true, ?_, fun hb => by cases hb⟩
      rw [rickyardlaw14_Great.l1, if_pos (by omega), if_pos (by omega), rdRow hr, if_pos (by omega), if_pos (by omega), rdEn hx, if_pos (by omega)]
theorem great_l0 {l : List (List En)} (hl : l.length ≤ 20) : ∀ (d i : Nat), l.length - i = d → i ≤ l.length → ∃ k b, rickyardlaw14_Great.l0 k l (i : Int) = some b ∧ (b = false → ∀ r ∈ l.drop i, r.length ≤ 60 ∧ ∀ x ∈ r, x.f0.length ≤ 300)
  | 0, i, hd, hi => ⟨1, false, by rw [rickyardlaw14_Great.l0, if_neg (by omega)], fun _ r hr => by rw [List.drop_of_length_le (by omega)] at hr; cases hr⟩
  | d + 1, i, hd, hi => by
    obtain ⟨r, hr⟩ : ∃ r, l[i]? = some r := ⟨_, List.getElem?_eq_getElem (by omega)⟩
    obtain ⟨k, b, h1, h2⟩ := great_l0 hl d (i + 1) (by omega) (by omega)
    by_cases h3 : r.length ≤ 60
    · obtain ⟨k', b', h4, h5⟩ := great_l1 hl hr h3 h1 _ 0 rfl (Nat.zero_le _)
      refine ⟨k' + 1, b', ?_, fun hb q hq => ?_⟩
      · rw [rickyardlaw14_Great.l0, if_pos (by omega), if_pos (by omega), rdRow hr, if_neg (by omega)]
        exact h4
      · rw [List.drop_eq_getElem_cons (by omega)] at hq
        rcases List.mem_cons.1 hq with rfl | hq
        · rw [List.getElem?_eq_getElem (by omega)] at hr
          rw [Option.some.inj hr]; exact ⟨h3, fun x hx => (h5 hb).2 x (by simpa using hx)⟩
        · exact h2 (h5 hb).1 q hq
    · refine ⟨1, true, ?_, fun hb => by cases hb⟩
      rw [rickyardlaw14_Great.l0, if_pos (by omega), if_pos (by omega), rdRow hr, if_pos (by omega)]
/-- Rows that are none too great. -/
def Small (l : List (List En)) : Prop := l.length ≤ 20 ∧ ∀ r ∈ l, r.length ≤ 60 ∧ ∀ x ∈ r, x.f0.length ≤ 300
theorem great_f (l : List (List En)) : ∃ b, (∃ k, rickyardlaw14_Great.f k l = some b) ∧ (b = false → Small l) := by
  by_cases h : l.length ≤ 20
  · obtain ⟨k, b, h1, h2⟩ := great_l0 h _ 0 rfl (Nat.zero_le _)
    exact ⟨b, ⟨k, by unfold rickyardlaw14_Great.f; rw [if_neg (by omega)]; exact h1⟩, fun hb => ⟨h, by simpa using h2 hb⟩⟩
  · exact ⟨true, ⟨0, by unfold rickyardlaw14_Great.f; rw [if_pos (by omega)]⟩, fun hb => by cases hb⟩
def OkRows (l : List (List En)) : Prop := ∀ r ∈ l, ∀ x ∈ r, OkEn x
theorem cnt_le : ∀ {l : List (List En)} {m : Nat}, (∀ r ∈ l, r.length ≤ m) → cntL l ≤ l.length * m
  | [], m, _ => by simp [cntL]
  | r :: l, m, h => by
    have ih := cnt_le (l := l) (m := m) (fun q hq => h q (List.mem_cons_of_mem _ hq))
    have h1 := h r (List.mem_cons_self ..)
    have e : cntL (r :: l) = r.length + cntL l := by simp [cntL]
    rw [e, List.length_cons, Nat.succ_mul]
    omega
theorem goodR {l : List (List En)} (h : Small l) (ho : OkRows l) : GoodR l := by
  refine ⟨by have := h.1; omega, fun r hr x hx => ⟨by have := (h.2 r hr).2 x hx; omega, (ho r hr x hx).2.2.2.1⟩, ?_⟩
  have := cnt_le (l := l) (m := 60) (fun r hr => (h.2 r hr).1)
  have h1 := h.1
  omega
/-- All entries may be. -/
def RightR (l : List (List En)) : Prop := ∀ r ∈ l, ∀ x ∈ r, GoodA x.f1
theorem of_newE {l : List (List En)} (h : newE l = 0) (ho : OkRows l) : RowsR l ∧ RightR l := by
  have hm : ∀ r ∈ l, mrightE r = 0 := by
    intro r hr
    unfold newE at h
    split at h
    · next q hq =>
      have := List.find?_some hq
      rw [h] at this
      cases this
    · next hq =>
      have := List.find?_eq_none.1 hq r hr
      simpa using this
  have h2 : ∀ r ∈ l, risesE r = true ∧ r.any wrongP = false := by
    intro r hr
    have := hm r hr
    unfold mrightE at this
    split at this
    · next h3 =>
      split at this
      · omega
      · next h4 => exact ⟨h3, by simpa using h4⟩
    · omega
  refine ⟨fun r hr => ⟨(risesE_iff r).1 (h2 r hr).1, fun x hx => (ho r hr x hx).1⟩, fun r hr x hx => ⟨(ho r hr x hx).2, ?_⟩⟩
  have := List.any_eq_false.1 (h2 r hr).2 x hx
  unfold wrongP at this
  simpa using this
theorem newE_of {l : List (List En)} (h : RowsR l) (h2 : RightR l) : newE l = 0 := by
  refine newE_none (fun r hr => ?_)
  unfold mrightE
  rw [if_pos ((risesE_iff r).2 (h r hr).1), if_neg]
  rw [List.any_eq_true]
  rintro ⟨x, hx, hw⟩
  unfold wrongP at hw
  rw [(h2 r hr x hx).2] at hw
  cases hw
theorem fold1_eq (l : List Ag) : fold1 l = if l = [] then none else some (l.foldl mgA ag0) := by
  cases l with
  | nil => rfl
  | cons a l => rw [fold1, if_neg (by simp), ← fold0]
theorem fold1_perm {l m : List Ag} (h : l.Perm m) (hl : ∀ a ∈ l, GoodA a) : fold1 l = fold1 m := by
  rw [fold1_eq, fold1_eq]
  by_cases h0 : l = []
  · subst h0; rw [h.symm.eq_nil]
  · rw [if_neg h0, if_neg (fun e => h0 (by subst e; exact h.eq_nil)), fold_perm h good_zero hl]
theorem mem_gk {k : List Int} {l : List En} {a : Ag} (h : a ∈ gk k l) : ∃ x ∈ l, x.f1 = a := by
  unfold gk at h
  obtain ⟨x, hx, rfl⟩ := List.mem_map.1 h
  exact ⟨x, (List.mem_filter.1 hx).1, rfl⟩
theorem gk_good {k : List Int} {l : List En} (h : ∀ x ∈ l, GoodA x.f1) : ∀ a ∈ gk k l, GoodA a := fun a ha => by
  obtain ⟨x, hx, rfl⟩ := mem_gk ha
  exact h x hx
theorem flat_good {S : List (List En)} (h : RightR S) : ∀ x ∈ S.flatten, GoodA x.f1 := fun x hx => by
  obtain ⟨r, hr, hx⟩ := List.mem_flatten.1 hx
  exact h r hr x hx
theorem allM_good {S : List (List En)} (hS : RowsR S) (hR : RightR S) : ∀ x ∈ allM S, GoodA x.f1 := by
  intro x hx
  obtain ⟨h1, _, h3⟩ := allM_spec hS
  have := h3 x.f0
  rw [gk_mem h1 hx] at this
  have hg := gk_good (k := x.f0) (flat_good hR)
  cases hf : gk x.f0 S.flatten with
  | nil => rw [hf] at this; cases this
  | cons a l =>
    rw [hf] at this hg
    have e : x.f1 = l.foldl mgA a := Option.some.inj this
    rw [e]
    exact good_fold (hg a (List.mem_cons_self ..)) (fun b hb => hg b (List.mem_cons_of_mem _ hb))
theorem allM_len {S : List (List En)} : (allM S).length ≤ cntL S := by
  have h1 : ∀ (L out : List En), (L.foldl addM out).length ≤ out.length + L.length := by
    intro L
    induction L with
    | nil => intro out; simp
    | cons x L ih =>
      intro out
      have h2 := ih (addM out x)
      have h3 : (addM out x).length ≤ out.length + 1 := by
        unfold addM
        split
        · simp
        · split <;> simp
      rw [List.foldl_cons, List.length_cons]
      omega
  have h4 : ∀ (k : Nat) (S : List (List En)), (mrun k S).length ≤ k := by
    intro k
    induction k with
    | zero => intro S; simp [mrun]
    | succ k ih =>
      intro S
      rw [mrun]
      split
      · simp
      · next x p S' h => rw [List.length_cons]; have := ih S'; omega
  have := h1 ((mall S).map Prod.fst) []
  have h5 := h4 (cntL S) S
  unfold allM
  rw [List.length_map] at this
  unfold mall at this ⊢
  simp only [List.length_nil] at this
  omega
theorem allM_key {l : List (List En)} (hs : Small l) (h1 : RowsR l) : ∀ x ∈ allM l, x.f0.length ≤ 300 := by
  obtain ⟨r1, r2, r3⟩ := allM_spec h1
  intro x hx
  have := r3 x.f0
  rw [gk_mem r1 hx] at this
  cases hf : gk x.f0 l.flatten with
  | nil => rw [hf] at this; cases this
  | cons a m =>
    unfold gk at hf
    obtain ⟨y, hy⟩ : ∃ y : En, y ∈ l.flatten.filter (fun (z : En) => decide (z.f0 = x.f0)) := by
      cases hq : l.flatten.filter (fun (z : En) => decide (z.f0 = x.f0)) with
      | nil => rw [hq] at hf; cases hf
      | cons y _ => exact ⟨y, List.mem_cons_self ..⟩
    obtain ⟨hy1, hy2⟩ := List.mem_filter.1 hy
    obtain ⟨r, hr, hyr⟩ := List.mem_flatten.1 hy1
    rw [← of_decide_eq_true hy2]
    exact (hs.2 r hr).2 y hyr
/-- What All tells of rows that are none too great. -/
theorem all_f {l : List (List En)} (h : Small l) (ho : OkRows l) : (∃ e, e ≠ 0 ∧ newE l = e ∧ merge_All.f l = some ([], e)) ∨ (RowsR l ∧ RightR l ∧ merge_All.f l = some (allM l, 0) ∧ (allM l).length ≤ 1200) := by
  unfold merge_All.f
  rw [if_pos (goodR h ho)]
  by_cases h0 : newE l = 0
  · obtain ⟨h1, h2⟩ := of_newE h0 ho
    rw [if_pos h0]
    refine .inr ⟨h1, h2, rfl, ?_⟩
    have := allM_len (S := l)
    have h3 := cnt_le (l := l) (m := 60) (fun r hr => (h.2 r hr).1)
    have h4 := h.1
    omega
  · rw [if_neg h0]
    exact .inl ⟨_, h0, rfl, rfl⟩
/-- Rows that rise, put together with no others. -/
theorem allM_self {l : List En} (h : Rises l) (hb : ∀ x ∈ l, Byt x) : allM [[], l, []] = l := by
  have hS : RowsR [[], l, []] := by
    intro r hr
    simp only [List.mem_cons, List.not_mem_nil, or_false] at hr
    rcases hr with rfl | rfl | rfl
    · exact ⟨by simp [Rises], fun x hx => by cases hx⟩
    · exact ⟨h, hb⟩
    · exact ⟨by simp [Rises], fun x hx => by cases hx⟩
  obtain ⟨h1, h2, h3⟩ := allM_spec hS
  refine rises_ext h1 h h2 hb (fun k => ?_)
  rw [h3 k]
  simp
end Go.Proofs.Ytihdomhiiolojaa.Pure
