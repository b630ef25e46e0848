/- The document's Put in plain Lean. (Turned from the texts of the seat merge.) No conditions. -/
import Derived.Test.YteomanpaladdjaaSkAgLaw
namespace Go.Proofs.Yteomanpaladdjaa.Pure
open Go.RowKit Go.Proofs.Yteomanpaladdjaa.P Go.Proofs.YteomanpaladdjaaW.PrintWords Go.Proofs.YteomanpaladdjaaW.PrintLast
set_option linter.unusedVariables false
set_option linter.unusedSimpArgs false
theorem w64_up {i : Nat} (h : i < 4611686018427387904) : wrap64 ((i : Int) + 1) = ((i + 1 : Nat) : Int) := by unfold wrap64; omega
theorem fold1_eq (l : List Ag) : fold1 l = if l = [] then none else some (l.foldl mgA ag0) := by
  cases l with
  | nil => rfl
  | cons a l => rw [fold1, if_neg (by simp), ← fold0]
theorem fold1_perm {l m : List Ag} (h : l.Perm m) (hl : ∀ a ∈ l, GoodA a) : fold1 l = fold1 m := by
  rw [fold1_eq, fold1_eq]
  by_cases h0 : l = []
  · subst h0; rw [h.symm.eq_nil]
  · rw [if_neg h0, if_neg (fun e => h0 (by subst e; exact h.eq_nil)), fold_perm h good_zero hl]
theorem mem_gk {k : List Int} {l : List En} {a : Ag} (h : a ∈ gk k l) : ∃ x ∈ l, x.f1 = a := by
  unfold gk at h
  obtain ⟨x, hx, rfl⟩ := List.mem_map.1 h
  exact ⟨x, (List.mem_filter.1 hx).1, rfl⟩
theorem gk_good {k : List Int} {l : List En} (h : ∀ x ∈ l, GoodA x.f1) : ∀ a ∈ gk k l, GoodA a := fun a ha => by
  obtain ⟨x, hx, rfl⟩ := mem_gk ha
  exact h x hx
def putL : List En → En → List En
  | [], x => [x]
  | y :: l, x => if cmpI y.f0 x.f0 < 0 then y :: putL l x else if cmpI y.f0 x.f0 = 0 then ⟨x.f0, mgA y.f1 x.f1⟩ :: l else x :: y :: l
theorem putL_lt {l : List En} {x y : En} {i : Nat} (hy : l[i]? = some y) (h : cmpI y.f0 x.f0 < 0) : putL (l.drop i) x = y :: putL (l.drop (i + 1)) x := by
  have hi := (List.getElem?_eq_some_iff.1 hy).1
  rw [List.drop_eq_getElem_cons hi]
  rw [List.getElem?_eq_getElem hi] at hy
  rw [Option.some.inj hy, putL, if_pos h]
theorem putL_eq {l : List En} {x y : En} {i : Nat} (hy : l[i]? = some y) (h : cmpI y.f0 x.f0 = 0) : putL (l.drop i) x = [⟨x.f0, mgA y.f1 x.f1⟩] ++ l.drop (i + 1) := by
  have hi := (List.getElem?_eq_some_iff.1 hy).1
  rw [List.drop_eq_getElem_cons hi]
  rw [List.getElem?_eq_getElem hi] at hy
  rw [Option.some.inj hy, putL, if_neg (by omega), if_pos h]; rfl
theorem putL_gt {l : List En} {x y : En} {i : Nat} (hy : l[i]? = some y) (h : 0 < cmpI y.f0 x.f0) : putL (l.drop i) x = [x] ++ l.drop i := by
  have hi := (List.getElem?_eq_some_iff.1 hy).1
  rw [List.drop_eq_getElem_cons hi]
  rw [List.getElem?_eq_getElem hi] at hy
  rw [Option.some.inj hy, putL, if_neg (by omega), if_neg (by omega)]; rfl
theorem putL_end {l : List En} {x : En} {i : Nat} (h : l.length ≤ i) : putL (l.drop i) x = [x] ++ l.drop i := by
  rw [List.drop_of_length_le h]; rfl
theorem putL_len : ∀ (l : List En) (x : En), (putL l x).length ≤ l.length + 1
  | [], x => by simp [putL]
  | y :: l, x => by
    have ih := putL_len l x
    rw [putL]
    split
    · simp only [List.length_cons]; omega
    · split <;> simp
theorem putL_head {l : List En} {x z : En} (hz : ∀ y ∈ l, cmpI z.f0 y.f0 < 0) (hx : cmpI z.f0 x.f0 < 0) : ∀ y ∈ putL l x, cmpI z.f0 y.f0 < 0 := by
  induction l with
  | nil => intro y hy; simp only [putL, List.mem_singleton] at hy; rw [hy]; exact hx
  | cons a l ih =>
    intro y hy
    rw [putL] at hy
    split at hy
    · rcases List.mem_cons.1 hy with rfl | hy
      · exact hz _ (List.mem_cons_self ..)
      · exact ih (fun b hb => hz b (List.mem_cons_of_mem _ hb)) y hy
    · split at hy
      · rcases List.mem_cons.1 hy with rfl | hy
        · exact hx
        · exact hz y (List.mem_cons_of_mem _ hy)
      · rcases List.mem_cons.1 hy with rfl | hy
        · exact hx
        · exact hz y hy
theorem putL_all {P : En → Prop} {l : List En} {x : En} (hl : ∀ y ∈ l, P y) (hx : P x) (hm : ∀ y ∈ l, P ⟨x.f0, mgA y.f1 x.f1⟩) : ∀ y ∈ putL l x, P y := by
  induction l with
  | nil => intro y hy; simp only [putL, List.mem_singleton] at hy; rw [hy]; exact hx
  | cons a l ih =>
    intro y hy
    rw [putL] at hy
    split at hy
    · rcases List.mem_cons.1 hy with rfl | hy
      · exact hl _ (List.mem_cons_self ..)
      · exact ih (fun b hb => hl b (List.mem_cons_of_mem _ hb)) (fun b hb => hm b (List.mem_cons_of_mem _ hb)) y hy
    · split at hy
      · rcases List.mem_cons.1 hy with rfl | hy
        · exact hm a (List.mem_cons_self ..)
        · exact hl y (List.mem_cons_of_mem _ hy)
      · rcases List.mem_cons.1 hy with rfl | hy
        · exact hx
        · exact hl y hy
theorem putL_rises : ∀ {l : List En} {x : En}, Rises l → Rises (putL l x)
  | [], x, _ => by simp [putL, Rises]
  | y :: l, x, h => by
    obtain ⟨h1, h2⟩ := List.pairwise_cons.1 h
    rw [putL]
    split
    · next hc => exact List.pairwise_cons.2 ⟨putL_head h1 hc, putL_rises h2⟩
    · split
      · next h0 => exact List.pairwise_cons.2 ⟨fun z hz => (show cmpI x.f0 z.f0 < 0 from cmpI_le_lt (b := y.f0) (by have := cmpI_anti y.f0 x.f0; omega) (h1 z hz)), h2⟩
      · next hn h0 =>
        refine List.pairwise_cons.2 ⟨fun z hz => ?_, h⟩
        have hxy : cmpI x.f0 y.f0 < 0 := by have := cmpI_anti y.f0 x.f0; omega
        rcases List.mem_cons.1 hz with rfl | hz
        · exact hxy
        · exact cmpI_trans hxy (h1 z hz)
theorem putL_gk : ∀ {l : List En} {x : En} (k : List Int), Rises l → (∀ y ∈ l, Byt y) → Byt x → fold1 (gk k (putL l x)) = fold1 (gk k l ++ gk k [x])
  | [], x, k, _, _, _ => rfl
  | y :: l, x, k, h, hb, hx => by
    obtain ⟨h1, h2⟩ := List.pairwise_cons.1 h
    have hby := hb y (List.mem_cons_self ..)
    have hbl : ∀ z ∈ l, Byt z := fun z hz => hb z (List.mem_cons_of_mem _ hz)
    rw [putL]
    split
    · next hc =>
      have ih := putL_gk (l := l) (x := x) k h2 hbl hx
      rw [gk_cons, gk_cons]
      by_cases hk : y.f0 = k
      · rw [if_pos hk, if_pos hk]
        have hx0 : gk k [x] = [] := gk_none (fun z hz e => by
          rw [List.mem_singleton.1 hz] at e
          rw [hk, e, cmpI_self] at hc; omega)
        have hp0 : gk k (putL l x) = [] := gk_none (fun z hz e => by
          have := putL_head h1 hc z hz
          rw [hk, e, cmpI_self] at this; omega)
        have hl0 : gk k l = [] := gk_none (fun z hz e => by
          have := h1 z hz
          rw [hk, e, cmpI_self] at this; omega)
        rw [hx0, hp0, hl0]; rfl
      · rw [if_neg hk, if_neg hk]; exact ih
    · split
      · next h0 =>
        have hyx : y.f0 = x.f0 := (cmpI_zero hby hx).1 h0
        rw [gk_cons, gk_cons, gk_cons]
        by_cases hk : y.f0 = k
        · have hkx : x.f0 = k := by rw [← hyx]; exact hk
          have hl0 : gk k l = [] := gk_none (fun z hz e => by
            have := h1 z hz
            rw [hk, e, cmpI_self] at this; omega)
          rw [if_pos hk, if_pos hkx, if_pos hkx, hl0]
          simp [gk_nil, fold1]
        · have hkx : x.f0 ≠ k := by rw [← hyx]; exact hk
          rw [if_neg hk, if_neg hkx, if_neg hkx]
          simp [gk_nil]
      · next hn h0 =>
        rw [gk_cons]
        by_cases hkx : x.f0 = k
        · have hl0 : gk k (y :: l) = [] := gk_none (fun z hz e => by
            have hxy : cmpI x.f0 y.f0 < 0 := by have := cmpI_anti y.f0 x.f0; omega
            have : cmpI x.f0 z.f0 < 0 := by
              rcases List.mem_cons.1 hz with rfl | hz
              · exact hxy
              · exact cmpI_trans hxy (h1 z hz)
            rw [hkx, e, cmpI_self] at this; omega)
          rw [if_pos hkx, hl0, gk_cons, if_pos hkx]; rfl
        · rw [if_neg hkx, gk_cons k x [], if_neg hkx, gk_nil, List.append_nil]
/-- The document's All. -/
def refL (L : List En) : List En := L.foldl putL []
theorem refL_spec : ∀ (L out : List En), Rises out → (∀ y ∈ out, Byt y) → (∀ y ∈ L, Byt y) → Rises (L.foldl putL out) ∧ (∀ y ∈ L.foldl putL out, Byt y) ∧ ∀ k, fold1 (gk k (L.foldl putL out)) = fold1 (gk k out ++ gk k L)
  | [], out, ho, hb, _ => ⟨ho, hb, fun k => by rw [gk_nil, List.append_nil]; rfl⟩
  | x :: L, out, ho, hb, hL => by
    have hx := hL x (List.mem_cons_self ..)
    obtain ⟨b1, b2, b3⟩ := refL_spec L (putL out x) (putL_rises ho) (putL_all hb hx (fun y hy => hx)) (fun y hy => hL y (List.mem_cons_of_mem _ hy))
    refine ⟨b1, b2, fun k => ?_⟩
    rw [List.foldl_cons, b3 k, fold1_congr (putL_gk k ho hb hx), List.append_assoc, ← gk_append]
    rfl
theorem putL_good {l : List En} {x : En} (hl : ∀ y ∈ l, GoodA y.f1) (hx : GoodA x.f1) : ∀ y ∈ putL l x, GoodA y.f1 := putL_all hl hx (fun y hy => good_mg (hl y hy) hx)
end Go.Proofs.Yteomanpaladdjaa.Pure
