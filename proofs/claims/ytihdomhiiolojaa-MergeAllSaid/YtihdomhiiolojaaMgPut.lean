/- The document's Put and All in plain Lean: All tells the same as merge.All. No conditions. -/
import Derived.Test.YtihdomhiiolojaaMgPure
import Derived.Test.YtihdomhiiolojaaPrickyardref02Merge
namespace Go.Proofs.Ytihdomhiiolojaa.Pure
open Go.RowKit Go.Proofs.Ytihdomhiiolojaa.P Go.Proofs.YtihdomhiiolojaaW.PrintWords Go.Proofs.YtihdomhiiolojaaW.PrintLast
set_option linter.unusedVariables false
set_option linter.unusedSimpArgs false

def putL : List En → En → List En
  | [], x => [x]
  | y :: l, x => if cmpI y.f0 x.f0 < 0 then y :: putL l x else if cmpI y.f0 x.f0 = 0 then ⟨x.f0, mgA y.f1 x.f1⟩ :: l else x :: y :: l
theorem putL_lt {l : List En} {x y : En} {i : Nat} (hy : l[i]? = some y) (h : cmpI y.f0 x.f0 < 0) : putL (l.drop i) x = y :: putL (l.drop (i + 1)) x := by
  have hi := (List.getElem?_eq_some_iff.1 hy).1
  rw [List.drop_eq_getElem_cons hi]
  rw [List.getElem?_eq_getElem hi] at hy
  rw [Option.some.inj hy, putL, if_pos h]
theorem putL_eq {l : List En} {x y : En} {i : Nat} (hy : l[i]? = some y) (h : cmpI y.f0 x.f0 = 0) : putL (l.drop i) x = [⟨x.f0, mgA y.f1 x.f1⟩] ++ l.drop (i + 1) := by
  have hi := (List.getElem?_eq_some_iff.1 hy).1
  rw [List.drop_eq_getElem_cons hi]
  rw [List.getElem?_eq_getElem hi] at hy
  rw [Option.some.inj hy, putL, if_neg (by omega), if_pos h]; rfl
theorem putL_gt {l : List En} {x y : En} {i : Nat} (hy : l[i]? = some y) (h : 0 < cmpI y.f0 x.f0) : putL (l.drop i) x = [x] ++ l.drop i := by
  have hi := (List.getElem?_eq_some_iff.1 hy).1
  rw [List.drop_eq_getElem_cons hi]
  rw [List.getElem?_eq_getElem hi] at hy
  rw [Option.some.inj hy, putL, if_neg (by omega), if_neg (by omega)]; rfl
theorem putL_end {l : List En} {x : En} {i : Nat} (h : l.length ≤ i) : putL (l.drop i) x = [x] ++ l.drop i := by
  rw [List.drop_of_length_le h]; rfl
theorem putL_len : ∀ (l : List En) (x : En), (putL l x).length ≤ l.length + 1
  | [], x => by simp [putL]
  | y :: l, x => by
    have ih := putL_len l x
    rw [putL]
    split
    · simp only [List.length_cons]; omega
    · split <;> simp
theorem putL_head {l : List En} {x z : En} (hz : ∀ y ∈ l, cmpI z.f0 y.f0 < 0) (hx : cmpI z.f0 x.f0 < 0) : ∀ y ∈ putL l x, cmpI z.f0 y.f0 < 0 := by
  induction l with
  | nil => intro y hy; simp only [putL, List.mem_singleton] at hy; rw [hy]; exact hx
  | cons a l ih =>
    intro y hy
    rw [putL] at hy
    split at hy
    · rcases List.mem_cons.1 hy with rfl | hy
      · exact hz _ (List.mem_cons_self ..)
      · exact ih (fun b hb => hz b (List.mem_cons_of_mem _ hb)) y hy
    · split at hy
      · rcases List.mem_cons.1 hy with rfl | hy
        · exact hx
        · exact hz y (List.mem_cons_of_mem _ hy)
      · rcases List.mem_cons.1 hy with rfl | hy
        · exact hx
        · exact hz y hy
theorem putL_all {P : En → Prop} {l : List En} {x : En} (hl : ∀ y ∈ l, P y) (hx : P x) (hm : ∀ y ∈ l, P ⟨x.f0, mgA y.f1 x.f1⟩) : ∀ y ∈ putL l x, P y := by
  induction l with
  | nil => intro y hy; simp only [putL, List.mem_singleton] at hy; rw [hy]; exact hx
  | cons a l ih =>
    intro y hy
    rw [putL] at hy
    split at hy
    · rcases List.mem_cons.1 hy with rfl | hy
      · exact hl _ (List.mem_cons_self ..)
      · exact ih (fun b hb => hl b (List.mem_cons_of_mem _ hb)) (fun b hb => hm b (List.mem_cons_of_mem _ hb)) y hy
    · split at hy
      · rcases List.mem_cons.1 hy with rfl | hy
        · exact hm a (List.mem_cons_self ..)
        · exact hl y (List.mem_cons_of_mem _ hy)
      · rcases List.mem_cons.1 hy with rfl | hy
        · exact hx
        · exact hl y hy
theorem putL_rises : ∀ {l : List En} {x : En}, Rises l → Rises (putL l x)
  | [], x, _ => by simp [putL, Rises]
  | y :: l, x, h => by
    obtain ⟨h1, h2⟩ := List.pairwise_cons.1 h
    rw [putL]
    split
    · next hc => exact List.pairwise_cons.2 ⟨putL_head h1 hc, putL_rises h2⟩
    · split
      · next h0 => exact List.pairwise_cons.2 ⟨fun z hz => (show cmpI x.f0 z.f0 < 0 from cmpI_le_lt (b := y.f0) (by have := cmpI_anti y.f0 x.f0; omega) (h1 z hz)), h2⟩
      · next hn h0 =>
        refine List.pairwise_cons.2 ⟨fun z hz => ?_, h⟩
        have hxy : cmpI x.f0 y.f0 < 0 := by have := cmpI_anti y.f0 x.f0; omega
        rcases List.mem_cons.1 hz with rfl | hz
        · exact hxy
        · exact cmpI_trans hxy (h1 z hz)
theorem putL_gk : ∀ {l : List En} {x : En} (k : List Int), Rises l → (∀ y ∈ l, Byt y) → Byt x → fold1 (gk k (putL l x)) = fold1 (gk k l ++ gk k [x])
  | [], x, k, _, _, _ => rfl
  | y :: l, x, k, h, hb, hx => by
    obtain ⟨h1, h2⟩ := List.pairwise_cons.1 h
    have hby := hb y (List.mem_cons_self ..)
    have hbl : ∀ z ∈ l, Byt z := fun z hz => hb z (List.mem_cons_of_mem _ hz)
    rw [putL]
    split
    · next hc =>
      have ih := putL_gk (l := l) (x := x) k h2 hbl hx
      rw [gk_cons, gk_cons]
      by_cases hk : y.f0 = k
      · rw [if_pos hk, if_pos hk]
        have hx0 : gk k [x] = [] := gk_none (fun z hz e => by
          rw [List.mem_singleton.1 hz] at e
          rw [hk, e, cmpI_self] at hc; omega)
        have hp0 : gk k (putL l x) = [] := gk_none (fun z hz e => by
          have := putL_head h1 hc z hz
          rw [hk, e, cmpI_self] at this; omega)
        have hl0 : gk k l = [] := gk_none (fun z hz e => by
          have := h1 z hz
          rw [hk, e, cmpI_self] at this; omega)
        rw [hx0, hp0, hl0]; rfl
      · rw [if_neg hk, if_neg hk]; exact ih
    · split
      · next h0 =>
        have hyx : y.f0 = x.f0 := (cmpI_zero hby hx).1 h0
        rw [gk_cons, gk_cons, gk_cons]
        by_cases hk : y.f0 = k
        · have hkx : x.f0 = k := by rw [← hyx]; exact hk
          have hl0 : gk k l = [] := gk_none (fun z hz e => by
            have := h1 z hz
            rw [hk, e, cmpI_self] at this; omega)
          rw [if_pos hk, if_pos hkx, if_pos hkx, hl0]
          simp [gk_nil, fold1]
        · have hkx : x.f0 ≠ k := by rw [← hyx]; exact hk
          rw [if_neg hk, if_neg hkx, if_neg hkx]
          simp [gk_nil]
      · next hn h0 =>
        rw [gk_cons]
        by_cases hkx : x.f0 = k
        · have hl0 : gk k (y :: l) = [] := gk_none (fun z hz e => by
            have hxy : cmpI x.f0 y.f0 < 0 := by have := cmpI_anti y.f0 x.f0; omega
            have : cmpI x.f0 z.f0 < 0 := by
              rcases List.mem_cons.1 hz with rfl | hz
              · exact hxy
              · exact cmpI_trans hxy (h1 z hz)
            rw [hkx, e, cmpI_self] at this; omega)
          rw [if_pos hkx, hl0, gk_cons, if_pos hkx]; rfl
        · rw [if_neg hkx, gk_cons k x [], if_neg hkx, gk_nil, List.append_nil]
/-- The document's All. -/
def refL (L : List En) : List En := L.foldl putL []
theorem refL_spec : ∀ (L out : List En), Rises out → (∀ y ∈ out, Byt y) → (∀ y ∈ L, Byt y) → Rises (L.foldl putL out) ∧ (∀ y ∈ L.foldl putL out, Byt y) ∧ ∀ k, fold1 (gk k (L.foldl putL out)) = fold1 (gk k out ++ gk k L)
  | [], out, ho, hb, _ => ⟨ho, hb, fun k => by rw [gk_nil, List.append_nil]; rfl⟩
  | x :: L, out, ho, hb, hL => by
    have hx := hL x (List.mem_cons_self ..)
    obtain ⟨b1, b2, b3⟩ := refL_spec L (putL out x) (putL_rises ho) (putL_all hb hx (fun y hy => hx)) (fun y hy => hL y (List.mem_cons_of_mem _ hy))
    refine ⟨b1, b2, fun k => ?_⟩
    rw [List.foldl_cons, b3 k, fold1_congr (putL_gk k ho hb hx), List.append_assoc, ← gk_append]
    rfl
theorem ref_all {S : List (List En)} (hS : RowsR S) : refL S.flatten = allM S := by
  obtain ⟨a1, a2, a3⟩ := allM_spec hS
  have hb : ∀ y ∈ S.flatten, Byt y := fun y hy => by
    obtain ⟨r, hr, hy⟩ := List.mem_flatten.1 hy
    exact (hS r hr).2 y hy
  obtain ⟨b1, b2, b3⟩ := refL_spec S.flatten [] (by simp [Rises]) (fun y hy => by cases hy) hb
  exact rises_ext b1 a1 b2 a2 (fun k => by rw [a3 k]; exact b3 k)
theorem putL_good {l : List En} {x : En} (hl : ∀ y ∈ l, GoodA y.f1) (hx : GoodA x.f1) : ∀ y ∈ putL l x, GoodA y.f1 := putL_all hl hx (fun y hy => good_mg (hl y hy) hx)
theorem refMerge_j0 (k : Nat) (E F a b c d x y m : Int) (X Y X' Y' p q : Int) (e : Bool) (hE : 0 ≤ E ∧ E ≤ 18446744073709551616) (hF : 0 ≤ F ∧ F ≤ 18446744073709551616) :
    rickyardref02_Merge.j0 (k + 1) (cN E) (cO E) X Y a b (cN F) (cO F) X' Y' c d 0 false x y m b = some (cN (addE E F), cO (addE E F), x, y, m, greater b d) := by
  have key : ∀ g : Int, (if cO E = true then some (18446744073709551615, true, x, y, m, g) else if cO F = true then some (18446744073709551615, true, x, y, m, g) else if cN E > IntKind.u64.wrap (18446744073709551615 - cN F) then some (18446744073709551615, true, x, y, m, g) else some (IntKind.u64.wrap (cN E + cN F), false, x, y, m, g)) = some (cN (addE E F), cO (addE E F), x, y, m, g) := by
    intro g
    by_cases ho : E + F < 18446744073709551616
    · have e1 : addE E F = E + F := if_pos ho
      have e2 : cN E = E := if_neg (by omega)
      have e3 : cN F = F := if_neg (by omega)
      have e4 : cN (E + F) = E + F := if_neg (by omega)
      have e5 : cO E = false := decide_eq_false (by omega)
      have e6 : cO F = false := decide_eq_false (by omega)
      have e7 : cO (E + F) = false := decide_eq_false (by omega)
      rw [e1, e2, e3, e4, e5, e6, e7, if_neg (by decide), if_neg (by decide), if_neg (by rw [IntKind.wrap_u64]; omega), IntKind.wrap_u64, show (E + F) % 18446744073709551616 = E + F by omega]
    · have e1 : addE E F = 18446744073709551616 := if_neg ho
      have e2 : cN 18446744073709551616 = 18446744073709551615 := if_pos rfl
      have e3 : cO 18446744073709551616 = true := by decide
      rw [e1, e2, e3]
      by_cases h1 : E = 18446744073709551616
      · rw [show cO E = true from decide_eq_true h1, if_pos rfl]
      · rw [show cO E = false from decide_eq_false h1, if_neg (by decide)]
        by_cases h2 : F = 18446744073709551616
        · rw [show cO F = true from decide_eq_true h2, if_pos rfl]
        · rw [show cO F = false from decide_eq_false h2, if_neg (by decide), show cN E = E from if_neg h1, show cN F = F from if_neg h2, if_pos (by rw [IntKind.wrap_u64]; omega)]
  rw [rickyardref02_Merge.j0]
  by_cases hg : d > b
  · rw [if_pos hg, key d]
    have : greater b d = d := by unfold greater; split <;> omega
    rw [this]
  · rw [if_neg hg, key b]
    have : greater b d = b := by unfold greater; split <;> omega
    rw [this]
theorem refMerge_tup (k : Nat) {E S a b F T c d : Int} (h : OkE E S a b) (g : OkE F T c d) : rickyardref02_Merge.f (k + 1) (cN E) (cO E) (mkHi S) (mkLo S) a b (cN F) (cO F) (mkHi T) (mkLo T) c d = some (tup (addE E F) (S + T) (mnE E a F c) (mxE E b F d)) := by
  obtain ⟨p0, p1, p2, p3⟩ := h
  obtain ⟨q0, q1, q2, q3⟩ := g
  unfold rickyardref02_Merge.f
  by_cases hE : E = 0
  · rw [if_pos ((cN_zero p0 p1).2 hE)]
    have hS := (p2 hE).1
    subst hE hS
    have e : addE 0 F = F := by unfold addE; split <;> omega
    rw [tup, e, mnE, mxE, if_pos rfl, if_pos rfl, Int.zero_add]
  · rw [if_neg (fun h => hE ((cN_zero p0 p1).1 h))]
    by_cases hF : F = 0
    · rw [if_pos ((cN_zero q0 q1).2 hF)]
      have hT := (q2 hF).1
      subst hF hT
      have e : addE E 0 = E := by unfold addE; split <;> omega
      rw [tup, e, mnE, mxE, if_neg hE, if_neg hE, if_pos rfl, if_pos rfl, Int.add_zero]
    · rw [if_neg (fun h => hF ((cN_zero q0 q1).1 h))]
      unfold rickyardref01_Add.f
      rw [add_mk_mk]
      simp only [Option.bind_some]
      rw [tup, mnE, mxE, if_neg hE, if_neg hE, if_neg hF, if_neg hF]
      by_cases hc : c < a
      · rw [if_pos hc, refMerge_j0 k E F a b c d _ _ c _ _ _ _ 0 0 false ⟨p0, p1⟩ ⟨q0, q1⟩]
        have : lesser a c = c := by unfold lesser; split <;> omega
        rw [this]
      · rw [if_neg hc, refMerge_j0 k E F a b c d _ _ a _ _ _ _ 0 0 false ⟨p0, p1⟩ ⟨q0, q1⟩]
        have : lesser a c = a := by unfold lesser; split <;> omega
        rw [this]
theorem refMerge_mg (k : Nat) {a b : Ag} (ha : GoodA a) (hb : GoodA b) : rickyardref02_Merge.f (k + 1) a.f0 a.f1 a.f2.f0 a.f2.f1 a.f3 a.f4 b.f0 b.f1 b.f2.f0 b.f2.f1 b.f3 b.f4 = some ((mgA a b).f0, (mgA a b).f1, (mgA a b).f2.f0, (mgA a b).f2.f1, (mgA a b).f3, (mgA a b).f4) := by
  obtain ⟨E, S, x, y, h, _, _, rfl⟩ := goodT ha
  obtain ⟨F, T, z, w, g, _, _, rfl⟩ := goodT hb
  rw [mgA_tup h g]
  exact refMerge_tup k h g
end Go.Proofs.Ytihdomhiiolojaa.Pure
