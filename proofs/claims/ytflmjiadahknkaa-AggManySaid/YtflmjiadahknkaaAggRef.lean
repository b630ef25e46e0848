/- The reference's Merge and One tell the same. No conditions. -/
import Derived.Test.YtflmjiadahknkaaAggMany
import Derived.Test.YtflmjiadahknkaaPrickyardref02Merge
import Derived.Test.YtflmjiadahknkaaPrickyardref02One
namespace Go.Proofs.Ytflmjiadahknkaa.Pure
open Go.RowKit Go.Proofs.Ytflmjiadahknkaa.P Go.Proofs.YtflmjiadahknkaaW.PrintWords Go.Proofs.YtflmjiadahknkaaW.PrintLast
set_option linter.unusedVariables false
set_option linter.unusedSimpArgs false

theorem refOf_f (v : Int) (h : -9223372036854775808 ≤ v) (h' : v < 9223372036854775808) : rickyardref01_Of.f v = some (mkHi v, mkLo v) := by
  rw [← of_f v h h']
  unfold rickyardref01_Of.f wide_Of.f
  by_cases h0 : v < 0
  · rw [if_pos h0, show v / 9223372036854775808 = -1 by omega]
  · rw [if_neg h0, show v / 9223372036854775808 = 0 by omega]
theorem refOne_f (v : Int) (h : -9223372036854775808 ≤ v ∧ v < 9223372036854775808) : rickyardref02_One.f v = some (tp (e1 v)) := by
  unfold rickyardref02_One.f
  rw [refOf_f v h.1 h.2]
  rfl
theorem refMerge_j0 (k : Nat) (E F a b c d x y m : Int) (X Y X' Y' p q : Int) (e : Bool) (hE : 0 ≤ E ∧ E ≤ 18446744073709551616) (hF : 0 ≤ F ∧ F ≤ 18446744073709551616) :
    rickyardref02_Merge.j0 (k + 1) (cN E) (cO E) X Y a b (cN F) (cO F) X' Y' c d 0 false x y m b = some (cN (addE E F), cO (addE E F), x, y, m, greater b d) := by
  have key : ∀ g : Int, (if cO E = true then some (18446744073709551615, true, x, y, m, g) else if cO F = true then some (18446744073709551615, true, x, y, m, g) else if cN E > IntKind.u64.wrap (18446744073709551615 - cN F) then some (18446744073709551615, true, x, y, m, g) else some (IntKind.u64.wrap (cN E + cN F), false, x, y, m, g)) = some (cN (addE E F), cO (addE E F), x, y, m, g) := by
    intro g
    by_cases ho : E + F < 18446744073709551616
    · have e1 : addE E F = E + F := if_pos ho
      have e2 : cN E = E := if_neg (by omega)
      have e3 : cN F = F := if_neg (by omega)
      have e4 : cN (E + F) = E + F := if_neg (by omega)
      have e5 : cO E = false := decide_eq_false (by omega)
      have e6 : cO F = false := decide_eq_false (by omega)
      have e7 : cO (E + F) = false := decide_eq_false (by omega)
      rw [e1, e2, e3, e4, e5, e6, e7, if_neg (by decide), if_neg (by decide), if_neg (by rw [IntKind.wrap_u64]; omega), IntKind.wrap_u64, show (E + F) % 18446744073709551616 = E + F by omega]
    · have e1 : addE E F = 18446744073709551616 := if_neg ho
      have e2 : cN 18446744073709551616 = 18446744073709551615 := if_pos rfl
      have e3 : cO 18446744073709551616 = true := by decide
      rw [e1, e2, e3]
      by_cases h1 : E = 18446744073709551616
      · rw [show cO E = true from decide_eq_true h1, if_pos rfl]
      · rw [show cO E = false from decide_eq_false h1, if_neg (by decide)]
        by_cases h2 : F = 18446744073709551616
        · rw [show cO F = true from decide_eq_true h2, if_pos rfl]
        · rw [show cO F = false from decide_eq_false h2, if_neg (by decide), show cN E = E from if_neg h1, show cN F = F from if_neg h2, if_pos (by rw [IntKind.wrap_u64]; omega)]
  rw [rickyardref02_Merge.j0]
  by_cases hg : d > b
  · rw [if_pos hg, key d]
    have : greater b d = d := by unfold greater; split <;> omega
    rw [this]
  · rw [if_neg hg, key b]
    have : greater b d = b := by unfold greater; split <;> omega
    rw [this]
theorem refMerge_tp (k : Nat) {p q : E4} (h : OkP p) (g : OkP q) : rickyardref02_Merge.f (k + 1) (tp p).1 (tp p).2.1 (tp p).2.2.1 (tp p).2.2.2.1 (tp p).2.2.2.2.1 (tp p).2.2.2.2.2 (tp q).1 (tp q).2.1 (tp q).2.2.1 (tp q).2.2.2.1 (tp q).2.2.2.2.1 (tp q).2.2.2.2.2 = some (tp (mg p q)) := by
  obtain ⟨E, S, a, b⟩ := p
  obtain ⟨F, T, c, d⟩ := q
  obtain ⟨p0, p1, p2, p3⟩ := h
  obtain ⟨q0, q1, q2, q3⟩ := g
  show rickyardref02_Merge.f (k + 1) (cN E) (cO E) (mkHi S) (mkLo S) a b (cN F) (cO F) (mkHi T) (mkLo T) c d = some (tup (addE E F) (S + T) (mnE E a F c) (mxE E b F d))
  unfold rickyardref02_Merge.f
  simp only [] at p0 p1 p2 p3 q0 q1 q2 q3
  by_cases hE : E = 0
  · rw [if_pos ((cN_zero p0 p1).2 hE)]
    have hS := (p2 hE).1
    subst hE hS
    have e : addE 0 F = F := by unfold addE; split <;> omega
    rw [tup, e, mnE, mxE, if_pos rfl, if_pos rfl, Int.zero_add]
  · rw [if_neg (fun h => hE ((cN_zero p0 p1).1 h))]
    by_cases hF : F = 0
    · rw [if_pos ((cN_zero q0 q1).2 hF)]
      have hT := (q2 hF).1
      subst hF hT
      have e : addE E 0 = E := by unfold addE; split <;> omega
      rw [tup, e, mnE, mxE, if_neg hE, if_neg hE, if_pos rfl, if_pos rfl, Int.add_zero]
    · rw [if_neg (fun h => hF ((cN_zero q0 q1).1 h))]
      unfold rickyardref01_Add.f
      rw [add_mk_mk]
      simp only [Option.bind_some]
      rw [tup, mnE, mxE, if_neg hE, if_neg hE, if_neg hF, if_neg hF]
      by_cases hc : c < a
      · rw [if_pos hc, refMerge_j0 k E F a b c d _ _ c _ _ _ _ 0 0 false ⟨p0, p1⟩ ⟨q0, q1⟩]
        have : lesser a c = c := by unfold lesser; split <;> omega
        rw [this]
      · rw [if_neg hc, refMerge_j0 k E F a b c d _ _ a _ _ _ _ 0 0 false ⟨p0, p1⟩ ⟨q0, q1⟩]
        have : lesser a c = a := by unfold lesser; split <;> omega
        rw [this]

end Go.Proofs.Ytflmjiadahknkaa.Pure
