/- What is known of facts as a count up to 2^64, a sum, the least and the greatest one. No conditions. -/
import Derived.Test.YtflmjiadahknkaaAggPure1
import Derived.Test.YtflmjiadahknkaaAggWide
namespace Go.Proofs.Ytflmjiadahknkaa.Pure
open Go.RowKit Go.Proofs.Ytflmjiadahknkaa.P Go.Proofs.YtflmjiadahknkaaW.PrintWords Go.Proofs.YtflmjiadahknkaaW.PrintLast
set_option linter.unusedVariables false
set_option linter.unusedSimpArgs false

/-- The count as Go has it, and whether it is over: E is 2^64 where it is. -/
def cN (E : Int) : Int := if E = 18446744073709551616 then 18446744073709551615 else E
def cO (E : Int) : Bool := decide (E = 18446744073709551616)
def addE (E F : Int) : Int := if E + F < 18446744073709551616 then E + F else 18446744073709551616
def mnE (E a F b : Int) : Int := if E = 0 then b else if F = 0 then a else lesser a b
def mxE (E a F b : Int) : Int := if E = 0 then b else if F = 0 then a else greater a b
def tup (E S a b : Int) : AggT := (cN E, cO E, mkHi S, mkLo S, a, b)
/-- What stands: within bounds, nothing where there is none. -/
def OkE (E S a b : Int) : Prop := 0 ≤ E ∧ E ≤ 18446744073709551616 ∧ (E = 0 → S = 0 ∧ a = 0 ∧ b = 0) ∧ (E ≠ 0 → a ≤ b)

theorem cN_zero {E : Int} (h0 : 0 ≤ E) (h1 : E ≤ 18446744073709551616) : cN E = 0 ↔ E = 0 := by unfold cN; split <;> omega
theorem merge_tup (E S a b F T c d : Int) (h0 : OkE E S a b) (h1 : OkE F T c d) :
    agg_Merge.f (cN E) (cO E) (mkHi S) (mkLo S) a b (cN F) (cO F) (mkHi T) (mkLo T) c d = some (tup (addE E F) (S + T) (mnE E a F c) (mxE E b F d)) := by
  obtain ⟨p0, p1, p2, p3⟩ := h0
  obtain ⟨q0, q1, q2, q3⟩ := h1
  unfold agg_Merge.f
  by_cases hE : E = 0
  · rw [if_pos ((cN_zero p0 p1).2 hE)]
    have hS := (p2 hE).1
    subst hE hS
    have e : addE 0 F = F := by unfold addE; split <;> omega
    rw [tup, e, mnE, mxE, if_pos rfl, if_pos rfl, Int.zero_add]
  · rw [if_neg (fun h => hE ((cN_zero p0 p1).1 h))]
    by_cases hF : F = 0
    · rw [if_pos ((cN_zero q0 q1).2 hF)]
      have hT := (q2 hF).1
      subst hF hT
      have e : addE E 0 = E := by unfold addE; split <;> omega
      rw [tup, e, mnE, mxE, if_neg hE, if_neg hE, if_pos rfl, if_pos rfl, Int.add_zero]
    · rw [if_neg (fun h => hF ((cN_zero q0 q1).1 h)), add_mk_mk]
      simp only [Option.bind_some, Option.some.injEq]
      rw [tup, mnE, mxE, if_neg hE, if_neg hE, if_neg hF, if_neg hF, mergeS]
      by_cases ho : E + F < 18446744073709551616
      · have e1 : addE E F = E + F := if_pos ho
        have e2 : cN E = E := if_neg (by omega)
        have e3 : cN F = F := if_neg (by omega)
        have e4 : cN (E + F) = E + F := if_neg (by omega)
        have e5 : cO E = false := decide_eq_false (by omega)
        have e6 : cO F = false := decide_eq_false (by omega)
        have e7 : cO (E + F) = false := decide_eq_false (by omega)
        have e8 : IntKind.u64.wrap (E + F) = E + F := by rw [IntKind.wrap_u64]; omega
        rw [e1, e2, e3, e4, e5, e6, e7, e8, if_neg (by rintro (h | h); omega; cases h)]
      · have e1 : addE E F = 18446744073709551616 := if_neg ho
        have e2 : cN 18446744073709551616 = 18446744073709551615 := if_pos rfl
        have e3 : cO 18446744073709551616 = true := by decide
        rw [e1, e2, e3]
        refine if_pos ?_
        by_cases h1 : E = 18446744073709551616
        · right
          rw [show cO E = true from decide_eq_true h1]; rfl
        · by_cases h2 : F = 18446744073709551616
          · right
            rw [show cO F = true from decide_eq_true h2]; simp
          · left
            rw [show cN E = E from if_neg h1, show cN F = F from if_neg h2, IntKind.wrap_u64]
            omega
theorem ok_add {E S a b F T c d : Int} (h0 : OkE E S a b) (h1 : OkE F T c d) : OkE (addE E F) (S + T) (mnE E a F c) (mxE E b F d) := by
  obtain ⟨p0, p1, p2, p3⟩ := h0
  obtain ⟨q0, q1, q2, q3⟩ := h1
  unfold OkE addE mnE mxE lesser greater
  by_cases hE : E = 0
  · obtain ⟨s1, s2, s3⟩ := p2 hE
    subst hE
    simp only [if_true]
    by_cases hF : F = 0
    · obtain ⟨t1, t2, t3⟩ := q2 hF
      subst hF t1 t2 t3 s1
      simp
    · have := q3 hF
      refine ⟨by split <;> omega, by split <;> omega, fun h => ?_, fun _ => this⟩
      split at h <;> omega
  · have ha := p3 hE
    by_cases hF : F = 0
    · obtain ⟨t1, t2, t3⟩ := q2 hF
      subst hF
      rw [if_neg hE, if_neg hE, if_pos rfl, if_pos rfl]
      refine ⟨by split <;> omega, by split <;> omega, fun h => ?_, fun _ => ha⟩
      split at h <;> omega
    · have hb := q3 hF
      rw [if_neg hE, if_neg hE, if_neg hF, if_neg hF]
      refine ⟨by split <;> omega, by split <;> omega, fun h => ?_, fun _ => ?_⟩
      · split at h <;> omega
      · split <;> split <;> omega
/-- What is right is such a one. -/
theorem of_right {n : Int} {o : Bool} {x y a b : Int} (hr : RightP n o x y a b) (wn : 0 ≤ n ∧ n < 18446744073709551616) (wx : -9223372036854775808 ≤ x ∧ x < 9223372036854775808) (wy : 0 ≤ y ∧ y < 18446744073709551616) :
    ∃ E S, OkE E S a b ∧ n = cN E ∧ o = cO E ∧ x = mkHi S ∧ y = mkLo S := by
  obtain ⟨m1, m2⟩ := mk_vl x y wy.1 wy.2 wx.1 wx.2
  rcases hr with ⟨rfl, rfl, rfl, rfl, rfl, rfl⟩ | ⟨h1, h2, h3⟩
  · exact ⟨0, 0, ⟨by decide, by decide, fun _ => ⟨rfl, rfl, rfl⟩, fun h => absurd rfl h⟩, rfl, rfl, m1.symm, m2.symm⟩
  · cases o with
    | true =>
      have := h3 rfl
      subst this
      exact ⟨18446744073709551616, vl x y, ⟨by decide, by decide, fun h => absurd h (by decide), fun _ => h2⟩, rfl, rfl, m1.symm, m2.symm⟩
    | false =>
      exact ⟨n, vl x y, ⟨wn.1, by omega, fun h => absurd h h1, fun _ => h2⟩, (if_neg (by omega)).symm, (decide_eq_false (by omega)).symm, m1.symm, m2.symm⟩
theorem right_tup {E S a b : Int} (h : OkE E S a b) : agg_Right.f (cN E) (cO E) (mkHi S) (mkLo S) a b = some true := by
  obtain ⟨r, e, p⟩ := right_f (cN E) (cO E) (mkHi S) (mkLo S) a b
  rw [e, p.2 ?_]
  obtain ⟨p0, p1, p2, p3⟩ := h
  by_cases hE : E = 0
  · obtain ⟨rfl, rfl, rfl⟩ := p2 hE
    subst hE
    left
    decide +kernel
  · right
    refine ⟨fun h => hE ((cN_zero p0 p1).1 h), p3 hE, fun h => ?_⟩
    have := of_decide_eq_true h
    rw [this]; rfl
theorem addE_assoc (E F G : Int) (h0 : 0 ≤ E) (h1 : 0 ≤ F) (h2 : 0 ≤ G) : addE (addE E F) G = addE E (addE F G) := by
  unfold addE; repeat' split <;> omega
theorem addE_comm (E F : Int) : addE E F = addE F E := by unfold addE; rw [Int.add_comm]
theorem addE_zero {E F : Int} (h0 : 0 ≤ E) (h1 : 0 ≤ F) : addE E F = 0 ↔ E = 0 ∧ F = 0 := by unfold addE; split <;> omega
theorem mn_assoc {E a F b G c : Int} (h0 : 0 ≤ E) (h1 : 0 ≤ F) (h2 : 0 ≤ G) : mnE (addE E F) (mnE E a F b) G c = mnE E a (addE F G) (mnE F b G c) := by
  have z1 := addE_zero h0 h1
  have z2 := addE_zero h1 h2
  generalize addE E F = X at z1 ⊢
  generalize addE F G = Y at z2 ⊢
  unfold mnE lesser
  repeat' split
  all_goals omega
theorem mx_assoc {E a F b G c : Int} (h0 : 0 ≤ E) (h1 : 0 ≤ F) (h2 : 0 ≤ G) : mxE (addE E F) (mxE E a F b) G c = mxE E a (addE F G) (mxE F b G c) := by
  have z1 := addE_zero h0 h1
  have z2 := addE_zero h1 h2
  generalize addE E F = X at z1 ⊢
  generalize addE F G = Y at z2 ⊢
  unfold mxE greater
  repeat' split
  all_goals omega


end Go.Proofs.Ytflmjiadahknkaa.Pure
