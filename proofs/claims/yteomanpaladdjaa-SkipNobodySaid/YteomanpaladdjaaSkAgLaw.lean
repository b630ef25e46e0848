/- What is known of facts, merged: the order and the grouping are of no matter. (Turned from the texts of the seat agg.) No conditions. -/
import Derived.Test.YteomanpaladdjaaSkBase
import Derived.Test.YteomanpaladdjaaRowEn
namespace Go.Proofs.Yteomanpaladdjaa.Pure
open Go.RowKit Go.Proofs.Yteomanpaladdjaa.P Go.Proofs.YteomanpaladdjaaW.PrintWords Go.Proofs.YteomanpaladdjaaW.PrintLast
set_option linter.unusedVariables false
set_option linter.unusedSimpArgs false

theorem of_wf_i64 {v : Int} (h : (Lit.int .i64 v).wf = true) : -9223372036854775808 ≤ v ∧ v < 9223372036854775808 := by
  simp only [Lit.wf, Bool.and_eq_true, decide_eq_true_eq] at h
  have h1 : IntKind.i64.min = -9223372036854775808 := by decide
  have h2 : IntKind.i64.max = 9223372036854775807 := by decide
  omega
theorem of_wf_u64 {v : Int} (h : (Lit.int .u64 v).wf = true) : 0 ≤ v ∧ v < 18446744073709551616 := by
  simp only [Lit.wf, Bool.and_eq_true, decide_eq_true_eq] at h
  have h1 : IntKind.u64.min = 0 := by decide
  have h2 : IntKind.u64.max = 18446744073709551615 := by decide
  omega
theorem of_wf_u8 {v : Int} (h : (Lit.int .u8 v).wf = true) : 0 ≤ v ∧ v < 256 := by
  simp only [Lit.wf, Bool.and_eq_true, decide_eq_true_eq] at h
  have h1 : IntKind.u8.min = 0 := by decide
  have h2 : IntKind.u8.max = 255 := by decide
  omega

/-- The pair of halves of a whole number. -/
def mkHi (n : Int) : Int := wrap64 (n / 18446744073709551616)
def mkLo (n : Int) : Int := n % 18446744073709551616
def vl (hi lo : Int) : Int := hi * 18446744073709551616 + lo
theorem mkLo_nn (n : Int) : 0 ≤ mkLo n := by unfold mkLo; omega
theorem mkLo_lt (n : Int) : mkLo n < 18446744073709551616 := by unfold mkLo; omega
theorem mkHi_ge (n : Int) : -9223372036854775808 ≤ mkHi n := by unfold mkHi wrap64; omega
theorem mkHi_lt (n : Int) : mkHi n < 9223372036854775808 := by unfold mkHi wrap64; omega
/-- Of a number within the bounds the pair tells all. -/
theorem vl_mk (n : Int) (h : -170141183460469231731687303715884105728 ≤ n) (h' : n < 170141183460469231731687303715884105728) : vl (mkHi n) (mkLo n) = n := by
  unfold vl mkHi mkLo wrap64; omega
theorem vl_mk_mod (n : Int) : ∃ q : Int, vl (mkHi n) (mkLo n) = n + q * 340282366920938463463374607431768211456 := by
  refine ⟨(vl (mkHi n) (mkLo n) - n) / 340282366920938463463374607431768211456, ?_⟩
  unfold vl mkHi mkLo wrap64; omega
theorem mk_mod (n m q : Int) (h : m = n + q * 340282366920938463463374607431768211456) : mkHi m = mkHi n ∧ mkLo m = mkLo n := by
  subst h; unfold mkHi mkLo wrap64; omega
theorem mk_vl (hi lo : Int) (h0 : 0 ≤ lo) (h1 : lo < 18446744073709551616) (h2 : -9223372036854775808 ≤ hi) (h3 : hi < 9223372036854775808) : mkHi (vl hi lo) = hi ∧ mkLo (vl hi lo) = lo := by
  unfold vl mkHi mkLo wrap64; omega
theorem mk_inj (n m : Int) (h : mkHi n = mkHi m) (h' : mkLo n = mkLo m) : ∃ q : Int, m = n + q * 340282366920938463463374607431768211456 := by
  refine ⟨(m - n) / 340282366920938463463374607431768211456, ?_⟩
  unfold mkHi mkLo wrap64 at *; omega

theorem add_mk (a0 a1 b0 b1 : Int) (h1 : 0 ≤ a1) (h2 : a1 < 18446744073709551616) (h3 : 0 ≤ b1) (h4 : b1 < 18446744073709551616) :
    addHi a0 a1 b0 b1 = mkHi (vl a0 a1 + vl b0 b1) ∧ addLo a1 b1 = mkLo (vl a0 a1 + vl b0 b1) := by
  unfold addHi addLo sumHi sumLo sumCy mkHi mkLo vl wrap64
  simp only [IntKind.wrap_u64]
  omega
theorem add_f (a0 a1 b0 b1 : Int) (h1 : 0 ≤ a1) (h2 : a1 < 18446744073709551616) (h3 : 0 ≤ b1) (h4 : b1 < 18446744073709551616) :
    wide_Add.f a0 a1 b0 b1 = some (mkHi (vl a0 a1 + vl b0 b1), mkLo (vl a0 a1 + vl b0 b1)) := by
  unfold wide_Add.f
  rw [if_pos ⟨h1, h2, h3, h4⟩, (add_mk a0 a1 b0 b1 h1 h2 h3 h4).1, (add_mk a0 a1 b0 b1 h1 h2 h3 h4).2]
/-- The sum of two numbers modulo 2^128. -/
theorem add_mk_mk (n m : Int) : wide_Add.f (mkHi n) (mkLo n) (mkHi m) (mkLo m) = some (mkHi (n + m), mkLo (n + m)) := by
  rw [add_f _ _ _ _ (mkLo_nn _) (mkLo_lt _) (mkLo_nn _) (mkLo_lt _)]
  obtain ⟨q, hq⟩ := vl_mk_mod n
  obtain ⟨p, hp⟩ := vl_mk_mod m
  have := mk_mod (n + m) (vl (mkHi n) (mkLo n) + vl (mkHi m) (mkLo m)) (q + p) (by rw [hq, hp, Int.add_mul]; omega)
  rw [this.1, this.2]

abbrev AggT := Int × Bool × Int × Int × Int × Int
/-- What may be known. -/
def RightP (n : Int) (o : Bool) (x y a b : Int) : Prop := (n = 0 ∧ o = false ∧ x = 0 ∧ y = 0 ∧ a = 0 ∧ b = 0) ∨ (n ≠ 0 ∧ a ≤ b ∧ (o = true → n = 18446744073709551615))
theorem wide_f {x0 y0 x1 y1 : Int} (h0 : 0 ≤ y0 ∧ y0 < 18446744073709551616) (h1 : 0 ≤ y1 ∧ y1 < 18446744073709551616) : wide_Add.f x0 y0 x1 y1 = some (addHi x0 y0 x1 y1, addLo y0 y1) := by
  unfold wide_Add.f
  rw [if_pos ⟨h0.1, h0.2, h1.1, h1.2⟩]
theorem wf_u64 {y : Int} (h : (Lit.int .u64 y).wf = true) : 0 ≤ y ∧ y < 18446744073709551616 := by
  simp [Lit.wf, IntKind.min, IntKind.max, IntKind.signed, IntKind.bits] at h
  omega
/-- Merge of two that both have facts. -/
def mergeT (n0 : Int) (o0 : Bool) (x0 y0 a0 b0 n1 : Int) (o1 : Bool) (x1 y1 a1 b1 : Int) : AggT :=
  if n0 = 0 then (n1, o1, x1, y1, a1, b1) else if n1 = 0 then (n0, o0, x0, y0, a0, b0) else mergeS n0 o0 a0 b0 n1 o1 a1 b1 (addHi x0 y0 x1 y1, addLo y0 y1)
theorem merge_f {n0 : Int} {o0 : Bool} {x0 y0 a0 b0 n1 : Int} {o1 : Bool} {x1 y1 a1 b1 : Int} (h0 : 0 ≤ y0 ∧ y0 < 18446744073709551616) (h1 : 0 ≤ y1 ∧ y1 < 18446744073709551616) :
    agg_Merge.f n0 o0 x0 y0 a0 b0 n1 o1 x1 y1 a1 b1 = some (mergeT n0 o0 x0 y0 a0 b0 n1 o1 x1 y1 a1 b1) := by
  unfold agg_Merge.f mergeT
  rw [wide_f h0 h1]
  split
  · rfl
  · split <;> rfl


/-- The count as Go has it, and whether it is over: E is 2^64 where it is. -/
def cN (E : Int) : Int := if E = 18446744073709551616 then 18446744073709551615 else E
def cO (E : Int) : Bool := decide (E = 18446744073709551616)
def addE (E F : Int) : Int := if E + F < 18446744073709551616 then E + F else 18446744073709551616
def mnE (E a F b : Int) : Int := if E = 0 then b else if F = 0 then a else lesser a b
def mxE (E a F b : Int) : Int := if E = 0 then b else if F = 0 then a else greater a b
def tup (E S a b : Int) : AggT := (cN E, cO E, mkHi S, mkLo S, a, b)
/-- What stands: within bounds, nothing where there is none. -/
def OkE (E S a b : Int) : Prop := 0 ≤ E ∧ E ≤ 18446744073709551616 ∧ (E = 0 → S = 0 ∧ a = 0 ∧ b = 0) ∧ (E ≠ 0 → a ≤ b)

theorem cN_zero {E : Int} (h0 : 0 ≤ E) (h1 : E ≤ 18446744073709551616) : cN E = 0 ↔ E = 0 := by unfold cN; split <;> omega
theorem merge_tup (E S a b F T c d : Int) (h0 : OkE E S a b) (h1 : OkE F T c d) :
    agg_Merge.f (cN E) (cO E) (mkHi S) (mkLo S) a b (cN F) (cO F) (mkHi T) (mkLo T) c d = some (tup (addE E F) (S + T) (mnE E a F c) (mxE E b F d)) := by
  obtain ⟨p0, p1, p2, p3⟩ := h0
  obtain ⟨q0, q1, q2, q3⟩ := h1
  unfold agg_Merge.f
  by_cases hE : E = 0
  · rw [if_pos ((cN_zero p0 p1).2 hE)]
    have hS := (p2 hE).1
    subst hE hS
    have e : addE 0 F = F := by unfold addE; split <;> omega
    rw [tup, e, mnE, mxE, if_pos rfl, if_pos rfl, Int.zero_add]
  · rw [if_neg (fun h => hE ((cN_zero p0 p1).1 h))]
    by_cases hF : F = 0
    · rw [if_pos ((cN_zero q0 q1).2 hF)]
      have hT := (q2 hF).1
      subst hF hT
      have e : addE E 0 = E := by unfold addE; split <;> omega
      rw [tup, e, mnE, mxE, if_neg hE, if_neg hE, if_pos rfl, if_pos rfl, Int.add_zero]
    · rw [if_neg (fun h => hF ((cN_zero q0 q1).1 h)), add_mk_mk]
      simp only [Option.bind_some, Option.some.injEq]
      rw [tup, mnE, mxE, if_neg hE, if_neg hE, if_neg hF, if_neg hF, mergeS]
      by_cases ho : E + F < 18446744073709551616
      · have e1 : addE E F = E + F := if_pos ho
        have e2 : cN E = E := if_neg (by omega)
        have e3 : cN F = F := if_neg (by omega)
        have e4 : cN (E + F) = E + F := if_neg (by omega)
        have e5 : cO E = false := decide_eq_false (by omega)
        have e6 : cO F = false := decide_eq_false (by omega)
        have e7 : cO (E + F) = false := decide_eq_false (by omega)
        have e8 : IntKind.u64.wrap (E + F) = E + F := by rw [IntKind.wrap_u64]; omega
        rw [e1, e2, e3, e4, e5, e6, e7, e8, if_neg (by rintro (h | h); omega; cases h)]
      · have e1 : addE E F = 18446744073709551616 := if_neg ho
        have e2 : cN 18446744073709551616 = 18446744073709551615 := if_pos rfl
        have e3 : cO 18446744073709551616 = true := by decide
        rw [e1, e2, e3]
        refine if_pos ?_
        by_cases h1 : E = 18446744073709551616
        · right
          rw [show cO E = true from decide_eq_true h1]; rfl
        · by_cases h2 : F = 18446744073709551616
          · right
            rw [show cO F = true from decide_eq_true h2]; simp
          · left
            rw [show cN E = E from if_neg h1, show cN F = F from if_neg h2, IntKind.wrap_u64]
            omega
theorem ok_add {E S a b F T c d : Int} (h0 : OkE E S a b) (h1 : OkE F T c d) : OkE (addE E F) (S + T) (mnE E a F c) (mxE E b F d) := by
  obtain ⟨p0, p1, p2, p3⟩ := h0
  obtain ⟨q0, q1, q2, q3⟩ := h1
  unfold OkE addE mnE mxE lesser greater
  by_cases hE : E = 0
  · obtain ⟨s1, s2, s3⟩ := p2 hE
    subst hE
    simp only [if_true]
    by_cases hF : F = 0
    · obtain ⟨t1, t2, t3⟩ := q2 hF
      subst hF t1 t2 t3 s1
      simp
    · have := q3 hF
      refine ⟨by split <;> omega, by split <;> omega, fun h => ?_, fun _ => this⟩
      split at h <;> omega
  · have ha := p3 hE
    by_cases hF : F = 0
    · obtain ⟨t1, t2, t3⟩ := q2 hF
      subst hF
      rw [if_neg hE, if_neg hE, if_pos rfl, if_pos rfl]
      refine ⟨by split <;> omega, by split <;> omega, fun h => ?_, fun _ => ha⟩
      split at h <;> omega
    · have hb := q3 hF
      rw [if_neg hE, if_neg hE, if_neg hF, if_neg hF]
      refine ⟨by split <;> omega, by split <;> omega, fun h => ?_, fun _ => ?_⟩
      · split at h <;> omega
      · split <;> split <;> omega
/-- What is right is such a one. -/
theorem of_right {n : Int} {o : Bool} {x y a b : Int} (hr : RightP n o x y a b) (wn : 0 ≤ n ∧ n < 18446744073709551616) (wx : -9223372036854775808 ≤ x ∧ x < 9223372036854775808) (wy : 0 ≤ y ∧ y < 18446744073709551616) :
    ∃ E S, OkE E S a b ∧ n = cN E ∧ o = cO E ∧ x = mkHi S ∧ y = mkLo S := by
  obtain ⟨m1, m2⟩ := mk_vl x y wy.1 wy.2 wx.1 wx.2
  rcases hr with ⟨rfl, rfl, rfl, rfl, rfl, rfl⟩ | ⟨h1, h2, h3⟩
  · exact ⟨0, 0, ⟨by decide, by decide, fun _ => ⟨rfl, rfl, rfl⟩, fun h => absurd rfl h⟩, rfl, rfl, m1.symm, m2.symm⟩
  · cases o with
    | true =>
      have := h3 rfl
      subst this
      exact ⟨18446744073709551616, vl x y, ⟨by decide, by decide, fun h => absurd h (by decide), fun _ => h2⟩, rfl, rfl, m1.symm, m2.symm⟩
    | false =>
      exact ⟨n, vl x y, ⟨wn.1, by omega, fun h => absurd h h1, fun _ => h2⟩, (if_neg (by omega)).symm, (decide_eq_false (by omega)).symm, m1.symm, m2.symm⟩
theorem addE_assoc (E F G : Int) (h0 : 0 ≤ E) (h1 : 0 ≤ F) (h2 : 0 ≤ G) : addE (addE E F) G = addE E (addE F G) := by
  unfold addE; repeat' split <;> omega
theorem addE_comm (E F : Int) : addE E F = addE F E := by unfold addE; rw [Int.add_comm]
theorem addE_zero {E F : Int} (h0 : 0 ≤ E) (h1 : 0 ≤ F) : addE E F = 0 ↔ E = 0 ∧ F = 0 := by unfold addE; split <;> omega
theorem mn_assoc {E a F b G c : Int} (h0 : 0 ≤ E) (h1 : 0 ≤ F) (h2 : 0 ≤ G) : mnE (addE E F) (mnE E a F b) G c = mnE E a (addE F G) (mnE F b G c) := by
  have z1 := addE_zero h0 h1
  have z2 := addE_zero h1 h2
  generalize addE E F = X at z1 ⊢
  generalize addE F G = Y at z2 ⊢
  unfold mnE lesser
  repeat' split
  all_goals omega
theorem mx_assoc {E a F b G c : Int} (h0 : 0 ≤ E) (h1 : 0 ≤ F) (h2 : 0 ≤ G) : mxE (addE E F) (mxE E a F b) G c = mxE E a (addE F G) (mxE F b G c) := by
  have z1 := addE_zero h0 h1
  have z2 := addE_zero h1 h2
  generalize addE E F = X at z1 ⊢
  generalize addE F G = Y at z2 ⊢
  unfold mxE greater
  repeat' split
  all_goals omega



theorem rightB_iff (x : Ag) : rightB x = true ↔ RightP x.f0 x.f1 x.f2.f0 x.f2.f1 x.f3 x.f4 := by
  unfold rightB RightP
  by_cases h : x.f0 = 0
  · rw [if_pos h]
    rw [h]
    cases x.f1 <;> simp [and_assoc]
  · rw [if_neg h]
    cases x.f1 <;> simp [h]
def toAg (t : AggT) : Ag := ⟨t.1, t.2.1, ⟨t.2.2.1, t.2.2.2.1⟩, t.2.2.2.2.1, t.2.2.2.2.2⟩
/-- What is known, and may be. -/
def GoodA (a : Ag) : Prop := OkAg a ∧ rightB a = true
def GoodT (a : Ag) : Prop := ∃ E S x y, OkE E S x y ∧ rngI x ∧ rngI y ∧ a = toAg (tup E S x y)
theorem goodT {a : Ag} (h : GoodA a) : GoodT a := by
  obtain ⟨⟨h0, h1, h2, h3, h4⟩, hr⟩ := h
  obtain ⟨E, S, h5, h6⟩ := of_right ((rightB_iff a).1 hr) h0 h1 h2
  refine ⟨E, S, a.f3, a.f4, h5, h3, h4, ?_⟩
  obtain ⟨e0, e1, e2, e3⟩ := h6
  cases a with
  | mk a0 a1 a2 a3 a4 =>
    cases a2
    simp only at e0 e1 e2 e3
    rw [e0, e1, e2, e3]; rfl
theorem okT {a : Ag} (h : GoodT a) : GoodA a := by
  obtain ⟨E, S, x, y, h, hx, hy, rfl⟩ := h
  obtain ⟨p0, p1, p2, p3⟩ := h
  refine ⟨⟨?_, ⟨mkHi_ge S, mkHi_lt S⟩, ⟨mkLo_nn S, mkLo_lt S⟩, hx, hy⟩, (rightB_iff _).2 ?_⟩
  · show rngU (cN E)
    unfold rngU cN
    split <;> omega
  · show RightP (cN E) (cO E) (mkHi S) (mkLo S) x y
    by_cases hE : E = 0
    · obtain ⟨rfl, rfl, rfl⟩ := p2 hE
      subst hE
      left
      decide +kernel
    · right
      refine ⟨fun h => hE ((cN_zero p0 p1).1 h), p3 hE, fun h => ?_⟩
      have := of_decide_eq_true h
      rw [this]; rfl
theorem mgA_tup {E S a b F T c d : Int} (h0 : OkE E S a b) (h1 : OkE F T c d) : mgA (toAg (tup E S a b)) (toAg (tup F T c d)) = toAg (tup (addE E F) (S + T) (mnE E a F c) (mxE E b F d)) := by
  unfold mgA toAg tup
  simp only []
  rw [merge_tup E S a b F T c d h0 h1]
  rfl
theorem rng_mn {E a F b : Int} (h0 : rngI a) (h1 : rngI b) : rngI (mnE E a F b) := by
  unfold mnE lesser
  split
  · exact h1
  · split
    · exact h0
    · split
      · exact h1
      · exact h0
theorem rng_mx {E a F b : Int} (h0 : rngI a) (h1 : rngI b) : rngI (mxE E a F b) := by
  unfold mxE greater
  split
  · exact h1
  · split
    · exact h0
    · split
      · exact h1
      · exact h0
theorem good_mg {a b : Ag} (ha : GoodA a) (hb : GoodA b) : GoodA (mgA a b) := by
  obtain ⟨E, S, x, y, h, hx, hy, rfl⟩ := goodT ha
  obtain ⟨F, T, z, w, g, hz, hw, rfl⟩ := goodT hb
  rw [mgA_tup h g]
  exact okT ⟨_, _, _, _, ok_add h g, rng_mn hx hz, rng_mx hy hw, rfl⟩
theorem mg_assoc {a b c : Ag} (ha : GoodA a) (hb : GoodA b) (hc : GoodA c) : mgA (mgA a b) c = mgA a (mgA b c) := by
  obtain ⟨E, S, x, y, h, _, _, rfl⟩ := goodT ha
  obtain ⟨F, T, z, w, g, _, _, rfl⟩ := goodT hb
  obtain ⟨G, U, p, q, k, _, _, rfl⟩ := goodT hc
  rw [mgA_tup h g, mgA_tup (ok_add h g) k, mgA_tup g k, mgA_tup h (ok_add g k), addE_assoc E F G h.1 g.1 k.1, Int.add_assoc, mn_assoc h.1 g.1 k.1, mx_assoc h.1 g.1 k.1]
theorem mn_comm {E S a b F T c d : Int} (h : OkE E S a b) (g : OkE F T c d) : mnE E a F c = mnE F c E a := by
  unfold mnE lesser
  by_cases hE : E = 0
  · by_cases hF : F = 0
    · have := (h.2.2.1 hE).2.1; have := (g.2.2.1 hF).2.1
      rw [if_pos hE, if_pos hF]; omega
    · rw [if_pos hE, if_neg hF, if_pos hE]
  · by_cases hF : F = 0
    · rw [if_neg hE, if_pos hF, if_pos hF]
    · rw [if_neg hE, if_neg hF, if_neg hF, if_neg hE]
      repeat' split <;> omega
theorem mx_comm {E S a b F T c d : Int} (h : OkE E S a b) (g : OkE F T c d) : mxE E b F d = mxE F d E b := by
  unfold mxE greater
  by_cases hE : E = 0
  · by_cases hF : F = 0
    · have := (h.2.2.1 hE).2.2; have := (g.2.2.1 hF).2.2
      rw [if_pos hE, if_pos hF]; omega
    · rw [if_pos hE, if_neg hF, if_pos hE]
  · by_cases hF : F = 0
    · rw [if_neg hE, if_pos hF, if_pos hF]
    · rw [if_neg hE, if_neg hF, if_neg hF, if_neg hE]
      repeat' split <;> omega
theorem mg_comm {a b : Ag} (ha : GoodA a) (hb : GoodA b) : mgA a b = mgA b a := by
  obtain ⟨E, S, x, y, h, _, _, rfl⟩ := goodT ha
  obtain ⟨F, T, z, w, g, _, _, rfl⟩ := goodT hb
  rw [mgA_tup h g, mgA_tup g h, addE_comm, Int.add_comm, mn_comm h g, mx_comm h g]
abbrev ag0 : Ag := ⟨0, false, ⟨0, 0⟩, 0, 0⟩
theorem mg_zero (a : Ag) : mgA ag0 a = a := by
  unfold mgA agg_Merge.f
  cases a with
  | mk a0 a1 a2 a3 a4 => cases a2; rfl
theorem good_fold : ∀ {l : List Ag} {a : Ag}, GoodA a → (∀ b ∈ l, GoodA b) → GoodA (l.foldl mgA a)
  | [], _, ha, _ => ha
  | b :: l, a, ha, hl => by
    rw [List.foldl_cons]
    exact good_fold (good_mg ha (hl b (List.mem_cons_self ..))) (fun c hc => hl c (List.mem_cons_of_mem _ hc))
theorem fold_pull : ∀ {l : List Ag} {a b : Ag}, GoodA a → GoodA b → (∀ c ∈ l, GoodA c) → l.foldl mgA (mgA a b) = mgA a (l.foldl mgA b)
  | [], _, _, _, _, _ => rfl
  | c :: l, a, b, ha, hb, hl => by
    have hc := hl c (List.mem_cons_self ..)
    rw [List.foldl_cons, List.foldl_cons, mg_assoc ha hb hc]
    exact fold_pull ha (good_mg hb hc) (fun d hd => hl d (List.mem_cons_of_mem _ hd))
theorem fold_perm {l m : List Ag} (h : l.Perm m) : ∀ {a : Ag}, GoodA a → (∀ c ∈ l, GoodA c) → l.foldl mgA a = m.foldl mgA a := by
  induction h with
  | nil => intro a _ _; rfl
  | cons x h ih => intro a ha hl; exact ih (good_mg ha (hl x (List.mem_cons_self ..))) (fun c hc => hl c (List.mem_cons_of_mem _ hc))
  | swap x y l =>
    intro a ha hl
    have hx := hl x (List.mem_cons_of_mem _ (List.mem_cons_self ..))
    have hy := hl y (List.mem_cons_self ..)
    simp only [List.foldl_cons]
    rw [mg_assoc ha hy hx, mg_assoc ha hx hy, mg_comm hy hx]
  | trans h1 h2 ih1 ih2 => intro a ha hl; rw [ih1 ha hl, ih2 ha (fun c hc => hl c (h1.symm.subset hc))]
theorem good_zero : GoodA ag0 := ⟨by unfold OkAg rngU rngI; decide, by decide⟩
theorem fold0 (l : List Ag) : ∀ a, l.foldl mgA a = (a :: l).foldl mgA ag0 := fun a => by rw [List.foldl_cons, mg_zero]
end Go.Proofs.Yteomanpaladdjaa.Pure
