/- AggMonoid, in plain Lean. No conditions. -/
import Derived.Test.YtflmjiadahknkaaAggPure2
import Derived.Test.YtflmjiadahknkaaPrickyardlaw02AggMonoid
namespace Go.Proofs.Ytflmjiadahknkaa.Pure
open Go.RowKit Go.Proofs.Ytflmjiadahknkaa.P Go.Proofs.YtflmjiadahknkaaW.PrintWords Go.Proofs.YtflmjiadahknkaaW.PrintLast
set_option linter.unusedVariables false
set_option linter.unusedSimpArgs false

theorem lesser_comm (a b : Int) : lesser a b = lesser b a := by unfold lesser; split <;> split <;> omega
theorem greater_comm (a b : Int) : greater a b = greater b a := by unfold greater; split <;> split <;> omega
theorem mn_comm {E a F b : Int} (hE : E = 0 → a = 0) (hF : F = 0 → b = 0) : mnE E a F b = mnE F b E a := by
  unfold mnE
  by_cases h : E = 0 <;> by_cases h2 : F = 0 <;> simp [h, h2, lesser_comm a b]
  have := hE h; have := hF h2; omega
theorem mx_comm {E a F b : Int} (hE : E = 0 → a = 0) (hF : F = 0 → b = 0) : mxE E a F b = mxE F b E a := by
  unfold mxE
  by_cases h : E = 0 <;> by_cases h2 : F = 0 <;> simp [h, h2, greater_comm a b]
  have := hE h; have := hF h2; omega
theorem tup_zero (E S a b : Int) (h : OkE E S a b) : tup (addE E 0) (S + 0) (mnE E a 0 0) (mxE E b 0 0) = tup E S a b := by
  obtain ⟨h0, h1, h2, h3⟩ := h
  have e : addE E 0 = E := by unfold addE; split <;> omega
  rw [e, Int.add_zero]
  unfold mnE mxE
  by_cases hE : E = 0
  · obtain ⟨_, q1, q2⟩ := h2 hE
    rw [if_pos hE, if_pos hE, q1, q2]
  · rw [if_neg hE, if_neg hE, if_pos rfl, if_pos rfl]
theorem zero_tup (E S a b : Int) (h : OkE E S a b) : tup (addE 0 E) (0 + S) (mnE 0 0 E a) (mxE 0 0 E b) = tup E S a b := by
  obtain ⟨h0, h1, h2, h3⟩ := h
  have e : addE 0 E = E := by unfold addE; split <;> omega
  rw [e, Int.zero_add]
  unfold mnE mxE
  rw [if_pos rfl, if_pos rfl]
theorem ok0 : OkE 0 0 0 0 := ⟨by decide, by decide, fun _ => ⟨rfl, rfl, rfl⟩, fun h => absurd rfl h⟩
theorem cN0 : cN 0 = 0 := rfl
theorem cO0 : cO 0 = false := by decide
theorem mkHi0 : mkHi 0 = 0 := by decide +kernel
theorem mkLo0 : mkLo 0 = 0 := by decide +kernel

theorem monoid_j0 (E S a b F T c d G U e f : Int) (h0 : OkE E S a b) (h1 : OkE F T c d) (h2 : OkE G U e f) :
    rickyardlaw02_AggMonoid.j0 (68 + 1) false (cN E) (cO E) (mkHi S) (mkLo S) a b (cN F) (cO F) (mkHi T) (mkLo T) c d (cN G) (cO G) (mkHi U) (mkLo U) e f = some true := by
  have m01 := merge_tup E S a b F T c d h0 h1
  have m10 := merge_tup F T c d E S a b h1 h0
  have m12 := merge_tup F T c d G U e f h1 h2
  have k01 := ok_add h0 h1
  have k12 := ok_add h1 h2
  have ml := merge_tup _ _ _ _ G U e f k01 h2
  have mr := merge_tup E S a b _ _ _ _ h0 k12
  have mz := merge_tup E S a b 0 0 0 0 h0 ok0
  have zm := merge_tup 0 0 0 0 E S a b ok0 h0
  rw [cN0, cO0, mkHi0, mkLo0] at mz zm
  rw [tup_zero E S a b h0] at mz
  rw [zero_tup E S a b h0] at zm
  have ea := addE_assoc E F G h0.1 h1.1 h2.1
  have es : S + T + U = S + (T + U) := by omega
  have en : mnE (addE E F) (mnE E a F c) G e = mnE E a (addE F G) (mnE F c G e) := mn_assoc h0.1 h1.1 h2.1
  have ex : mxE (addE E F) (mxE E b F d) G f = mxE E b (addE F G) (mxE F d G f) := mx_assoc h0.1 h1.1 h2.1
  have kl := ok_add k01 h2
  have rl := right_tup kl
  rw [rickyardlaw02_AggMonoid.j0, if_neg (by decide), m01]
  simp only [Option.bind_some]
  have e1 : (tup (addE E F) (S + T) (mnE E a F c) (mxE E b F d)) = (cN (addE E F), cO (addE E F), mkHi (S + T), mkLo (S + T), mnE E a F c, mxE E b F d) := rfl
  have e2 : (tup (addE F G) (T + U) (mnE F c G e) (mxE F d G f)) = (cN (addE F G), cO (addE F G), mkHi (T + U), mkLo (T + U), mnE F c G e, mxE F d G f) := rfl
  rw [e1]
  simp only []
  rw [ml, m12]
  simp only [Option.bind_some]
  rw [e2]
  simp only []
  rw [mr]
  simp only [Option.bind_some]
  rw [ea, es, en, ex, alive02_f 68 (by decide)]
  rw [ea, es, en, ex] at rl
  simp only [Option.bind_some, beq_self_eq_true, Bool.and_self, if_true]
  rw [m10]
  simp only [Option.bind_some]
  rw [addE_comm F E, Int.add_comm T S, mn_comm (E := F) (a := c) (F := E) (b := a) (fun h => (h1.2.2.1 h).2.1) (fun h => (h0.2.2.1 h).2.1), mx_comm (E := F) (a := d) (F := E) (b := b) (fun h => (h1.2.2.1 h).2.2) (fun h => (h0.2.2.1 h).2.2), e1]
  simp only [beq_self_eq_true, Bool.and_self, if_true]
  rw [mz]
  simp only [Option.bind_some, tup, beq_self_eq_true, Bool.and_self, if_true]
  rw [zm]
  simp only [Option.bind_some, tup, beq_self_eq_true, Bool.and_self, if_true]
  rw [rl]
  rfl

theorem AggMonoid_f (n0 : Int) (o0 : Bool) (x0 y0 a0 b0 n1 : Int) (o1 : Bool) (x1 y1 a1 b1 n2 : Int) (o2 : Bool) (x2 y2 a2 b2 : Int)
    (wn0 : 0 ≤ n0 ∧ n0 < 18446744073709551616) (wx0 : -9223372036854775808 ≤ x0 ∧ x0 < 9223372036854775808) (wy0 : 0 ≤ y0 ∧ y0 < 18446744073709551616)
    (wn1 : 0 ≤ n1 ∧ n1 < 18446744073709551616) (wx1 : -9223372036854775808 ≤ x1 ∧ x1 < 9223372036854775808) (wy1 : 0 ≤ y1 ∧ y1 < 18446744073709551616)
    (wn2 : 0 ≤ n2 ∧ n2 < 18446744073709551616) (wx2 : -9223372036854775808 ≤ x2 ∧ x2 < 9223372036854775808) (wy2 : 0 ≤ y2 ∧ y2 < 18446744073709551616) :
    rickyardlaw02_AggMonoid.f (68 + 1) n0 o0 x0 y0 a0 b0 n1 o1 x1 y1 a1 b1 n2 o2 x2 y2 a2 b2 = some true := by
  unfold rickyardlaw02_AggMonoid.f
  have hal : rickyardlaw02_AggMonoid.j0 (68 + 1) true n0 o0 x0 y0 a0 b0 n1 o1 x1 y1 a1 b1 n2 o2 x2 y2 a2 b2 = some true := by
    rw [rickyardlaw02_AggMonoid.j0, if_pos rfl, alive02_f 68 (by decide)]; rfl
  obtain ⟨r0, e0, p0⟩ := right_f n0 o0 x0 y0 a0 b0
  obtain ⟨r1, e1, p1⟩ := right_f n1 o1 x1 y1 a1 b1
  obtain ⟨r2, e2, p2⟩ := right_f n2 o2 x2 y2 a2 b2
  rw [e0, e1, e2]
  simp only [Option.bind_some]
  cases r0 with
  | false => rw [if_neg (by decide)]; exact hal
  | true =>
    rw [if_pos rfl]
    cases r1 with
    | false => rw [if_neg (by decide)]; exact hal
    | true =>
      rw [if_pos rfl]
      cases r2 with
      | false => exact hal
      | true =>
        obtain ⟨E, S, k0, rfl, rfl, rfl, rfl⟩ := of_right (p0.1 rfl) wn0 wx0 wy0
        obtain ⟨F, T, k1, rfl, rfl, rfl, rfl⟩ := of_right (p1.1 rfl) wn1 wx1 wy1
        obtain ⟨G, U, k2, rfl, rfl, rfl, rfl⟩ := of_right (p2.1 rfl) wn2 wx2 wy2
        exact monoid_j0 E S a0 b0 F T a1 b1 G U a2 b2 k0 k1 k2

theorem i64_wf {y : Int} (h : (Lit.int .i64 y).wf = true) : -9223372036854775808 ≤ y ∧ y < 9223372036854775808 := by
  simp [Lit.wf, IntKind.min, IntKind.max, IntKind.signed, IntKind.bits] at h
  omega
theorem AggMonoid_walk (n0 : Int) (o0 : Bool) (x0 y0 a0 b0 : Int) (n1 : Int) (o1 : Bool) (x1 y1 a1 b1 : Int) (n2 : Int) (o2 : Bool) (x2 y2 a2 b2 : Int) (w : World) (wn0 : (Lit.int .u64 n0).wf = true) (wx0 : (Lit.int .i64 x0).wf = true) (wy0 : (Lit.int .u64 y0).wf = true) (wa0 : (Lit.int .i64 a0).wf = true) (wb0 : (Lit.int .i64 b0).wf = true) (wn1 : (Lit.int .u64 n1).wf = true) (wx1 : (Lit.int .i64 x1).wf = true) (wy1 : (Lit.int .u64 y1).wf = true) (wa1 : (Lit.int .i64 a1).wf = true) (wb1 : (Lit.int .i64 b1).wf = true) (wn2 : (Lit.int .u64 n2).wf = true) (wx2 : (Lit.int .i64 x2).wf = true) (wy2 : (Lit.int .u64 y2).wf = true) (wa2 : (Lit.int .i64 a2).wf = true) (wb2 : (Lit.int .i64 b2).wf = true) :
    Calls Try.prog 3 #[.agg #[.int .u64 n0, .bool o0, .int .i64 x0, .int .u64 y0, .int .i64 a0, .int .i64 b0], .agg #[.int .u64 n1, .bool o1, .int .i64 x1, .int .u64 y1, .int .i64 a1, .int .i64 b1], .agg #[.int .u64 n2, .bool o2, .int .i64 x2, .int .u64 y2, .int .i64 a2, .int .i64 b2]] w fun e w' => e = .returned (.bool true) ∧ Below w.heap.size w w' :=
  rickyardlaw02_AggMonoid.calls _ n0 o0 x0 y0 a0 b0 n1 o1 x1 y1 a1 b1 n2 o2 x2 y2 a2 b2 true w (AggMonoid_f n0 o0 x0 y0 a0 b0 n1 o1 x1 y1 a1 b1 n2 o2 x2 y2 a2 b2 (wf_u64 wn0) (i64_wf wx0) (wf_u64 wy0) (wf_u64 wn1) (i64_wf wx1) (wf_u64 wy1) (wf_u64 wn2) (i64_wf wx2) (wf_u64 wy2)) rfl

end Go.Proofs.Ytflmjiadahknkaa.Pure
