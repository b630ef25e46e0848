/- AggSticky, in plain Lean, and its walk. No conditions. -/
import Derived.Test.YtflmjiadahknkaaAggPure1
import Derived.Test.YtflmjiadahknkaaPrickyardlaw02AggSticky
namespace Go.Proofs.Ytflmjiadahknkaa.Pure
open Go.RowKit Go.Proofs.Ytflmjiadahknkaa.P Go.Proofs.YtflmjiadahknkaaW.PrintWords Go.Proofs.YtflmjiadahknkaaW.PrintLast
set_option linter.unusedVariables false
set_option linter.unusedSimpArgs false

theorem AggSticky_f (n0 : Int) (o0 : Bool) (x0 y0 a0 b0 n1 : Int) (o1 : Bool) (x1 y1 a1 b1 : Int) (wn0 : 0 ≤ n0 ∧ n0 < 18446744073709551616) (wy0 : 0 ≤ y0 ∧ y0 < 18446744073709551616) (wn1 : 0 ≤ n1 ∧ n1 < 18446744073709551616) (wy1 : 0 ≤ y1 ∧ y1 < 18446744073709551616) :
    rickyardlaw02_AggSticky.f (68 + 1 + 1) n0 o0 x0 y0 a0 b0 n1 o1 x1 y1 a1 b1 = some true := by
  unfold rickyardlaw02_AggSticky.f
  have hal : ∀ t0 t1 t2 t3 t4 t5 u0 u1 u2 u3 u4 u5, rickyardlaw02_AggSticky.j0 (68 + 1 + 1) true t0 t1 t2 t3 t4 t5 u0 u1 u2 u3 u4 u5 = some true := fun t0 t1 t2 t3 t4 t5 u0 u1 u2 u3 u4 u5 => by
    rw [rickyardlaw02_AggSticky.j0, if_pos rfl, alive02_f _ (by decide)]; rfl
  obtain ⟨r0, e0, p0⟩ := right_f n0 o0 x0 y0 a0 b0
  obtain ⟨r1, e1, p1⟩ := right_f n1 o1 x1 y1 a1 b1
  rw [e0, e1]
  simp only [Option.bind_some]
  cases r0 with
  | false => rw [if_neg (by decide)]; exact hal _ _ _ _ _ _ _ _ _ _ _ _
  | true =>
    rw [if_pos rfl]
    cases r1 with
    | false => exact hal _ _ _ _ _ _ _ _ _ _ _ _
    | true =>
      have q0 := p0.1 rfl
      have q1 := p1.1 rfl
      unfold RightP at q0 q1
      clear p0 p1 e0 e1 hal
      rw [show (!true) = false from rfl, rickyardlaw02_AggSticky.j0, if_neg (by decide), merge_f wy0 wy1]
      simp only [Option.bind_some]
      have hal := alive02_f 68 (by decide)
      cases o0 with
      | true =>
        have h0 : n0 = 18446744073709551615 := by rcases q0 with h | h; cases h.2.1; exact h.2.2 rfl
        have hm : ∃ x y a b, mergeT n0 true x0 y0 a0 b0 n1 o1 x1 y1 a1 b1 = (18446744073709551615, true, x, y, a, b) := by
          unfold mergeT
          rw [if_neg (show ¬ n0 = 0 by omega)]
          by_cases h1 : n1 = 0
          · rw [if_pos h1, h0]; exact ⟨_, _, _, _, rfl⟩
          · rw [if_neg h1, mergeS, if_pos (.inr rfl)]; exact ⟨_, _, _, _, rfl⟩
        obtain ⟨x, y, a, b, hm⟩ := hm
        rw [hm, if_pos rfl, rickyardlaw02_AggSticky.j1, if_pos rfl, hal]
        rfl
      | false =>
        rw [if_neg (by decide)]
        cases o1 with
        | true =>
          have h1 : n1 = 18446744073709551615 := by rcases q1 with h | h; cases h.2.1; exact h.2.2 rfl
          have hm : ∃ x y a b, mergeT n0 false x0 y0 a0 b0 n1 true x1 y1 a1 b1 = (18446744073709551615, true, x, y, a, b) := by
            unfold mergeT
            by_cases h0 : n0 = 0
            · rw [if_pos h0, h1]; exact ⟨_, _, _, _, rfl⟩
            · rw [if_neg h0, if_neg (show ¬ n1 = 0 by omega), mergeS, if_pos (.inr rfl)]; exact ⟨_, _, _, _, rfl⟩
          obtain ⟨x, y, a, b, hm⟩ := hm
          rw [hm, rickyardlaw02_AggSticky.j1, if_pos rfl, hal]
          rfl
        | false =>
          have hm : ∃ n o x y a b, mergeT n0 false x0 y0 a0 b0 n1 false x1 y1 a1 b1 = (n, o, x, y, a, b) ∧ (o = true → n = 18446744073709551615 ∧ n0 > IntKind.u64.wrap (18446744073709551615 - n1)) ∧ (o = false → IntKind.u64.wrap (n - n0) = n1 ∧ n ≥ n0) := by
            unfold mergeT
            by_cases h0 : n0 = 0
            · rw [if_pos h0]
              exact ⟨_, _, _, _, _, _, rfl, fun h => (by cases h), fun _ => by rw [IntKind.wrap_u64]; omega⟩
            · rw [if_neg h0]
              by_cases h1 : n1 = 0
              · rw [if_pos h1]
                exact ⟨_, _, _, _, _, _, rfl, fun h => (by cases h), fun _ => by rw [IntKind.wrap_u64]; omega⟩
              · rw [if_neg h1, mergeS]
                by_cases hc : IntKind.u64.wrap (n0 + n1) < n0
                · rw [if_pos (.inl hc)]
                  rw [IntKind.wrap_u64] at hc
                  exact ⟨_, _, _, _, _, _, rfl, fun _ => ⟨rfl, by rw [IntKind.wrap_u64]; omega⟩, fun h => (by cases h)⟩
                · rw [if_neg (show ¬ (IntKind.u64.wrap (n0 + n1) < n0 ∨ (false || false) = true) by rintro (h | h); exact hc h; cases h)]
                  rw [IntKind.wrap_u64] at hc ⊢
                  exact ⟨_, _, _, _, _, _, rfl, fun h => (by cases h), fun _ => by rw [IntKind.wrap_u64]; omega⟩
          obtain ⟨n, o, x, y, a, b, hm, c1, c2⟩ := hm
          rw [hm, rickyardlaw02_AggSticky.j1, if_neg (by decide), hal]
          simp only [Option.bind_some, if_true]
          cases o with
          | true => rw [if_pos rfl, if_pos (c1 rfl).2, (c1 rfl).1]; rfl
          | false => rw [if_neg (by decide), if_pos (c2 rfl).1, decide_eq_true (c2 rfl).2]

theorem AggSticky_walk (n0 : Int) (o0 : Bool) (x0 y0 a0 b0 n1 : Int) (o1 : Bool) (x1 y1 a1 b1 : Int) (w : World) (wn0 : (Lit.int .u64 n0).wf = true) (wx0 : (Lit.int .i64 x0).wf = true) (wy0 : (Lit.int .u64 y0).wf = true) (wa0 : (Lit.int .i64 a0).wf = true) (wb0 : (Lit.int .i64 b0).wf = true)
    (wn1 : (Lit.int .u64 n1).wf = true) (wx1 : (Lit.int .i64 x1).wf = true) (wy1 : (Lit.int .u64 y1).wf = true) (wa1 : (Lit.int .i64 a1).wf = true) (wb1 : (Lit.int .i64 b1).wf = true) :
    Calls Try.prog 4 #[.agg #[.int .u64 n0, .bool o0, .int .i64 x0, .int .u64 y0, .int .i64 a0, .int .i64 b0], .agg #[.int .u64 n1, .bool o1, .int .i64 x1, .int .u64 y1, .int .i64 a1, .int .i64 b1]] w fun e w' => e = .returned (.bool true) ∧ Below w.heap.size w w' :=
  rickyardlaw02_AggSticky.calls _ n0 o0 x0 y0 a0 b0 n1 o1 x1 y1 a1 b1 true w (AggSticky_f n0 o0 x0 y0 a0 b0 n1 o1 x1 y1 a1 b1 (wf_u64 wn0) (wf_u64 wy0) (wf_u64 wn1) (wf_u64 wy1)) rfl

end Go.Proofs.Ytflmjiadahknkaa.Pure
