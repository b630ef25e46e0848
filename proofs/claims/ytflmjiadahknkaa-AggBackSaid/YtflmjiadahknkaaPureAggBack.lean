/- rickyardlaw02.AggBack: what is known comes back from its bytes. No conditions. -/
import Derived.Test.YtflmjiadahknkaaAggRead
import Derived.Test.YtflmjiadahknkaaPrickyardlaw02AggBack
namespace Go.Proofs.Ytflmjiadahknkaa.Pure
open Go.RowKit Go.Proofs.Ytflmjiadahknkaa.P Go.Proofs.YtflmjiadahknkaaW.PrintWords Go.Proofs.YtflmjiadahknkaaW.PrintLast
set_option linter.unusedVariables false
set_option linter.unusedSimpArgs false

theorem write_some (n : Int) (o : Bool) (x y a b : Int) (hn : 0 ≤ n ∧ n < 18446744073709551616) (hy : 0 ≤ y ∧ y < 18446744073709551616) (k : Nat) :
    ∃ m e, agg_Write.f (k + 10) n o x y a b = some (m, e) ∧ (e = 0 ↔ RightP n o x y a b) ∧ (RightP n o x y a b → m = aggL n o x y a b) := by
  obtain ⟨h1, h2⟩ := aggWrite_f k n x y a b o hn hy
  by_cases h : RightP n o x y a b
  · exact ⟨_, _, h1 h, by simp [h], fun _ => rfl⟩
  · exact ⟨_, _, h2 h, by simp [h], fun k => absurd k h⟩
theorem AggBack_j (n : Int) (o : Bool) (x y a b e : Int) (l : List Int) (hl : IsBy l) (he : e = 0 ↔ RightP n o x y a b) : rickyardlaw02_AggBack.j0 100 l e n o x y a b = some true := by
  obtain ⟨n', o', x', y', a', b', e', hr, hn', hy', h0⟩ := read_any hl 90
  obtain ⟨m, e2, hw, h1, h2⟩ := write_some n' o' x' y' a' b' hn' hy' 89
  obtain ⟨r, hg, hp⟩ := right_f n o x y a b
  have hr' : agg_Read.f 99 l = some (n', o', x', y', a', b', e') := hr
  have hw' : agg_Write.f 99 n' o' x' y' a' b' = some (m, e2) := hw
  have hq : ((e == 0) == r) = true := by
    cases r with
    | true => rw [beq_iff_eq, beq_iff_eq]; exact he.2 (hp.1 rfl)
    | false =>
      rw [beq_iff_eq, beq_eq_false_iff_ne]
      exact fun h => absurd (hp.2 (he.1 h)) (by decide)
  rw [show (100 : Nat) = 99 + 1 from rfl, rickyardlaw02_AggBack.j0, hr']
  simp only [Option.bind_some]
  rw [hw']
  simp only [Option.bind_some]
  rw [alive02_f 99 (by decide)]
  simp only [Option.bind_some, if_true]
  rw [hg]
  simp only [Option.bind_some]
  rw [if_pos hq]
  by_cases h3 : e' = 0
  · obtain ⟨p1, p2⟩ := h0 h3
    rw [if_pos h3, if_pos (h1.2 p1), h2 p1, p2]
    simp
  · rw [if_neg h3]
theorem AggBack_f (n : Int) (o : Bool) (x y a b : Int) (l : List Int) (hl : IsBy l) (hn : 0 ≤ n ∧ n < 18446744073709551616) (hx : -9223372036854775808 ≤ x ∧ x < 9223372036854775808) (hy : 0 ≤ y ∧ y < 18446744073709551616) (ha : -9223372036854775808 ≤ a ∧ a < 9223372036854775808) (hb : -9223372036854775808 ≤ b ∧ b < 9223372036854775808) :
    rickyardlaw02_AggBack.f 100 n o x y a b l = some true := by
  obtain ⟨m, e, hw, h1, h2⟩ := write_some n o x y a b hn hy 90
  have hw' : agg_Write.f 100 n o x y a b = some (m, e) := hw
  unfold rickyardlaw02_AggBack.f
  by_cases hlen : (l.length : Int) > 200
  · rw [if_pos hlen, alive02_f 100 (by decide)]; rfl
  · rw [if_neg hlen, hw']
    simp only [Option.bind_some]
    by_cases h3 : e = 0
    · have hP := h1.1 h3
      have hr : agg_Read.f 100 (aggL n o x y a b) = some (n, o, x, y, a, b, 0) := read_aggL hn hx hy ha hb hP 91
      rw [if_pos h3, h2 hP, hr]
      simp only [Option.bind_some, if_true, beq_self_eq_true, Bool.not_true, Bool.or_false, Bool.or_self, Bool.false_eq_true, if_false]
      rw [if_pos (by rw [aggL_len]; rfl)]
      exact AggBack_j n o x y a b e l hl h1
    · rw [if_neg h3]
      exact AggBack_j n o x y a b e l hl h1
theorem of_wf_i64 {y : Int} (h : (Lit.int .i64 y).wf = true) : -9223372036854775808 ≤ y ∧ y < 9223372036854775808 := by
  simp [Lit.wf, IntKind.min, IntKind.max, IntKind.signed, IntKind.bits] at h
  omega
theorem AggBack_walk (n0 : Int) (o0 : Bool) (x0 y0 a0 b0 : Int) (A : Option Addr) (c : Nat) (l : List Int) (w : World) (wn0 : (Lit.int .u64 n0).wf = true) (wx0 : (Lit.int .i64 x0).wf = true) (wy0 : (Lit.int .u64 y0).wf = true) (wa0 : (Lit.int .i64 a0).wf = true) (wb0 : (Lit.int .i64 b0).wf = true)
    (hr : Kd.C (Kd.int .u8) w A l.length l) (hc : l.length ≤ c) (hb : ∀ x ∈ l, 0 ≤ x ∧ x < 256) :
    Calls Try.prog 8 #[.agg #[.int .u64 n0, .bool o0, .int .i64 x0, .int .u64 y0, .int .i64 a0, .int .i64 b0], .slice A l.length c] w fun e w' => e = .returned (.bool true) ∧ Below w.heap.size w w' :=
  rickyardlaw02_AggBack.calls 100 n0 o0 x0 y0 a0 b0 A c l true w hr hc (AggBack_f n0 o0 x0 y0 a0 b0 l hb (wf_u64 wn0) (of_wf_i64 wx0) (wf_u64 wy0) (of_wf_i64 wa0) (of_wf_i64 wb0)) rfl

end Go.Proofs.Ytflmjiadahknkaa.Pure
