/- A parameter that is an api.Agg: opened and shut. -/
import Derived.Test.YtflmjiadahknkaaPx0
import Derived.Lib.SmallJoins
import Derived.WalkKit
import Derived.ProofKit
import Derived.OpenShut
import Derived.ChangeOld
namespace Go.Proofs.Ytflmjiadahknkaa.P
open Go.ChangeShapes Go.WideShapes Go.ChangeAt Go.RowKit Go.Joins
set_option linter.unusedVariables false
variable {H : Type} {enc : TypeId × Value → H} {w : World} {base : Nat} {spare : Nat → Bool} {held : Bool}

theorem array6 {α : Type} {cs : Array α} (h : cs.size = 6) : ∃ c0 c1 c2 c3 c4 c5, cs = #[c0, c1, c2, c3, c4, c5] := by
  obtain ⟨l⟩ := cs
  match l, h with
  | [c0, c1, c2, c3, c4, c5], _ => exact ⟨c0, c1, c2, c3, c4, c5, rfl⟩

theorem open_agg {r : Reach} {b0 : Nat} {v : Value} {d : DataW H} {ps : List MemPlace} (hval : Value.okWide Try.prog w r b0 26 v) (hd : DataW.Trod enc Try.prog w base spare held 26 v d ps) :
    ∃ (n : Int) (o : Bool) (x y a b : Int), v = .agg #[.int .u64 n, .bool o, .int .i64 x, .int .u64 y, .int .i64 a, .int .i64 b] ∧
      d = .agg [.lit (.int .u64 n), .lit (.bool o), .agg [.lit (.int .i64 x), .lit (.int .u64 y)], .lit (.int .i64 a), .lit (.int .i64 b)] ∧ ps = [] ∧
      (Lit.int .u64 n).wf = true ∧ (Lit.int .i64 x).wf = true ∧ (Lit.int .u64 y).wf = true ∧ (Lit.int .i64 a).wf = true ∧ (Lit.int .i64 b).wf = true := by
  have hs := Try.underlying26
  obtain ⟨cs, rfl, hsz⟩ := okWide_struct hs hval
  have hC : Try.prog.cellsOf 26 = 6 := by kernel_rfl
  obtain ⟨c0, c1, c2, c3, c4, c5, rfl⟩ := array6 (hsz.trans hC)
  obtain ⟨fuel, hf⟩ := hd
  obtain ⟨xs, n, _, hx, hl, hlen, hf⟩ := DataW.trod_struct hs hf
  match xs, hlen with
  | [y0, y1, y2, y3, y4], _ =>
    have h0 := hf 0 _ rfl
    have h1 := hf 1 _ rfl
    have h2 := hf 2 _ rfl
    have h3 := hf 3 _ rfl
    have h4 := hf 4 _ rfl
    have k0 : Try.prog.cellsOf 22 = 1 := by kernel_rfl
    have k1 : Try.prog.cellsOf 4 = 1 := by kernel_rfl
    have k2 : Try.prog.cellsOf 24 = 2 := by kernel_rfl
    have k3 : Try.prog.cellsOf 2 = 1 := by kernel_rfl
    have e : (Value.agg #[c0, c1, c2, c3, c4, c5]).cells.toList = [c0, c1, c2, c3, c4, c5] := rfl
    rw [e] at h0 h1 h2 h3 h4
    replace h0 : DataW.trod enc Try.prog w base spare held n 22 (List.take (Try.prog.cellsOf 22) [c0, c1, c2, c3, c4, c5]) = some y0 := h0
    replace h1 : DataW.trod enc Try.prog w base spare held n 4 (List.take (Try.prog.cellsOf 4) [c1, c2, c3, c4, c5]) = some y1 := h1
    replace h2 : DataW.trod enc Try.prog w base spare held n 24 (List.take (Try.prog.cellsOf 24) [c2, c3, c4, c5]) = some y2 := h2
    replace h3 : DataW.trod enc Try.prog w base spare held n 2 (List.take (Try.prog.cellsOf 2) [c4, c5]) = some y3 := h3
    replace h4 : DataW.trod enc Try.prog w base spare held n 2 (List.take (Try.prog.cellsOf 2) [c5]) = some y4 := h4
    rw [k0] at h0; rw [k1] at h1; rw [k2] at h2; rw [k3] at h3 h4
    obtain ⟨q0, f0, z0, w0⟩ := DataW.trod_int Try.underlying22 h0
    obtain ⟨q1, f1, z1⟩ := DataW.trod_bool Try.underlying4 h1
    obtain ⟨q3, f3, z3, w3⟩ := DataW.trod_int Try.underlying2 h3
    obtain ⟨q4, f4, z4, w4⟩ := DataW.trod_int Try.underlying2 h4
    obtain ⟨u0, u1, m, hu, _, g0, g1⟩ := trod_struct2 Try.underlying24 h2
    have kw : Try.prog.cellsOf 22 = 1 := k0
    replace g0 : DataW.trod enc Try.prog w base spare held m 2 (List.take (Try.prog.cellsOf 2) [c2, c3]) = some u0 := g0
    replace g1 : DataW.trod enc Try.prog w base spare held m 22 (List.take (Try.prog.cellsOf 22) [c3]) = some u1 := g1
    rw [k3] at g0; rw [k0] at g1
    obtain ⟨p0, e0, x0, v0⟩ := DataW.trod_int Try.underlying2 g0
    obtain ⟨p1, e1, x1, v1⟩ := DataW.trod_int Try.underlying22 g1
    simp only [List.take_succ_cons, List.take_zero, List.cons.injEq, and_true] at f0 f1 f3 f4 e0 e1
    subst f0 f1 f3 f4 e0 e1 z0 z1 z3 z4 x0 x1
    subst hu
    simp only [Prod.mk.injEq] at hx
    exact ⟨q0, q1, p0, p1, q3, q4, rfl, by rw [hx.1]; rfl, by rw [hx.2]; rfl, w0, v0, v1, w3, w4⟩

theorem shut_agg {n : Int} {o : Bool} {x y a b : Int} (wn : (Lit.int .u64 n).wf = true) (w0 : (Lit.int .i64 x).wf = true) (y0 : (Lit.int .u64 y).wf = true) (wa : (Lit.int .i64 a).wf = true) (wb : (Lit.int .i64 b).wf = true) :
    DataW.Trod enc Try.prog w base spare held 26 (.agg #[.int .u64 n, .bool o, .int .i64 x, .int .u64 y, .int .i64 a, .int .i64 b])
      (.agg [.lit (.int .u64 n), .lit (.bool o), .agg [.lit (.int .i64 x), .lit (.int .u64 y)], .lit (.int .i64 a), .lit (.int .i64 b)]) [] := by
  have hs := Try.underlying26
  have hC : Try.prog.cellsOf 26 = 6 := by kernel_rfl
  have k0 : Try.prog.cellsOf 22 = 1 := by kernel_rfl
  have k1 : Try.prog.cellsOf 4 = 1 := by kernel_rfl
  have k2 : Try.prog.cellsOf 24 = 2 := by kernel_rfl
  have k3 : Try.prog.cellsOf 2 = 1 := by kernel_rfl
  have tb : DataW.trod enc Try.prog w base spare held 2 4 [.bool o] = some (.lit (.bool o), []) := by
    simp [DataW.trod, Try.underlying4]
  have tw : DataW.trod enc Try.prog w base spare held 2 24 [.int .i64 x, .int .u64 y] = some (.agg [.lit (.int .i64 x), .lit (.int .u64 y)], []) := by
    have := trod_struct2_mk (enc := enc) (w := w) (base := base) (spare := spare) (held := held) (n := 1) (cs := [.int .i64 x, .int .u64 y]) (y0 := (.lit (.int .i64 x), [])) (y1 := (.lit (.int .u64 y), [])) Try.underlying24 (by rw [k2]; rfl)
      (by show DataW.trod enc Try.prog w base spare held 1 2 (List.take (Try.prog.cellsOf 2) [.int .i64 x, .int .u64 y]) = _; rw [k3]; exact trod_int_mk 0 Try.underlying2 w0)
      (by show DataW.trod enc Try.prog w base spare held 1 22 (List.take (Try.prog.cellsOf 22) [.int .u64 y]) = _; rw [k0]; exact trod_int_mk 0 Try.underlying22 y0)
    exact this
  refine ⟨3, ?_⟩
  have := trod_struct_mk (enc := enc) (w := w) (base := base) (spare := spare) (held := held) (n := 2) (cs := [.int .u64 n, .bool o, .int .i64 x, .int .u64 y, .int .i64 a, .int .i64 b])
    (xs := [(.lit (.int .u64 n), []), (.lit (.bool o), []), (.agg [.lit (.int .i64 x), .lit (.int .u64 y)], []), (.lit (.int .i64 a), []), (.lit (.int .i64 b), [])]) hs (by rw [hC]; rfl) ?_
  · exact this
  · have t0 := trod_int_mk (enc := enc) (P := Try.prog) (w := w) (base := base) (spare := spare) (held := held) 1 Try.underlying22 wn
    have t3 := trod_int_mk (enc := enc) (P := Try.prog) (w := w) (base := base) (spare := spare) (held := held) 1 Try.underlying2 wa
    have t4 := trod_int_mk (enc := enc) (P := Try.prog) (w := w) (base := base) (spare := spare) (held := held) 1 Try.underlying2 wb
    simp [k0, k1, k2, k3, tb, tw, t0, t3, t4]

end Go.Proofs.Ytflmjiadahknkaa.P
