/- A parameter that is an api.Wide: opened and shut. -/
import Derived.Test.YtjmobjjajnnodaaPx0
import Derived.Lib.SmallJoins
import Derived.WalkKit
import Derived.ProofKit
import Derived.OpenShut
import Derived.ChangeOld
namespace Go.Proofs.Ytjmobjjajnnodaa.P
open Go.ChangeShapes Go.WideShapes Go.ChangeAt Go.RowKit Go.Joins
set_option linter.unusedVariables false
variable {H : Type} {enc : TypeId × Value → H} {w : World} {base : Nat} {spare : Nat → Bool} {held : Bool}

theorem open_wide {r : Reach} {b0 : Nat} {v : Value} {d : DataW H} {ps : List MemPlace} (hval : Value.okWide Try.prog w r b0 24 v) (hd : DataW.Trod enc Try.prog w base spare held 24 v d ps) :
    ∃ x y : Int, v = .agg #[.int .i64 x, .int .u64 y] ∧ d = .agg [.lit (.int .i64 x), .lit (.int .u64 y)] ∧ ps = [] ∧ (Lit.int .i64 x).wf = true ∧ (Lit.int .u64 y).wf = true := by
  obtain ⟨v0, v1, y0, y1, n, rfl, rfl, rfl, h0, h1⟩ := open_agg2 Try.underlying24 (by kernel_rfl) (by kernel_rfl) hval hd
  obtain ⟨x, e0, z0, w0⟩ := DataW.trod_int Try.underlying2 h0
  obtain ⟨y, e1, z1, w1⟩ := DataW.trod_int Try.underlying22 h1
  simp only [List.cons.injEq, and_true] at e0 e1
  subst e0 e1 z0 z1
  exact ⟨x, y, rfl, rfl, rfl, w0, w1⟩
theorem shut_wide {x y : Int} (w0 : (Lit.int .i64 x).wf = true) (w1 : (Lit.int .u64 y).wf = true) :
    DataW.Trod enc Try.prog w base spare held 24 (.agg #[.int .i64 x, .int .u64 y]) (.agg [.lit (.int .i64 x), .lit (.int .u64 y)]) [] :=
  shut_agg2 (y0 := (.lit (.int .i64 x), [])) (y1 := (.lit (.int .u64 y), [])) Try.underlying24 (by kernel_rfl) (by kernel_rfl) ⟨1, trod_int_mk 0 Try.underlying2 w0⟩ ⟨1, trod_int_mk 0 Try.underlying22 w1⟩
end Go.Proofs.Ytjmobjjajnnodaa.P
