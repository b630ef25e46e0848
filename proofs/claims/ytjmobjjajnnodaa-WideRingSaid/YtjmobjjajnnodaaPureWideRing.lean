/- rickyardlaw01.WideRing. No conditions. -/
import Derived.Test.YtjmobjjajnnodaaWidePure1
import Derived.Test.YtjmobjjajnnodaaPrickyardlaw01WideRing
namespace Go.Proofs.Ytjmobjjajnnodaa.Pure
open Go.RowKit Go.Proofs.Ytjmobjjajnnodaa.P Go.Proofs.YtjmobjjajnnodaaW.PrintWords Go.Proofs.YtjmobjjajnnodaaW.PrintLast
set_option linter.unusedVariables false

theorem wring_f (A B C : Int) : rickyardlaw01_WideRing.f 61 (mkHi A) (mkLo A) (mkHi B) (mkLo B) (mkHi C) (mkLo C) = some true := by
  unfold rickyardlaw01_WideRing.f
  rw [add_mk_mk A B]
  simp only [Option.bind_some]
  rw [add_mk_mk (A + B) C, add_mk_mk C B]
  simp only [Option.bind_some]
  rw [add_mk_mk A (C + B)]
  simp only [Option.bind_some]
  rw [alive01_f 61 (by decide), show A + (C + B) = A + B + C from by omega]
  simp only [Option.bind_some, beq_self_eq_true, Bool.and_self, if_true]
  rw [add_mk_mk B A, show B + A = A + B from by omega]
  simp only [Option.bind_some, beq_self_eq_true, Bool.and_self, if_true]
  rw [neg_mk_mk B]
  simp only [Option.bind_some]
  rw [add_mk_mk (A + B) (-B), show A + B + -B = A from by omega]
  simp only [Option.bind_some, beq_self_eq_true, Bool.and_self, if_true]
  rw [neg_mk_mk A]
  simp only [Option.bind_some]
  rw [neg_mk_mk (-A), show - -A = A from by omega]
  simp only [Option.bind_some, beq_self_eq_true, Bool.and_self, if_true]
  rw [of_f 0 (by decide) (by decide)]
  simp only [Option.bind_some]
  rw [add_mk_mk A 0, Int.add_zero]
  simp only [Option.bind_some, beq_self_eq_true, Bool.and_self]

theorem WideRing_walk (a0 a1 b0 b1 c0 c1 : Int) (w : World) (p0 : (Lit.int .i64 a0).wf = true) (p1 : (Lit.int .u64 a1).wf = true) (q0 : (Lit.int .i64 b0).wf = true) (q1 : (Lit.int .u64 b1).wf = true) (r0 : (Lit.int .i64 c0).wf = true) (r1 : (Lit.int .u64 c1).wf = true) :
    Calls Try.prog 6 #[.agg #[.int .i64 a0, .int .u64 a1], .agg #[.int .i64 b0, .int .u64 b1], .agg #[.int .i64 c0, .int .u64 c1]] w fun e w' => e = .returned (.bool true) ∧ Below w.heap.size w w' := by
  obtain ⟨x1, x2⟩ := mk_vl a0 a1 (of_wf_u64 p1).1 (of_wf_u64 p1).2 (of_wf_i64 p0).1 (of_wf_i64 p0).2
  obtain ⟨y1, y2⟩ := mk_vl b0 b1 (of_wf_u64 q1).1 (of_wf_u64 q1).2 (of_wf_i64 q0).1 (of_wf_i64 q0).2
  obtain ⟨z1, z2⟩ := mk_vl c0 c1 (of_wf_u64 r1).1 (of_wf_u64 r1).2 (of_wf_i64 r0).1 (of_wf_i64 r0).2
  have h := wring_f (vl a0 a1) (vl b0 b1) (vl c0 c1)
  rw [x1, x2, y1, y2, z1, z2] at h
  exact rickyardlaw01_WideRing.calls 61 a0 a1 b0 b1 c0 c1 true w h rfl

end Go.Proofs.Ytjmobjjajnnodaa.Pure
