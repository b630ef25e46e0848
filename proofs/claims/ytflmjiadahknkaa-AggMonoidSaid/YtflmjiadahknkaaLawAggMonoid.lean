-- Written by a program of this session out of the translation.
import Derived.Test.YtflmjiadahknkaaRows
import Derived.Test.YtflmjiadahknkaaRowAgg
import Derived.Test.YtflmjiadahknkaaPureAggMonoid
import Derived.WalkKit
import Derived.ProofKit
import Derived.OpenShut
import Derived.ShutString
import Derived.ChangeOld
import Derived.Below
import Derived.SizedLaws
import Derived.Carry
namespace Go.Proofs.Ytflmjiadahknkaa.aggMonoid
open Go.ChangeShapes Go.WideShapes Go.ChangeAt Go.RowKit
open Go.ChangeMaps (open_string shut_string)
set_option linter.unusedVariables false
theorem own : ownKnob Try.prog.godebug = none := by kernel_rfl
theorem laidOut : laidOutB Try.prog = true := by kernel_rfl
set_option maxRecDepth 100000 in
theorem lifted (os : Os) (started : os.Started) (H : Type) (enc : TypeId × Value → H) :
    ReturnsInHanded {} Try.checked os 3 .any (Rows.aggMonoidSpec.pre6 enc Try.prog Try.f3 Rows.aggMonoidRow.domain false) (Rows.aggMonoidSpec.post enc Try.prog Try.f3 false true false false) := by
  refine returnsInHanded_of_change_sized (C := Try.checked) own started (by kernel_rfl) Try.func3
    (ChangeSpec.witness6 (enc := enc) (C := Try.checked) false ⟨#[], #[.agg #[.int .u64 0, .bool false, .int .i64 0, .int .u64 0, .int .i64 0, .int .i64 0], .agg #[.int .u64 0, .bool false, .int .i64 0, .int .u64 0, .int .i64 0, .int .i64 0], .agg #[.int .u64 0, .bool false, .int .i64 0, .int .u64 0, .int .i64 0, .int .i64 0]], []⟩ 8 (by kernel_rfl) (by kernel_rfl) (by kernel_rfl) (by kernel_rfl)) ?_
  intro W base args ds gs before hval0 hW hcnd hsz0 _
  have hsz : (DataW.weightsEach Try.prog (Try.f3.params.toList ++ Rows.aggMonoidSpec.plain.varTypes Try.prog) (ds ++ gs)).all (· ≤ reachBytes) = true := hsz0
  have hval : ∀ (j : Nat) t v, Try.f3.params[j]? = some t → args[j]? = some v → Value.okWide Try.prog W .any base t v := hval0
  have hW' := hW
  obtain ⟨p, q, hA0, hV, rfl, hfz, hnd⟩ := hW
  have hA : DataW.TrodAll enc Try.prog W 0 (fun _ => true) true Try.f3.params.toList args.toList ds p := hA0
  rw [Try.params3] at hA hval hsz
  obtain ⟨v0, vs0, d0, ds0, p0, q0, hargs, rfl, rfl, h0, r0⟩ := trodAll_cons hA
  obtain ⟨v1, vs1, d1, ds1, p1, q1, rfl, rfl, rfl, h1, r1⟩ := trodAll_cons r0
  obtain ⟨v2, vs2, d2, ds2, p2, q2, rfl, rfl, rfl, h2, r2⟩ := trodAll_cons r1
  obtain ⟨rfl, rfl, rfl⟩ := trodAll_nil r2
  obtain rfl : args = #[v0, v1, v2] := by cases args; simp_all
  obtain ⟨rfl, rfl⟩ := trodVars_none hV
  obtain ⟨n0, o0, a0, b0, mn0, mx0, rfl, rfl, rfl, wn0, w0, y0, wm0, wx0⟩ := P.open_agg (hval 0 26 v0 rfl rfl) h0
  obtain ⟨n1, o1, a1, b1, mn1, mx1, rfl, rfl, rfl, wn1, w1, y1, wm1, wx1⟩ := P.open_agg (hval 1 26 v1 rfl rfl) h1
  obtain ⟨n2, o2, a2, b2, mn2, mx2, rfl, rfl, rfl, wn2, w2, y2, wm2, wx2⟩ := P.open_agg (hval 2 26 v2 rfl rfl) h2
  clear hA0 hval0 hsz0 hsz
  refine (Pure.AggMonoid_walk n0 o0 a0 b0 mn0 mx0 n1 o1 a1 b1 mn1 mx1 n2 o2 a2 b2 mn2 mx2 W wn0 w0 y0 wm0 wx0 wn1 w1 y1 wm1 wx1 wn2 w2 y2 wm2 wx2).mono fun e W' ⟨he, bel⟩ => ?_
  subst he
  exact ⟨_, rfl, _, _, _, [], _, [], hW', trodAll_mk1 (shut_bool Try.underlying4 _), (trodAll_cons_mk (P.shut_agg wn0 w0 y0 wm0 wx0) (trodAll_cons_mk (P.shut_agg wn1 w1 y1 wm1 wx1) (trodAll_cons_mk (P.shut_agg wn2 w2 y2 wm2 wx2) trodAll_mk0))), rfl, bel.frame _, fun h => by cases h⟩
theorem over : Rows.aggMonoidRow.holds Try.pinned (OpenSpec.ofChange Rows.aggMonoidSpec) :=
  OpenClaim.holds_of_wide 3 Try.f3 rfl rfl rfl rfl rfl rfl rfl ⟨rfl, rfl, rfl, rfl, rfl⟩ rfl rfl rfl rfl rfl (by kernel_rfl) Try.func3 (by kernel_rfl)
    (of_decide_eq_true (by kernel_rfl)) (by unfold Func.isWrapper; first | (rw [if_pos (by decide +kernel)]; kernel_rfl) | (rw [if_neg (by decide +kernel)]; exact ⟨rfl, rfl⟩))
    (fun os started H enc _ => lifted os started H enc)
theorem proved : Rows.AggMonoidSaid := over
#print axioms proved
end Go.Proofs.Ytflmjiadahknkaa.aggMonoid
namespace Go.Proofs.Ytflmjiadahknkaa
/-- The row, under a short name, for the claim. -/
theorem aggMonoid_holds : Rows.AggMonoidSaid := aggMonoid.proved
end Go.Proofs.Ytflmjiadahknkaa
