/- agg.Right, by hand: what may be known. No conditions. -/
import Derived.Test.YtihdomhiiolojaaPEq0
import Derived.Test.YtihdomhiiolojaaPx0
namespace Go.Proofs.Ytihdomhiiolojaa.P
open Go.RowKit Go.Proofs.YtihdomhiiolojaaW.PrintWords Go.Proofs.YtihdomhiiolojaaW.PrintLast Go.Proofs.YtihdomhiiolojaaW.PrintMore
set_option linter.unusedVariables false
set_option linter.unusedSimpArgs false

abbrev Ag := S39
abbrev agV (x : Ag) : Value := .agg #[.int .u64 x.f0, .bool x.f1, .int .i64 x.f2.f0, .int .u64 x.f2.f1, .int .i64 x.f3, .int .i64 x.f4]
/-- Is this known of facts? -/
def rightB (x : Ag) : Bool := if x.f0 = 0 then (!x.f1 && (((x.f2.f0 == 0) && (x.f2.f1 == 0)) && ((x.f3 == 0) && (x.f4 == 0)))) else (decide (x.f3 ≤ x.f4) && (!x.f1 || (x.f0 == 18446744073709551615)))
set_option maxHeartbeats 1000000 in
theorem aggRight_calls (x : Ag) (w : World) : Calls Try.prog 33 #[agV x] w fun e w' => e = .returned (.bool (rightB x)) ∧ Below w.heap.size w w' := by
  have hu := Try.underlying39
  obtain ⟨n, o, ⟨hi, lo⟩, mn, mx⟩ := x
  unfold rightB agV
  simp only []
  have HB := Aside0.mk ((Below.refl w.heap.size w).alloc (Nat.le_refl _) (.cells #[.int .u64 n, .bool o, .int .i64 hi, .int .u64 lo, .int .i64 mn, .int .i64 mx] 39))
  by_cases h : n = 0
  · subst h
    have he := fun d w => eqA39 d w 0 0 o false hi 0 lo 0 mn 0 mx 0
    go_enter Try.func33, Try.ntmps33
    go_wp2
    go_ret
    refine ⟨?_, HB.out⟩
    cases o <;> simp
  · have d1 : (n == 0) = false := beq_eq_false_iff_ne.2 h
    by_cases h2 : mn ≤ mx
    · have d2 : decide (mn ≤ mx) = true := decide_eq_true h2
      cases o with
      | true =>
        go_enter Try.func33, Try.ntmps33
        go_wp2
        go_ret
        exact ⟨by simp [h, h2], HB.out⟩
      | false =>
        go_enter Try.func33, Try.ntmps33
        go_wp2
        go_ret
        exact ⟨by simp [h, h2], HB.out⟩
    · have d2 : decide (mn ≤ mx) = false := decide_eq_false h2
      go_enter Try.func33, Try.ntmps33
      go_wp2
      go_ret
      exact ⟨by simp [h, h2], HB.out⟩
end Go.Proofs.Ytihdomhiiolojaa.P
