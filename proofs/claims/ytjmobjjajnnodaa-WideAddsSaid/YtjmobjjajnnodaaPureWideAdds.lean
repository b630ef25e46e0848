/- rickyardlaw01.WideAdds: sums, opposites and products are those of the reference. No conditions. -/
import Derived.Test.YtjmobjjajnnodaaWidePure1
import Derived.Test.YtjmobjjajnnodaaPrickyardlaw01WideAdds
namespace Go.Proofs.Ytjmobjjajnnodaa.Pure
open Go.RowKit Go.Proofs.Ytjmobjjajnnodaa.P Go.Proofs.YtjmobjjajnnodaaW.PrintWords Go.Proofs.YtjmobjjajnnodaaW.PrintLast
set_option linter.unusedVariables false

theorem refOf_f (v : Int) (h : -9223372036854775808 ≤ v) (h' : v < 9223372036854775808) : rickyardref01_Of.f v = some (mkHi v, mkLo v) := by
  rw [← of_f v h h']
  unfold rickyardref01_Of.f wide_Of.f
  by_cases h0 : v < 0
  · rw [if_pos h0, show v / 9223372036854775808 = -1 by omega]
  · rw [if_neg h0, show v / 9223372036854775808 = 0 by omega]
theorem refMinus_f (a0 a1 : Int) (h1 : 0 ≤ a1) (h2 : a1 < 18446744073709551616) (h3 : -9223372036854775808 ≤ a0) (h4 : a0 < 9223372036854775808) : rickyardref01_Minus.f a0 a1 = wide_Minus.f a0 a1 := by
  rw [neg_f a0 a1 h1 h2 h3 h4]
  unfold rickyardref01_Minus.f
  rw [if_pos ⟨h1, h2⟩, add_f _ _ _ _ (by omega) (by omega) (by omega) (by omega)]
  have e : wrap64 (18446744073709551615 - IntKind.u64.wrap a0) = -1 - a0 := by rw [IntKind.wrap_u64]; unfold wrap64; omega
  have e2 : vl (wrap64 (18446744073709551615 - IntKind.u64.wrap a0)) (18446744073709551615 - a1) + vl 0 1 = -(vl a0 a1) := by
    rw [e]; unfold vl; omega
  rw [e2]
theorem refTimes_l0 (d : Nat) : ∀ (k : Nat) (n out part : Int), 0 ≤ n → n < 2 ^ d → d ≤ 64 → rickyardref01_Times.l0 (k + d + 1) n (mkHi out) (mkLo out) (mkHi part) (mkLo part) = some (mkHi (out + part * n), mkLo (out + part * n)) := by
  induction d with
  | zero =>
    intro k n out part h0 h1 _
    have : n = 0 := by simp at h1; omega
    subst this
    rw [rickyardref01_Times.l0, if_neg (by omega), Int.mul_zero, Int.add_zero]
  | succ d ih =>
    intro k n out part h0 h1 hd
    have hp : (2 : Int) ^ (d + 1) = 2 * 2 ^ d := by rw [Int.pow_succ]; omega
    have hle : (2 : Int) ^ (d + 1) ≤ 18446744073709551616 := by
      have : (2 : Nat) ^ (d + 1) ≤ 2 ^ 64 := Nat.pow_le_pow_right (by decide) hd
      have e : ((2 ^ (d + 1) : Nat) : Int) = (2 : Int) ^ (d + 1) := by rw [Int.natCast_pow]; rfl
      rw [← e]
      have e2 : (2 : Nat) ^ 64 = 18446744073709551616 := rfl
      omega
    rw [show k + (d + 1) + 1 = (k + d + 1) + 1 from rfl, rickyardref01_Times.l0]
    by_cases hn : n > 0
    · rw [if_pos hn, Int.tmod_eq_emod_of_nonneg h0, Int.tdiv_eq_ediv_of_nonneg h0]
      have hw : IntKind.u64.wrap (n / 2) = n / 2 := by rw [IntKind.wrap_u64]; omega
      rw [hw]
      unfold rickyardref01_Add.f
      by_cases ho : n % 2 = 1
      · rw [if_pos ho, add_mk_mk out part]
        simp only [Option.bind_some]
        rw [add_mk_mk part part]
        simp only [Option.bind_some]
        rw [ih k (n / 2) (out + part) (part + part) (by omega) (by omega) (by omega)]
        have e : out + part + (part + part) * (n / 2) = out + part * n := by
          have h2 : n = 2 * (n / 2) + 1 := by omega
          have h3 : part * n = part * (2 * (n / 2) + 1) := by rw [← h2]
          rw [h3, Int.add_mul, Int.mul_add, Int.mul_one, ← Int.mul_assoc, Int.mul_comm part 2, Int.mul_assoc, Int.two_mul]
          omega
        rw [e]
      · rw [if_neg ho, add_mk_mk part part]
        simp only [Option.bind_some]
        rw [ih k (n / 2) out (part + part) (by omega) (by omega) (by omega)]
        have e : out + (part + part) * (n / 2) = out + part * n := by
          have h2 : n = 2 * (n / 2) := by omega
          have h3 : part * n = part * (2 * (n / 2)) := by rw [← h2]
          rw [h3, Int.add_mul, ← Int.mul_assoc, Int.mul_comm part 2, Int.mul_assoc, Int.two_mul]
        rw [e]
    · have : n = 0 := by omega
      subst this
      rw [if_neg (by omega), Int.mul_zero, Int.add_zero]
theorem mkHi_0 : mkHi 0 = 0 := by decide +kernel
theorem mkLo_0 : mkLo 0 = 0 := by decide +kernel
theorem refTimes_f (k : Nat) (v n : Int) (hv : -9223372036854775808 ≤ v) (hv' : v < 9223372036854775808) (hn : 0 ≤ n) (hn' : n < 18446744073709551616) : rickyardref01_Times.f (k + 65) v n = wide_Times.f v n := by
  rw [times_f v n hv hv' hn hn']
  unfold rickyardref01_Times.f
  rw [refOf_f v hv hv']
  simp only [Option.bind_some]
  have h := refTimes_l0 64 k n 0 v hn (by simpa using hn') (Nat.le_refl _)
  rw [mkHi_0, mkLo_0, Int.zero_add] at h
  exact h

theorem WideAdds_walk (a0 a1 b0 b1 v n : Int) (w : World) (p0 : (Lit.int .i64 a0).wf = true) (p1 : (Lit.int .u64 a1).wf = true) (q0 : (Lit.int .i64 b0).wf = true) (q1 : (Lit.int .u64 b1).wf = true) (r0 : (Lit.int .i64 v).wf = true) (r1 : (Lit.int .u64 n).wf = true) :
    Calls Try.prog 5 #[.agg #[.int .i64 a0, .int .u64 a1], .agg #[.int .i64 b0, .int .u64 b1], .int .i64 v, .int .u64 n] w fun e w' => e = .returned (.bool true) ∧ Below w.heap.size w w' := by
  have pa := of_wf_i64 p0
  have pb := of_wf_u64 p1
  have pc := of_wf_u64 q1
  have pv := of_wf_i64 r0
  have pn := of_wf_u64 r1
  refine rickyardlaw01_WideAdds.calls (0 + 65) a0 a1 b0 b1 v n true w ?_ rfl
  unfold rickyardlaw01_WideAdds.f
  rw [alive01_f (0 + 65) (by decide), of_f v pv.1 pv.2, refOf_f v pv.1 pv.2, add_f a0 a1 b0 b1 pb.1 pb.2 pc.1 pc.2]
  simp only [Option.bind_some, if_true, beq_self_eq_true, Bool.and_self]
  unfold rickyardref01_Add.f
  rw [add_f a0 a1 b0 b1 pb.1 pb.2 pc.1 pc.2, refMinus_f a0 a1 pb.1 pb.2 pa.1 pa.2, neg_f a0 a1 pb.1 pb.2 pa.1 pa.2]
  simp only [Option.bind_some, if_true, beq_self_eq_true, Bool.and_self]
  rw [refTimes_f 0 v n pv.1 pv.2 pn.1 pn.2, times_f v n pv.1 pv.2 pn.1 pn.2]
  simp only [Option.bind_some, beq_self_eq_true, Bool.and_self]

end Go.Proofs.Ytjmobjjajnnodaa.Pure
