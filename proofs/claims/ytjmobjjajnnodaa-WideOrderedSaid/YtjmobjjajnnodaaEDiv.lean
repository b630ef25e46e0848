/- bits.Div64 at the divisor 10. -/
import Derived.Test.YtjmobjjajnnodaaPx0
namespace Go.Proofs.Ytjmobjjajnnodaa.P
open Go.RowKit Go.Proofs.YtjmobjjajnnodaaW.PrintWords Go.Proofs.YtjmobjjajnnodaaW.PrintLast Go.Proofs.YtjmobjjajnnodaaW.PrintMore
set_option linter.unusedVariables false
set_option linter.unusedSimpArgs false

set_option maxHeartbeats 1000000 in
set_option maxRecDepth 100000 in
theorem lead_ten (w : World) : Calls Try.prog 38 #[.int .u64 10] w fun e w' => e = .returned (.int .i64 60) ∧ Drawn0 w w' := by
  go_enter Try.func38, Try.ntmps38
  go_wp2
  go_ret
  exact ⟨by kernel_rfl, Drawn0.refl _⟩

theorem bits_or_60 (h l : Int) (h0 : 0 ≤ h) (h1 : h < 10) (l0 : 0 ≤ l) (l1 : l < 18446744073709551616) : Go.bits .or .u64 (h * 1152921504606846976) (l / 16) = h * 1152921504606846976 + l / 16 :=
  bits_join .u64 64 (by decide) (fun n a b => by rw [IntKind.wrap_u64]; omega) 60 _ _ (by omega) (by omega) (by omega) (by omega) (by omega) (by omega)
theorem bits_and_32 (B : Int) (b0 : 0 ≤ B) (b1 : B < 18446744073709551616) : Go.bits .and .u64 B 4294967295 = B % 4294967296 :=
  bits_mask .u64 64 (by decide) (fun n a b => by rw [IntKind.wrap_u64]; omega) 32 (by decide) B b0 (by omega)

set_option maxHeartbeats 1000000 in
set_option maxRecDepth 100000 in
theorem div_ten_ (h l U q1 Q1 r B b1 b0 R1 R2 V1 V2 V3 V q0 V4 r0 R3 R4 F1 QUO F2 F3 F4 F5 REM : Int) (h0 : 0 < h) (h1 : h < 10) (w : World)
    (hU : Go.bits .or .u64 (h * 1152921504606846976) (l / 16) = U) (hq1 : IntKind.u64.wrap (U.tdiv 2684354560) = q1) (hQ1 : IntKind.u64.wrap (q1 * 2684354560) = Q1) (hr : IntKind.u64.wrap (U - Q1) = r)
    (hB : IntKind.u64.wrap (l * 1152921504606846976) = B) (hb1 : B / 4294967296 = b1) (hb0 : Go.bits .and .u64 B 4294967295 = b0)
    (hg1 : decide (4294967296 ≤ q1) = false) (hR1 : IntKind.u64.wrap (4294967296 * r) = R1) (hR2 : IntKind.u64.wrap (R1 + b1) = R2) (hg2 : decide (R2 < 0) = false)
    (hV1 : IntKind.u64.wrap (U * 4294967296) = V1) (hV2 : IntKind.u64.wrap (V1 + b1) = V2) (hV3 : IntKind.u64.wrap (q1 * 11529215046068469760) = V3) (hV : IntKind.u64.wrap (V2 - V3) = V)
    (hq0 : IntKind.u64.wrap (V.tdiv 2684354560) = q0) (hV4 : IntKind.u64.wrap (q0 * 2684354560) = V4) (hr0 : IntKind.u64.wrap (V - V4) = r0)
    (hg3 : decide (4294967296 ≤ q0) = false) (hR3 : IntKind.u64.wrap (4294967296 * r0) = R3) (hR4 : IntKind.u64.wrap (R3 + b0) = R4) (hg4 : decide (R4 < 0) = false)
    (hF1 : IntKind.u64.wrap (q1 * 4294967296) = F1) (hQ : IntKind.u64.wrap (F1 + q0) = QUO) (hF2 : IntKind.u64.wrap (V * 4294967296) = F2) (hF3 : IntKind.u64.wrap (F2 + b0) = F3) (hF4 : IntKind.u64.wrap (q0 * 11529215046068469760) = F4) (hF5 : IntKind.u64.wrap (F3 - F4) = F5) (hREM : F5 / 1152921504606846976 = REM) :
    Calls Try.prog 34 #[.int .u64 h, .int .u64 l, .int .u64 10] w fun e w' => e = .returned (.tuple #[.int .u64 QUO, .int .u64 REM]) ∧ Drawn0 w w' := by
  have c0 : (h == 0) = false := beq_eq_false_iff_ne.mpr (by omega)
  have c1 : decide ((10 : Int) ≤ h) = false := decide_eq_false (by omega)
  have hY : Go.bits .and .u64 11529215046068469760 4294967295 = 0 := by decide +kernel
  go_enter Try.func34, Try.ntmps34
  go_wp2_with (go_at_call 38; refine (lead_ten _).mono ?_; rintro e w1 ⟨rfl, n1, rfl⟩)
  go_loopg [15, 16] 0 (fun kq v15 v16 w' => v15 = .int .u64 q1 ∧ v16 = .int .u64 r ∧ Drawn0 w w')
  case atStart => exact ⟨rfl, rfl, by repeat (first | exact Drawn0.refl _ | apply Drawn0.step)⟩
  case round =>
    obtain ⟨rfl, rfl, ⟨n2, rfl⟩⟩ := hrel
    go_wp2
    go_loopg [18, 16] 0 (fun kq v18 v16 w' => v18 = .int .u64 q0 ∧ v16 = .int .u64 r0 ∧ Drawn0 w w')
    case atStart => exact ⟨rfl, rfl, by repeat (first | exact Drawn0.refl _ | apply Drawn0.step)⟩
    case round =>
      obtain ⟨rfl, rfl, ⟨n3, rfl⟩⟩ := hrel
      go_wp2
      go_ret2
      exact ⟨rfl, by repeat (first | exact Drawn0.refl _ | apply Drawn0.step)⟩

theorem tdiv_nn (a b : Int) (h : 0 ≤ a) : a.tdiv b = a / b := Int.tdiv_eq_ediv_of_nonneg h
theorem wrap_u64_id (n : Int) (h0 : 0 ≤ n) (h1 : n < 18446744073709551616) : IntKind.u64.wrap n = n := by rw [IntKind.wrap_u64]; omega
theorem ten_split (h l U q1 r m V q0 r0 : Int) (hU : U = h * 1152921504606846976 + l / 16) (hm : m = l % 16) (e1 : U = q1 * 2684354560 + r) (hr0 : 0 ≤ r) (hr1 : r < 2684354560)
    (hV : V = r * 4294967296 + m * 268435456) (e2 : V = q0 * 2684354560 + r0) (k0 : 0 ≤ r0) (k1 : r0 < 2684354560) :
    q1 * 4294967296 + q0 = (h * 18446744073709551616 + l) / 10 ∧ (r0 * 4294967296) / 1152921504606846976 = (h * 18446744073709551616 + l) % 10 := by
  have : r0 = (16 * r + m - 10 * q0) * 268435456 := by omega
  have : (r0 * 4294967296) / 1152921504606846976 = 16 * r + m - 10 * q0 := by omega
  rw [this]
  omega

theorem div_ten1 (h l : Int) (h0 : 0 < h) (h1 : h < 10) (l0 : 0 ≤ l) (l1 : l < 18446744073709551616) (w : World) :
    Calls Try.prog 34 #[.int .u64 h, .int .u64 l, .int .u64 10] w fun e w' => e = .returned (.tuple #[.int .u64 ((h * 18446744073709551616 + l) / 10), .int .u64 ((h * 18446744073709551616 + l) % 10)]) ∧ Drawn0 w w' := by
  obtain ⟨m, hm⟩ : ∃ m, m = l % 16 := ⟨_, rfl⟩
  obtain ⟨U, hU⟩ : ∃ U, U = h * 1152921504606846976 + l / 16 := ⟨_, rfl⟩
  have U0 : 0 ≤ U := by omega
  have U1 : U < 11529215046068469760 := by omega
  obtain ⟨q1, hq1⟩ : ∃ q1, q1 = U / 2684354560 := ⟨_, rfl⟩
  obtain ⟨r, hr⟩ : ∃ r, r = U % 2684354560 := ⟨_, rfl⟩
  obtain ⟨V, hV⟩ : ∃ V, V = r * 4294967296 + m * 268435456 := ⟨_, rfl⟩
  have V0 : 0 ≤ V := by omega
  have V1 : V < 11529215046068469760 := by omega
  obtain ⟨q0, hq0⟩ : ∃ q0, q0 = V / 2684354560 := ⟨_, rfl⟩
  obtain ⟨r0, hr0⟩ : ∃ r0, r0 = V % 2684354560 := ⟨_, rfl⟩
  obtain ⟨a, b⟩ := ten_split h l U q1 r m V q0 r0 hU hm (by omega) (by omega) (by omega) hV (by omega) (by omega) (by omega)
  rw [← a, ← b]
  have q10 : 0 ≤ q1 := by omega
  have q11 : q1 < 4294967296 := by omega
  have q00 : 0 ≤ q0 := by omega
  have q01 : q0 < 4294967296 := by omega
  have r00 : 0 ≤ r0 := by omega
  have r01 : r0 < 2684354560 := by omega
  have rr0 : 0 ≤ r := by omega
  have rr1 : r < 2684354560 := by omega
  have m0 : 0 ≤ m := by omega
  have m1 : m < 16 := by omega
  have eB : IntKind.u64.wrap (l * 1152921504606846976) = m * 1152921504606846976 := by rw [IntKind.wrap_u64]; omega
  refine div_ten_ h l U q1 (q1 * 2684354560) r (m * 1152921504606846976) (m * 268435456) 0 (r * 4294967296) (r * 4294967296 + m * 268435456) (IntKind.u64.wrap (U * 4294967296)) (IntKind.u64.wrap (IntKind.u64.wrap (U * 4294967296) + m * 268435456)) (IntKind.u64.wrap (q1 * 11529215046068469760)) V q0 (q0 * 2684354560) r0 (r0 * 4294967296) (r0 * 4294967296) (q1 * 4294967296) _ (IntKind.u64.wrap (V * 4294967296)) (IntKind.u64.wrap (V * 4294967296)) (IntKind.u64.wrap (q0 * 11529215046068469760)) (r0 * 4294967296) _ h0 h1 w
    ((bits_or_60 h l (by omega) h1 l0 l1).trans hU.symm) ?_ (wrap_u64_id _ (by omega) (by omega)) ?_ eB (by omega) ?_ (decide_eq_false (by omega)) ?_ (wrap_u64_id _ (by omega) (by omega)) (decide_eq_false (by omega)) rfl rfl rfl ?_ ?_ (wrap_u64_id _ (by omega) (by omega)) ?_ (decide_eq_false (by omega)) ?_ ?_ (decide_eq_false (by omega)) (wrap_u64_id _ (by omega) (by omega)) (wrap_u64_id _ (by omega) (by omega)) rfl ?_ rfl ?_ rfl
  · rw [tdiv_nn _ _ U0, ← hq1]; exact wrap_u64_id _ q10 (by omega)
  · rw [wrap_u64_id _ (by omega) (by omega)]; omega
  · rw [bits_and_32 _ (by omega) (by omega)]; omega
  · rw [Int.mul_comm]; exact wrap_u64_id _ (by omega) (by omega)
  · simp only [IntKind.wrap_u64]; omega
  · rw [tdiv_nn _ _ V0, ← hq0]; exact wrap_u64_id _ q00 (by omega)
  · rw [wrap_u64_id _ (by omega) (by omega)]; omega
  · rw [Int.mul_comm]; exact wrap_u64_id _ (by omega) (by omega)
  · rw [Int.add_zero]; exact wrap_u64_id _ (by omega) (by omega)
  · rw [Int.add_zero]; simp only [IntKind.wrap_u64]; omega
  · simp only [IntKind.wrap_u64]; omega

set_option maxHeartbeats 1000000 in
set_option maxRecDepth 100000 in
theorem div_ten0 (l : Int) (l0 : 0 ≤ l) (l1 : l < 18446744073709551616) (w : World) :
    Calls Try.prog 34 #[.int .u64 0, .int .u64 l, .int .u64 10] w fun e w' => e = .returned (.tuple #[.int .u64 (l / 10), .int .u64 (l % 10)]) ∧ Drawn0 w w' := by
  have e1 : l.tdiv 10 = l / 10 := tdiv_nn _ _ l0
  have e2 : l.tmod 10 = l % 10 := Int.tmod_eq_emod_of_nonneg l0
  have e3 : IntKind.u64.wrap (l / 10) = l / 10 := wrap_u64_id _ (by omega) (by omega)
  have e4 : IntKind.u64.wrap (l % 10) = l % 10 := wrap_u64_id _ (by omega) (by omega)
  go_enter Try.func34, Try.ntmps34
  go_wp2
  go_region
  all_goals (
    try go_wp2
    go_ret2
    exact ⟨by simp [*], by repeat (first | exact Drawn0.refl _ | apply Drawn0.step)⟩)

theorem div_ten (h l : Int) (h0 : 0 ≤ h) (h1 : h < 10) (l0 : 0 ≤ l) (l1 : l < 18446744073709551616) (w : World) :
    Calls Try.prog 34 #[.int .u64 h, .int .u64 l, .int .u64 10] w fun e w' => e = .returned (.tuple #[.int .u64 ((h * 18446744073709551616 + l) / 10), .int .u64 ((h * 18446744073709551616 + l) % 10)]) ∧ Drawn0 w w' := by
  by_cases hz : h = 0
  · subst hz
    rw [Int.zero_mul, Int.zero_add]
    exact div_ten0 l l0 l1 w
  · exact div_ten1 h l (by omega) h1 l0 l1 w

def bits_Div64.f (h l y : Int) : Option (Int × Int) := if 0 ≤ h ∧ h < 10 ∧ 0 ≤ l ∧ l < 18446744073709551616 ∧ y = 10 then some ((h * 18446744073709551616 + l) / 10, (h * 18446744073709551616 + l) % 10) else none
theorem bits_Div64.calls (a0 a1 a2 r1 r2 : Int) (w : World) (h : bits_Div64.f a0 a1 a2 = some (r1, r2)) :
    Calls Try.prog 34 #[.int .u64 a0, .int .u64 a1, .int .u64 a2] w fun e w' => e = .returned (.tuple #[.int .u64 r1, .int .u64 r2]) ∧ Drawn0 w w' := by
  unfold bits_Div64.f at h
  by_cases hl : 0 ≤ a0 ∧ a0 < 10 ∧ 0 ≤ a1 ∧ a1 < 18446744073709551616 ∧ a2 = 10
  · rw [if_pos hl] at h
    obtain ⟨rfl, rfl⟩ := Prod.mk.injEq .. ▸ Option.some.inj h
    rw [hl.2.2.2.2]
    exact div_ten a0 a1 hl.1 hl.2.1 hl.2.2.1 hl.2.2.2.1 w
  · rw [if_neg hl] at h
    exact absurd h (by simp)

end Go.Proofs.Ytjmobjjajnnodaa.P
