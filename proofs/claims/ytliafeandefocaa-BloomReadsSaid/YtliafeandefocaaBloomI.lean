/- The places' iterator, whatever the rounds keep. No conditions. -/
import Derived.Test.YtliafeandefocaaBloomF
import Derived.Test.YtliafeandefocaaRange
import Derived.RangeFuncNested
import Derived.RangeFuncBound
import Derived.RangeFuncCalls
import Derived.RangeFuncLeaves
import Derived.Shelf.Abstract
import Derived.WalkKit
import Derived.OwnWalkIn
import Derived.TacticsInMore
import Derived.LoopNIn
import Derived.LoopIn
import Derived.Maps.AppendAt
import Derived.Stop.RegionWithIn
namespace Go.Proofs.Ytliafeandefocaa.P
open Go.RowKit Go.Proofs.YtliafeandefocaaW.PrintWords Go.Proofs.YtliafeandefocaaW.PrintLast Go.Proofs.YtliafeandefocaaW.PrintMore
set_option linter.unusedVariables false
set_option linter.unusedSimpArgs false
attribute [local go_sem] Oper.semAt_some

def aAt (B : Int) : Nat → Int → Int
  | 0, a => a
  | i + 1, a => (aAt B i a + B) % 4294967296
theorem aAt_range (B a : Int) (ha : 0 ≤ a ∧ a < 4294967296) : ∀ i, 0 ≤ aAt B i a ∧ aAt B i a < 4294967296
  | 0 => ha
  | i + 1 => ⟨Int.emod_nonneg _ (by omega), Int.emod_lt_of_pos _ (by omega)⟩
theorem aAt_shift (B : Int) : ∀ i a, aAt B (i + 1) a = aAt B i ((a + B) % 4294967296)
  | 0, a => rfl
  | i + 1, a => by rw [aAt, aAt_shift B i a]; rfl
theorem plc_snoc (n8 B : Int) : ∀ i a, plc n8 B (i + 1) a = plc n8 B i a ++ [aAt B i a % n8]
  | 0, a => rfl
  | i + 1, a => by rw [plc, plc_snoc n8 B i]; simp [plc, aAt_shift]

set_option maxHeartbeats 2000000 in
theorem places1_in (n : Nat) (hn : 2 ≤ n) (L nf na nb g b : Nat) (h : Int) (hh : 1 ≤ h) (hh2 : h ≤ 9223372036854775807) (len : Nat) (hl1 : 1 ≤ len) (hl2 : len ≤ 8192) (a0 B : Int) (ha0 : 0 ≤ a0 ∧ a0 < 4294967296)
    (J J2 : Nat → World → Prop) (X : World → Prop)
    (hread : ∀ i W, J i W → Boxed W nf 24 (ptr g) ∧ Boxed W na 54 (.int .u32 (aAt B i a0)) ∧ W.cell? ⟨g, 0, none⟩ = some (.slice (some ⟨b, 0, none⟩) len len) ∧ W.cell? ⟨g, 1, none⟩ = some (.int .i64 h))
    (hread2 : ∀ i W, J2 i W → Boxed W na 54 (.int .u32 (aAt B i a0)) ∧ Boxed W nb 54 (.int .u32 B))
    (hset : ∀ i W, J2 i W → J (i + 1) (W.setCell ⟨na, 0, none⟩ (.int .u32 (aAt B (i + 1) a0))))
    (hdraw : ∀ i W, J i W → J i W.drew)
    (hY : ∀ (i : Nat) W, (i : Int) < h → J i W → YieldAt Fence.wide (n - 1) Try.prog L #[.int .u32 (aAt B i a0 % (8 * len))] W fun e W' => ∃ c : Bool, e = .returned (.bool c) ∧ (c = true ∧ J2 i W' ∨ c = false ∧ X W'))
    (W : World) (h0 : J 0 W) :
    CallsIn Fence.wide n Try.prog 29 #[.func (.yield L) #[] #[], ptr nf, ptr na, ptr nb] W fun e W' => (∃ v, e = .returned v) ∧ (J h.toNat W' ∨ X W') := by
  have h1 : 1 ≤ n := by omega
  have h2 : 1 ≤ n - 1 := by omega
  refine callsIn_of_wp Try.func29 rfl trivial ?_ rfl
  simp only [Try.ntmps29, List.size_toArray, List.length_cons, List.length_nil, Nat.reduceAdd, Nat.reduceSub, Array.replicate_succ, Array.replicate_zero, List.push_toArray, List.append_toArray, List.nil_append, List.cons_append]
  obtain ⟨hf0, ha0_, hb0_, hc0_⟩ := hread 0 W h0
  have hfc := hf0.cell
  have HH := Aside0.mk hh
  have HH2 := Aside0.mk hh2
  have HL1 := Aside0.mk hl1
  have HL2 := Aside0.mk hl2
  have HR := Aside0.mk hread
  have HR2 := Aside0.mk hread2
  have HS := Aside0.mk hset
  have HD := Aside0.mk hdraw
  have HY := Aside0.mk hY
  have H0 := Aside0.mk h0
  have HA0 := Aside0.mk ha0
  clear hh hh2 hl1 hl2 hread hread2 hset hdraw hY h0 hf0 ha0_ hb0_ ha0
  gi_wp2
  clear hfc hc0_
  gi_loopw [9] (fun p wr => ∃ (i : Nat), p = .int .i64 i ∧ (i : Int) ≤ h ∧ Aside0 (J i wr))
    (fun p wr => h.toNat - (intOf p).toNat)
  case atStart => exact ⟨0, rfl, by have := HH.out; omega, H0⟩
  case round =>
    obtain ⟨i, rfl, hi, hJ0⟩ := hrel
    by_cases hlt : (i : Int) < h
    · have d1 : decide ((i : Int) < h) = true := decide_eq_true hlt
      have HLT := Aside0.mk hlt
      have HI := Aside0.mk hi
      obtain ⟨hf, ha, hb, hc⟩ := HR.out i wr hJ0.out
      have hfc := hf.cell
      have hac := ha.cell
      have HJD := Aside0.mk (HD.out i wr hJ0.out)
      obtain ⟨hfd, had, hbd, hcd⟩ := HR.out i wr.drew HJD.out
      have hfdc := hfd.cell
      have hadc := had.cell
      have w1 : IntKind.i64.wrap (8 * (len : Int)) = 8 * len := by have := HL2.out; rw [IntKind.wrap_i64]; omega
      have w2 : IntKind.u32.wrap (8 * (len : Int)) = 8 * len := by have := HL2.out; rw [IntKind.wrap_u32]; omega
      have w3 : ((8 * (len : Int)) == 0) = false := by have := HL1.out; exact beq_eq_false_iff_ne.mpr (by omega)
      have w6 : (len = 0) = False := eq_false (by have := HL1.out; omega)
      have w7 : ((len : Int) = 0) = False := eq_false (by have := HL1.out; omega)
      have w8 : (8 * (len : Int) = 0) = False := eq_false (by have := HL1.out; omega)
      obtain ⟨q, hq⟩ : ∃ q, aAt B i a0 = q := ⟨_, rfl⟩
      have hq0 := aAt_range B a0 HA0.out i
      have hnx : aAt B (i + 1) a0 = (q + B) % 4294967296 := by rw [aAt, hq]
      rw [hq] at hac hadc hq0
      have w4 : IntKind.u32.wrap (Int.tmod q (8 * (len : Int))) = q % (8 * len) := by
        have := HL1.out; have := HL2.out
        have t0 := Int.emod_nonneg q (show (8 * (len : Int)) ≠ 0 by omega)
        have t1 := Int.emod_lt_of_pos q (show 0 < (8 * (len : Int)) by omega)
        rw [Int.tmod_eq_emod_of_nonneg hq0.1, IntKind.wrap_u32]; omega
      have w4b : Int.tmod q (8 * (len : Int)) = q % (8 * len) := Int.tmod_eq_emod_of_nonneg hq0.1
      have w5 : IntKind.u32.wrap (q + B) = (q + B) % 4294967296 := by rw [IntKind.wrap_u32]
      have HQ := Aside0.mk hq
      have HNX := Aside0.mk hnx
      clear hf ha hfd had hq hnx hq0 hlt hi
      obtain ⟨fn, tmps, assign, body, hy, hR⟩ := HY.out i wr.drew HLT.out HJD.out
      rw [HQ.out] at hy
      have HRD := Aside0.mk hR
      clear hR
      gi_wp2
      gi_region_with (first | (refine HRD.out.mono ?_; rintro e W2 ⟨c, rfl, hc⟩; have HC := Aside0.mk hc; clear hc))
      all_goals
        clear hfc hac hfdc hadc hy HRD hb hc hbd hcd
        rcases HC.out with ⟨rfl, hj⟩ | ⟨rfl, hx⟩
        · obtain ⟨ha2, hb2⟩ := HR2.out i W2 hj
          have HJ2 := Aside0.mk (HS.out i W2 hj)
          have ha2c := ha2.cell
          have hb2c := hb2.cell
          have ha2f := ha2.frozen
          rw [HQ.out] at ha2c
          have w9 : IntKind.i64.wrap ((i : Int) + 1) = (i : Int) + 1 := by have := HLT.out; have := HH2.out; rw [IntKind.wrap_i64]; omega
          clear ha2 hb2 hj HC
          gi_wp2
          go_roundw
          case rel => exact ⟨i + 1, by go_num, by have := HLT.out; omega, ⟨by have h_ := HJ2.out; rw [HNX.out] at h_; exact h_⟩⟩
          case measure => have := HLT.out; simp [intOf]; omega
        · have HX := Aside0.mk hx
          clear hx HC
          gi_wp2
          refine bodyPost_ret (results_none rfl _ _ _) rfl ?_
          exact ⟨⟨_, rfl⟩, .inr HX.out⟩
    · have d1 : decide ((i : Int) < h) = false := decide_eq_false hlt
      have HI2 := Aside0.mk (show i = h.toNat by omega)
      clear hlt hi
      gi_wp2
      refine bodyPost_end (results_none rfl _ _ _) rfl ?_
      exact ⟨⟨_, rfl⟩, .inl (HI2.out ▸ hJ0.out)⟩

end Go.Proofs.Ytliafeandefocaa.P
