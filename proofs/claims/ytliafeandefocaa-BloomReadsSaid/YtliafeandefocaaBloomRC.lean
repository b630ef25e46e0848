/- The reference's May. No conditions. -/
import Derived.Test.YtliafeandefocaaBloomRB
namespace Go.Proofs.Ytliafeandefocaa.P
open Go.RowKit Go.Proofs.YtliafeandefocaaW.PrintWords Go.Proofs.YtliafeandefocaaW.PrintLast Go.Proofs.YtliafeandefocaaW.PrintMore
set_option linter.unusedVariables false
set_option linter.unusedSimpArgs false

set_option maxHeartbeats 4000000 in
set_option maxRecDepth 100000 in
theorem rmay_calls (g d n : Nat) (h : Int) (l : List Int) (A0 : Option Addr) (c0 : Nat) (key : List Int) (w : World) (hF : RFlt w g d h (RD n l)) (hh : 1 ≤ h) (hh2 : h ≤ 8) (hn : 1 ≤ n) (hn2 : n ≤ 8192) (hl : l.length = n)
    (hr : Kd.C (Kd.int .u8) w A0 key.length key) (hc0 : key.length ≤ c0) (hlen : key.length ≤ 100000) :
    Calls Try.prog 17 #[ptr g, .slice A0 key.length c0] w fun e w' => e = .returned (.bool (mayS l (plcK n h key))) ∧ Below w.heap.size w w' := by
  have HF := Aside0.mk hF
  have HH := Aside0.mk hh
  have HH2 := Aside0.mk hh2
  have HN := Aside0.mk hn
  have HN2 := Aside0.mk hn2
  have HL := Aside0.mk hl
  have HR := Aside0.mk hr
  have HC := Aside0.mk hc0
  have HLN := Aside0.mk hlen
  clear hF hh hh2 hn hn2 hl hr hc0 hlen
  go_enter Try.func17, Try.ntmps17
  go_wp2
  go_loopg [5, 6] (h.toNat) (fun kq v5 v6 w' => ∃ (i : Nat) (bb : Bool), v5 = .bool bb ∧ v6 = .int .i64 i ∧ Aside0 (bb = mayS l (plc (8 * n) (kB key) i (kA key))) ∧ Aside0 ((i : Int) ≤ h ∧ kq = h.toNat - i) ∧ Aside0 (RFlt w' g d h (RD n l) ∧ Below w.heap.size w w'))
  case atStart => exact ⟨0, true, rfl, rfl, ⟨rfl⟩, ⟨by have := HH.out; omega, rfl⟩, ⟨HF.out, Below.refl _ _⟩⟩
  case round =>
    obtain ⟨i, bb, rfl, rfl, HBB, hik, HI⟩ := hrel
    have hhash := HI.out.1.hashes
    by_cases hlt : (i : Int) < h
    · have d1 : decide ((i : Int) < h) = true := decide_eq_true hlt
      have hwr : wrap64 ((i : Int) + 1) = ((i + 1 : Nat) : Int) := by have := HH2.out; unfold wrap64; omega
      have HLT := Aside0.mk hlt
      have HHASH := Aside0.mk hhash
      obtain ⟨m, hm⟩ : ∃ m, 8 * n = m := ⟨_, rfl⟩
      have hfl := HI.out.1
      obtain ⟨p, hp⟩ : ∃ p, aAt (kB key) i (kA key) % (m : Int) = p := ⟨_, rfl⟩
      have hp0 : 0 ≤ p ∧ p < (m : Int) := by
        have := HN.out
        rw [← hp]
        exact ⟨Int.emod_nonneg _ (by omega), Int.emod_lt_of_pos _ (by omega)⟩
      obtain ⟨x, rfl⟩ : ∃ x : Nat, p = x := ⟨p.toNat, by omega⟩
      have hx : x < m := by omega
      have hDl : (RD n l).length = m := by rw [RD_length, hm]
      have hbits := hfl.bits
      rw [hDl] at hbits
      have i1 : (0 ≤ (x : Int)) = True := eq_true (by omega)
      have i2 : ((x : Int) < (m : Int)) = True := eq_true (by omega)
      have i3 : (x < m) = True := eq_true hx
      have HFL := Aside0.mk hfl
      have HXM := Aside0.mk hx
      have HDL := Aside0.mk hDl
      have hpl : ∀ W, RFlt W g d h (RD n l) → Kd.C (Kd.int .u8) W A0 key.length key → Calls Try.prog 26 #[ptr g, .slice A0 key.length c0, .int .i64 i] W fun e w' => e = .returned (.int .i64 x) ∧ Below W.heap.size W w' := fun W hF hC => by
        have h_ := place_calls g d h (RD n l) A0 c0 key i W hF (by rw [hDl]; omega) (by rw [hDl]; have := HN2.out; omega) (by have := HH2.out; omega) hC HC.out HLN.out
        rw [hDl, hp] at h_; exact h_
      have HPL := Aside0.mk hpl
      have hrd : Kd.C (Kd.int .u8) wr.drew A0 key.length key := Kd.C_below HR.out HI.out.2.drew
      have HRD := Aside0.mk hrd
      have HW := Aside0.mk (show Below wr.heap.size wr wr.drew from (Below.refl _ _).drew)
      have hb0 : wr.drew.cell? ⟨g, 0, none⟩ = some (.slice (some ⟨d, 0, none⟩) m m) := hbits
      obtain ⟨v, hv⟩ : ∃ v, (RD n l).getD x false = v := ⟨_, rfl⟩
      have hb2 : wr.drew.cell? ⟨d, x, none⟩ = some (.bool v) := by have h_ := (hfl.below (Below.refl wr.heap.size wr).drew).at_ (i := x) (by rw [hDl]; exact hx); rwa [hv] at h_
      have HVB := Aside0.mk (show v = bitAt l (x : Int) by rw [← hv]; exact RD_getD n l (by rw [hm]; exact hx))
      have HV := Aside0.mk hv
      have HB0 := Aside0.mk (And.intro hb0 hb2)
      have HMM := Aside0.mk hm
      have HPP := Aside0.mk hp
      clear hlt hm hfl hp hp0 hx hDl hpl hrd hb0 hb2 hv hbits
      cases bb with
      | true =>
        go_wp2
        go_region_held3 (fun W' => W'.cell? ⟨g, 0, none⟩ = some (.slice (some ⟨d, 0, none⟩) m m) ∧ W'.cell? ⟨d, x, none⟩ = some (.bool v)) (first | (with_reducible exact HB0.out) | (with_reducible exact HB1.out))
          (first
            | (go_at_call 26; refine (HPL.out _ (HFL.out.below (Below.refl _ _).drew) HRD.out).mono ?_; rintro e w1 ⟨rfl, hb⟩; have hbw : Below wr.heap.size wr w1 := ⟨hb.os, hb.tape, hb.output, hb.size, hb.block⟩; have hf1 := HFL.out.below hbw; have HF1 := Aside0.mk hf1; have HB1 := Aside0.mk (show w1.cell? ⟨g, 0, none⟩ = some (.slice (some ⟨d, 0, none⟩) m m) ∧ w1.cell? ⟨d, x, none⟩ = some (.bool v) from (by have h_ := hf1.bits; rw [HDL.out] at h_; have h2_ := hf1.at_ (i := x) (by rw [HDL.out]; exact HXM.out); rw [HV.out] at h2_; exact ⟨h_, h2_⟩)); have HBW := Aside0.mk hbw; clear hb hbw hf1))
        all_goals
          go_wp2
          go_roundg (h.toNat - (i + 1))
          case measure => have := hik.out.2; have := HLT.out; omega
          case rel =>
            refine ⟨i + 1, _, rfl, by rw [hwr], ⟨?_⟩, ⟨by have := HLT.out; omega, rfl⟩, ⟨HF1.out, HI.out.2.trans (HBW.out.mono HI.out.2.size)⟩⟩
            rw [mayS_snoc, ← HBB.out, show (8 * (n : Int)) = (m : Int) by have := HMM.out; omega, HPP.out, Bool.true_and, ← HVB.out]
      | false =>
        go_wp2
        go_region
        all_goals
          go_wp2
          go_roundg (h.toNat - (i + 1))
          case measure => have := hik.out.2; have := HLT.out; omega
          case rel =>
            refine ⟨i + 1, _, rfl, by rw [hwr], ⟨?_⟩, ⟨by have := HLT.out; omega, rfl⟩, ⟨HI.out.1.below (Below.refl _ _).drew, HI.out.2.drew⟩⟩
            rw [mayS_snoc, ← HBB.out]; rfl
    · have d1 : decide ((i : Int) < h) = false := decide_eq_false hlt
      have HI2 := Aside0.mk (show i = h.toNat by have := hik.out.1; omega)
      clear hlt
      go_wp2
      go_ret
      refine ⟨?_, HI.out.2⟩
      rw [plcK, ← HI2.out, ← HBB.out]
      rfl

end Go.Proofs.Ytliafeandefocaa.P
