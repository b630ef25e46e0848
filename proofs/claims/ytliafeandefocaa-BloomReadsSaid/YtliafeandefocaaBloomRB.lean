/- The reference's Add and May. No conditions. -/
import Derived.Test.YtliafeandefocaaBloomRA
namespace Go.Proofs.Ytliafeandefocaa.P
open Go.RowKit Go.Proofs.YtliafeandefocaaW.PrintWords Go.Proofs.YtliafeandefocaaW.PrintLast Go.Proofs.YtliafeandefocaaW.PrintMore
set_option linter.unusedVariables false
set_option linter.unusedSimpArgs false

theorem rcell_far {W : World} {g d x : Nat} {v : Value} (h : d ≠ g) : (W.setCell ⟨d, x, none⟩ v).cell? ⟨g, 0, none⟩ = W.cell? ⟨g, 0, none⟩ := World.cell?_of_block (Below.heap_setCell _ _ _ _ (fun e => h e.symm))

theorem _root_.Go.RowKit.Below.grow_ {A C : World} (h : Below A.heap.size A C) (row : Option Nat) : A.grownBy C row := ⟨h.os, h.tape, h.output, h.size, fun k hk _ => h.block k hk⟩
/-- Between two rounds of the reference's Add. -/
structure RAddI (w : World) (g d n : Nat) (h : Int) (l : List Int) (a0 B : Int) (i : Nat) (W : World) : Prop where
  fl : RFlt W g d h (RD n (addS l (plc (8 * n) B i a0)))
  gr : w.grownBy W (some d)

set_option maxHeartbeats 4000000 in
set_option maxRecDepth 100000 in
theorem radd_calls (g d n : Nat) (h : Int) (l : List Int) (A0 : Option Addr) (c0 : Nat) (key : List Int) (w : World) (hF : RFlt w g d h (RD n l)) (hh : 1 ≤ h) (hh2 : h ≤ 8) (hn : 1 ≤ n) (hn2 : n ≤ 8192) (hl : l.length = n)
    (hr : Kd.C (Kd.int .u8) w A0 key.length key) (hc0 : key.length ≤ c0) (hlen : key.length ≤ 100000) (hfar : ∀ ad, A0 = some ad → 0 < key.length → ad.block ≠ d) :
    Calls Try.prog 16 #[ptr g, .slice A0 key.length c0] w fun e w' => (∃ v, e = .returned v) ∧ RFlt w' g d h (RD n (addS l (plcK n h key))) ∧ w.grownBy w' (some d) := by
  have HF := Aside0.mk hF
  have HH := Aside0.mk hh
  have HH2 := Aside0.mk hh2
  have HN := Aside0.mk hn
  have HN2 := Aside0.mk hn2
  have HL := Aside0.mk hl
  have HR := Aside0.mk hr
  have HC := Aside0.mk hc0
  have HLN := Aside0.mk hlen
  have HFAR := Aside0.mk hfar
  clear hF hh hh2 hn hn2 hl hr hc0 hlen hfar
  go_enter Try.func16, Try.ntmps16
  go_wp2
  go_loopg [4] (h.toNat) (fun kq v4 w' => ∃ i : Nat, v4 = .int .i64 i ∧ Aside0 ((i : Int) ≤ h ∧ kq = h.toNat - i) ∧ Aside0 (RAddI w g d n h l (kA key) (kB key) i w'))
  case atStart => exact ⟨0, rfl, ⟨by have := HH.out; omega, rfl⟩, ⟨HF.out, World.grownBy.refl w _⟩⟩
  case round =>
    obtain ⟨i, rfl, hik, HI⟩ := hrel
    have hhash := HI.out.fl.hashes
    by_cases hlt : (i : Int) < h
    · have d1 : decide ((i : Int) < h) = true := decide_eq_true hlt
      have hwr : wrap64 ((i : Int) + 1) = ((i + 1 : Nat) : Int) := by have := HH2.out; unfold wrap64; omega
      have HLT := Aside0.mk hlt
      obtain ⟨Z, hZ⟩ : ∃ Z, addS l (plc (8 * n) (kB key) i (kA key)) = Z := ⟨_, rfl⟩
      obtain ⟨m, hm⟩ : ∃ m, 8 * n = m := ⟨_, rfl⟩
      have hfl := HI.out.fl
      rw [hZ] at hfl
      have hZl : Z.length = n := by rw [← hZ, addS_length]; exact HL.out
      obtain ⟨p, hp⟩ : ∃ p, aAt (kB key) i (kA key) % (m : Int) = p := ⟨_, rfl⟩
      have hp0 : 0 ≤ p ∧ p < (m : Int) := by
        have := HN.out
        rw [← hp]
        exact ⟨Int.emod_nonneg _ (by omega), Int.emod_lt_of_pos _ (by omega)⟩
      obtain ⟨x, rfl⟩ : ∃ x : Nat, p = x := ⟨p.toNat, by omega⟩
      have hx : x < m := by omega
      have hDl : (RD n Z).length = m := by rw [RD_length, hm]
      have hbits := hfl.bits
      rw [hDl] at hbits
      have i1 : (0 ≤ (x : Int)) = True := eq_true (by omega)
      have i2 : ((x : Int) < (m : Int)) = True := eq_true (by omega)
      have i3 : (x < m) = True := eq_true hx
      have HFL := Aside0.mk hfl
      have HXM := Aside0.mk hx
      have HDL := Aside0.mk hDl
      have hpl : ∀ W, RFlt W g d h (RD n Z) → Kd.C (Kd.int .u8) W A0 key.length key → Calls Try.prog 26 #[ptr g, .slice A0 key.length c0, .int .i64 i] W fun e w' => e = .returned (.int .i64 x) ∧ Below W.heap.size W w' := fun W hF hC => by
        have h_ := place_calls g d h (RD n Z) A0 c0 key i W hF (by rw [hDl]; omega) (by rw [hDl]; have := HN2.out; omega) (by have := HH2.out; omega) hC HC.out HLN.out
        rw [hDl, hp] at h_; exact h_
      have HPL := Aside0.mk hpl
      have hrd : Kd.C (Kd.int .u8) wr.drew A0 key.length key := by
        have hne : ∀ ad, A0 = some ad → 0 < key.length → ad.block < w.heap.size → ad.block ≠ d := fun ad h1 h2 _ => HFAR.out ad h1 h2
        have hg := HI.out.gr
        obtain ⟨k1, k2, k3⟩ := Kd.reads_of_C HR.out
        refine Kd.C_of_reads (d := (0 : Int)) (h1 := fun _ => rfl) ⟨k1, k2, fun h0 => ?_⟩
        obtain ⟨ad, e, hc⟩ := k3 h0
        refine ⟨ad, e, fun j hj => ?_⟩
        have hcell := hc j hj
        have hb : (ad.add j).block = ad.block := by unfold Addr.add; split <;> rfl
        exact (World.cell?_of_block (hg.block _ (block_of_cell hcell) (by rw [hb]; intro e2; cases e2; exact HFAR.out ad e (by omega) rfl))).trans hcell
      have HRD := Aside0.mk hrd
      have HW := Aside0.mk (show Below wr.heap.size wr wr.drew from (Below.refl _ _).drew)
      have hdg : d ≠ g := fun e => hfl.ne e.symm
      have hb0 : wr.drew.cell? ⟨g, 0, none⟩ = some (.slice (some ⟨d, 0, none⟩) m m) := hbits
      have HB0 := Aside0.mk hb0
      have HDG := Aside0.mk hdg
      have HMM := Aside0.mk hm
      have HPP := Aside0.mk hp
      have HZZ := Aside0.mk hZ
      have HZLL := Aside0.mk hZl
      clear hlt hm hZ hfl hZl hp hp0 hx hDl hpl hrd hdg hb0 hbits
      go_wp2
      go_region_held3 (fun W' => W'.cell? ⟨g, 0, none⟩ = some (.slice (some ⟨d, 0, none⟩) m m)) (first | (with_reducible exact HB0.out) | (with_reducible exact HB1.out) | ((rw [rcell_far HDG.out]); exact HB1.out))
        (first
          | (go_at_call 26; refine (HPL.out _ (HFL.out.below (Below.refl _ _).drew) HRD.out).mono ?_; rintro e w1 ⟨rfl, hb⟩; have hbw : Below wr.heap.size wr w1 := ⟨hb.os, hb.tape, hb.output, hb.size, hb.block⟩; have hf1 := HFL.out.below hbw; have HF1 := Aside0.mk hf1; have HB1 := Aside0.mk (show w1.cell? ⟨g, 0, none⟩ = some (.slice (some ⟨d, 0, none⟩) m m) from (by have h_ := hf1.bits; rw [HDL.out] at h_; exact h_)); have hat := hf1.at_ (i := x) (by rw [HDL.out]; exact HXM.out); have hfz := hf1.froz x; have HBW := Aside0.mk hbw; clear hb hbw hf1))
      all_goals
        go_wp2
        go_roundg (h.toNat - (i + 1))
        case measure => have := hik.out.2; have := HLT.out; omega
        case rel =>
          refine ⟨i + 1, by rw [hwr], ⟨by have := HLT.out; omega, rfl⟩, ⟨?_, ?_⟩⟩
          · rw [plc_snoc]
            have e1 : addS l (plc (8 * n) (kB key) i (kA key) ++ [aAt (kB key) i (kA key) % (8 * (n : Int))]) = setBit Z (x : Int) := by
              show List.foldl setBit l _ = _
              rw [List.foldl_append]
              show setBit (addS l (plc (8 * n) (kB key) i (kA key))) _ = _
              rw [HZZ.out, show (8 * (n : Int)) = (m : Int) by have := HMM.out; omega, HPP.out]
            rw [e1, ← RD_set n Z HZLL.out (by rw [HMM.out]; exact HXM.out)]
            exact HF1.out.set x true
          · refine HI.out.gr.trans ((HBW.out.grow_ (some d)).trans ⟨rfl, rfl, rfl, by simp [World.setCell], fun k _ hn => Below.heap_setCell _ _ _ _ (fun e => hn (by rw [e]))⟩)
    · have d1 : decide ((i : Int) < h) = false := decide_eq_false hlt
      have HI2 := Aside0.mk (show i = h.toNat by have := hik.out.1; omega)
      clear hlt
      go_wp2
      refine bodyPost_end (results_none rfl _ _ _) rfl ?_
      have h_ := HI.out.fl
      rw [HI2.out] at h_
      refine ⟨⟨_, rfl⟩, ?_, HI.out.gr⟩
      rw [plcK]; exact h_

end Go.Proofs.Ytliafeandefocaa.P
