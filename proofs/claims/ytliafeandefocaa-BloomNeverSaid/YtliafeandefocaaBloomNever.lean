/- BloomNever's walk. No conditions. -/
import Derived.Test.YtliafeandefocaaBloomS
namespace Go.Proofs.Ytliafeandefocaa.P
open Go.RowKit Go.Proofs.YtliafeandefocaaW.PrintWords Go.Proofs.YtliafeandefocaaW.PrintLast Go.Proofs.YtliafeandefocaaW.PrintMore
set_option linter.unusedVariables false
set_option linter.unusedSimpArgs false

theorem okRead_cons {n : Nat} {h : Int} {Z : List Int} (hZ : Z.length = n) (hn : 1 ≤ n) (hn2 : n ≤ 8192) (h1 : 1 ≤ h) (h2 : h ≤ 8) : okRead (h :: Z) := by
  refine ⟨by simp; omega, by simp; omega, ?_, ?_⟩ <;> simpa
theorem isB_cons {h : Int} {Z : List Int} (hZ : IsB Z) (h1 : 1 ≤ h) (h2 : h ≤ 8) : IsB (h :: Z) := fun x hx => by
  rcases List.mem_cons.1 hx with rfl | h
  · omega
  · exact hZ x h

set_option maxHeartbeats 2000000 in
set_option maxRecDepth 100000 in
theorem never_walk (n8 h : Int) (A2 : Option Addr) (c2 : Nat) (l : List (List Int)) (w : World) (hi0 : (Lit.int .i64 n8).wf = true) (hi1 : (Lit.int .i64 h).wf = true)
    (hr2 : Kd.C (Kd.slice 5 (Kd.int .u8)) w A2 l.length l) (hc2 : l.length ≤ c2) (hB2 : ∀ m ∈ l, IsB m) :
    Calls Try.prog 8 #[.int .i64 n8, .int .i64 h, .slice A2 l.length c2] w fun e w' => e = .returned (.bool true) ∧ Below w.heap.size w w' := by
  have HR2 := Aside0.mk hr2
  have HC2 := Aside0.mk hc2
  obtain ⟨r, hrl, hlong⟩ := long_calls A2 c2 l
  have HLONG := Aside0.mk hlong
  clear hr2 hc2 hB2 hlong hi0 hi1
  by_cases hk : okNew n8 h
  case neg =>
    have HK := Aside0.mk hk
    clear hk
    go_enter Try.func8, Try.ntmps8
    go_wp2_with (first
      | ((with_reducible refine gate_callee (f := 12) rfl ?_); refine goesL_ (some 27) rfl rfl Try.func12 (by kernel_rfl) rfl #[] rfl (by (try simp only [List.map_toArray, List.map_cons, List.map_nil]); first | done | rfl | (simp only [List.length_drop, List.length_take]; rfl)) ?_; refine (alive_calls _).mono ?_; rintro e wa ⟨rfl, hb⟩; have HBA := Aside0.mk hb; clear hb; refine ⟨_, rfl, ?_⟩)
      | ((with_reducible refine gate_callee (f := 10) rfl ?_); refine goesL_ (some 18) rfl rfl Try.func10 (by kernel_rfl) rfl #[.int .i64 n8, .int .i64 h] rfl (by (try simp only [List.map_toArray, List.map_cons, List.map_nil]); first | done | rfl | (simp only [List.length_drop, List.length_take]; rfl)) ?_; refine (new_bad n8 h _ HK.out).mono ?_; rintro e w1 ⟨rfl, hd⟩; have HB1 := Aside0.mk hd.below; clear hd; refine ⟨_, rfl, ?_⟩))
    go_ret
    exact ⟨rfl, HB1.out.trans (HBA.out.mono HB1.out.size)⟩
  have HK := Aside0.mk hk
  have hn := hk
  obtain ⟨k1, k2, k3, k4, k5⟩ := hn
  obtain ⟨n, hn⟩ : ∃ n : Nat, (n8 / 8).toNat = n := ⟨_, rfl⟩
  have HN := Aside0.mk (show 1 ≤ n ∧ n ≤ 8192 by omega)
  have HH := Aside0.mk (show 1 ≤ h ∧ h ≤ 8 from ⟨k4, k5⟩)
  have HNE := Aside0.mk hn
  clear hk k1 k2 k3 k4 k5 hn
  have hnew := fun W => new_made n8 h W HK.out
  rw [HNE.out] at hnew
  have HNEW := Aside0.mk hnew
  clear hnew
  cases r with
  | true =>
    go_enter Try.func8, Try.ntmps8
    go_wp2_with (first
      | ((with_reducible refine gate_callee (f := 12) rfl ?_); refine goesL_ (some 27) rfl rfl Try.func12 (by kernel_rfl) rfl #[] rfl (by (try simp only [List.map_toArray, List.map_cons, List.map_nil]); first | done | rfl | (simp only [List.length_drop, List.length_take]; rfl)) ?_; refine (alive_calls _).mono ?_; rintro e wa ⟨rfl, hb⟩; have HBA := Aside0.mk hb; clear hb; refine ⟨_, rfl, ?_⟩)
      | (go_at_call 11; refine (HLONG.out _ (rows_below HR2.out HB1.out) HC2.out).mono ?_; rintro e w2 ⟨rfl, hb⟩; have HB2 := Aside0.mk (HB1.out.trans (hb.mono HB1.out.size)); clear hb)
      | ((with_reducible refine gate_callee (f := 10) rfl ?_); refine goesL_ (some 18) rfl rfl Try.func10 (by kernel_rfl) rfl #[.int .i64 n8, .int .i64 h] rfl (by (try simp only [List.map_toArray, List.map_cons, List.map_nil]); first | done | rfl | (simp only [List.length_drop, List.length_take]; rfl)) ?_; refine (HNEW.out _).mono ?_; rintro e w1 ⟨g, b, rfl, hF, hb, hg1, hg2⟩; have HB1 := Aside0.mk hb; clear hF hb hg1 hg2; refine ⟨_, rfl, ?_⟩))
    go_ret
    exact ⟨rfl, HB2.out.trans (HBA.out.mono HB2.out.size)⟩
  | false =>
    have HLL := Aside0.mk (hrl rfl).1
    clear hrl
    go_enter Try.func8, Try.ntmps8
    go_wp2_with (first
      | (go_at_call 11; refine (HLONG.out _ (rows_below HR2.out HK1.out.be) HC2.out).mono ?_; rintro e w2 ⟨rfl, hb⟩; have HK2 := Aside0.mk (HK1.out.below hb); clear hb)
      | ((with_reducible refine gate_callee (f := 10) rfl ?_); refine goesL_ (some 18) rfl rfl Try.func10 (by kernel_rfl) rfl #[.int .i64 n8, .int .i64 h] rfl (by (try simp only [List.map_toArray, List.map_cons, List.map_nil]); first | done | rfl | (simp only [List.length_drop, List.length_take]; rfl)) ?_; refine (HNEW.out _).mono ?_; rintro e w1 ⟨g, b, rfl, hF, hb, hg1, hg2⟩; have HK1 := Aside0.mk (show KeysI w g b n h l 0 w1 from ⟨hF, hb, hg1, hg2⟩); clear hF hb hg1 hg2; refine ⟨_, rfl, ?_⟩))
    go_loopg [9] (l.length) (fun kq v13 w' => ∃ i : Nat, v13 = .int .i64 i ∧ Aside0 (i ≤ l.length ∧ kq = l.length - i) ∧ Aside0 (KeysI w g b n h l i w'))
    case atStart => exact ⟨0, rfl, ⟨Nat.zero_le _, rfl⟩, HK2⟩
    case round =>
      obtain ⟨i, rfl, hik, HKI⟩ := hrel
      by_cases hlt : i < l.length
      · obtain ⟨ad, A, c, key, eA, hkey, hcell, hlc, hck⟩ := key_at (rows_below HR2.out HKI.out.be) hlt
        cases eA
        have d1 : decide ((i : Int) < (l.length : Int)) = true := decide_eq_true (by omega)
        have d1b : decide (i < l.length) = true := decide_eq_true hlt
        have i1 : (0 ≤ (i : Int)) = True := eq_true (by omega)
        have i2 : ((i : Int) < (l.length : Int)) = True := eq_true (by omega)
        have i3 : (i < l.length) = True := eq_true hlt
        have w1 : wrap64 ((i : Int) + 1) = ((i + 1 : Nat) : Int) := by have := HLL.out; unfold wrap64; omega
        have HLT := Aside0.mk hlt
        have HCK := Aside0.mk hck
        have HLC := Aside0.mk hlc
        have HKEY := Aside0.mk hkey
        clear hlt hck hlc hkey
        go_wp2_with (first
          | ((with_reducible refine gate_callee (f := 13) rfl ?_); refine goesL_ (some 39) rfl rfl Try.func13 (by kernel_rfl) rfl #[ptr g, .slice A key.length c] rfl (by (try simp only [List.map_toArray, List.map_cons, List.map_nil]); first | done | rfl | (simp only [List.length_drop, List.length_take]; rfl)) ?_; refine (keys_add HKI.out HH.out.1 HH.out.2 HN.out.1 HN.out.2 HLT.out HKEY.out HCK.out HLC.out).mono ?_; rintro e w4 ⟨rfl, hk4⟩; have HK4 := Aside0.mk hk4; clear hk4; refine ⟨_, rfl, ?_⟩))
        go_roundg (l.length - (i + 1))
        case measure => have := hik.out.2; have := HLT.out; omega
        case rel => exact ⟨i + 1, by rw [w1], ⟨HLT.out, rfl⟩, HK4⟩
      · have d1 : decide ((i : Int) < (l.length : Int)) = false := decide_eq_false (by omega)
        have d1b : decide (i < l.length) = false := decide_eq_false hlt
        have hlast : i = l.length := by have := hik.out.1; omega
        have hK0 := HKI.out
        rw [hlast] at hK0
        have HK5 := Aside0.mk hK0
        clear hlt hlast hK0
        obtain ⟨Z, hZ⟩ : ∃ Z, bitsAt n h l l.length = Z := ⟨_, rfl⟩
        have HZ := Aside0.mk hZ
        have hZl : Z.length = n := by rw [← hZ]; exact bitsAt_length n h l _
        have HZL := Aside0.mk hZl
        have HZB := Aside0.mk (show IsB Z by rw [← hZ]; exact bitsAt_bytes n h l _)
        have HMAY := Aside0.mk (show ∀ i, i < l.length → mayS Z (plcK n h (l.getD i [])) = true by rw [← hZ]; exact fun i hi => bitsAt_may n HN.out.1 h l hi)
        clear hZ hZl
        have hf1 := HK5.out.fl
        rw [HZ.out] at hf1
        have HF5 := Aside0.mk hf1
        have may1 : ∀ g b W A c i, i < l.length → Flt W g b h Z → ∀ key, l.getD i [] = key → Kd.C (Kd.int .u8) W A key.length key → key.length ≤ c → Calls Try.prog 14 #[ptr g, .slice A key.length c] W fun e w' => e = .returned (.bool true) ∧ Below W.heap.size W w' := fun g b W A c i hi hF key hkey hC hc => by
          have h_ := may_calls g b h Z A c key W hF HH.out.1 (by have := HH.out.2; omega) (by rw [HZL.out]; exact HN.out.1) (by rw [HZL.out]; exact HN.out.2) HZB.out hC hc
          rw [HZL.out, ← hkey, HMAY.out i hi, hkey] at h_; exact h_
        have hread : ∀ W A c, Kd.C (Kd.int .u8) W A (h :: Z).length (h :: Z) → (h :: Z).length ≤ c → Calls Try.prog 20 #[.slice A (h :: Z).length c] W fun e w' => ∃ g b, e = .returned (.tuple #[ptr g, .int .i64 0]) ∧ Flt w' g b h Z ∧ Below W.heap.size W w' := fun W A c hC hc =>
          (read_ok A c (h :: Z) W hC hc (isB_cons HZB.out HH.out.1 HH.out.2) (okRead_cons HZL.out HN.out.1 HN.out.2 HH.out.1 HH.out.2)).mono fun e w' ⟨g, b, a1, a2, a3, _, _⟩ => ⟨g, b, a1, a2, a3⟩
        have M1 := Aside0.mk may1
        have RD := Aside0.mk hread
        have WR := Aside0.mk (fun W (hF : Flt W g b h Z) => write_read g b h Z W hF HH.out.1 (by have := HH.out.2; omega) (by rw [HZL.out]; exact HN.out.2))
        have HB5 := Aside0.mk HK5.out.be
        clear may1 hread hf1
        go_wp2_with (first
          | (go_at_call 20; refine (RD.out _ A9 c9 HC6.out HL6.out).mono ?_; rintro e w7 ⟨g2, b2, rfl, hF, hb⟩; have HB7 := Aside0.mk (HB6.out.trans (hb.mono HB6.out.size)); have HF7 := Aside0.mk (HF6.out.below hb); have HX7 := Aside0.mk hF; clear hb hF)
          | ((with_reducible refine gate_callee (f := 18) rfl ?_); refine goesL_ (some 42) rfl rfl Try.func18 (by kernel_rfl) rfl #[ptr g] rfl (by (try simp only [List.map_toArray, List.map_cons, List.map_nil]); first | done | rfl | (simp only [List.length_drop, List.length_take]; rfl)) ?_; refine (WR.out _ HF5.out).mono ?_; rintro e w6 ⟨A9, c9, rfl, hC, hc, hb⟩; have HB6 := Aside0.mk (HB5.out.trans (hb.mono HB5.out.size)); have HF6 := Aside0.mk (HF5.out.below hb); have HC6 := Aside0.mk hC; have HL6 := Aside0.mk hc; clear hb hC hc; refine ⟨_, rfl, ?_⟩))
        go_loopg [14] (l.length) (fun kq v14 w' => ∃ i : Nat, v14 = .int .i64 i ∧ Aside0 (i ≤ l.length ∧ kq = l.length - i) ∧ Aside0 (Flt w' g b h Z ∧ Flt w' g2 b2 h Z ∧ Below w.heap.size w w'))
        case atStart => exact ⟨0, rfl, ⟨Nat.zero_le _, rfl⟩, ⟨HF7.out, HX7.out, HB7.out⟩⟩
        case round =>
          clear d1 d1b
          obtain ⟨j, rfl, hjk, HJ⟩ := hrel
          by_cases hlt : j < l.length
          · obtain ⟨ad, A, c, key, eA, hkey, hcell, hlc, hck⟩ := key_at (rows_below HR2.out HJ.out.2.2) hlt
            cases eA
            have d1 : decide ((j : Int) < (l.length : Int)) = true := decide_eq_true (by omega)
            have d1b : decide (j < l.length) = true := decide_eq_true hlt
            have i1 : (0 ≤ (j : Int)) = True := eq_true (by omega)
            have i2 : ((j : Int) < (l.length : Int)) = True := eq_true (by omega)
            have i3 : (j < l.length) = True := eq_true hlt
            have w1 : wrap64 ((j : Int) + 1) = ((j + 1 : Nat) : Int) := by have := HLL.out; unfold wrap64; omega
            have HLT := Aside0.mk hlt
            have HCK := Aside0.mk hck
            have HLC := Aside0.mk hlc
            have HKEY := Aside0.mk hkey
            have HCELL := Aside0.mk (show ∀ W, Below wr.heap.size wr W → W.cell? (ad.add j) = some (.slice A key.length c) from fun W hb => (World.cell?_of_block (hb.block _ (block_of_cell hcell))).trans hcell)
            clear hlt hck hlc hkey
            go_wp2_with (first
              | (go_at_call 14; refine (M1.out g2 b2 _ A c j HLT.out HX8.out key HKEY.out (Kd.C_below HCK.out HB8.out) HLC.out).mono ?_; rintro e w9 ⟨rfl, hb⟩; have HB9 := Aside0.mk (HB8.out.trans (hb.mono HB8.out.size)); have HF9 := Aside0.mk (HF8.out.below hb); have HX9 := Aside0.mk (HX8.out.below hb); clear hb)
              | ((with_reducible refine gate_callee (f := 14) rfl ?_); refine goesL_ (some 67) rfl rfl Try.func14 (by kernel_rfl) rfl #[ptr g, .slice A key.length c] rfl (by (try simp only [List.map_toArray, List.map_cons, List.map_nil]); first | done | rfl | (simp only [List.length_drop, List.length_take]; rfl)) ?_; refine (M1.out g b _ A c j HLT.out HJ.out.1 key HKEY.out HCK.out HLC.out).mono ?_; rintro e w8 ⟨rfl, hb⟩; have HB8 := Aside0.mk hb; have HF8 := Aside0.mk (HJ.out.1.below hb); have HX8 := Aside0.mk (HJ.out.2.1.below hb); have hcell8 := HCELL.out _ hb; clear hb; refine ⟨_, rfl, ?_⟩))
            go_roundg (l.length - (j + 1))
            case measure => have := hjk.out.2; have := HLT.out; omega
            case rel => exact ⟨j + 1, by rw [w1], ⟨HLT.out, rfl⟩, ⟨HF9.out, HX9.out, HJ.out.2.2.trans (HB9.out.mono HJ.out.2.2.size)⟩⟩
          · have d1 : decide ((j : Int) < (l.length : Int)) = false := decide_eq_false (by omega)
            have d1b : decide (j < l.length) = false := decide_eq_false hlt
            clear hlt
            go_wp2_with (first
              | ((with_reducible refine gate_callee (f := 12) rfl ?_); refine goesL_ (some 78) rfl rfl Try.func12 (by kernel_rfl) rfl #[] rfl (by (try simp only [List.map_toArray, List.map_cons, List.map_nil]); first | done | rfl | (simp only [List.length_drop, List.length_take]; rfl)) ?_; refine (alive_calls _).mono ?_; rintro e wb ⟨rfl, hb⟩; have HBB := Aside0.mk hb; clear hb; refine ⟨_, rfl, ?_⟩))
            go_ret
            exact ⟨rfl, HJ.out.2.2.trans (HBB.out.mono HJ.out.2.2.size)⟩

end Go.Proofs.Ytliafeandefocaa.P
