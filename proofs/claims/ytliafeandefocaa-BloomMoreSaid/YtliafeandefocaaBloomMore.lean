/- BloomMore's walk. No conditions. -/
import Derived.Test.YtliafeandefocaaBloomS
namespace Go.Proofs.Ytliafeandefocaa.P
open Go.RowKit Go.Proofs.YtliafeandefocaaW.PrintWords Go.Proofs.YtliafeandefocaaW.PrintLast Go.Proofs.YtliafeandefocaaW.PrintMore
set_option linter.unusedVariables false
set_option linter.unusedSimpArgs false

set_option maxHeartbeats 2000000 in
set_option maxRecDepth 100000 in
theorem more_walk (n8 h : Int) (A2 : Option Addr) (c2 : Nat) (l : List (List Int)) (A3 : Option Addr) (c3 : Nat) (k : List Int) (A4 : Option Addr) (c4 : Nat) (m : List Int) (w : World) (hi0 : (Lit.int .i64 n8).wf = true) (hi1 : (Lit.int .i64 h).wf = true)
    (hr2 : Kd.C (Kd.slice 5 (Kd.int .u8)) w A2 l.length l) (hc2 : l.length ≤ c2) (hB2 : ∀ m ∈ l, IsB m) (hr3 : Kd.C (Kd.int .u8) w A3 k.length k) (hc3 : k.length ≤ c3) (hB3 : IsB k) (hr4 : Kd.C (Kd.int .u8) w A4 m.length m) (hc4 : m.length ≤ c4) (hB4 : IsB m) :
    Calls Try.prog 3 #[.int .i64 n8, .int .i64 h, .slice A2 l.length c2, .slice A3 k.length c3, .slice A4 m.length c4] w fun e w' => e = .returned (.bool true) ∧ Below w.heap.size w w' := by
  have HR2 := Aside0.mk hr2
  have HC2 := Aside0.mk hc2
  have HR3 := Aside0.mk hr3
  have HC3 := Aside0.mk hc3
  have HR4 := Aside0.mk hr4
  have HC4 := Aside0.mk hc4
  obtain ⟨r, hrl, hlong⟩ := long_calls A2 c2 l
  have HLONG := Aside0.mk hlong
  clear hr2 hc2 hB2 hr3 hc3 hB3 hr4 hc4 hB4 hlong hi0 hi1
  by_cases hk : okNew n8 h
  case neg =>
    have HK := Aside0.mk hk
    clear hk
    go_enter Try.func3, Try.ntmps3
    go_wp2_with (first
      | ((with_reducible refine gate_callee (f := 12) rfl ?_); refine goesL_ (some 37) rfl rfl Try.func12 (by kernel_rfl) rfl #[] rfl (by (try simp only [List.map_toArray, List.map_cons, List.map_nil]); first | done | rfl | (simp only [List.length_drop, List.length_take]; rfl)) ?_; refine (alive_calls _).mono ?_; rintro e wa ⟨rfl, hb⟩; have HBA := Aside0.mk hb; clear hb; refine ⟨_, rfl, ?_⟩)
      | ((with_reducible refine gate_callee (f := 10) rfl ?_); refine goesL_ (some 18) rfl rfl Try.func10 (by kernel_rfl) rfl #[.int .i64 n8, .int .i64 h] rfl (by (try simp only [List.map_toArray, List.map_cons, List.map_nil]); first | done | rfl | (simp only [List.length_drop, List.length_take]; rfl)) ?_; refine (new_bad n8 h _ HK.out).mono ?_; rintro e w1 ⟨rfl, hd⟩; have HB1 := Aside0.mk hd.below; clear hd; refine ⟨_, rfl, ?_⟩))
    go_ret
    exact ⟨rfl, HB1.out.trans (HBA.out.mono HB1.out.size)⟩
  have HK := Aside0.mk hk
  have hn := hk
  obtain ⟨k1, k2, k3, k4, k5⟩ := hn
  obtain ⟨n, hn⟩ : ∃ n : Nat, (n8 / 8).toNat = n := ⟨_, rfl⟩
  have HN := Aside0.mk (show 1 ≤ n ∧ n ≤ 8192 by omega)
  have HH := Aside0.mk (show 1 ≤ h ∧ h ≤ 8 from ⟨k4, k5⟩)
  have HNE := Aside0.mk hn
  clear hk k1 k2 k3 k4 k5 hn
  have hnew := fun W => new_made n8 h W HK.out
  rw [HNE.out] at hnew
  have HNEW := Aside0.mk hnew
  clear hnew
  cases r with
  | true =>
    go_enter Try.func3, Try.ntmps3
    go_wp2_with (first
      | ((with_reducible refine gate_callee (f := 12) rfl ?_); refine goesL_ (some 37) rfl rfl Try.func12 (by kernel_rfl) rfl #[] rfl (by (try simp only [List.map_toArray, List.map_cons, List.map_nil]); first | done | rfl | (simp only [List.length_drop, List.length_take]; rfl)) ?_; refine (alive_calls _).mono ?_; rintro e wa ⟨rfl, hb⟩; have HBA := Aside0.mk hb; clear hb; refine ⟨_, rfl, ?_⟩)
      | (go_at_call 11; refine (HLONG.out _ (rows_below HR2.out HB1.out) HC2.out).mono ?_; rintro e w2 ⟨rfl, hb⟩; have HB2 := Aside0.mk (HB1.out.trans (hb.mono HB1.out.size)); clear hb)
      | ((with_reducible refine gate_callee (f := 10) rfl ?_); refine goesL_ (some 18) rfl rfl Try.func10 (by kernel_rfl) rfl #[.int .i64 n8, .int .i64 h] rfl (by (try simp only [List.map_toArray, List.map_cons, List.map_nil]); first | done | rfl | (simp only [List.length_drop, List.length_take]; rfl)) ?_; refine (HNEW.out _).mono ?_; rintro e w1 ⟨g, b, rfl, hF, hb, hg1, hg2⟩; have HB1 := Aside0.mk hb; clear hF hb hg1 hg2; refine ⟨_, rfl, ?_⟩))
    go_ret
    exact ⟨rfl, HB2.out.trans (HBA.out.mono HB2.out.size)⟩
  | false =>
    by_cases hl3 : 300 < k.length
    · have d3 : decide (300 < (k.length : Int)) = true := decide_eq_true (by omega)
      have d3b : decide (300 < k.length) = true := decide_eq_true hl3
      clear hl3 hrl
      go_enter Try.func3, Try.ntmps3
      go_wp2_with (first
        | ((with_reducible refine gate_callee (f := 12) rfl ?_); refine goesL_ (some 37) rfl rfl Try.func12 (by kernel_rfl) rfl #[] rfl (by (try simp only [List.map_toArray, List.map_cons, List.map_nil]); first | done | rfl | (simp only [List.length_drop, List.length_take]; rfl)) ?_; refine (alive_calls _).mono ?_; rintro e wa ⟨rfl, hb⟩; have HBA := Aside0.mk hb; clear hb; refine ⟨_, rfl, ?_⟩)
        | (go_at_call 11; refine (HLONG.out _ (rows_below HR2.out HB1.out) HC2.out).mono ?_; rintro e w2 ⟨rfl, hb⟩; have HB2 := Aside0.mk (HB1.out.trans (hb.mono HB1.out.size)); clear hb)
        | ((with_reducible refine gate_callee (f := 10) rfl ?_); refine goesL_ (some 18) rfl rfl Try.func10 (by kernel_rfl) rfl #[.int .i64 n8, .int .i64 h] rfl (by (try simp only [List.map_toArray, List.map_cons, List.map_nil]); first | done | rfl | (simp only [List.length_drop, List.length_take]; rfl)) ?_; refine (HNEW.out _).mono ?_; rintro e w1 ⟨g, b, rfl, hF, hb, hg1, hg2⟩; have HB1 := Aside0.mk hb; clear hF hb hg1 hg2; refine ⟨_, rfl, ?_⟩))
      go_ret
      exact ⟨rfl, HB2.out.trans (HBA.out.mono HB2.out.size)⟩
    have d3 : decide (300 < (k.length : Int)) = false := decide_eq_false (by omega)
    have d3b : decide (300 < k.length) = false := decide_eq_false hl3
    by_cases hl4 : 300 < m.length
    · have d4 : decide (300 < (m.length : Int)) = true := decide_eq_true (by omega)
      have d4b : decide (300 < m.length) = true := decide_eq_true hl4
      clear hl3 hrl hl4
      go_enter Try.func3, Try.ntmps3
      go_wp2_with (first
        | ((with_reducible refine gate_callee (f := 12) rfl ?_); refine goesL_ (some 37) rfl rfl Try.func12 (by kernel_rfl) rfl #[] rfl (by (try simp only [List.map_toArray, List.map_cons, List.map_nil]); first | done | rfl | (simp only [List.length_drop, List.length_take]; rfl)) ?_; refine (alive_calls _).mono ?_; rintro e wa ⟨rfl, hb⟩; have HBA := Aside0.mk hb; clear hb; refine ⟨_, rfl, ?_⟩)
        | (go_at_call 11; refine (HLONG.out _ (rows_below HR2.out HB1.out) HC2.out).mono ?_; rintro e w2 ⟨rfl, hb⟩; have HB2 := Aside0.mk (HB1.out.trans (hb.mono HB1.out.size)); clear hb)
        | ((with_reducible refine gate_callee (f := 10) rfl ?_); refine goesL_ (some 18) rfl rfl Try.func10 (by kernel_rfl) rfl #[.int .i64 n8, .int .i64 h] rfl (by (try simp only [List.map_toArray, List.map_cons, List.map_nil]); first | done | rfl | (simp only [List.length_drop, List.length_take]; rfl)) ?_; refine (HNEW.out _).mono ?_; rintro e w1 ⟨g, b, rfl, hF, hb, hg1, hg2⟩; have HB1 := Aside0.mk hb; clear hF hb hg1 hg2; refine ⟨_, rfl, ?_⟩))
      go_ret
      exact ⟨rfl, HB2.out.trans (HBA.out.mono HB2.out.size)⟩
    have d4 : decide (300 < (m.length : Int)) = false := decide_eq_false (by omega)
    have d4b : decide (300 < m.length) = false := decide_eq_false hl4
    have HLL := Aside0.mk (hrl rfl).1
    clear hl3 hl4 hrl
    go_enter Try.func3, Try.ntmps3
    go_wp2_with (first
      | (go_at_call 11; refine (HLONG.out _ (rows_below HR2.out HK1.out.be) HC2.out).mono ?_; rintro e w2 ⟨rfl, hb⟩; have HK2 := Aside0.mk (HK1.out.below hb); clear hb)
      | ((with_reducible refine gate_callee (f := 10) rfl ?_); refine goesL_ (some 18) rfl rfl Try.func10 (by kernel_rfl) rfl #[.int .i64 n8, .int .i64 h] rfl (by (try simp only [List.map_toArray, List.map_cons, List.map_nil]); first | done | rfl | (simp only [List.length_drop, List.length_take]; rfl)) ?_; refine (HNEW.out _).mono ?_; rintro e w1 ⟨g, b, rfl, hF, hb, hg1, hg2⟩; have HK1 := Aside0.mk (show KeysI w g b n h l 0 w1 from ⟨hF, hb, hg1, hg2⟩); clear hF hb hg1 hg2; refine ⟨_, rfl, ?_⟩))
    go_loopg [13] (l.length) (fun kq v13 w' => ∃ i : Nat, v13 = .int .i64 i ∧ Aside0 (i ≤ l.length ∧ kq = l.length - i) ∧ Aside0 (KeysI w g b n h l i w'))
    case atStart => exact ⟨0, rfl, ⟨Nat.zero_le _, rfl⟩, HK2⟩
    case round =>
      obtain ⟨i, rfl, hik, HKI⟩ := hrel
      by_cases hlt : i < l.length
      · obtain ⟨ad, A, c, key, eA, hkey, hcell, hlc, hck⟩ := key_at (rows_below HR2.out HKI.out.be) hlt
        cases eA
        have d1 : decide ((i : Int) < (l.length : Int)) = true := decide_eq_true (by omega)
        have d1b : decide (i < l.length) = true := decide_eq_true hlt
        have i1 : (0 ≤ (i : Int)) = True := eq_true (by omega)
        have i2 : ((i : Int) < (l.length : Int)) = True := eq_true (by omega)
        have i3 : (i < l.length) = True := eq_true hlt
        have w1 : wrap64 ((i : Int) + 1) = ((i + 1 : Nat) : Int) := by have := HLL.out; unfold wrap64; omega
        have HLT := Aside0.mk hlt
        have HCK := Aside0.mk hck
        have HLC := Aside0.mk hlc
        have HKEY := Aside0.mk hkey
        clear hlt hck hlc hkey
        go_wp2_with (first
          | ((with_reducible refine gate_callee (f := 13) rfl ?_); refine goesL_ (some 49) rfl rfl Try.func13 (by kernel_rfl) rfl #[ptr g, .slice A key.length c] rfl (by (try simp only [List.map_toArray, List.map_cons, List.map_nil]); first | done | rfl | (simp only [List.length_drop, List.length_take]; rfl)) ?_; refine (keys_add HKI.out HH.out.1 HH.out.2 HN.out.1 HN.out.2 HLT.out HKEY.out HCK.out HLC.out).mono ?_; rintro e w4 ⟨rfl, hk4⟩; have HK4 := Aside0.mk hk4; clear hk4; refine ⟨_, rfl, ?_⟩))
        go_roundg (l.length - (i + 1))
        case measure => have := hik.out.2; have := HLT.out; omega
        case rel => exact ⟨i + 1, by rw [w1], ⟨HLT.out, rfl⟩, HK4⟩
      · have d1 : decide ((i : Int) < (l.length : Int)) = false := decide_eq_false (by omega)
        have d1b : decide (i < l.length) = false := decide_eq_false hlt
        have hlast : i = l.length := by have := hik.out.1; omega
        have hK0 := HKI.out
        rw [hlast] at hK0
        have HK5 := Aside0.mk hK0
        clear hlt hlast hK0
        obtain ⟨Z, hZ⟩ : ∃ Z, bitsAt n h l l.length = Z := ⟨_, rfl⟩
        have HZ := Aside0.mk hZ
        have hZl : Z.length = n := by rw [← hZ]; exact bitsAt_length n h l _
        have HZL := Aside0.mk hZl
        have HZB := Aside0.mk (show IsB Z by rw [← hZ]; exact bitsAt_bytes n h l _)
        clear hZ hZl
        obtain ⟨was, hwas⟩ : ∃ was, mayS Z (plcK n h k) = was := ⟨_, rfl⟩
        have hf1 := HK5.out.fl
        rw [HZ.out] at hf1
        have HF5 := Aside0.mk hf1
        have HWAS := Aside0.mk hwas
        have may1 : ∀ W, Flt W g b h Z → Kd.C (Kd.int .u8) W A3 k.length k → Calls Try.prog 14 #[ptr g, .slice A3 k.length c3] W fun e w' => e = .returned (.bool was) ∧ Below W.heap.size W w' := fun W hF hC => by
          have h_ := may_calls g b h Z A3 c3 k W hF HH.out.1 (by have := HH.out.2; omega) (by rw [HZL.out]; exact HN.out.1) (by rw [HZL.out]; exact HN.out.2) HZB.out hC HC3.out
          rw [HZL.out, HWAS.out] at h_; exact h_
        have may2 : was = true → ∀ W, Flt W g b h (addS Z (plcK n h m)) → Kd.C (Kd.int .u8) W A3 k.length k → Calls Try.prog 14 #[ptr g, .slice A3 k.length c3] W fun e w' => e = .returned (.bool true) ∧ Below W.heap.size W w' := fun hw W hF hC => by
          have h_ := may_calls g b h _ A3 c3 k W hF HH.out.1 (by have := HH.out.2; omega) (by rw [addS_length, HZL.out]; exact HN.out.1) (by rw [addS_length, HZL.out]; exact HN.out.2) (addS_bytes HZB.out) hC HC3.out
          rw [addS_length, HZL.out, may_add HZL.out (plcK_fits n HN.out.1 h m) (plcK_fits n HN.out.1 h k) (HWAS.out.trans hw)] at h_; exact h_
        have may3 : ∀ W, Flt W g b h (addS Z (plcK n h m)) → Kd.C (Kd.int .u8) W A4 m.length m → Calls Try.prog 14 #[ptr g, .slice A4 m.length c4] W fun e w' => e = .returned (.bool true) ∧ Below W.heap.size W w' := fun W hF hC => by
          have h_ := may_calls g b h _ A4 c4 m W hF HH.out.1 (by have := HH.out.2; omega) (by rw [addS_length, HZL.out]; exact HN.out.1) (by rw [addS_length, HZL.out]; exact HN.out.2) (addS_bytes HZB.out) hC HC4.out
          rw [addS_length, HZL.out, may_add_self HZL.out (plcK_fits n HN.out.1 h m)] at h_; exact h_
        have add1 : ∀ W, Flt W g b h Z → Kd.C (Kd.int .u8) W A4 m.length m → Calls Try.prog 13 #[ptr g, .slice A4 m.length c4] W fun e w' => e = .returned (.int .i64 0) ∧ Flt w' g b h (addS Z (plcK n h m)) ∧ W.grownBy w' (some b) := fun W hF hC => by
          have h_ := add_calls g b h Z A4 c4 m W hF HH.out.1 (by have := HH.out.2; omega) (by rw [HZL.out]; exact HN.out.1) (by rw [HZL.out]; exact HN.out.2) HZB.out hC HC4.out
          rw [HZL.out] at h_; exact h_
        have M1 := Aside0.mk may1
        have M2 := Aside0.mk may2
        have M3 := Aside0.mk may3
        have D1 := Aside0.mk add1
        have HB5 := Aside0.mk HK5.out.be
        have HBL := Aside0.mk HK5.out.bl
        clear may1 may2 may3 add1 hf1 hwas
        cases was with
        | false =>
          go_wp2_with (first
            | (go_at_call 14; refine (M3.out _ HF8.out (Kd.C_below HR4.out HB8.out)).mono ?_; rintro e w9 ⟨rfl, hb⟩; have HB9 := Aside0.mk (HB8.out.trans (hb.mono HB8.out.size)); clear hb)
            | ((with_reducible refine gate_callee (f := 12) rfl ?_); refine goesL_ (some 57) rfl rfl Try.func12 (by kernel_rfl) rfl #[] rfl (by (try simp only [List.map_toArray, List.map_cons, List.map_nil]); first | done | rfl | (simp only [List.length_drop, List.length_take]; rfl)) ?_; refine (alive_calls _).mono ?_; rintro e w8 ⟨rfl, hb⟩; have HB8 := Aside0.mk (HB7.out.trans (hb.mono HB7.out.size)); have HF8 := Aside0.mk (HF7.out.below hb); clear hb; refine ⟨_, rfl, ?_⟩)
            | ((with_reducible refine gate_callee (f := 13) rfl ?_); refine goesL_ (some 55) rfl rfl Try.func13 (by kernel_rfl) rfl #[ptr g, .slice A4 m.length c4] rfl (by (try simp only [List.map_toArray, List.map_cons, List.map_nil]); first | done | rfl | (simp only [List.length_drop, List.length_take]; rfl)) ?_; refine (D1.out _ HF6.out (Kd.C_below HR4.out HB6.out)).mono ?_; rintro e w7 ⟨rfl, hF7, hg⟩; have HF7 := Aside0.mk hF7; have HB7 := Aside0.mk (HB6.out.grown hg HB6.out.size (fun k hk => by cases hk; exact HBL.out)); clear hF7 hg; refine ⟨_, rfl, ?_⟩)
            | ((with_reducible refine gate_callee (f := 14) rfl ?_); refine goesL_ (some 52) rfl rfl Try.func14 (by kernel_rfl) rfl #[ptr g, .slice A3 k.length c3] rfl (by (try simp only [List.map_toArray, List.map_cons, List.map_nil]); first | done | rfl | (simp only [List.length_drop, List.length_take]; rfl)) ?_; refine (M1.out _ HF5.out (Kd.C_below HR3.out HB5.out)).mono ?_; rintro e w6 ⟨rfl, hb⟩; have HB6 := Aside0.mk (HB5.out.trans (hb.mono HB5.out.size)); have HF6 := Aside0.mk (HF5.out.below hb); clear hb; refine ⟨_, rfl, ?_⟩))
          go_ret
          exact ⟨rfl, HB9.out⟩
        | true =>
          go_wp2_with (first
            | (go_at_call 14; refine (M3.out _ HF9.out (Kd.C_below HR4.out HB9.out)).mono ?_; rintro e wT ⟨rfl, hb⟩; have HBT := Aside0.mk (HB9.out.trans (hb.mono HB9.out.size)); clear hb)
            | (go_at_call 14; refine (M2.out rfl _ HF8.out (Kd.C_below HR3.out HB8.out)).mono ?_; rintro e w9 ⟨rfl, hb⟩; have HB9 := Aside0.mk (HB8.out.trans (hb.mono HB8.out.size)); have HF9 := Aside0.mk (HF8.out.below hb); clear hb)
            | ((with_reducible refine gate_callee (f := 12) rfl ?_); refine goesL_ (some 57) rfl rfl Try.func12 (by kernel_rfl) rfl #[] rfl (by (try simp only [List.map_toArray, List.map_cons, List.map_nil]); first | done | rfl | (simp only [List.length_drop, List.length_take]; rfl)) ?_; refine (alive_calls _).mono ?_; rintro e w8 ⟨rfl, hb⟩; have HB8 := Aside0.mk (HB7.out.trans (hb.mono HB7.out.size)); have HF8 := Aside0.mk (HF7.out.below hb); clear hb; refine ⟨_, rfl, ?_⟩)
            | ((with_reducible refine gate_callee (f := 13) rfl ?_); refine goesL_ (some 55) rfl rfl Try.func13 (by kernel_rfl) rfl #[ptr g, .slice A4 m.length c4] rfl (by (try simp only [List.map_toArray, List.map_cons, List.map_nil]); first | done | rfl | (simp only [List.length_drop, List.length_take]; rfl)) ?_; refine (D1.out _ HF6.out (Kd.C_below HR4.out HB6.out)).mono ?_; rintro e w7 ⟨rfl, hF7, hg⟩; have HF7 := Aside0.mk hF7; have HB7 := Aside0.mk (HB6.out.grown hg HB6.out.size (fun k hk => by cases hk; exact HBL.out)); clear hF7 hg; refine ⟨_, rfl, ?_⟩)
            | ((with_reducible refine gate_callee (f := 14) rfl ?_); refine goesL_ (some 52) rfl rfl Try.func14 (by kernel_rfl) rfl #[ptr g, .slice A3 k.length c3] rfl (by (try simp only [List.map_toArray, List.map_cons, List.map_nil]); first | done | rfl | (simp only [List.length_drop, List.length_take]; rfl)) ?_; refine (M1.out _ HF5.out (Kd.C_below HR3.out HB5.out)).mono ?_; rintro e w6 ⟨rfl, hb⟩; have HB6 := Aside0.mk (HB5.out.trans (hb.mono HB5.out.size)); have HF6 := Aside0.mk (HF5.out.below hb); clear hb; refine ⟨_, rfl, ?_⟩))
          go_ret
          exact ⟨rfl, HBT.out⟩

end Go.Proofs.Ytliafeandefocaa.P
