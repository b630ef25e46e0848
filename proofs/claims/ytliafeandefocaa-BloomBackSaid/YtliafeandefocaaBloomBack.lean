/- BloomBack's walk. No conditions. -/
import Derived.Test.YtliafeandefocaaBloomS
namespace Go.Proofs.Ytliafeandefocaa.P
open Go.RowKit Go.Proofs.YtliafeandefocaaW.PrintWords Go.Proofs.YtliafeandefocaaW.PrintLast Go.Proofs.YtliafeandefocaaW.PrintMore
set_option linter.unusedVariables false
set_option linter.unusedSimpArgs false

set_option maxHeartbeats 2000000 in
set_option maxRecDepth 100000 in
theorem back_walk (A0 : Option Addr) (c0 : Nat) (l : List Int) (n8 h : Int) (A3 : Option Addr) (c3 : Nat) (k : List Int) (w : World) (hr0 : Kd.C (Kd.int .u8) w A0 l.length l) (hc0 : l.length ≤ c0) (hB0 : IsB l) (hi1 : (Lit.int .i64 n8).wf = true) (hi2 : (Lit.int .i64 h).wf = true)
    (hr3 : Kd.C (Kd.int .u8) w A3 k.length k) (hc3 : k.length ≤ c3) (hB3 : IsB k) :
    Calls Try.prog 9 #[.slice A0 l.length c0, .int .i64 n8, .int .i64 h, .slice A3 k.length c3] w fun e w' => e = .returned (.bool true) ∧ Below w.heap.size w w' := by
  have HR0 := Aside0.mk hr0
  have HC0 := Aside0.mk hc0
  have HBY := Aside0.mk hB0
  have HR3 := Aside0.mk hr3
  have HC3 := Aside0.mk hc3
  clear hr0 hc0 hB0 hr3 hc3 hB3 hi1 hi2
  by_cases hl3 : 9000 < l.length
  · have d3 : decide (9000 < (l.length : Int)) = true := decide_eq_true (by omega)
    have d3b : decide (9000 < l.length) = true := decide_eq_true hl3
    clear hl3
    go_enter Try.func9, Try.ntmps9
    go_wp2_with (first
      | ((with_reducible refine gate_callee (f := 12) rfl ?_); refine goesL_ (some 23) rfl rfl Try.func12 (by kernel_rfl) rfl #[] rfl (by (try simp only [List.map_toArray, List.map_cons, List.map_nil]); first | done | rfl | (simp only [List.length_drop, List.length_take]; rfl)) ?_; refine (alive_calls _).mono ?_; rintro e wa ⟨rfl, hb⟩; have HBA := Aside0.mk hb; clear hb; refine ⟨_, rfl, ?_⟩))
    go_ret
    exact ⟨rfl, HBA.out⟩
  have d3 : decide (9000 < (l.length : Int)) = false := decide_eq_false (by omega)
  have d3b : decide (9000 < l.length) = false := decide_eq_false hl3
  by_cases hl4 : 300 < k.length
  · have d4 : decide (300 < (k.length : Int)) = true := decide_eq_true (by omega)
    have d4b : decide (300 < k.length) = true := decide_eq_true hl4
    clear hl3 hl4
    go_enter Try.func9, Try.ntmps9
    go_wp2_with (first
      | ((with_reducible refine gate_callee (f := 12) rfl ?_); refine goesL_ (some 23) rfl rfl Try.func12 (by kernel_rfl) rfl #[] rfl (by (try simp only [List.map_toArray, List.map_cons, List.map_nil]); first | done | rfl | (simp only [List.length_drop, List.length_take]; rfl)) ?_; refine (alive_calls _).mono ?_; rintro e wa ⟨rfl, hb⟩; have HBA := Aside0.mk hb; clear hb; refine ⟨_, rfl, ?_⟩))
    go_ret
    exact ⟨rfl, HBA.out⟩
  have d4 : decide (300 < (k.length : Int)) = false := decide_eq_false (by omega)
  have d4b : decide (300 < k.length) = false := decide_eq_false hl4
  clear hl3 hl4
  by_cases hok : okRead l
  · have HOK := Aside0.mk hok
    have e0 : l.getD 0 0 :: l.drop 1 = l := by
      obtain ⟨k1, _⟩ := hok
      cases l with
      | nil => simp at k1
      | cons a l => rfl
    have hw : ∀ g b W, Flt W g b (l.getD 0 0) (l.drop 1) → Calls Try.prog 18 #[ptr g] W fun e w' => ∃ A c, e = .returned (.tuple #[.slice A l.length c, .int .i64 0]) ∧ Kd.C (Kd.int .u8) w' A l.length l ∧ Below W.heap.size W w' := fun g b W hF => by
      obtain ⟨k1, k2, k3, k4⟩ := hok
      have h_ := write_read g b _ _ W hF k3 (by omega) (by rw [List.length_drop]; omega)
      rw [e0] at h_
      exact h_.mono fun e w' ⟨A, c, a1, a2, a3, a4⟩ => ⟨A, c, a1, a2, a4⟩
    have HW := Aside0.mk hw
    clear hok e0 hw
    by_cases hk : okNew n8 h
    · have HK := Aside0.mk hk
      have hnew := fun W => new_made n8 h W HK.out
      have hmay : ∀ g b W, Flt W g b h (List.replicate (n8 / 8).toNat 0) → Kd.C (Kd.int .u8) W A3 k.length k → Calls Try.prog 14 #[ptr g, .slice A3 k.length c3] W fun e w' => e = .returned (.bool false) ∧ Below W.heap.size W w' := fun g b W hF hC => by
        obtain ⟨k1, k2, k3, k4, k5⟩ := hk
        have h_ := may_calls g b h _ A3 c3 k W hF k4 (by omega) (by rw [List.length_replicate]; omega) (by rw [List.length_replicate]; omega) (zeros_bytes _) hC HC3.out
        rw [List.length_replicate, may_fresh _ h k4] at h_
        exact h_
      have HNEW := Aside0.mk hnew
      have MAYF := Aside0.mk hmay
      clear hk hnew hmay
      go_enter Try.func9, Try.ntmps9
      go_wp2_with (first
        | (go_at_call 14; refine (MAYF.out g4 b4 _ HF5.out (Kd.C_below HR3.out HB5.out)).mono ?_; rintro e w6 ⟨rfl, hb⟩; have HB6 := Aside0.mk (HB5.out.trans (hb.mono HB5.out.size)); clear hb)
        | ((with_reducible refine gate_callee (f := 12) rfl ?_); refine goesL_ (some 51) rfl rfl Try.func12 (by kernel_rfl) rfl #[] rfl (by (try simp only [List.map_toArray, List.map_cons, List.map_nil]); first | done | rfl | (simp only [List.length_drop, List.length_take]; rfl)) ?_; refine (alive_calls _).mono ?_; rintro e w5 ⟨rfl, hb⟩; have HB5 := Aside0.mk (HB4.out.trans (hb.mono HB4.out.size)); have HF5 := Aside0.mk (HF4.out.below hb); clear hb; refine ⟨_, rfl, ?_⟩)
        | ((with_reducible refine gate_callee (f := 10) rfl ?_); refine goesL_ (some 48) rfl rfl Try.func10 (by kernel_rfl) rfl #[.int .i64 n8, .int .i64 h] rfl (by (try simp only [List.map_toArray, List.map_cons, List.map_nil]); first | done | rfl | (simp only [List.length_drop, List.length_take]; rfl)) ?_; refine (HNEW.out _).mono ?_; rintro e w4 ⟨g4, b4, rfl, hF, hb, hg1, hg2⟩; have HB4 := Aside0.mk (HB3.out.trans (hb.mono HB3.out.size)); have HF4 := Aside0.mk hF; clear hF hb hg1 hg2; refine ⟨_, rfl, ?_⟩)
        | ((with_reducible refine gate_callee (f := 18) rfl ?_); refine goesL_ (some 33) rfl rfl Try.func18 (by kernel_rfl) rfl #[ptr g] rfl (by (try simp only [List.map_toArray, List.map_cons, List.map_nil]); first | done | rfl | (simp only [List.length_drop, List.length_take]; rfl)) ?_; refine (HW.out g b _ HF1.out).mono ?_; rintro e w3 ⟨A9, c9, rfl, hC9, hb⟩; have hb3 := HB1.out.trans (hb.mono HB1.out.size); have HB3 := Aside0.mk hb3; have hs1 := str_of (c := c9) hC9; have hs2 := str_of (c := c0) (Kd.C_below HR0.out hb3); clear hb hC9 hb3; refine ⟨_, rfl, ?_⟩)
        | ((with_reducible refine gate_callee (f := 20) rfl ?_); refine goesL_ (some 26) rfl rfl Try.func20 (by kernel_rfl) rfl #[.slice A0 l.length c0] rfl (by (try simp only [List.map_toArray, List.map_cons, List.map_nil]); first | done | rfl | (simp only [List.length_drop, List.length_take]; rfl)) ?_; refine (read_ok A0 c0 l _ HR0.out HC0.out HBY.out HOK.out).mono ?_; rintro e w1 ⟨g, b, rfl, hF, hb, hg1, hg2⟩; have HB1 := Aside0.mk hb; have HF1 := Aside0.mk hF; clear hF hb hg1 hg2; refine ⟨_, rfl, ?_⟩))
      go_ret
      exact ⟨rfl, HB6.out⟩
    · have HK := Aside0.mk hk
      clear hk
      go_enter Try.func9, Try.ntmps9
      go_wp2_with (first
        | ((with_reducible refine gate_callee (f := 12) rfl ?_); refine goesL_ (some 51) rfl rfl Try.func12 (by kernel_rfl) rfl #[] rfl (by (try simp only [List.map_toArray, List.map_cons, List.map_nil]); first | done | rfl | (simp only [List.length_drop, List.length_take]; rfl)) ?_; refine (alive_calls _).mono ?_; rintro e w5 ⟨rfl, hb⟩; have HB5 := Aside0.mk (HB4.out.trans (hb.mono HB4.out.size)); clear hb; refine ⟨_, rfl, ?_⟩)
        | ((with_reducible refine gate_callee (f := 10) rfl ?_); refine goesL_ (some 48) rfl rfl Try.func10 (by kernel_rfl) rfl #[.int .i64 n8, .int .i64 h] rfl (by (try simp only [List.map_toArray, List.map_cons, List.map_nil]); first | done | rfl | (simp only [List.length_drop, List.length_take]; rfl)) ?_; refine (new_bad n8 h _ HK.out).mono ?_; rintro e w4 ⟨rfl, hd⟩; have HB4 := Aside0.mk (HB3.out.trans (hd.below.mono HB3.out.size)); clear hd; refine ⟨_, rfl, ?_⟩)
        | ((with_reducible refine gate_callee (f := 18) rfl ?_); refine goesL_ (some 33) rfl rfl Try.func18 (by kernel_rfl) rfl #[ptr g] rfl (by (try simp only [List.map_toArray, List.map_cons, List.map_nil]); first | done | rfl | (simp only [List.length_drop, List.length_take]; rfl)) ?_; refine (HW.out g b _ HF1.out).mono ?_; rintro e w3 ⟨A9, c9, rfl, hC9, hb⟩; have hb3 := HB1.out.trans (hb.mono HB1.out.size); have HB3 := Aside0.mk hb3; have hs1 := str_of (c := c9) hC9; have hs2 := str_of (c := c0) (Kd.C_below HR0.out hb3); clear hb hC9 hb3; refine ⟨_, rfl, ?_⟩)
        | ((with_reducible refine gate_callee (f := 20) rfl ?_); refine goesL_ (some 26) rfl rfl Try.func20 (by kernel_rfl) rfl #[.slice A0 l.length c0] rfl (by (try simp only [List.map_toArray, List.map_cons, List.map_nil]); first | done | rfl | (simp only [List.length_drop, List.length_take]; rfl)) ?_; refine (read_ok A0 c0 l _ HR0.out HC0.out HBY.out HOK.out).mono ?_; rintro e w1 ⟨g, b, rfl, hF, hb, hg1, hg2⟩; have HB1 := Aside0.mk hb; have HF1 := Aside0.mk hF; clear hF hb hg1 hg2; refine ⟨_, rfl, ?_⟩))
      go_ret
      exact ⟨rfl, HB5.out⟩
  · have HOK := Aside0.mk hok
    clear hok
    by_cases hk : okNew n8 h
    · have HK := Aside0.mk hk
      have hnew := fun W => new_made n8 h W HK.out
      have hmay : ∀ g b W, Flt W g b h (List.replicate (n8 / 8).toNat 0) → Kd.C (Kd.int .u8) W A3 k.length k → Calls Try.prog 14 #[ptr g, .slice A3 k.length c3] W fun e w' => e = .returned (.bool false) ∧ Below W.heap.size W w' := fun g b W hF hC => by
        obtain ⟨k1, k2, k3, k4, k5⟩ := hk
        have h_ := may_calls g b h _ A3 c3 k W hF k4 (by omega) (by rw [List.length_replicate]; omega) (by rw [List.length_replicate]; omega) (zeros_bytes _) hC HC3.out
        rw [List.length_replicate, may_fresh _ h k4] at h_
        exact h_
      have HNEW := Aside0.mk hnew
      have MAYF := Aside0.mk hmay
      clear hk hnew hmay
      go_enter Try.func9, Try.ntmps9
      go_wp2_with (first
        | (go_at_call 14; refine (MAYF.out g4 b4 _ HF5.out (Kd.C_below HR3.out HB5.out)).mono ?_; rintro e w6 ⟨rfl, hb⟩; have HB6 := Aside0.mk (HB5.out.trans (hb.mono HB5.out.size)); clear hb)
        | ((with_reducible refine gate_callee (f := 12) rfl ?_); refine goesL_ (some 51) rfl rfl Try.func12 (by kernel_rfl) rfl #[] rfl (by (try simp only [List.map_toArray, List.map_cons, List.map_nil]); first | done | rfl | (simp only [List.length_drop, List.length_take]; rfl)) ?_; refine (alive_calls _).mono ?_; rintro e w5 ⟨rfl, hb⟩; have HB5 := Aside0.mk (HB4.out.trans (hb.mono HB4.out.size)); have HF5 := Aside0.mk (HF4.out.below hb); clear hb; refine ⟨_, rfl, ?_⟩)
        | ((with_reducible refine gate_callee (f := 10) rfl ?_); refine goesL_ (some 48) rfl rfl Try.func10 (by kernel_rfl) rfl #[.int .i64 n8, .int .i64 h] rfl (by (try simp only [List.map_toArray, List.map_cons, List.map_nil]); first | done | rfl | (simp only [List.length_drop, List.length_take]; rfl)) ?_; refine (HNEW.out _).mono ?_; rintro e w4 ⟨g4, b4, rfl, hF, hb, hg1, hg2⟩; have HB4 := Aside0.mk (HB3.out.trans (hb.mono HB3.out.size)); have HF4 := Aside0.mk hF; clear hF hb hg1 hg2; refine ⟨_, rfl, ?_⟩)
        | ((with_reducible refine gate_callee (f := 20) rfl ?_); refine goesL_ (some 26) rfl rfl Try.func20 (by kernel_rfl) rfl #[.slice A0 l.length c0] rfl (by (try simp only [List.map_toArray, List.map_cons, List.map_nil]); first | done | rfl | (simp only [List.length_drop, List.length_take]; rfl)) ?_; refine (read_bad A0 c0 l _ HR0.out HC0.out HOK.out).mono ?_; rintro e w3 ⟨rfl, hd⟩; have HB3 := Aside0.mk hd.below; clear hd; refine ⟨_, rfl, ?_⟩))
      go_ret
      exact ⟨rfl, HB6.out⟩
    · have HK := Aside0.mk hk
      clear hk
      go_enter Try.func9, Try.ntmps9
      go_wp2_with (first
        | ((with_reducible refine gate_callee (f := 12) rfl ?_); refine goesL_ (some 51) rfl rfl Try.func12 (by kernel_rfl) rfl #[] rfl (by (try simp only [List.map_toArray, List.map_cons, List.map_nil]); first | done | rfl | (simp only [List.length_drop, List.length_take]; rfl)) ?_; refine (alive_calls _).mono ?_; rintro e w5 ⟨rfl, hb⟩; have HB5 := Aside0.mk (HB4.out.trans (hb.mono HB4.out.size)); clear hb; refine ⟨_, rfl, ?_⟩)
        | ((with_reducible refine gate_callee (f := 10) rfl ?_); refine goesL_ (some 48) rfl rfl Try.func10 (by kernel_rfl) rfl #[.int .i64 n8, .int .i64 h] rfl (by (try simp only [List.map_toArray, List.map_cons, List.map_nil]); first | done | rfl | (simp only [List.length_drop, List.length_take]; rfl)) ?_; refine (new_bad n8 h _ HK.out).mono ?_; rintro e w4 ⟨rfl, hd⟩; have HB4 := Aside0.mk (HB3.out.trans (hd.below.mono HB3.out.size)); clear hd; refine ⟨_, rfl, ?_⟩)
        | ((with_reducible refine gate_callee (f := 20) rfl ?_); refine goesL_ (some 26) rfl rfl Try.func20 (by kernel_rfl) rfl #[.slice A0 l.length c0] rfl (by (try simp only [List.map_toArray, List.map_cons, List.map_nil]); first | done | rfl | (simp only [List.length_drop, List.length_take]; rfl)) ?_; refine (read_bad A0 c0 l _ HR0.out HC0.out HOK.out).mono ?_; rintro e w3 ⟨rfl, hd⟩; have HB3 := Aside0.mk hd.below; clear hd; refine ⟨_, rfl, ?_⟩))
      go_ret
      exact ⟨rfl, HB5.out⟩

end Go.Proofs.Ytliafeandefocaa.P
