/- The statements' 'alive'. No conditions. -/
import Derived.Test.YtliafeandefocaaBloomW
import Derived.Test.YtliafeandefocaaPbloomFit
import Derived.Test.YtliafeandefocaaPrickyardlaw07long
namespace Go.Proofs.Ytliafeandefocaa.P
open Go.RowKit Go.Proofs.YtliafeandefocaaW.PrintWords Go.Proofs.YtliafeandefocaaW.PrintLast Go.Proofs.YtliafeandefocaaW.PrintMore
set_option linter.unusedVariables false
set_option linter.unusedSimpArgs false

theorem new_made (n8 h : Int) (w : World) (hk : okNew n8 h) :
    Calls Try.prog 10 #[.int .i64 n8, .int .i64 h] w fun e w' => ∃ g b, e = .returned (.tuple #[ptr g, .int .i64 0]) ∧ Flt w' g b h (List.replicate (n8 / 8).toNat 0) ∧ Below w.heap.size w w' ∧ w.heap.size ≤ g ∧ w.heap.size ≤ b := by
  obtain ⟨h1, h2, h3, h4, h5⟩ := hk
  have e : n8 = 8 * ((n8 / 8).toNat : Int) := by omega
  have := new_ok (n8 / 8).toNat h w (by omega) (by omega) h4 h5
  rw [← e] at this
  exact this.mono fun e w' ⟨a1, a2, a3⟩ => ⟨_, _, a1, a2, a3, by omega, by omega⟩

/-- A literal of one byte, read. -/
theorem lit_read {W : World} (x : Int) (fr : Nat × Nat) : Kd.C (Kd.int .u8) (W.alloc (.cells #[.int .u8 x] 5 fr)) (some ⟨W.heap.size, 0, none⟩) 1 [x] := C_lit_u8 W [x] 5 fr (by simp)

theorem fit3 : bloom_Fit.f 3 = some (32, 6, 0) := by decide +kernel
theorem may_fresh (n : Nat) (h : Int) (hh : 1 ≤ h) (key : List Int) : mayS (List.replicate n 0) (plcK n h key) = false := may_zero (plcK_ne n h hh key)

set_option maxHeartbeats 2000000 in
set_option maxRecDepth 100000 in
theorem alive_calls (w : World) : Calls Try.prog 12 #[] w fun e w' => e = .returned (.bool true) ∧ Below w.heap.size w w' := by
  have hf := may_fresh 8 3 (by decide) [97]
  have ha : mayS (addS (List.replicate 8 0) (plcK 8 3 [97])) (plcK 8 3 [97]) = true := may_add_self (n := 8) (by simp) (plcK_fits 8 (by decide) 3 [97])
  have HFR := Aside0.mk hf
  have HAD := Aside0.mk ha
  clear hf ha
  have kc := fun (w : World) (C : Array Value) (n c : Nat) => Lib.run_convert_bytes_const (P := Try.prog) w 23 5 C n c Try.underlying23 Try.underlying5
  go_enter Try.func12, Try.ntmps12
  go_wp2_with (first
    | (go_at_call 14; refine (may_calls g b 3 (addS (List.replicate 8 0) (plcK 8 3 [97])) _ 1 [97] _ (HF5.out.below ((Below.refl _ w5).alloc (Nat.le_refl _) _)) (by decide) (by decide) (by rw [addS_length]; decide) (by rw [addS_length]; decide) (addS_bytes (zeros_bytes 8)) (lit_read 97 _) (Nat.le_refl _)).mono ?_; rintro e w6 ⟨he6, hb6⟩; rw [addS_length, show (List.replicate 8 (0 : Int)).length = 8 from rfl, HAD.out] at he6; subst he6; have HB6 := Aside0.mk ((HB5.out.alloc HB5.out.size _).trans (hb6.mono (Nat.le_trans HB5.out.size (by simp)))); clear hb6)
    | ((with_reducible refine gate_callee (f := 13) rfl ?_); refine goesL_ (some 40) rfl rfl Try.func13 (by kernel_rfl) rfl #[ptr g, .slice (some ⟨w4.heap.size, 0, none⟩) 1 1] rfl (by (try simp only [List.map_toArray, List.map_cons, List.map_nil]); first | done | rfl | (simp only [List.length_drop, List.length_take]; rfl)) ?_; refine (add_calls g b 3 (List.replicate 8 0) _ 1 [97] _ (HF4.out.below ((Below.refl _ w4).alloc (Nat.le_refl _) _)) (by decide) (by decide) (by decide) (by decide) (zeros_bytes 8) (lit_read 97 _) (Nat.le_refl _)).mono ?_; rintro e w5 ⟨rfl, hF5, hb5⟩; have HB5 := Aside0.mk ((HB4.out.alloc HB4.out.size _).grown hb5 (Nat.le_trans HB4.out.size (by simp)) (fun k hk => by cases hk; exact HG2.out)); have HF5 := Aside0.mk (show Flt w5 g b 3 (addS (List.replicate 8 0) (plcK 8 3 [97])) from hF5); clear hF5 hb5; refine ⟨_, rfl, ?_⟩)
    | ((with_reducible refine gate_callee (f := 22) rfl ?_); refine goesL_ (some 33) rfl rfl Try.func22 (by kernel_rfl) rfl #[.int .i64 3] rfl (by (try simp only [List.map_toArray, List.map_cons, List.map_nil]); first | done | rfl | (simp only [List.length_drop, List.length_take]; rfl)) ?_; refine (bloom_Fit.calls 3 _ _ _ _ fit3).mono ?_; rintro e w4 ⟨rfl, hd4⟩; have HB4 := Aside0.mk (HB3.out.trans (hd4.mono HB3.out.size)); have HF4 := Aside0.mk (HF3.out.below hd4); clear hd4; refine ⟨_, rfl, ?_⟩)
    | (go_at_call 14; refine (may_calls g b 3 (List.replicate 8 0) _ 1 [97] _ (HF2.out.below ((Below.refl _ w2).alloc (Nat.le_refl _) _)) (by decide) (by decide) (by decide) (by decide) (zeros_bytes 8) (lit_read 97 _) (Nat.le_refl _)).mono ?_; rintro e w3 ⟨he3, hb3⟩; rw [show (List.replicate 8 (0 : Int)).length = 8 from rfl, HFR.out] at he3; subst he3; have HB3 := Aside0.mk ((HB2.out.alloc HB2.out.size _).trans (hb3.mono (Nat.le_trans HB2.out.size (by simp)))); have HF3 := Aside0.mk ((HF2.out.below ((Below.refl _ w2).alloc (Nat.le_refl _) _)).below hb3); clear hb3)
    | ((with_reducible refine gate_callee (f := 10) rfl ?_); refine goesL_ (some 13) rfl rfl Try.func10 (by kernel_rfl) rfl #[.int .i64 7, .int .i64 3] rfl (by (try simp only [List.map_toArray, List.map_cons, List.map_nil]); first | done | rfl | (simp only [List.length_drop, List.length_take]; rfl)) ?_; refine (new_bad 7 3 _ (by unfold okNew; decide)).mono ?_; rintro e w2 ⟨rfl, hd2⟩; have HB2 := Aside0.mk (HB1.out.trans (hd2.below.mono HB1.out.size)); have HF2 := Aside0.mk (HF.out.below hd2.below); clear hd2; refine ⟨_, rfl, ?_⟩)
    | ((with_reducible refine gate_callee (f := 10) rfl ?_); refine goesL_ (some 9) rfl rfl Try.func10 (by kernel_rfl) rfl #[.int .i64 64, .int .i64 3] rfl (by (try simp only [List.map_toArray, List.map_cons, List.map_nil]); first | done | rfl | (simp only [List.length_drop, List.length_take]; rfl)) ?_; refine (new_made 64 3 _ (by unfold okNew; decide)).mono ?_; rintro e w1 ⟨g, b, rfl, hF1, hb1, hg1, hg2⟩; have HF := Aside0.mk (show Flt w1 g b 3 (List.replicate 8 0) from hF1); have HB1 := Aside0.mk hb1; have HG1 := Aside0.mk hg1; have HG2 := Aside0.mk hg2; clear hF1 hb1 hg1 hg2; refine ⟨_, rfl, ?_⟩))
  go_ret
  exact ⟨rfl, HB6.out⟩

end Go.Proofs.Ytliafeandefocaa.P
