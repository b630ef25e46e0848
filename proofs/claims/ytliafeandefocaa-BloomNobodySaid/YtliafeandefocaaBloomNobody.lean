/- BloomNobody's walk. No conditions. -/
import Derived.Test.YtliafeandefocaaBloomL
namespace Go.Proofs.Ytliafeandefocaa.P
open Go.RowKit Go.Proofs.YtliafeandefocaaW.PrintWords Go.Proofs.YtliafeandefocaaW.PrintLast Go.Proofs.YtliafeandefocaaW.PrintMore
set_option linter.unusedVariables false
set_option linter.unusedSimpArgs false

set_option maxHeartbeats 2000000 in
set_option maxRecDepth 100000 in
theorem nobody_walk (A0 : Option Addr) (c0 : Nat) (k : List Int) (w : World) (hr : Kd.C (Kd.int .u8) w A0 k.length k) (hc0 : k.length ≤ c0) (hB : IsB k) :
    Calls Try.prog 5 #[.slice A0 k.length c0] w fun e w' => e = .returned (.bool true) ∧ Below w.heap.size w w' := by
  clear hr hc0
  by_cases hl : 1000 < k.length
  · have d1 : decide (1000 < (k.length : Int)) = true := decide_eq_true (by omega)
    have d2 : decide (1000 < k.length) = true := decide_eq_true hl
    clear hl
    go_enter Try.func5, Try.ntmps5
    go_wp2_with (first
      | ((with_reducible refine gate_callee (f := 12) rfl ?_); refine goesL_ (some 12) rfl rfl Try.func12 (by kernel_rfl) rfl #[] rfl (by (try simp only [List.map_toArray, List.map_cons, List.map_nil]); first | done | rfl | (simp only [List.length_drop, List.length_take]; rfl)) ?_; refine (alive_calls _).mono ?_; rintro e w1 ⟨rfl, hb⟩; have HB := Aside0.mk hb; clear hb; refine ⟨_, rfl, ?_⟩))
    go_ret
    exact ⟨rfl, HB.out⟩
  · have d1 : decide (1000 < (k.length : Int)) = false := decide_eq_false (by omega)
    have d2 : decide (1000 < k.length) = false := decide_eq_false hl
    clear hl
    have hz0 : Zero (w.alloc (.cells #[.slice none 0 0, .int .i64 0] 42)) w.heap.size := World.alloc_heap_new w _
    have hb0 : Below w.heap.size w (w.alloc (.cells #[.slice none 0 0, .int .i64 0] 42)) := (Below.refl _ w).alloc (Nat.le_refl _) _
    have HZ0 := Aside0.mk hz0
    have HB0 := Aside0.mk hb0
    clear hz0 hb0
    go_enter Try.func5, Try.ntmps5
    go_wp2_with (first
      | (go_at_call 13; refine (add_zero w.heap.size _ _ HZ6.out).mono ?_; rintro e w7 ⟨rfl, hb⟩; have HB7 := Aside0.mk (HB6.out.trans (hb.mono HB6.out.size)); clear hb)
      | (go_at_call 13; refine (add_nil _ _).mono ?_; rintro e w6 ⟨rfl, hb⟩; have HB6 := Aside0.mk (HB5.out.trans (hb.mono HB5.out.size)); have HZ6 := Aside0.mk (HZ5.out.below hb); clear hb)
      | (go_at_call 14; refine (may_zero_calls w.heap.size _ _ HZ4.out).mono ?_; rintro e w5 ⟨rfl, hb⟩; have HB5 := Aside0.mk (HB4.out.trans (hb.mono HB4.out.size)); have HZ5 := Aside0.mk (HZ4.out.below hb); clear hb)
      | (go_at_call 14; refine (may_nil _ _).mono ?_; rintro e w4 ⟨rfl, hb⟩; have HB4 := Aside0.mk (HB3.out.trans (hb.mono HB3.out.size)); have HZ4 := Aside0.mk (HZ3.out.below hb); clear hb)
      | ((with_reducible refine gate_callee (f := 12) rfl ?_); refine goesL_ (some 22) rfl rfl Try.func12 (by kernel_rfl) rfl #[] rfl (by (try simp only [List.map_toArray, List.map_cons, List.map_nil]); first | done | rfl | (simp only [List.length_drop, List.length_take]; rfl)) ?_; refine (alive_calls _).mono ?_; rintro e w3 ⟨rfl, hb⟩; have HB3 := Aside0.mk (HB2.out.trans (hb.mono HB2.out.size)); have HZ3 := Aside0.mk (HZ2.out.below hb); clear hb; refine ⟨_, rfl, ?_⟩)
      | ((with_reducible refine gate_callee (f := 18) rfl ?_); refine goesL_ (some 19) rfl rfl Try.func18 (by kernel_rfl) rfl #[ptr w.heap.size] rfl (by (try simp only [List.map_toArray, List.map_cons, List.map_nil]); first | done | rfl | (simp only [List.length_drop, List.length_take]; rfl)) ?_; refine (write_zero w.heap.size _ HZ1.out).mono ?_; rintro e w2 ⟨rfl, hd⟩; have HB2 := Aside0.mk (HB1.out.trans (hd.below.mono HB1.out.size)); have HZ2 := Aside0.mk (HZ1.out.below hd.below); clear hd; refine ⟨_, rfl, ?_⟩)
      | ((with_reducible refine gate_callee (f := 18) rfl ?_); refine goesL_ (some 15) rfl rfl Try.func18 (by kernel_rfl) rfl #[.pointer none] rfl (by (try simp only [List.map_toArray, List.map_cons, List.map_nil]); first | done | rfl | (simp only [List.length_drop, List.length_take]; rfl)) ?_; refine (write_nil _).mono ?_; rintro e w1 ⟨rfl, hd⟩; have HB1 := Aside0.mk (HB0.out.trans (hd.below.mono HB0.out.size)); have HZ1 := Aside0.mk (HZ0.out.below hd.below); clear hd; refine ⟨_, rfl, ?_⟩))
    go_ret
    exact ⟨rfl, HB7.out⟩

end Go.Proofs.Ytliafeandefocaa.P
