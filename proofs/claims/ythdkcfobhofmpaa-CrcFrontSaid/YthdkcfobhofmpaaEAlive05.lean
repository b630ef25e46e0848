/- The fixed calls of layer 5's laws come to true. No conditions. -/
import Derived.Test.YthdkcfobhofmpaaBase
import Derived.Test.YthdkcfobhofmpaaPcrcFrame
import Derived.Test.YthdkcfobhofmpaaPcrcNext
import Derived.Test.YthdkcfobhofmpaaPcrcSum
namespace Go.Proofs.Ythdkcfobhofmpaa.P
open Go.RowKit Go.Proofs.YthdkcfobhofmpaaW.PrintWords Go.Proofs.YthdkcfobhofmpaaW.PrintLast Go.Proofs.YthdkcfobhofmpaaW.PrintMore
set_option linter.unusedVariables false
set_option linter.unusedSimpArgs false

def rickyardlaw05_alive.f : Option Bool := some true

theorem alive05_frame : crc_Frame.f [] = some ([0, 0, 0, 0, 199, 75, 103, 72], 0) := by decide +kernel
theorem alive05_next : crc_Next.f [] = some ([], 0, 10) := by decide +kernel
theorem alive05_sum : crc_Sum.f [49, 50, 51, 52, 53, 54, 55, 56, 57] = some 3808858755 := by decide +kernel

set_option maxHeartbeats 1000000 in
set_option maxRecDepth 100000 in
theorem rickyardlaw05_alive.calls (r : Bool) (w : World) (h : rickyardlaw05_alive.f = some r) :
    Calls Try.prog 10 #[] w fun e w' => e = .returned (.bool r) ∧ Below w.heap.size w w' := by
  obtain rfl := Option.some.inj h
  have kc := fun (w : World) (C : Array Value) (n c : Nat) => Lib.run_convert_bytes_const (P := Try.prog) w 22 5 C n c Try.underlying22 Try.underlying5
  go_enter Try.func10, Try.ntmps10
  go_wp2_with (first | ((with_reducible refine gate_callee (f := 16) rfl ?_); refine goesL_ (some 7) rfl rfl Try.func16 (by kernel_rfl) rfl #[.slice none 0 0] rfl (by (try simp only [List.map_toArray, List.map_cons, List.map_nil]); first | done | rfl | (simp only [List.length_drop, List.length_take]; rfl)) ?_; refine (crc_Frame.calls none 0 [] _ _ _ ?s1 ?s2 alive05_frame).mono ?_; (case s1 => exact Kd.C_nil _ _); (case s2 => exact Nat.le_refl _); rintro e w1 ⟨v1, rfl, ho1, hb1⟩; refine ⟨_, rfl, ?_⟩; obtain ⟨A1, c1, e1⟩ := Kd.R_slice ho1; subst e1; have HB1 := Aside0.mk hb1; clear ho1 hb1) | ((with_reducible refine gate_callee (f := 17) rfl ?_); refine goesL_ (some 11) rfl rfl Try.func17 (by kernel_rfl) rfl #[.slice none 0 0] rfl (by (try simp only [List.map_toArray, List.map_cons, List.map_nil]); first | done | rfl | (simp only [List.length_drop, List.length_take]; rfl)) ?_; refine (crc_Next.calls none 0 [] _ _ _ _ ?s1 ?s2 alive05_next).mono ?_; (case s1 => exact Kd.C_nil _ _); (case s2 => exact Nat.le_refl _); rintro e w2 ⟨v2, rfl, ho2, hb2⟩; refine ⟨_, rfl, ?_⟩; have HB2 := Aside0.mk hb2; clear ho2 hb2) | ((with_reducible refine gate_callee (f := 11) rfl ?_); refine goesL_ (some 17) rfl rfl Try.func11 (by kernel_rfl) rfl #[.slice (some ⟨w2.heap.size, 0, none⟩) 9 9] rfl (by (try simp only [List.map_toArray, List.map_cons, List.map_nil]); first | done | rfl | (simp only [List.length_drop, List.length_take]; rfl)) ?_; refine (crc_Sum.calls (some ⟨w2.heap.size, 0, none⟩) 9 [49, 50, 51, 52, 53, 54, 55, 56, 57] _ _ ?s1 ?s2 alive05_sum).mono ?_; (case s1 => exact C_lit_u8 w2 [49, 50, 51, 52, 53, 54, 55, 56, 57] _ _ (by decide)); (case s2 => decide); rintro e w3 ⟨rfl, ⟨n3, rfl⟩⟩; refine ⟨_, rfl, ?_⟩))
  go_ret
  exact ⟨rfl, pw_below_drewN (below_alloc (below_step HB1.out HB2.out) _) _⟩

end Go.Proofs.Ythdkcfobhofmpaa.P
