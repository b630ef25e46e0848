/- The fixed calls of layer 9's laws come to true. No conditions. -/
import Derived.Test.YticddiiigfkamaaBkReadI
import Derived.Test.YticddiiigfkamaaBkRead
import Derived.Test.YticddiiigfkamaaBkWrite
import Derived.Lib.SmallJoins
namespace Go.Proofs.Yticddiiigfkamaa.P
open Go.RowKit Go.Proofs.YticddiiigfkamaaW.PrintWords Go.Proofs.YticddiiigfkamaaW.PrintLast Go.Proofs.YticddiiigfkamaaW.PrintMore
set_option linter.unusedVariables false
set_option linter.unusedSimpArgs false

def rickyardlaw09_alive.f : Option Bool := some true

theorem alive09_write : block_Write.f [⟨[97, 98], [1]⟩, ⟨[97, 99], []⟩] = some ([0, 2, 1, 97, 98, 1, 1, 1, 0, 99], 0) := by decide +kernel
theorem alive09_read : block_Read.f [0, 2] = some ([], 60) := by
  rw [read_f _ (by decide)]
  have : (rdAll (([0, 2] : List Int).length + 1) [0, 2] 0 [] []).2 = false := by decide +kernel
  rw [if_neg (by rw [this]; decide)]
theorem alive09_common : block_Common.f 3 [97, 98] [97, 99] = some 1 := by decide +kernel

/-- The world of the two pairs. -/
def al09 (w : World) : World := (((w.alloc (.cells #[.int .u8 97, .int .u8 98] 5 (2, 3))).alloc (.cells #[.int .u8 1] 5)).alloc (.cells #[.int .u8 97, .int .u8 99] 5 (2, 3))).alloc (.cells #[.slice (some ⟨w.heap.size, 0, none⟩) 2 2, .slice (some ⟨w.heap.size + 1, 0, none⟩) 1 1, .slice (some ⟨w.heap.size + 1 + 1, 0, none⟩) 2 2, .slice none 0 0] 39)
theorem al09_C (w : World) : Kd.C k39 (al09 w) (some ⟨w.heap.size + 1 + 1 + 1, 0, none⟩) 2 [⟨[97, 98], [1]⟩, ⟨[97, 99], []⟩] := by
  have b0 := C_lit_u8 w [97, 98] 5 (2, 3) (by decide)
  have b1 := C_lit_u8 (w.alloc (.cells #[.int .u8 97, .int .u8 98] 5 (2, 3))) [1] 5 (0, 0) (by decide)
  have b2 := C_lit_u8 ((w.alloc (.cells #[.int .u8 97, .int .u8 98] 5 (2, 3))).alloc (.cells #[.int .u8 1] 5)) [97, 99] 5 (2, 3) (by decide)
  rw [World.size_alloc] at b1
  rw [World.size_alloc, World.size_alloc] at b2
  have c0 : Kd.C (Kd.int .u8) (al09 w) (some ⟨w.heap.size, 0, none⟩) 2 [97, 98] := Kd.C_alloc (Kd.C_alloc (Kd.C_alloc b0 _) _) _
  have c1 : Kd.C (Kd.int .u8) (al09 w) (some ⟨w.heap.size + 1, 0, none⟩) 1 [1] := Kd.C_alloc (Kd.C_alloc b1 _) _
  have c2 : Kd.C (Kd.int .u8) (al09 w) (some ⟨w.heap.size + 1 + 1, 0, none⟩) 2 [97, 99] := Kd.C_alloc b2 _
  have hb : (al09 w).heap[w.heap.size + 1 + 1 + 1]? = some (.cells #[.slice (some ⟨w.heap.size, 0, none⟩) 2 2, .slice (some ⟨w.heap.size + 1, 0, none⟩) 1 1, .slice (some ⟨w.heap.size + 1 + 1, 0, none⟩) 2 2, .slice none 0 0] 39 (0, 0)) := by
    have h := heap_alloc_new (((w.alloc (.cells #[.int .u8 97, .int .u8 98] 5 (2, 3))).alloc (.cells #[.int .u8 1] 5)).alloc (.cells #[.int .u8 97, .int .u8 99] 5 (2, 3))) (.cells #[.slice (some ⟨w.heap.size, 0, none⟩) 2 2, .slice (some ⟨w.heap.size + 1, 0, none⟩) 1 1, .slice (some ⟨w.heap.size + 1 + 1, 0, none⟩) 2 2, .slice none 0 0] 39)
    rwa [World.size_alloc, World.size_alloc, World.size_alloc] at h
  refine ⟨rfl, by decide, fun _ => ⟨_, rfl, fun j p hj => ?_⟩⟩
  match j, hj with
  | 0, hj =>
    obtain rfl := Option.some.inj hj
    refine ⟨[.slice (some ⟨w.heap.size, 0, none⟩) 2 2, .slice (some ⟨w.heap.size + 1, 0, none⟩) 1 1], rfl, k39_mk (al09 w) ⟨[97, 98], [1]⟩ (by decide) c0 (by decide) c1, fun i u hu => ?_⟩
    match i, hu with
    | 0, hu => obtain rfl := Option.some.inj hu; exact (blk_cell hb 0).trans rfl
    | 1, hu => obtain rfl := Option.some.inj hu; exact (blk_cell hb 1).trans rfl
    | i + 2, hu => simp at hu
  | 1, hj =>
    obtain rfl := Option.some.inj hj
    refine ⟨[.slice (some ⟨w.heap.size + 1 + 1, 0, none⟩) 2 2, .slice none 0 0], rfl, k39_mk (al09 w) ⟨[97, 99], []⟩ (by decide) c2 (by decide) (Kd.C_nil _ _), fun i u hu => ?_⟩
    match i, hu with
    | 0, hu => obtain rfl := Option.some.inj hu; exact (blk_cell hb 2).trans rfl
    | 1, hu => obtain rfl := Option.some.inj hu; exact (blk_cell hb 3).trans rfl
    | i + 2, hu => simp at hu
  | j + 2, hj => simp at hj
set_option maxHeartbeats 1000000 in
set_option maxRecDepth 100000 in
theorem rickyardlaw09_alive.calls (r : Bool) (w : World) (h : rickyardlaw09_alive.f = some r) :
    Calls Try.prog 10 #[] w fun e w' => e = .returned (.bool r) ∧ Below w.heap.size w w' := by
  obtain rfl := Option.some.inj h
  have kc := fun (w : World) (C : Array Value) (n c : Nat) => Lib.run_convert_bytes_const (P := Try.prog) w 23 5 C n c Try.underlying23 Try.underlying5
  have kc2 := Joins.run_convert_bytes_const_at (P := Try.prog) ((w.alloc (.cells #[.int .u8 97, .int .u8 98] 5 (2, 3))).alloc (.cells #[.int .u8 1] 5)) 23 5 #[.int .u8 97, .int .u8 99] 2 2 (w.heap.size + 1 + 1) (by simp) Try.underlying23 Try.underlying5
  have hu := Try.underlying39
  have hse : (strOfNums [0, 2, 1, 97, 98, 1, 1, 1, 0, 99]).toList = ([0, 2, 1, 97, 98, 1, 1, 1, 0, 99] : List UInt8) := by rw [Go.Lib.strOfNums_toList]; decide +kernel
  go_enter Try.func10, Try.ntmps10
  go_wp2_with (first
    | ((with_reducible refine gate_callee (f := 11) rfl ?_); refine goesL_ (some 14) rfl rfl Try.func11 (by kernel_rfl) rfl #[.slice (some ⟨w.heap.size + 1 + 1 + 1, 0, none⟩) 2 2] rfl (by (try simp only [List.map_toArray, List.map_cons, List.map_nil]); first | done | rfl | (simp only [List.length_drop, List.length_take]; rfl)) ?_; refine (block_Write.calls (some ⟨w.heap.size + 1 + 1 + 1, 0, none⟩) 2 [⟨[97, 98], [1]⟩, ⟨[97, 99], []⟩] _ _ (al09 w) (al09_C w) (by decide) alive09_write).mono ?_; rintro e w1 ⟨v1, rfl, ho1, hb1⟩; refine ⟨_, rfl, ?_⟩; obtain ⟨A1, c1, e1⟩ := Kd.R_slice ho1; subst e1; have HB1 := Aside0.mk hb1; have HO1 := Aside0.mk ho1; clear ho1 hb1)
    | ((with_reducible refine gate_callee (f := 16) rfl ?_); refine goesL_ (some 19) rfl rfl Try.func16 (by kernel_rfl) rfl #[.slice (some ⟨w1.heap.size, 0, none⟩) 2 2] rfl (by (try simp only [List.map_toArray, List.map_cons, List.map_nil]); first | done | rfl | (simp only [List.length_drop, List.length_take]; rfl)) ?_; refine (block_Read.calls (some ⟨w1.heap.size, 0, none⟩) 2 [0, 2] _ _ _ ?s1 ?s2 alive09_read).mono ?_; (case s1 => exact C_lit_u8 w1 [0, 2] _ _ (by decide)); (case s2 => decide); rintro e w2 ⟨v2, rfl, ho2, hb2⟩; refine ⟨_, rfl, ?_⟩; obtain ⟨A2, c2, e2⟩ := Kd.S_slice ho2; subst e2; have hcv : (convert 23 9 (.slice A1 10 c1)).run Try.prog w2 = .ok (.string (strOfNums [0, 2, 1, 97, 98, 1, 1, 1, 0, 99])) w2 := own_string (P := Try.prog) Try.underlying23 Try.underlying5 Try.underlying9 (Kd.own_of_R (Kd.R_below (Kd.R_alloc HO1.out _) hb2)); have kc3 := Joins.run_convert_bytes_const_at (P := Try.prog) (w2.alloc (.cells #[.int .u8 97, .int .u8 98] 5 (2, 3))) 23 5 #[.int .u8 97, .int .u8 99] 2 2 (w2.heap.size + 1) (by simp) Try.underlying23 Try.underlying5; have HB2 := Aside0.mk hb2; clear ho2 hb2)
    | (go_at_call 14; refine (block_Common.calls 3 (some ⟨w2.heap.size, 0, none⟩) 2 [97, 98] (some ⟨w2.heap.size + 1, 0, none⟩) 2 [97, 99] _ _ ?s1 ?s2 ?s3 ?s4 alive09_common).mono ?_; (case s1 => exact Kd.C_alloc (C_lit_u8 w2 [97, 98] _ _ (by decide)) _); (case s2 => decide); (case s3 => (have h_ := C_lit_u8 (w2.alloc (.cells #[.int .u8 97, .int .u8 98] 5 (2, 3))) [97, 99] 5 (2, 3) (by decide); rw [World.size_alloc] at h_; exact h_)); (case s4 => decide); rintro e w4 ⟨rfl, hd⟩; obtain ⟨m4, hm4⟩ := hd.out; subst hm4))
  go_ret
  exact ⟨rfl, pw_below_drewN (below_alloc (below_alloc (below_step (below_alloc (below_step (below_alloc (below_alloc (below_alloc (below_alloc (Below.refl _ _) _) _) _) _) HB1.out) _) HB2.out) _) _) _⟩

end Go.Proofs.Yticddiiigfkamaa.P
