/- bloom.New and a key's places: their contracts. No conditions. -/
import Derived.Test.YtliafeandefocaaBloomH
import Derived.RangeFuncBox
namespace Go.Proofs.Ytliafeandefocaa.P
open Go.RowKit Go.Proofs.YtliafeandefocaaW.PrintWords Go.Proofs.YtliafeandefocaaW.PrintLast Go.Proofs.YtliafeandefocaaW.PrintMore
set_option linter.unusedVariables false
set_option linter.unusedSimpArgs false

theorem new_ok (n : Nat) (h : Int) (w : World) (hn : 1 ≤ n) (hn2 : n ≤ 8192) (h1 : 1 ≤ h) (h2 : h ≤ 8) :
    Calls Try.prog 10 #[.int .i64 (8 * n), .int .i64 h] w fun e w' => e = .returned (.tuple #[ptr (w.heap.size + 1), .int .i64 0]) ∧ Flt w' (w.heap.size + 1) w.heap.size h (List.replicate n 0) ∧ Below w.heap.size w w' := by
  have d1 : decide ((8 * n : Int) < 8) = false := decide_eq_false (by omega)
  have d2 : decide (65536 < (8 * n : Int)) = false := decide_eq_false (by omega)
  have d3 : Int.tmod (8 * n) 8 = 0 := by rw [Int.tmod_eq_emod_of_nonneg (by omega)]; omega
  have d4 : decide (h < 1) = false := decide_eq_false (by omega)
  have d5 : decide (8 < h) = false := decide_eq_false (by omega)
  have d6 : Int.tdiv (8 * n) 8 = n := by rw [Int.tdiv_eq_ediv_of_nonneg (by omega)]; omega
  have d7 : IntKind.i64.wrap (n : Int) = n := by rw [IntKind.wrap_i64]; omega
  go_enter Try.func10, Try.ntmps10
  go_wp2_with (first | ((with_reducible refine gate_dst (N := 27) rfl ?_); refine wpList_make rfl rfl 23 5 _ _ rfl n rfl rfl Try.underlying23 (.int .u8 0) 1 info5 rfl (by decide) (by omega) ?_))
  refine bodyPost_ret (results_tmp2 rfl _ _ _) rfl ?_
  refine ⟨by simp, ⟨?_, ?_⟩, ?_⟩
  · have := World.alloc_heap_new (w.alloc (.cells (List.replicate n (Value.int .u8 0)).toArray 5)) (.cells #[.slice (some ⟨w.heap.size, 0, none⟩) n n, .int .i64 h] 42)
    rw [World.size_alloc] at this
    simpa using this
  · rw [Below.heap_alloc _ _ _ (by simp)]
    have := World.alloc_heap_new w (.cells (List.replicate n (Value.int .u8 0)).toArray 5)
    simpa using this
  · exact ((Below.refl _ w).alloc (Nat.le_refl _) _).alloc (by simp) _

/-- What New takes. -/
def okNew (n8 h : Int) : Prop := 8 ≤ n8 ∧ n8 ≤ 65536 ∧ n8 % 8 = 0 ∧ 1 ≤ h ∧ h ≤ 8
theorem new_bad (n8 h : Int) (w : World) (hb : ¬ okNew n8 h) :
    Calls Try.prog 10 #[.int .i64 n8, .int .i64 h] w fun e w' => e = .returned (.tuple #[.pointer none, .int .i64 1]) ∧ Drawn0 w w' := by
  unfold okNew at hb
  by_cases c1 : n8 < 8
  · have d1 := decide_eq_true c1
    clear c1
    go_enter Try.func10, Try.ntmps10
    go_wp2
    refine bodyPost_ret (results_tmp2 rfl _ _ _) rfl ?_
    exact ⟨rfl, Drawn0.refl _⟩
  have d1 := decide_eq_false c1
  by_cases c2 : 65536 < n8
  · have d2 := decide_eq_true c2
    clear c1 c2 hb
    go_enter Try.func10, Try.ntmps10
    go_wp2
    refine bodyPost_ret (results_tmp2 rfl _ _ _) rfl ?_
    exact ⟨rfl, Drawn0.refl _⟩
  have d2 := decide_eq_false c2
  by_cases c3 : n8 % 8 = 0
  case neg =>
    have d3 : (IntKind.i64.wrap (n8.tmod 8) != 0) = true := bne_iff_ne.mpr (by rw [IntKind.wrap_i64, Int.tmod_eq_emod_of_nonneg (by omega)]; omega)
    have d3b : (n8.tmod 8 != 0) = true := bne_iff_ne.mpr (by rw [Int.tmod_eq_emod_of_nonneg (by omega)]; omega)
    clear c1 c2 c3 hb
    go_enter Try.func10, Try.ntmps10
    go_wp2
    refine bodyPost_ret (results_tmp2 rfl _ _ _) rfl ?_
    exact ⟨rfl, Drawn0.refl _⟩
  have d3 : n8.tmod 8 = 0 := by rw [Int.tmod_eq_emod_of_nonneg (by omega)]; omega
  by_cases c4 : h < 1
  · have d4 := decide_eq_true c4
    clear c1 c2 c3 c4 hb
    go_enter Try.func10, Try.ntmps10
    go_wp2
    refine bodyPost_ret (results_tmp2 rfl _ _ _) rfl ?_
    exact ⟨rfl, Drawn0.refl _⟩
  have d4 := decide_eq_false c4
  have c5 : 8 < h := by omega
  have d5 := decide_eq_true c5
  clear c1 c2 c3 c4 c5 hb
  go_enter Try.func10, Try.ntmps10
  go_wp2
  refine bodyPost_ret (results_tmp2 rfl _ _ _) rfl ?_
  exact ⟨rfl, Drawn0.refl _⟩

theorem one_read (W : World) : Kd.C (Kd.int .u8) (W.alloc (.cells #[.int .u8 1] 5)) (some ⟨W.heap.size, 0, none⟩) 1 [1] := C_lit_u8 W [1] 5 (0, 0) (by decide)
theorem one_read' {W : World} {n : Nat} (h : W.heap.size = n) : Kd.C (Kd.int .u8) (W.alloc (.cells #[.int .u8 1] 5)) (some ⟨n, 0, none⟩) 1 [1] := h ▸ one_read W
theorem boxed_drewN {W : World} {B t : Nat} {v : Value} (h : Boxed W B t v) (m : Nat) : Boxed (W.drewN m) B t v := h
theorem below_drewN {B : Nat} {a W : World} (h : Below B a W) (m : Nat) : Below B a (W.drewN m) := ⟨h.os, h.tape, h.output, h.size, h.block⟩
/-- The places' iterator. -/
theorem places_calls (g b : Nat) (h : Int) (l : List Int) (A0 : Option Addr) (c0 : Nat) (key : List Int) (w : World) (hr : Kd.C (Kd.int .u8) w A0 key.length key) (hc0 : key.length ≤ c0) :
    Calls Try.prog 25 #[ptr g, .slice A0 key.length c0] w fun e w' => e = .returned (.func (.func 29) #[] #[ptr w.heap.size, ptr (w.heap.size + 1), ptr (w.heap.size + 3)]) ∧
      Boxed w' w.heap.size 24 (ptr g) ∧ Boxed w' (w.heap.size + 1) 54 (.int .u32 (kA key)) ∧ Boxed w' (w.heap.size + 3) 54 (.int .u32 (kB key)) ∧ w'.heap.size = w.heap.size + 4 ∧ Below w.heap.size w w' := by
  have HR := Aside0.mk hr
  have HC := Aside0.mk hc0
  clear hr hc0
  go_enter Try.func25, Try.ntmps25
  go_wp2_with (first
    | ((with_reducible refine gate_callee (f := 27) rfl ?_); refine goesL_ (some 8) rfl rfl Try.func27 (by kernel_rfl) rfl #[.slice A0 key.length c0] rfl (by (try simp only [List.map_toArray, List.map_cons, List.map_nil]); first | done | rfl | (simp only [List.length_drop, List.length_take]; rfl)) ?_; refine (crc_Sum.calls A0 c0 key _ _ ?s1 ?s2 (kA_f key)).mono ?_; (case s1 => exact Kd.C_alloc HR.out _); (case s2 => exact HC.out); rintro e w1 ⟨rfl, ⟨m1, rfl⟩⟩; refine ⟨_, rfl, ?_⟩)
    | ((with_reducible refine gate_callee (f := 28) rfl ?_); refine goesL_ (some 11) rfl rfl Try.func28 (by kernel_rfl) rfl #[.int .u32 (kA key), .slice (some ⟨w.heap.size + 1 + 1, 0, none⟩) 1 1] rfl (by (try simp only [List.map_toArray, List.map_cons, List.map_nil]); first | done | rfl | (simp only [List.length_drop, List.length_take]; rfl)) ?_; refine (cMore.calls (kA key) _ _ [1] _ _ ?s1 ?s2 (kB_f key)).mono ?_; (case s1 => exact one_read' (by simp)); (case s2 => exact Nat.le_refl _); rintro e w1 ⟨rfl, ⟨m2, rfl⟩⟩; refine ⟨_, rfl, ?_⟩))
  trace_state
  go_ret
  generalize hX : (w.alloc (.cells #[ptr g] 24)).drewN m1 = X
  have x1 : Boxed X w.heap.size 24 (ptr g) := by rw [← hX]; exact boxed_drewN (Boxed.new w _ _) _
  have x2 : X.heap.size = w.heap.size + 1 := by rw [← hX]; simp
  have x3 : Below w.heap.size w X := by rw [← hX]; exact below_drewN ((Below.refl _ w).alloc (Nat.le_refl _) _) _
  have y1 := (x1.alloc (.cells #[Value.int .u32 (kA key)] 54)).alloc (.cells #[Value.int .u8 1] 5)
  have y2 := (Boxed.new X 54 (Value.int .u32 (kA key))).alloc (.cells #[Value.int .u8 1] 5)
  have y3 : Below w.heap.size w ((X.alloc (.cells #[Value.int .u32 (kA key)] 54)).alloc (.cells #[Value.int .u8 1] 5)) := (x3.alloc (by omega) _).alloc (by simp; omega) _
  have y4 : ((X.alloc (.cells #[Value.int .u32 (kA key)] 54)).alloc (.cells #[Value.int .u8 1] 5)).heap.size = w.heap.size + 3 := by simp; omega
  rw [x2] at y2
  generalize (X.alloc (.cells #[Value.int .u32 (kA key)] 54)).alloc (.cells #[Value.int .u8 1] 5) = Y at y1 y2 y3 y4 ⊢
  have z1 := boxed_drewN y1 m2
  have z2 := boxed_drewN y2 m2
  have z3 := below_drewN y3 m2
  have z4 : (Y.drewN m2).heap.size = w.heap.size + 3 := y4
  generalize Y.drewN m2 = Z at z1 z2 z3 z4 ⊢
  have u1 := Boxed.new Z 54 (Value.int .u32 (kB key))
  rw [z4] at u1
  exact ⟨rfl, z1.alloc _, z2.alloc _, u1, by simp; omega, z3.alloc (by omega) _⟩

end Go.Proofs.Ytliafeandefocaa.P
