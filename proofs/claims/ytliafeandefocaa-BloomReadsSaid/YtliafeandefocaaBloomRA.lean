/- The reference's New, Add, May. No conditions. -/
import Derived.Test.YtliafeandefocaaBloomR
import Derived.RangeFuncBox
namespace Go.Proofs.Ytliafeandefocaa.P
open Go.RowKit Go.Proofs.YtliafeandefocaaW.PrintWords Go.Proofs.YtliafeandefocaaW.PrintLast Go.Proofs.YtliafeandefocaaW.PrintMore
set_option linter.unusedVariables false
set_option linter.unusedSimpArgs false

/-- The digits one by one. -/
def RD (n : Nat) (l : List Int) : List Bool := (List.range (8 * n)).map fun (j : Nat) => bitAt l j
theorem RD_length (n : Nat) (l : List Int) : (RD n l).length = 8 * n := by simp [RD]
theorem RD_getD (n : Nat) (l : List Int) {j : Nat} (hj : j < 8 * n) : (RD n l).getD j false = bitAt l j := by simp [RD, List.getD_eq_getElem?_getD, hj]
theorem RD_set (n : Nat) (l : List Int) (hl : l.length = n) {p : Nat} (hp : p < 8 * n) : (RD n l).set p true = RD n (setBit l p) := by
  refine List.ext_getElem (by simp [RD]) fun j h1 h2 => ?_
  rw [RD_length] at h2
  simp only [RD, List.getElem_set, List.getElem_map, List.getElem_range]
  rw [bitAt_set l p j (by omega) (by omega) (by omega)]
  by_cases h : p = j
  · subst h; simp
  · have : ¬ ((p : Int) = (j : Int)) := by omega
    simp [h, this]
theorem RD_zero (n : Nat) : RD n (List.replicate n 0) = List.replicate (8 * n) false := by
  refine List.ext_getElem (by simp [RD]) fun j h1 h2 => ?_
  rw [RD_length] at h1
  simp only [RD, List.getElem_map, List.getElem_range, List.getElem_replicate]
  have := may_zero (n := n) (ps := [(j : Int)]) (by simp)
  simpa [mayS] using this

theorem info_bool : (Try.prog.info? 4).map (fun i => (i.zero, i.size, i.bytes)) = some (some (.bool false), 1, 1) := by kernel_rfl
theorem rnew_ok (n : Nat) (h : Int) (w : World) (hn : 1 ≤ n) (hn2 : n ≤ 8192) (h1 : 1 ≤ h) (h2 : h ≤ 8) :
    Calls Try.prog 15 #[.int .i64 (8 * n), .int .i64 h] w fun e w' => e = .returned (.tuple #[ptr (w.heap.size + 1), .int .i64 0]) ∧ RFlt w' (w.heap.size + 1) w.heap.size h (List.replicate (8 * n) false) ∧ Below w.heap.size w w' := by
  have d1 : decide ((8 * n : Int) < 8) = false := decide_eq_false (by omega)
  have d2 : decide (65536 < (8 * n : Int)) = false := decide_eq_false (by omega)
  have d3 : Int.tmod (8 * n) 8 = 0 := by rw [Int.tmod_eq_emod_of_nonneg (by omega)]; omega
  have d4 : decide (h < 1) = false := decide_eq_false (by omega)
  have d5 : decide (8 < h) = false := decide_eq_false (by omega)
  obtain ⟨m, hm⟩ : ∃ m : Nat, 8 * n = m := ⟨_, rfl⟩
  have hm2 : (8 * (n : Int)) = (m : Int) := by omega
  rw [hm2] at d1 d2 d3 ⊢
  rw [hm]
  have HM := Aside0.mk hm
  have HN2 := Aside0.mk hn2
  clear hm hm2 hn hn2 h1 h2
  go_enter Try.func15, Try.ntmps15
  go_wp2_with (first | ((with_reducible refine gate_dst (N := 26) rfl ?_); refine wpList_make rfl rfl 55 4 _ _ rfl m rfl rfl Try.underlying55 (.bool false) 1 info_bool rfl (by decide) (by have := HM.out; have := HN2.out; omega) ?_))
  refine bodyPost_ret (results_tmp2 rfl _ _ _) rfl ?_
  refine ⟨by simp, ⟨?_, ?_⟩, ?_⟩
  · have := World.alloc_heap_new (w.alloc (.cells (List.replicate m (Value.bool false)).toArray 4)) (.cells #[.slice (some ⟨w.heap.size, 0, none⟩) m m, .int .i64 h] 57)
    rw [World.size_alloc] at this
    simpa using this
  · rw [Below.heap_alloc _ _ _ (by simp)]
    have := World.alloc_heap_new w (.cells (List.replicate m (Value.bool false)).toArray 4)
    simpa using this
  · exact ((Below.refl _ w).alloc (Nat.le_refl _) _).alloc (by simp) _

theorem rnew_bad (n8 h : Int) (w : World) (hb : ¬ okNew n8 h) :
    Calls Try.prog 15 #[.int .i64 n8, .int .i64 h] w fun e w' => e = .returned (.tuple #[.pointer none, .int .i64 1]) ∧ Drawn0 w w' := by
  unfold okNew at hb
  by_cases c1 : n8 < 8
  · have d1 := decide_eq_true c1
    clear c1
    go_enter Try.func15, Try.ntmps15
    go_wp2
    refine bodyPost_ret (results_tmp2 rfl _ _ _) rfl ?_
    exact ⟨rfl, Drawn0.refl _⟩
  have d1 := decide_eq_false c1
  by_cases c2 : 65536 < n8
  · have d2 := decide_eq_true c2
    clear c1 c2 hb
    go_enter Try.func15, Try.ntmps15
    go_wp2
    refine bodyPost_ret (results_tmp2 rfl _ _ _) rfl ?_
    exact ⟨rfl, Drawn0.refl _⟩
  have d2 := decide_eq_false c2
  have hm : Int.tmod n8 8 = n8 % 8 := Int.tmod_eq_emod_of_nonneg (by omega)
  by_cases c3 : n8 % 8 = 0
  case neg =>
    have d3 : decide (0 < n8 % 8) = true := decide_eq_true (by omega)
    clear c1 c2 c3 hb
    go_enter Try.func15, Try.ntmps15
    go_wp2
    refine bodyPost_ret (results_tmp2 rfl _ _ _) rfl ?_
    exact ⟨rfl, Drawn0.refl _⟩
  have d3 : decide (0 < n8 % 8) = false := decide_eq_false (by omega)
  by_cases c4 : h < 1
  · have d4 := decide_eq_true c4
    clear c1 c2 c3 c4 hb
    go_enter Try.func15, Try.ntmps15
    go_wp2
    refine bodyPost_ret (results_tmp2 rfl _ _ _) rfl ?_
    exact ⟨rfl, Drawn0.refl _⟩
  have d4 := decide_eq_false c4
  have c5 : 8 < h := by omega
  have d5 := decide_eq_true c5
  clear c1 c2 c3 c4 c5 hb
  go_enter Try.func15, Try.ntmps15
  go_wp2
  refine bodyPost_ret (results_tmp2 rfl _ _ _) rfl ?_
  exact ⟨rfl, Drawn0.refl _⟩

end Go.Proofs.Ytliafeandefocaa.P
