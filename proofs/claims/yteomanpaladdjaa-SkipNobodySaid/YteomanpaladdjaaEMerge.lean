/- agg.Merge: its contract. No conditions. -/
import Derived.Test.YteomanpaladdjaaEAdd
namespace Go.Proofs.Yteomanpaladdjaa.P
open Go.RowKit Go.Proofs.YteomanpaladdjaaW.PrintWords Go.Proofs.YteomanpaladdjaaW.PrintLast Go.Proofs.YteomanpaladdjaaW.PrintMore
set_option linter.unusedVariables false
set_option linter.unusedSimpArgs false

theorem less_calls (x y : Int) (w : World) : Calls Try.prog 27 #[.int .i64 x, .int .i64 y] w fun e w' => e = .returned (.bool (decide (x < y))) ∧ w' = w := by
  go_enter Try.func27, Try.ntmps27
  go_wp2
  go_ret
  exact ⟨rfl, rfl⟩
theorem more_calls (x y : Int) (w : World) : Calls Try.prog 28 #[.int .i64 x, .int .i64 y] w fun e w' => e = .returned (.bool (decide (y < x))) ∧ w' = w := by
  go_enter Try.func28, Try.ntmps28
  go_wp2
  go_ret
  exact ⟨rfl, rfl⟩
def lesser (a b : Int) : Int := if b < a then b else a
def greater (a b : Int) : Int := if a < b then b else a
theorem better_less (a b : Int) (w : World) : Calls Try.prog 30 #[.int .i64 a, .int .i64 b, .func (.func 27) #[] #[]] w fun e w' => e = .returned (.int .i64 (lesser a b)) ∧ w' = w := by
  by_cases h : b < a
  · have e1 : lesser a b = b := if_pos h
    have d1 : decide (b < a) = true := decide_eq_true h
    rw [e1]
    clear h
    go_enter Try.func30, Try.ntmps30
    go_wp2_with (first | (go_at_call 27; refine (less_calls b a _).mono ?_; rintro e w1 ⟨rfl, rfl⟩))
    go_ret
    exact ⟨rfl, rfl⟩
  · have e1 : lesser a b = a := if_neg h
    have d1 : decide (b < a) = false := decide_eq_false h
    rw [e1]
    clear h
    go_enter Try.func30, Try.ntmps30
    go_wp2_with (first | (go_at_call 27; refine (less_calls b a _).mono ?_; rintro e w1 ⟨rfl, rfl⟩))
    go_ret
    exact ⟨rfl, rfl⟩
theorem better_more (a b : Int) (w : World) : Calls Try.prog 30 #[.int .i64 a, .int .i64 b, .func (.func 28) #[] #[]] w fun e w' => e = .returned (.int .i64 (greater a b)) ∧ w' = w := by
  by_cases h : a < b
  · have e1 : greater a b = b := if_pos h
    have d1 : decide (a < b) = true := decide_eq_true h
    rw [e1]
    clear h
    go_enter Try.func30, Try.ntmps30
    go_wp2_with (first | (go_at_call 28; refine (more_calls b a _).mono ?_; rintro e w1 ⟨rfl, rfl⟩))
    go_ret
    exact ⟨rfl, rfl⟩
  · have e1 : greater a b = a := if_neg h
    have d1 : decide (a < b) = false := decide_eq_false h
    rw [e1]
    clear h
    go_enter Try.func30, Try.ntmps30
    go_wp2_with (first | (go_at_call 28; refine (more_calls b a _).mono ?_; rintro e w1 ⟨rfl, rfl⟩))
    go_ret
    exact ⟨rfl, rfl⟩

/-- The sum of two that both have facts. -/
def mergeS (a0_0 : Int) (a0_1 : Bool) (a0_4 a0_5 a1_0 : Int) (a1_1 : Bool) (a1_4 a1_5 : Int) (s : Int × Int) : Int × Bool × Int × Int × Int × Int :=
  if IntKind.u64.wrap (a0_0 + a1_0) < a0_0 ∨ (a0_1 || a1_1) = true then (18446744073709551615, true, s.1, s.2, lesser a0_4 a1_4, greater a0_5 a1_5)
  else (IntKind.u64.wrap (a0_0 + a1_0), false, s.1, s.2, lesser a0_4 a1_4, greater a0_5 a1_5)
def agg_Merge.f (a0_0 : Int) (a0_1 : Bool) (a0_2 a0_3 a0_4 a0_5 : Int) (a1_0 : Int) (a1_1 : Bool) (a1_2 a1_3 a1_4 a1_5 : Int) : Option (Int × Bool × Int × Int × Int × Int) :=
  if a0_0 = 0 then some (a1_0, a1_1, a1_2, a1_3, a1_4, a1_5)
  else if a1_0 = 0 then some (a0_0, a0_1, a0_2, a0_3, a0_4, a0_5)
  else (wide_Add.f a0_2 a0_3 a1_2 a1_3).bind fun s => some (mergeS a0_0 a0_1 a0_4 a0_5 a1_0 a1_1 a1_4 a1_5 s)

abbrev aggV (n : Int) (o : Bool) (x y a b : Int) : Value := .agg #[.int .u64 n, .bool o, .int .i64 x, .int .u64 y, .int .i64 a, .int .i64 b]
abbrev aggO (n : Int) (o : Bool) (x y a b : Int) : Obj := .cells #[.int .u64 n, .bool o, .int .i64 x, .int .u64 y, .int .i64 a, .int .i64 b] 36

theorem blk2 (w : World) (o1 o2 o3 : Obj) : (((w.alloc o1).alloc o2).alloc o3).heap[w.heap.size]? = some o1 ∧ (((w.alloc o1).alloc o2).alloc o3).heap[w.heap.size + 1]? = some o2 ∧ (((w.alloc o1).alloc o2).alloc o3).heap[w.heap.size + 1 + 1]? = some o3 := by
  refine ⟨?_, ?_, blk_new2 _ _ _ _⟩
  · rw [Below.heap_alloc _ _ _ (by simp; omega), Below.heap_alloc _ _ _ (by simp)]; exact blk_new _ _
  · rw [Below.heap_alloc _ _ _ (by simp)]; exact blk_new1 _ _ _

/-- What the region that makes the sum reads. -/
abbrev MS (n : Nat) (a0_0 : Int) (a0_1 : Bool) (a0_2 a0_3 a0_4 a0_5 : Int) (a1_0 : Int) (a1_1 : Bool) (a1_2 a1_3 a1_4 a1_5 : Int) (W : World) : Prop :=
  W.cell? ⟨n, 0, none⟩ = some (.int .u64 a0_0) ∧ W.cell? ⟨n, 1, none⟩ = some (.bool a0_1) ∧ W.cell? ⟨n, 2, none⟩ = some (.int .i64 a0_2) ∧ W.cell? ⟨n, 3, none⟩ = some (.int .u64 a0_3) ∧ W.cell? ⟨n, 4, none⟩ = some (.int .i64 a0_4) ∧ W.cell? ⟨n, 5, none⟩ = some (.int .i64 a0_5) ∧
  W.cell? ⟨n + 1, 0, none⟩ = some (.int .u64 a1_0) ∧ W.cell? ⟨n + 1, 1, none⟩ = some (.bool a1_1) ∧ W.cell? ⟨n + 1, 2, none⟩ = some (.int .i64 a1_2) ∧ W.cell? ⟨n + 1, 3, none⟩ = some (.int .u64 a1_3) ∧ W.cell? ⟨n + 1, 4, none⟩ = some (.int .i64 a1_4) ∧ W.cell? ⟨n + 1, 5, none⟩ = some (.int .i64 a1_5)
theorem cell_lt {w : World} {a : Addr} {v : Value} (h : w.cell? a = some v) : a.block < w.heap.size := by
  by_cases hlt : a.block < w.heap.size
  · exact hlt
  · have : w.heap[a.block]? = none := Array.getElem?_eq_none (by omega)
    simp [World.cell?, this] at h
theorem ms_below {n : Nat} {a0_0 : Int} {a0_1 : Bool} {a0_2 a0_3 a0_4 a0_5 : Int} {a1_0 : Int} {a1_1 : Bool} {a1_2 a1_3 a1_4 a1_5 : Int} {W C : World} (h : MS n a0_0 a0_1 a0_2 a0_3 a0_4 a0_5 a1_0 a1_1 a1_2 a1_3 a1_4 a1_5 W) (hb : Below W.heap.size W C) :
    MS n a0_0 a0_1 a0_2 a0_3 a0_4 a0_5 a1_0 a1_1 a1_2 a1_3 a1_4 a1_5 C := by
  have t : ∀ {a : Addr} {v : Value}, W.cell? a = some v → C.cell? a = some v := fun h => (World.cell?_of_block (hb.block _ (cell_lt h))).trans h
  obtain ⟨h0, h1, h2, h3, h4, h5, k0, k1, k2, k3, k4, k5⟩ := h
  exact ⟨t h0, t h1, t h2, t h3, t h4, t h5, t k0, t k1, t k2, t k3, t k4, t k5⟩

theorem ms_set {n : Nat} {a0_0 : Int} {a0_1 : Bool} {a0_2 a0_3 a0_4 a0_5 : Int} {a1_0 : Int} {a1_1 : Bool} {a1_2 a1_3 a1_4 a1_5 : Int} {W : World} {g i : Nat} {v : Value} (h : MS n a0_0 a0_1 a0_2 a0_3 a0_4 a0_5 a1_0 a1_1 a1_2 a1_3 a1_4 a1_5 W) (hn : g ≠ n) (hm : g ≠ n + 1) :
    MS n a0_0 a0_1 a0_2 a0_3 a0_4 a0_5 a1_0 a1_1 a1_2 a1_3 a1_4 a1_5 (W.setCell ⟨g, i, none⟩ v) := by
  have t : ∀ {a : Addr} {u : Value}, a.block ≠ g → W.cell? a = some u → (W.setCell ⟨g, i, none⟩ v).cell? a = some u := fun hne h => (World.cell?_of_block (Below.heap_setCell _ _ _ _ hne)).trans h
  obtain ⟨h0, h1, h2, h3, h4, h5, k0, k1, k2, k3, k4, k5⟩ := h
  exact ⟨t hn.symm h0, t hn.symm h1, t hn.symm h2, t hn.symm h3, t hn.symm h4, t hn.symm h5, t hm.symm k0, t hm.symm k1, t hm.symm k2, t hm.symm k3, t hm.symm k4, t hm.symm k5⟩

set_option maxHeartbeats 4000000 in
set_option maxRecDepth 100000 in
theorem merge_zero0 (a0_1 : Bool) (a0_2 a0_3 a0_4 a0_5 : Int) (a1_0 : Int) (a1_1 : Bool) (a1_2 a1_3 a1_4 a1_5 : Int) (w : World) :
    Calls Try.prog 15 #[aggV 0 a0_1 a0_2 a0_3 a0_4 a0_5, aggV a1_0 a1_1 a1_2 a1_3 a1_4 a1_5] w fun e w' => e = .returned (aggV a1_0 a1_1 a1_2 a1_3 a1_4 a1_5) ∧ Below w.heap.size w w' := by
  have hu := Try.underlying36
  go_enter Try.func15, Try.ntmps15
  go_wp2
  refine bodyPost_ret (results_cell_row rfl _ _ (w.heap.size + 1 + 1) 36 #[.int .u64 a1_0, .bool a1_1, .int .i64 a1_2, .int .u64 a1_3, .int .i64 a1_4, .int .i64 a1_5] (0, 0) _ rfl (blk_new2 _ _ _ _) hu rfl (by kernel_rfl)) rfl ?_
  exact ⟨rfl, below_alloc (below_alloc (below_alloc (Below.refl _ _) _) _) _⟩

set_option maxHeartbeats 4000000 in
set_option maxRecDepth 100000 in
theorem merge_zero1 (a0_0 : Int) (a0_1 : Bool) (a0_2 a0_3 a0_4 a0_5 : Int) (a1_1 : Bool) (a1_2 a1_3 a1_4 a1_5 : Int) (w : World) (h0 : (a0_0 == 0) = false) :
    Calls Try.prog 15 #[aggV a0_0 a0_1 a0_2 a0_3 a0_4 a0_5, aggV 0 a1_1 a1_2 a1_3 a1_4 a1_5] w fun e w' => e = .returned (aggV a0_0 a0_1 a0_2 a0_3 a0_4 a0_5) ∧ Below w.heap.size w w' := by
  have hu := Try.underlying36
  go_enter Try.func15, Try.ntmps15
  go_wp2
  refine bodyPost_ret (results_cell_row rfl _ _ (w.heap.size + 1 + 1) 36 #[.int .u64 a0_0, .bool a0_1, .int .i64 a0_2, .int .u64 a0_3, .int .i64 a0_4, .int .i64 a0_5] (0, 0) _ rfl (blk_new2 _ _ _ _) hu rfl (by kernel_rfl)) rfl ?_
  exact ⟨rfl, below_alloc (below_alloc (below_alloc (Below.refl _ _) _) _) _⟩

end Go.Proofs.Yteomanpaladdjaa.P
