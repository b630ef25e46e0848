/- agg.Merge where the first one's count is over. No conditions. -/
import Derived.Test.YteomanpaladdjaaEMergeB
namespace Go.Proofs.Yteomanpaladdjaa.P
open Go.RowKit Go.Proofs.YteomanpaladdjaaW.PrintWords Go.Proofs.YteomanpaladdjaaW.PrintLast Go.Proofs.YteomanpaladdjaaW.PrintMore
set_option linter.unusedVariables false
set_option linter.unusedSimpArgs false

set_option maxHeartbeats 8000000 in
set_option maxRecDepth 100000 in
theorem merge_over (a0_0 : Int) (a0_2 a0_3 a0_4 a0_5 : Int) (a1_0 : Int) (a1_1 : Bool) (a1_2 a1_3 a1_4 a1_5 : Int) (s1 s2 : Int) (n : Int) (o : Bool) (a b : Int) (w : World) (h0 : (a0_0 == 0) = false) (h1 : (a1_0 == 0) = false) (hs : wide_Add.f a0_2 a0_3 a1_2 a1_3 = some (s1, s2))
    (hm : mergeS a0_0 true a0_4 a0_5 a1_0 a1_1 a1_4 a1_5 (s1, s2) = (n, o, s1, s2, a, b)) :
    Calls Try.prog 15 #[aggV a0_0 true a0_2 a0_3 a0_4 a0_5, aggV a1_0 a1_1 a1_2 a1_3 a1_4 a1_5] w fun e w' => e = .returned (aggV n o s1 s2 a b) ∧ Below w.heap.size w w' := by
  have hu := Try.underlying36
  have HS := Aside0.mk hs
  have HM := Aside0.mk hm
  clear hs hm
  go_enter Try.func15, Try.ntmps15
  go_upto_region 7 with (fail)
  obtain ⟨b0, b1, b2⟩ := blk2 w (aggO a0_0 true a0_2 a0_3 a0_4 a0_5) (aggO a1_0 a1_1 a1_2 a1_3 a1_4 a1_5) (aggO 0 false 0 0 0 0)
  have hb := below_alloc (below_alloc (below_alloc (Below.refl w.heap.size w) (aggO a0_0 true a0_2 a0_3 a0_4 a0_5)) (aggO a1_0 a1_1 a1_2 a1_3 a1_4 a1_5)) (aggO 0 false 0 0 0 0)
  generalize ((w.alloc (aggO a0_0 true a0_2 a0_3 a0_4 a0_5)).alloc (aggO a1_0 a1_1 a1_2 a1_3 a1_4 a1_5)).alloc (aggO 0 false 0 0 0 0) = W0 at b0 b1 b2 hb ⊢
  have c0 : W0.cell? ⟨w.heap.size, 0, none⟩ = some (.int .u64 a0_0) := by simp [World.cell?, b0]
  have c1 : W0.cell? ⟨w.heap.size, 1, none⟩ = some (.bool true) := by simp [World.cell?, b0]
  have c2 : W0.cell? ⟨w.heap.size, 2, none⟩ = some (.int .i64 a0_2) := by simp [World.cell?, b0]
  have c3 : W0.cell? ⟨w.heap.size, 3, none⟩ = some (.int .u64 a0_3) := by simp [World.cell?, b0]
  have c4 : W0.cell? ⟨w.heap.size, 4, none⟩ = some (.int .i64 a0_4) := by simp [World.cell?, b0]
  have c5 : W0.cell? ⟨w.heap.size, 5, none⟩ = some (.int .i64 a0_5) := by simp [World.cell?, b0]
  have e0 : W0.cell? ⟨w.heap.size + 1, 0, none⟩ = some (.int .u64 a1_0) := by simp [World.cell?, b1]
  have e1 : W0.cell? ⟨w.heap.size + 1, 1, none⟩ = some (.bool a1_1) := by simp [World.cell?, b1]
  have e2 : W0.cell? ⟨w.heap.size + 1, 2, none⟩ = some (.int .i64 a1_2) := by simp [World.cell?, b1]
  have e3 : W0.cell? ⟨w.heap.size + 1, 3, none⟩ = some (.int .u64 a1_3) := by simp [World.cell?, b1]
  have e4 : W0.cell? ⟨w.heap.size + 1, 4, none⟩ = some (.int .i64 a1_4) := by simp [World.cell?, b1]
  have e5 : W0.cell? ⟨w.heap.size + 1, 5, none⟩ = some (.int .i64 a1_5) := by simp [World.cell?, b1]
  have hKM := Aside0.mk (show ∀ W W' : World, MS w.heap.size a0_0 true a0_2 a0_3 a0_4 a0_5 a1_0 a1_1 a1_2 a1_3 a1_4 a1_5 W → Below W.heap.size W W' → MS w.heap.size a0_0 true a0_2 a0_3 a0_4 a0_5 a1_0 a1_1 a1_2 a1_3 a1_4 a1_5 W' from fun W W' h hb => ms_below h hb)
  have hM0 : MS w.heap.size a0_0 true a0_2 a0_3 a0_4 a0_5 a1_0 a1_1 a1_2 a1_3 a1_4 a1_5 W0 := ⟨c0, c1, c2, c3, c4, c5, e0, e1, e2, e3, e4, e5⟩
  have HM0 := Aside0.mk (show MS w.heap.size a0_0 true a0_2 a0_3 a0_4 a0_5 a1_0 a1_1 a1_2 a1_3 a1_4 a1_5 W0.drew from hM0)
  have HMA := Aside0.mk (show MS w.heap.size a0_0 true a0_2 a0_3 a0_4 a0_5 a1_0 a1_1 a1_2 a1_3 a1_4 a1_5 (W0.alloc (aggO 0 false 0 0 0 0)).drew from ms_below hM0 (below_drew (below_alloc (Below.refl _ _) _)))
  have HMB := Aside0.mk (show MS w.heap.size a0_0 true a0_2 a0_3 a0_4 a0_5 a1_0 a1_1 a1_2 a1_3 a1_4 a1_5 (W0.drew.alloc (aggO 0 false 0 0 0 0)) from ms_below (W := W0.drew) hM0 (below_alloc (Below.refl _ _) _))
  have HFAR0 := Aside0.mk (show ∀ (W : World) (i j : Nat) (v : Value), (W.setCell ⟨W0.heap.size, i, none⟩ v).cell? ⟨w.heap.size, j, none⟩ = W.cell? ⟨w.heap.size, j, none⟩ from fun W i j v => World.cell?_of_block (Below.heap_setCell _ _ _ _ (show w.heap.size ≠ W0.heap.size by have h_ : w.heap.size < W0.heap.size := cell_lt c0; omega)))
  have HFAR1 := Aside0.mk (show ∀ (W : World) (i j : Nat) (v : Value), (W.setCell ⟨W0.heap.size, i, none⟩ v).cell? ⟨w.heap.size + 1, j, none⟩ = W.cell? ⟨w.heap.size + 1, j, none⟩ from fun W i j v => World.cell?_of_block (Below.heap_setCell _ _ _ _ (show w.heap.size + 1 ≠ W0.heap.size by have h_ : w.heap.size + 1 < W0.heap.size := cell_lt e0; omega)))
  have HN0 := Aside0.mk (show W0.heap.size ≠ w.heap.size by have h_ : w.heap.size < W0.heap.size := cell_lt c0; omega)
  have HN1 := Aside0.mk (show W0.heap.size ≠ w.heap.size + 1 by have h_ : w.heap.size + 1 < W0.heap.size := cell_lt e0; omega)
  have HB0 := Aside0.mk hb
  have B2 := Aside0.mk b2
  clear b0 b1 b2 hb c0 c1 c2 c3 c4 c5 e0 e1 e2 e3 e4 e5 hM0
  refine Code.wp_mono (Q := fun e a' W' => e = .normal ∧ ∃ g, MTail w.heap.size a0_0 true a0_2 a0_3 a0_4 a0_5 a1_0 a1_1 a1_2 a1_3 a1_4 a1_5 s1 s2 w g W' ∧ a' = { tmps := #[aggV a0_0 true a0_2 a0_3 a0_4 a0_5, aggV a1_0 a1_1 a1_2 a1_3 a1_4 a1_5, .pointer (some ⟨w.heap.size, 0, none⟩), .pointer (some ⟨w.heap.size + 1, 0, none⟩), .pointer (some ⟨w.heap.size + 1 + 1, 0, none⟩), .func (.func 27) #[] #[], .func (.func 28) #[] #[], .pointer (some ⟨g, 0, none⟩), .pointer (some ⟨w.heap.size, 0, none⟩), .int .u64 a0_0, .bool false, undef, .pointer (some ⟨w.heap.size + 1, 0, none⟩), .int .u64 a1_0, .bool false, undef, .pointer (some ⟨w.heap.size, 0, none⟩), .int .u64 a0_0, .pointer (some ⟨w.heap.size + 1, 0, none⟩), .int .u64 a1_0, .int .u64 (IntKind.u64.wrap (a0_0 + a1_0)), .pointer (some ⟨w.heap.size, 1, none⟩), .bool true, .bool true, undef, undef, .bool true, .pointer (some ⟨w.heap.size, 2, none⟩), .agg #[.int .i64 a0_2, .int .u64 a0_3], .pointer (some ⟨w.heap.size + 1, 2, none⟩), .agg #[.int .i64 a1_2, .int .u64 a1_3], .agg #[.int .i64 s1, .int .u64 s2], .pointer (some ⟨w.heap.size, 4, none⟩), .int .i64 a0_4, .pointer (some ⟨w.heap.size + 1, 4, none⟩), .int .i64 a1_4, .func (.func 27) #[] #[], .int .i64 (lesser a0_4 a1_4), .pointer (some ⟨w.heap.size, 5, none⟩), .int .i64 a0_5, .pointer (some ⟨w.heap.size + 1, 5, none⟩), .int .i64 a1_5, .func (.func 28) #[] #[], .int .i64 (greater a0_5 a1_5), .agg #[.int .u64 (IntKind.u64.wrap (a0_0 + a1_0)), .bool true, .int .i64 s1, .int .u64 s2, .int .i64 (lesser a0_4 a1_4), .int .i64 (greater a0_5 a1_5)], undef, undef, undef, undef, undef, undef, undef, undef, undef, undef, undef, undef], defers := [] }) ?imp ?reg
  case reg =>
    refine wp_region_noPanic ?_
    refine wp_region_held_drew (S := (fun W' => MS w.heap.size a0_0 true a0_2 a0_3 a0_4 a0_5 a1_0 a1_1 a1_2 a1_3 a1_4 a1_5 W')) (by kernel_rfl) ?_ (fun hHeld => ?_)
    · exact HM0.out
    (refine wpAnyH_take (i := 0) (v := ?_) rfl (by kernel_rfl) (by kernel_rfl) (by kernel_rfl) (fun _ _ _ h => h) (Or.inl ⟨by rfl, ?_⟩) (by assumption) ?_; rotate_left 1; focus (intro ww hSw; (try dsimp only at hSw); go_simp; try with_reducible rfl)); try simp only [Act.put, List.setIfInBounds_toArray, List.set_cons_zero, List.set_cons_succ]
    (refine wpAnyH_take (i := 1) (v := ?_) rfl (by kernel_rfl) (by kernel_rfl) (by kernel_rfl) (fun _ _ _ h => h) (Or.inl ⟨by rfl, ?_⟩) (by assumption) ?_; rotate_left 1; focus (intro ww hSw; (try dsimp only at hSw); go_simp; try with_reducible rfl)); try simp only [Act.put, List.setIfInBounds_toArray, List.set_cons_zero, List.set_cons_succ]
    (refine wpAnyH_take (i := 2) (v := ?_) rfl (by kernel_rfl) (by kernel_rfl) (by kernel_rfl) (fun _ _ _ h => h) (Or.inl ⟨by rfl, ?_⟩) (by assumption) ?_; rotate_left 1; focus (intro ww hSw; (try dsimp only at hSw); go_simp; try with_reducible rfl)); try simp only [Act.put, List.setIfInBounds_toArray, List.set_cons_zero, List.set_cons_succ]
    (refine wpAnyH_take (i := 3) (v := ?_) rfl (by kernel_rfl) (by kernel_rfl) (by kernel_rfl) (fun _ _ _ h => h) (Or.inl ⟨by rfl, ?_⟩) (by assumption) ?_; rotate_left 1; focus (intro ww hSw; (try dsimp only at hSw); go_simp; try with_reducible rfl)); try simp only [Act.put, List.setIfInBounds_toArray, List.set_cons_zero, List.set_cons_succ]
    (refine wpAnyH_take (i := 4) (v := ?_) rfl (by kernel_rfl) (by kernel_rfl) (by kernel_rfl) (fun _ _ _ h => h) (Or.inl ⟨by rfl, ?_⟩) (by assumption) ?_; rotate_left 1; focus (intro ww hSw; (try dsimp only at hSw); go_simp; try with_reducible rfl)); try simp only [Act.put, List.setIfInBounds_toArray, List.set_cons_zero, List.set_cons_succ]
    (refine wpAnyH_take (i := 5) (v := ?_) rfl (by kernel_rfl) (by kernel_rfl) (by kernel_rfl) (fun _ _ _ h => h) (Or.inl ⟨by rfl, ?_⟩) (by assumption) ?_; rotate_left 1; focus (intro ww hSw; (try dsimp only at hSw); go_simp; try with_reducible rfl)); try simp only [Act.put, List.setIfInBounds_toArray, List.set_cons_zero, List.set_cons_succ]
    (refine wpAnyH_take (i := 6) (v := ?_) rfl (by kernel_rfl) (by kernel_rfl) (by kernel_rfl) (fun _ _ _ h => h) (Or.inl ⟨by rfl, ?_⟩) (by assumption) ?_; rotate_left 1; focus (intro ww hSw; (try dsimp only at hSw); go_simp; try with_reducible rfl)); try simp only [Act.put, List.setIfInBounds_toArray, List.set_cons_zero, List.set_cons_succ]
    (refine wpAnyH_take (i := 7) (v := ?_) rfl (by kernel_rfl) (by kernel_rfl) (by kernel_rfl) (fun _ _ _ h => h) (Or.inl ⟨by rfl, ?_⟩) (by assumption) ?_; rotate_left 1; focus (intro ww hSw; (try dsimp only at hSw); go_simp; try with_reducible rfl)); try simp only [Act.put, List.setIfInBounds_toArray, List.set_cons_zero, List.set_cons_succ]
    (refine wpAnyH_take (i := 8) (v := undef) rfl (by kernel_rfl) (by kernel_rfl) (by kernel_rfl) (fun _ _ _ h => h) (Or.inr ⟨by kernel_rfl, rfl⟩) (by assumption) ?_); try simp only [Act.put, List.setIfInBounds_toArray, List.set_cons_zero, List.set_cons_succ]
    (refine wpAnyH_take (i := 9) (v := undef) rfl (by kernel_rfl) (by kernel_rfl) (by kernel_rfl) (fun _ _ _ h => h) (Or.inr ⟨by kernel_rfl, rfl⟩) (by assumption) ?_); try simp only [Act.put, List.setIfInBounds_toArray, List.set_cons_zero, List.set_cons_succ]
    (refine wpAnyH_take (i := 10) (v := ?_) rfl (by kernel_rfl) (by kernel_rfl) (by kernel_rfl) (fun _ _ _ h => h) (Or.inl ⟨by rfl, ?_⟩) (by assumption) ?_; rotate_left 1; focus (intro ww hSw; (try dsimp only at hSw); go_simp; try with_reducible rfl)); try simp only [Act.put, List.setIfInBounds_toArray, List.set_cons_zero, List.set_cons_succ]
    (refine wpAnyH_take (i := 11) (v := ?_) rfl (by kernel_rfl) (by kernel_rfl) (by kernel_rfl) (fun _ _ _ h => h) (Or.inl ⟨by rfl, ?_⟩) (by assumption) ?_; rotate_left 1; focus (intro ww hSw; (try dsimp only at hSw); go_simp; try with_reducible rfl)); try simp only [Act.put, List.setIfInBounds_toArray, List.set_cons_zero, List.set_cons_succ]
    (refine wpAnyH_take (i := 12) (v := ?_) rfl (by kernel_rfl) (by kernel_rfl) (by kernel_rfl) (fun _ _ _ h => h) (Or.inl ⟨by rfl, ?_⟩) (by assumption) ?_; rotate_left 1; focus (intro ww hSw; (try dsimp only at hSw); go_simp; try with_reducible rfl)); try simp only [Act.put, List.setIfInBounds_toArray, List.set_cons_zero, List.set_cons_succ]
    (refine wpAnyH_take (i := 13) (v := ?_) rfl (by kernel_rfl) (by kernel_rfl) (by kernel_rfl) (fun _ _ _ h => h) (Or.inl ⟨by rfl, ?_⟩) (by assumption) ?_; rotate_left 1; focus (intro ww hSw; (try dsimp only at hSw); go_simp; try with_reducible rfl)); try simp only [Act.put, List.setIfInBounds_toArray, List.set_cons_zero, List.set_cons_succ]
    (refine wpAnyH_take (i := 14) (v := ?_) rfl (by kernel_rfl) (by kernel_rfl) (by kernel_rfl) (fun _ _ _ h => h) (Or.inl ⟨by rfl, ?_⟩) (by assumption) ?_; rotate_left 1; focus (intro ww hSw; (try dsimp only at hSw); go_simp; try with_reducible rfl)); try simp only [Act.put, List.setIfInBounds_toArray, List.set_cons_zero, List.set_cons_succ]
    (refine wpAnyH_take (i := 16) (v := ?_) rfl (by kernel_rfl) (by kernel_rfl) (by kernel_rfl) (fun _ _ _ h => h) (Or.inl ⟨by rfl, ?_⟩) (by assumption) ?_; rotate_left 1; focus (intro ww hSw; (try dsimp only at hSw); go_simp; try with_reducible rfl)); try simp only [Act.put, List.setIfInBounds_toArray, List.set_cons_zero, List.set_cons_succ]
    (refine wpAnyH_take (i := 17) (v := ?_) rfl (by kernel_rfl) (by kernel_rfl) (by kernel_rfl) (fun _ _ _ h => h) (Or.inl ⟨by rfl, ?_⟩) (by assumption) ?_; rotate_left 1; focus (intro ww hSw; (try dsimp only at hSw); go_simp; try with_reducible rfl)); try simp only [Act.put, List.setIfInBounds_toArray, List.set_cons_zero, List.set_cons_succ]
    (refine wpAnyH_take (i := 18) (v := ?_) rfl (by kernel_rfl) (by kernel_rfl) (by kernel_rfl) (fun _ _ _ h => h) (Or.inl ⟨by rfl, ?_⟩) (by assumption) ?_; rotate_left 1; focus (intro ww hSw; (try dsimp only at hSw); go_simp; try with_reducible rfl)); try simp only [Act.put, List.setIfInBounds_toArray, List.set_cons_zero, List.set_cons_succ]
    (refine wpAnyH_take (i := 19) (v := ?_) rfl (by kernel_rfl) (by kernel_rfl) (by kernel_rfl) (fun _ _ _ h => h) (Or.inl ⟨by rfl, ?_⟩) (by assumption) ?_; rotate_left 1; focus (intro ww hSw; (try dsimp only at hSw); go_simp; try with_reducible rfl)); try simp only [Act.put, List.setIfInBounds_toArray, List.set_cons_zero, List.set_cons_succ]
    (refine wpAnyH_take (i := 20) (v := ?_) rfl (by kernel_rfl) (by kernel_rfl) (by kernel_rfl) (fun _ _ _ h => h) (Or.inl ⟨by rfl, ?_⟩) (by assumption) ?_; rotate_left 1; focus (intro ww hSw; (try dsimp only at hSw); go_simp; try with_reducible rfl)); try simp only [Act.put, List.setIfInBounds_toArray, List.set_cons_zero, List.set_cons_succ]
    (refine wpAnyH_take (i := 22) (v := ?_) rfl (by kernel_rfl) (by kernel_rfl) (by kernel_rfl) (fun _ _ _ h => h) (Or.inl ⟨by rfl, ?_⟩) (by assumption) ?_; rotate_left 1; focus (intro ww hSw; (try dsimp only at hSw); go_simp; try with_reducible rfl)); try simp only [Act.put, List.setIfInBounds_toArray, List.set_cons_zero, List.set_cons_succ]
    (refine wpAnyH_take (i := 23) (v := ?_) rfl (by kernel_rfl) (by kernel_rfl) (by kernel_rfl) (fun _ _ _ h => h) (Or.inl ⟨by rfl, ?_⟩) (by assumption) ?_; rotate_left 1; focus (intro ww hSw; (try dsimp only at hSw); go_simp; try with_reducible rfl)); try simp only [Act.put, List.setIfInBounds_toArray, List.set_cons_zero, List.set_cons_succ]
    (refine wpAnyH_take (i := 24) (v := ?_) rfl (by kernel_rfl) (by kernel_rfl) (by kernel_rfl) (fun _ _ _ h => h) (Or.inl ⟨by rfl, ?_⟩) (by assumption) ?_; rotate_left 1; focus (intro ww hSw; (try dsimp only at hSw); go_simp; try with_reducible rfl)); try simp only [Act.put, List.setIfInBounds_toArray, List.set_cons_zero, List.set_cons_succ]
    (refine wpAnyH_take (i := 25) (v := ?_) rfl (by kernel_rfl) (by kernel_rfl) (by kernel_rfl) (fun _ _ _ h => h) (Or.inl ⟨by rfl, ?_⟩) (by assumption) ?_; rotate_left 1; focus (intro ww hSw; (try dsimp only at hSw); go_simp; try with_reducible rfl)); try simp only [Act.put, List.setIfInBounds_toArray, List.set_cons_zero, List.set_cons_succ]
    (refine wpAnyH_take (i := 26) (v := ?_) rfl (by kernel_rfl) (by kernel_rfl) (by kernel_rfl) (fun _ _ _ h => h) (Or.inl ⟨by rfl, ?_⟩) (by assumption) ?_; rotate_left 1; focus (intro ww hSw; (try dsimp only at hSw); go_simp; try with_reducible rfl)); try simp only [Act.put, List.setIfInBounds_toArray, List.set_cons_zero, List.set_cons_succ]
    refine wpAnyH_ready (rs := [15, 29]) (by kernel_rfl) (by simp) ?_
    refine AllReadyH.cons rfl (fun K hK => ?_) ?_;
    · (go_simp; (with_reducible refine (wide_Add.calls a0_2 a0_3 a1_2 a1_3 s1 s2 _ HS.out).mono ?_); rintro e w1 ⟨rfl, hbw⟩; have HBW := Aside0.mk hbw; have HBX := Aside0.mk (show Below W0.heap.size W0 w1 from (by first | exact ⟨hbw.os, hbw.tape, hbw.output, hbw.size, hbw.block⟩ | exact (below_alloc (Below.refl W0.heap.size W0) (aggO 0 false 0 0 0 0)).trans ⟨hbw.os, hbw.tape, hbw.output, hbw.size, fun k hk => hbw.block k (Nat.lt_of_lt_of_le hk (show W0.heap.size ≤ (W0.alloc (aggO 0 false 0 0 0 0)).heap.size from (by simp)))⟩)); have HMW := Aside0.mk (hKM.out _ _ (by assumption) hbw); (try (have hg : w1.heap[W0.heap.size]? = some (aggO 0 false 0 0 0 0) := (hbw.block W0.heap.size (show W0.heap.size < (W0.alloc (aggO 0 false 0 0 0 0)).heap.size by simp)).trans (blk_new W0 (aggO 0 false 0 0 0 0)); have g0 : w1.cell? ⟨W0.heap.size, 0, none⟩ = some (.int .u64 0) := (by simp [World.cell?, hg]); have g1 : w1.cell? ⟨W0.heap.size, 1, none⟩ = some (.bool false) := (by simp [World.cell?, hg]); have g2 : w1.cell? ⟨W0.heap.size, 2, none⟩ = some (.int .i64 0) := (by simp [World.cell?, hg]); have g3 : w1.cell? ⟨W0.heap.size, 3, none⟩ = some (.int .u64 0) := (by simp [World.cell?, hg]); have g4 : w1.cell? ⟨W0.heap.size, 4, none⟩ = some (.int .i64 0) := (by simp [World.cell?, hg]); have g5 : w1.cell? ⟨W0.heap.size, 5, none⟩ = some (.int .i64 0) := (by simp [World.cell?, hg]); have gf := fun i => show w1.frozen? ⟨W0.heap.size, i, none⟩ = false from (by simp [World.frozen?, hg]); have HG := Aside0.mk hg; clear hg)); clear hbw; refine hK.out _ _ ?_ (fun hHeld => ?_); (focus (first | (with_reducible exact HM0.out) | (with_reducible assumption) | (with_reducible exact HMA.out) | (with_reducible exact HMB.out) | (simp only [MS, HFAR0.out, HFAR1.out]; with_reducible exact HMW.out) | (with_reducible exact hKM.out _ _ (by assumption) HBW.out) | (with_reducible exact hKM.out _ _ HMW.out (below_alloc (Below.refl _ _) _)))); clear hK K; try simp only [Act.put, List.setIfInBounds_toArray, List.set_cons_zero, List.set_cons_succ])
      refine wpAnyH_ready (rs := [21, 29]) (by kernel_rfl) (by simp) ?_
      refine AllReadyH.cons rfl (fun K hK => ?_) ?_;
      · (go_simp; (with_reducible refine (better_less a0_4 a1_4 _).mono ?_); rintro e w1 ⟨rfl, rfl⟩; refine hK.out _ _ ?_ (fun hHeld => ?_); (focus (first | (with_reducible exact HM0.out) | (with_reducible assumption) | (with_reducible exact HMA.out) | (with_reducible exact HMB.out) | (simp only [MS, HFAR0.out, HFAR1.out]; with_reducible exact HMW.out) | (with_reducible exact hKM.out _ _ (by assumption) HBW.out) | (with_reducible exact hKM.out _ _ HMW.out (below_alloc (Below.refl _ _) _)))); clear hK K; try simp only [Act.put, List.setIfInBounds_toArray, List.set_cons_zero, List.set_cons_succ])
        refine wpAnyH_ready (rs := [27, 29]) (by kernel_rfl) (by simp) ?_
        refine AllReadyH.cons rfl (fun K hK => ?_) ?_;
        · (go_simp; (with_reducible refine (better_more a0_5 a1_5 _).mono ?_); rintro e w1 ⟨rfl, rfl⟩; refine hK.out _ _ ?_ (fun hHeld => ?_); (focus (first | (with_reducible exact HM0.out) | (with_reducible assumption) | (with_reducible exact HMA.out) | (with_reducible exact HMB.out) | (simp only [MS, HFAR0.out, HFAR1.out]; with_reducible exact HMW.out) | (with_reducible exact hKM.out _ _ (by assumption) HBW.out) | (with_reducible exact hKM.out _ _ HMW.out (below_alloc (Below.refl _ _) _)))); clear hK K; try simp only [Act.put, List.setIfInBounds_toArray, List.set_cons_zero, List.set_cons_succ])
          (refine wpAnyH_take (i := 28) (v := ?_) rfl (by kernel_rfl) (by kernel_rfl) (by kernel_rfl) (fun _ _ _ h => h) (Or.inl ⟨by rfl, ?_⟩) (by assumption) ?_; rotate_left 1; focus (intro ww hSw; (try dsimp only at hSw); go_simp; try with_reducible rfl)); try simp only [Act.put, List.setIfInBounds_toArray, List.set_cons_zero, List.set_cons_succ]
          refine wpAnyH_ready (rs := [29]) (by kernel_rfl) (by simp) ?_
          refine AllReadyH.cons rfl (fun K hK => ?_) ?_;
          rotate_left 1
          focus exact AllReadyH.nil
          (go_simp; refine hK.out _ _ ?_ (fun hHeld => ?_); (focus (first | (with_reducible exact HM0.out) | (with_reducible assumption) | (with_reducible exact HMA.out) | (with_reducible exact HMB.out) | (simp only [MS, HFAR0.out, HFAR1.out]; with_reducible exact HMW.out) | (with_reducible exact hKM.out _ _ (by assumption) HBW.out) | (with_reducible exact hKM.out _ _ HMW.out (below_alloc (Below.refl _ _) _)))); clear hK K; try simp only [Act.put, List.setIfInBounds_toArray, List.set_cons_zero, List.set_cons_succ])
          refine wpAnyH_ready (rs := [30]) (by kernel_rfl) (by simp) ?_
          refine AllReadyH.cons rfl (fun K hK => ?_) ?_;
          rotate_left 1
          focus exact AllReadyH.nil
          (go_simp; refine hK.out _ _ ?_ (fun hHeld => ?_); (focus (first | (with_reducible exact HM0.out) | (with_reducible assumption) | (with_reducible exact HMA.out) | (with_reducible exact HMB.out) | (simp only [MS, HFAR0.out, HFAR1.out]; with_reducible exact HMW.out) | (with_reducible exact hKM.out _ _ (by assumption) HBW.out) | (with_reducible exact hKM.out _ _ HMW.out (below_alloc (Below.refl _ _) _)))); clear hK K; try simp only [Act.put, List.setIfInBounds_toArray, List.set_cons_zero, List.set_cons_succ])
          refine wpAnyH_done (by kernel_rfl) ?_ _; refine NoPanic.normal ?_
          have hB1 : Below w.heap.size w w1 := HB0.out.trans (HBX.out.mono HB0.out.size)
          have hR1 : w1.heap[w.heap.size + 1 + 1]? = some (aggO 0 false 0 0 0 0) := blk_below B2.out HBX.out
          have hlt1 : w.heap.size + 1 + 1 < w1.heap.size := blk_lt hR1
          have hlt0 : w.heap.size + 1 + 1 < W0.heap.size := blk_lt B2.out
          have hM1 := HMW.out
          first
            | (refine ⟨rfl, w1.heap.size, ?_, by with_reducible rfl⟩; exact ⟨blk_new w1 (aggO (IntKind.u64.wrap (a0_0 + a1_0)) true s1 s2 (lesser a0_4 a1_4) (greater a0_5 a1_5)), hlt1, hKM.out _ _ HMW.out (below_alloc (Below.refl w1.heap.size w1) (aggO (IntKind.u64.wrap (a0_0 + a1_0)) true s1 s2 (lesser a0_4 a1_4) (greater a0_5 a1_5))), blk_alloc hR1 (aggO (IntKind.u64.wrap (a0_0 + a1_0)) true s1 s2 (lesser a0_4 a1_4) (greater a0_5 a1_5)), below_alloc hB1 (aggO (IntKind.u64.wrap (a0_0 + a1_0)) true s1 s2 (lesser a0_4 a1_4) (greater a0_5 a1_5))⟩)
            | (have hz := tailB (n := IntKind.u64.wrap (a0_0 + a1_0)) (o := true) (x := s1) (y := s2) (a := lesser a0_4 a1_4) (b := greater a0_5 a1_5) HG.out
               refine ⟨rfl, W0.heap.size, ?_, by with_reducible rfl⟩; exact ⟨hz.1, hlt0, ms_same hM1 (hz.2.1 _ (by omega)) (hz.2.1 _ (by omega)), (hz.2.1 _ (by omega)).trans hR1, hB1.trans (hz.2.2.mono (by omega))⟩)
        · refine AllReadyH.cons rfl (fun K hK => ?_) ?_;
          rotate_left 1
          focus exact AllReadyH.nil
          (go_simp; refine hK.out _ _ ?_ (fun hHeld => ?_); (focus (first | (with_reducible exact HM0.out) | (with_reducible assumption) | (with_reducible exact HMA.out) | (with_reducible exact HMB.out) | (simp only [MS, HFAR0.out, HFAR1.out]; with_reducible exact HMW.out) | (with_reducible exact hKM.out _ _ (by assumption) HBW.out) | (with_reducible exact hKM.out _ _ HMW.out (below_alloc (Below.refl _ _) _)))); clear hK K; try simp only [Act.put, List.setIfInBounds_toArray, List.set_cons_zero, List.set_cons_succ])
          refine wpAnyH_ready (rs := [27]) (by kernel_rfl) (by simp) ?_
          refine AllReadyH.cons rfl (fun K hK => ?_) ?_;
          rotate_left 1
          focus exact AllReadyH.nil
          (go_simp; (with_reducible refine (better_more a0_5 a1_5 _).mono ?_); rintro e w1 ⟨rfl, rfl⟩; refine hK.out _ _ ?_ (fun hHeld => ?_); (focus (first | (with_reducible exact HM0.out) | (with_reducible assumption) | (with_reducible exact HMA.out) | (with_reducible exact HMB.out) | (simp only [MS, HFAR0.out, HFAR1.out]; with_reducible exact HMW.out) | (with_reducible exact hKM.out _ _ (by assumption) HBW.out) | (with_reducible exact hKM.out _ _ HMW.out (below_alloc (Below.refl _ _) _)))); clear hK K; try simp only [Act.put, List.setIfInBounds_toArray, List.set_cons_zero, List.set_cons_succ])
          (refine wpAnyH_take (i := 28) (v := ?_) rfl (by kernel_rfl) (by kernel_rfl) (by kernel_rfl) (fun _ _ _ h => h) (Or.inl ⟨by rfl, ?_⟩) (by assumption) ?_; rotate_left 1; focus (intro ww hSw; (try dsimp only at hSw); go_simp; try with_reducible rfl)); try simp only [Act.put, List.setIfInBounds_toArray, List.set_cons_zero, List.set_cons_succ]
          refine wpAnyH_ready (rs := [30]) (by kernel_rfl) (by simp) ?_
          refine AllReadyH.cons rfl (fun K hK => ?_) ?_;
          rotate_left 1
          focus exact AllReadyH.nil
          (go_simp; refine hK.out _ _ ?_ (fun hHeld => ?_); (focus (first | (with_reducible exact HM0.out) | (with_reducible assumption) | (with_reducible exact HMA.out) | (with_reducible exact HMB.out) | (simp only [MS, HFAR0.out, HFAR1.out]; with_reducible exact HMW.out) | (with_reducible exact hKM.out _ _ (by assumption) HBW.out) | (with_reducible exact hKM.out _ _ HMW.out (below_alloc (Below.refl _ _) _)))); clear hK K; try simp only [Act.put, List.setIfInBounds_toArray, List.set_cons_zero, List.set_cons_succ])
          refine wpAnyH_done (by kernel_rfl) ?_ _; refine NoPanic.normal ?_
          have hB1 : Below w.heap.size w w1 := HB0.out.trans (HBX.out.mono HB0.out.size)
          have hR1 : w1.heap[w.heap.size + 1 + 1]? = some (aggO 0 false 0 0 0 0) := blk_below B2.out HBX.out
          have hlt1 : w.heap.size + 1 + 1 < w1.heap.size := blk_lt hR1
          have hlt0 : w.heap.size + 1 + 1 < W0.heap.size := blk_lt B2.out
          have hM1 := HMW.out
          first
            | (refine ⟨rfl, w1.heap.size, ?_, by with_reducible rfl⟩; exact ⟨blk_new w1 (aggO (IntKind.u64.wrap (a0_0 + a1_0)) true s1 s2 (lesser a0_4 a1_4) (greater a0_5 a1_5)), hlt1, hKM.out _ _ HMW.out (below_alloc (Below.refl w1.heap.size w1) (aggO (IntKind.u64.wrap (a0_0 + a1_0)) true s1 s2 (lesser a0_4 a1_4) (greater a0_5 a1_5))), blk_alloc hR1 (aggO (IntKind.u64.wrap (a0_0 + a1_0)) true s1 s2 (lesser a0_4 a1_4) (greater a0_5 a1_5)), below_alloc hB1 (aggO (IntKind.u64.wrap (a0_0 + a1_0)) true s1 s2 (lesser a0_4 a1_4) (greater a0_5 a1_5))⟩)
            | (have hz := tailB (n := IntKind.u64.wrap (a0_0 + a1_0)) (o := true) (x := s1) (y := s2) (a := lesser a0_4 a1_4) (b := greater a0_5 a1_5) HG.out
               refine ⟨rfl, W0.heap.size, ?_, by with_reducible rfl⟩; exact ⟨hz.1, hlt0, ms_same hM1 (hz.2.1 _ (by omega)) (hz.2.1 _ (by omega)), (hz.2.1 _ (by omega)).trans hR1, hB1.trans (hz.2.2.mono (by omega))⟩)
      · refine AllReadyH.cons rfl (fun K hK => ?_) ?_;
        rotate_left 1
        focus exact AllReadyH.nil
        (go_simp; refine hK.out _ _ ?_ (fun hHeld => ?_); (focus (first | (with_reducible exact HM0.out) | (with_reducible assumption) | (with_reducible exact HMA.out) | (with_reducible exact HMB.out) | (simp only [MS, HFAR0.out, HFAR1.out]; with_reducible exact HMW.out) | (with_reducible exact hKM.out _ _ (by assumption) HBW.out) | (with_reducible exact hKM.out _ _ HMW.out (below_alloc (Below.refl _ _) _)))); clear hK K; try simp only [Act.put, List.setIfInBounds_toArray, List.set_cons_zero, List.set_cons_succ])
        refine wpAnyH_ready (rs := [21]) (by kernel_rfl) (by simp) ?_
        refine AllReadyH.cons rfl (fun K hK => ?_) ?_;
        rotate_left 1
        focus exact AllReadyH.nil
        (go_simp; (with_reducible refine (better_less a0_4 a1_4 _).mono ?_); rintro e w1 ⟨rfl, rfl⟩; refine hK.out _ _ ?_ (fun hHeld => ?_); (focus (first | (with_reducible exact HM0.out) | (with_reducible assumption) | (with_reducible exact HMA.out) | (with_reducible exact HMB.out) | (simp only [MS, HFAR0.out, HFAR1.out]; with_reducible exact HMW.out) | (with_reducible exact hKM.out _ _ (by assumption) HBW.out) | (with_reducible exact hKM.out _ _ HMW.out (below_alloc (Below.refl _ _) _)))); clear hK K; try simp only [Act.put, List.setIfInBounds_toArray, List.set_cons_zero, List.set_cons_succ])
        refine wpAnyH_ready (rs := [27]) (by kernel_rfl) (by simp) ?_
        refine AllReadyH.cons rfl (fun K hK => ?_) ?_;
        rotate_left 1
        focus exact AllReadyH.nil
        (go_simp; (with_reducible refine (better_more a0_5 a1_5 _).mono ?_); rintro e w1 ⟨rfl, rfl⟩; refine hK.out _ _ ?_ (fun hHeld => ?_); (focus (first | (with_reducible exact HM0.out) | (with_reducible assumption) | (with_reducible exact HMA.out) | (with_reducible exact HMB.out) | (simp only [MS, HFAR0.out, HFAR1.out]; with_reducible exact HMW.out) | (with_reducible exact hKM.out _ _ (by assumption) HBW.out) | (with_reducible exact hKM.out _ _ HMW.out (below_alloc (Below.refl _ _) _)))); clear hK K; try simp only [Act.put, List.setIfInBounds_toArray, List.set_cons_zero, List.set_cons_succ])
        (refine wpAnyH_take (i := 28) (v := ?_) rfl (by kernel_rfl) (by kernel_rfl) (by kernel_rfl) (fun _ _ _ h => h) (Or.inl ⟨by rfl, ?_⟩) (by assumption) ?_; rotate_left 1; focus (intro ww hSw; (try dsimp only at hSw); go_simp; try with_reducible rfl)); try simp only [Act.put, List.setIfInBounds_toArray, List.set_cons_zero, List.set_cons_succ]
        refine wpAnyH_ready (rs := [30]) (by kernel_rfl) (by simp) ?_
        refine AllReadyH.cons rfl (fun K hK => ?_) ?_;
        rotate_left 1
        focus exact AllReadyH.nil
        (go_simp; refine hK.out _ _ ?_ (fun hHeld => ?_); (focus (first | (with_reducible exact HM0.out) | (with_reducible assumption) | (with_reducible exact HMA.out) | (with_reducible exact HMB.out) | (simp only [MS, HFAR0.out, HFAR1.out]; with_reducible exact HMW.out) | (with_reducible exact hKM.out _ _ (by assumption) HBW.out) | (with_reducible exact hKM.out _ _ HMW.out (below_alloc (Below.refl _ _) _)))); clear hK K; try simp only [Act.put, List.setIfInBounds_toArray, List.set_cons_zero, List.set_cons_succ])
        refine wpAnyH_done (by kernel_rfl) ?_ _; refine NoPanic.normal ?_
        have hB1 : Below w.heap.size w w1 := HB0.out.trans (HBX.out.mono HB0.out.size)
        have hR1 : w1.heap[w.heap.size + 1 + 1]? = some (aggO 0 false 0 0 0 0) := blk_below B2.out HBX.out
        have hlt1 : w.heap.size + 1 + 1 < w1.heap.size := blk_lt hR1
        have hlt0 : w.heap.size + 1 + 1 < W0.heap.size := blk_lt B2.out
        have hM1 := HMW.out
        first
          | (refine ⟨rfl, w1.heap.size, ?_, by with_reducible rfl⟩; exact ⟨blk_new w1 (aggO (IntKind.u64.wrap (a0_0 + a1_0)) true s1 s2 (lesser a0_4 a1_4) (greater a0_5 a1_5)), hlt1, hKM.out _ _ HMW.out (below_alloc (Below.refl w1.heap.size w1) (aggO (IntKind.u64.wrap (a0_0 + a1_0)) true s1 s2 (lesser a0_4 a1_4) (greater a0_5 a1_5))), blk_alloc hR1 (aggO (IntKind.u64.wrap (a0_0 + a1_0)) true s1 s2 (lesser a0_4 a1_4) (greater a0_5 a1_5)), below_alloc hB1 (aggO (IntKind.u64.wrap (a0_0 + a1_0)) true s1 s2 (lesser a0_4 a1_4) (greater a0_5 a1_5))⟩)
          | (have hz := tailB (n := IntKind.u64.wrap (a0_0 + a1_0)) (o := true) (x := s1) (y := s2) (a := lesser a0_4 a1_4) (b := greater a0_5 a1_5) HG.out
             refine ⟨rfl, W0.heap.size, ?_, by with_reducible rfl⟩; exact ⟨hz.1, hlt0, ms_same hM1 (hz.2.1 _ (by omega)) (hz.2.1 _ (by omega)), (hz.2.1 _ (by omega)).trans hR1, hB1.trans (hz.2.2.mono (by omega))⟩)
    · refine AllReadyH.cons rfl (fun K hK => ?_) ?_;
      rotate_left 1
      focus exact AllReadyH.nil
      (go_simp; refine hK.out _ _ ?_ (fun hHeld => ?_); (focus (first | (with_reducible exact HM0.out) | (with_reducible assumption) | (with_reducible exact HMA.out) | (with_reducible exact HMB.out) | (simp only [MS, HFAR0.out, HFAR1.out]; with_reducible exact HMW.out) | (with_reducible exact hKM.out _ _ (by assumption) HBW.out) | (with_reducible exact hKM.out _ _ HMW.out (below_alloc (Below.refl _ _) _)))); clear hK K; try simp only [Act.put, List.setIfInBounds_toArray, List.set_cons_zero, List.set_cons_succ])
      refine wpAnyH_ready (rs := [15]) (by kernel_rfl) (by simp) ?_
      refine AllReadyH.cons rfl (fun K hK => ?_) ?_;
      rotate_left 1
      focus exact AllReadyH.nil
      (go_simp; (with_reducible refine (wide_Add.calls a0_2 a0_3 a1_2 a1_3 s1 s2 _ HS.out).mono ?_); rintro e w1 ⟨rfl, hbw⟩; have HBW := Aside0.mk hbw; have HBX := Aside0.mk (show Below W0.heap.size W0 w1 from (by first | exact ⟨hbw.os, hbw.tape, hbw.output, hbw.size, hbw.block⟩ | exact (below_alloc (Below.refl W0.heap.size W0) (aggO 0 false 0 0 0 0)).trans ⟨hbw.os, hbw.tape, hbw.output, hbw.size, fun k hk => hbw.block k (Nat.lt_of_lt_of_le hk (show W0.heap.size ≤ (W0.alloc (aggO 0 false 0 0 0 0)).heap.size from (by simp)))⟩)); have HMW := Aside0.mk (hKM.out _ _ (by assumption) hbw); (try (have hg : w1.heap[W0.heap.size]? = some (aggO 0 false 0 0 0 0) := (hbw.block W0.heap.size (show W0.heap.size < (W0.alloc (aggO 0 false 0 0 0 0)).heap.size by simp)).trans (blk_new W0 (aggO 0 false 0 0 0 0)); have g0 : w1.cell? ⟨W0.heap.size, 0, none⟩ = some (.int .u64 0) := (by simp [World.cell?, hg]); have g1 : w1.cell? ⟨W0.heap.size, 1, none⟩ = some (.bool false) := (by simp [World.cell?, hg]); have g2 : w1.cell? ⟨W0.heap.size, 2, none⟩ = some (.int .i64 0) := (by simp [World.cell?, hg]); have g3 : w1.cell? ⟨W0.heap.size, 3, none⟩ = some (.int .u64 0) := (by simp [World.cell?, hg]); have g4 : w1.cell? ⟨W0.heap.size, 4, none⟩ = some (.int .i64 0) := (by simp [World.cell?, hg]); have g5 : w1.cell? ⟨W0.heap.size, 5, none⟩ = some (.int .i64 0) := (by simp [World.cell?, hg]); have gf := fun i => show w1.frozen? ⟨W0.heap.size, i, none⟩ = false from (by simp [World.frozen?, hg]); have HG := Aside0.mk hg; clear hg)); clear hbw; refine hK.out _ _ ?_ (fun hHeld => ?_); (focus (first | (with_reducible exact HM0.out) | (with_reducible assumption) | (with_reducible exact HMA.out) | (with_reducible exact HMB.out) | (simp only [MS, HFAR0.out, HFAR1.out]; with_reducible exact HMW.out) | (with_reducible exact hKM.out _ _ (by assumption) HBW.out) | (with_reducible exact hKM.out _ _ HMW.out (below_alloc (Below.refl _ _) _)))); clear hK K; try simp only [Act.put, List.setIfInBounds_toArray, List.set_cons_zero, List.set_cons_succ])
      refine wpAnyH_ready (rs := [21]) (by kernel_rfl) (by simp) ?_
      refine AllReadyH.cons rfl (fun K hK => ?_) ?_;
      rotate_left 1
      focus exact AllReadyH.nil
      (go_simp; (with_reducible refine (better_less a0_4 a1_4 _).mono ?_); rintro e w1 ⟨rfl, rfl⟩; refine hK.out _ _ ?_ (fun hHeld => ?_); (focus (first | (with_reducible exact HM0.out) | (with_reducible assumption) | (with_reducible exact HMA.out) | (with_reducible exact HMB.out) | (simp only [MS, HFAR0.out, HFAR1.out]; with_reducible exact HMW.out) | (with_reducible exact hKM.out _ _ (by assumption) HBW.out) | (with_reducible exact hKM.out _ _ HMW.out (below_alloc (Below.refl _ _) _)))); clear hK K; try simp only [Act.put, List.setIfInBounds_toArray, List.set_cons_zero, List.set_cons_succ])
      refine wpAnyH_ready (rs := [27]) (by kernel_rfl) (by simp) ?_
      refine AllReadyH.cons rfl (fun K hK => ?_) ?_;
      rotate_left 1
      focus exact AllReadyH.nil
      (go_simp; (with_reducible refine (better_more a0_5 a1_5 _).mono ?_); rintro e w1 ⟨rfl, rfl⟩; refine hK.out _ _ ?_ (fun hHeld => ?_); (focus (first | (with_reducible exact HM0.out) | (with_reducible assumption) | (with_reducible exact HMA.out) | (with_reducible exact HMB.out) | (simp only [MS, HFAR0.out, HFAR1.out]; with_reducible exact HMW.out) | (with_reducible exact hKM.out _ _ (by assumption) HBW.out) | (with_reducible exact hKM.out _ _ HMW.out (below_alloc (Below.refl _ _) _)))); clear hK K; try simp only [Act.put, List.setIfInBounds_toArray, List.set_cons_zero, List.set_cons_succ])
      (refine wpAnyH_take (i := 28) (v := ?_) rfl (by kernel_rfl) (by kernel_rfl) (by kernel_rfl) (fun _ _ _ h => h) (Or.inl ⟨by rfl, ?_⟩) (by assumption) ?_; rotate_left 1; focus (intro ww hSw; (try dsimp only at hSw); go_simp; try with_reducible rfl)); try simp only [Act.put, List.setIfInBounds_toArray, List.set_cons_zero, List.set_cons_succ]
      refine wpAnyH_ready (rs := [30]) (by kernel_rfl) (by simp) ?_
      refine AllReadyH.cons rfl (fun K hK => ?_) ?_;
      rotate_left 1
      focus exact AllReadyH.nil
      (go_simp; refine hK.out _ _ ?_ (fun hHeld => ?_); (focus (first | (with_reducible exact HM0.out) | (with_reducible assumption) | (with_reducible exact HMA.out) | (with_reducible exact HMB.out) | (simp only [MS, HFAR0.out, HFAR1.out]; with_reducible exact HMW.out) | (with_reducible exact hKM.out _ _ (by assumption) HBW.out) | (with_reducible exact hKM.out _ _ HMW.out (below_alloc (Below.refl _ _) _)))); clear hK K; try simp only [Act.put, List.setIfInBounds_toArray, List.set_cons_zero, List.set_cons_succ])
      refine wpAnyH_done (by kernel_rfl) ?_ _; refine NoPanic.normal ?_
      have hB1 : Below w.heap.size w w1 := HB0.out.trans (HBX.out.mono HB0.out.size)
      have hR1 : w1.heap[w.heap.size + 1 + 1]? = some (aggO 0 false 0 0 0 0) := blk_below B2.out HBX.out
      have hlt1 : w.heap.size + 1 + 1 < w1.heap.size := blk_lt hR1
      have hlt0 : w.heap.size + 1 + 1 < W0.heap.size := blk_lt B2.out
      have hM1 := HMW.out
      first
        | (refine ⟨rfl, w1.heap.size, ?_, by with_reducible rfl⟩; exact ⟨blk_new w1 (aggO (IntKind.u64.wrap (a0_0 + a1_0)) true s1 s2 (lesser a0_4 a1_4) (greater a0_5 a1_5)), hlt1, hKM.out _ _ HMW.out (below_alloc (Below.refl w1.heap.size w1) (aggO (IntKind.u64.wrap (a0_0 + a1_0)) true s1 s2 (lesser a0_4 a1_4) (greater a0_5 a1_5))), blk_alloc hR1 (aggO (IntKind.u64.wrap (a0_0 + a1_0)) true s1 s2 (lesser a0_4 a1_4) (greater a0_5 a1_5)), below_alloc hB1 (aggO (IntKind.u64.wrap (a0_0 + a1_0)) true s1 s2 (lesser a0_4 a1_4) (greater a0_5 a1_5))⟩)
        | (have hz := tailB (n := IntKind.u64.wrap (a0_0 + a1_0)) (o := true) (x := s1) (y := s2) (a := lesser a0_4 a1_4) (b := greater a0_5 a1_5) HG.out
           refine ⟨rfl, W0.heap.size, ?_, by with_reducible rfl⟩; exact ⟨hz.1, hlt0, ms_same hM1 (hz.2.1 _ (by omega)) (hz.2.1 _ (by omega)), (hz.2.1 _ (by omega)).trans hR1, hB1.trans (hz.2.2.mono (by omega))⟩)
  case imp =>
    rintro e a' W3 ⟨rfl, g, ht, rfl⟩
    have HT := Aside0.mk ht
    clear ht HM0 HMA HMB HFAR0 HFAR1 HN0 HN1 hKM HB0 B2
    have c0 := HT.out.ms.1
    have p0 : W3.cell? ⟨g, 0, none⟩ = some (.int .u64 (IntKind.u64.wrap (a0_0 + a1_0))) := blk_cell HT.out.sum 0
    have p1 : W3.cell? ⟨g, 1, none⟩ = some (.bool true) := blk_cell HT.out.sum 1
    have p2 : W3.cell? ⟨g, 2, none⟩ = some (.int .i64 s1) := blk_cell HT.out.sum 2
    have p3 : W3.cell? ⟨g, 3, none⟩ = some (.int .u64 s2) := blk_cell HT.out.sum 3
    have p4 : W3.cell? ⟨g, 4, none⟩ = some (.int .i64 (lesser a0_4 a1_4)) := blk_cell HT.out.sum 4
    have p5 : W3.cell? ⟨g, 5, none⟩ = some (.int .i64 (greater a0_5 a1_5)) := blk_cell HT.out.sum 5
    have pf := fun i => blk_frozen HT.out.sum i
    have q0 : W3.cell? ⟨w.heap.size + 1 + 1, 0, none⟩ = some (.int .u64 0) := blk_cell HT.out.res 0
    have q1 : W3.cell? ⟨w.heap.size + 1 + 1, 1, none⟩ = some (.bool false) := blk_cell HT.out.res 1
    have q2 : W3.cell? ⟨w.heap.size + 1 + 1, 2, none⟩ = some (.int .i64 0) := blk_cell HT.out.res 2
    have q3 : W3.cell? ⟨w.heap.size + 1 + 1, 3, none⟩ = some (.int .u64 0) := blk_cell HT.out.res 3
    have q4 : W3.cell? ⟨w.heap.size + 1 + 1, 4, none⟩ = some (.int .i64 0) := blk_cell HT.out.res 4
    have q5 : W3.cell? ⟨w.heap.size + 1 + 1, 5, none⟩ = some (.int .i64 0) := blk_cell HT.out.res 5
    have qf := fun i => blk_frozen HT.out.res i
    have hfar := HT.out.far
    have n1 : (g = w.heap.size + 1 + 1) = False := eq_false (by omega)
    have n2 : (w.heap.size + 1 + 1 = g) = False := eq_false (by omega)
    have n3 : (g = w.heap.size) = False := eq_false (by omega)
    have n4 : (w.heap.size = g) = False := eq_false (by omega)
    clear hfar
    obtain ⟨N, hN⟩ : ∃ N, IntKind.u64.wrap (a0_0 + a1_0) = N := ⟨_, rfl⟩
    have HN := Aside0.mk hN
    rw [hN] at p0 ⊢
    clear hN
    by_cases hc : N < a0_0
    · have d1 : decide (N < a0_0) = true := decide_eq_true hc
      have HC := Aside0.mk hc
      clear hc
      go_wp2
      have hres := blk_set (blk_set (blk_set (blk_set (blk_set (blk_set (blk_far (blk_far HT.out.res (p := ⟨g, 0, none⟩) (by have := HT.out.far; simp; omega) (.int .u64 18446744073709551615)) (p := ⟨g, 1, none⟩) (by have := HT.out.far; simp; omega) (.bool true)) 0 (.int .u64 18446744073709551615)) 1 (.bool true)) 2 (.int .i64 s1)) 3 (.int .u64 s2)) 4 (.int .i64 (lesser a0_4 a1_4))) 5 (.int .i64 (greater a0_5 a1_5))
      refine bodyPost_ret (results_cell_row rfl _ _ (w.heap.size + 1 + 1) 36 _ (0, 0) _ rfl hres hu rfl (by kernel_rfl)) rfl ?_
      have hm := HM.out; unfold mergeS at hm; rw [HN.out, if_pos (.inl HC.out)] at hm; cases hm; refine ⟨rfl, ?_⟩
      have hg1 := HT.out.far
      exact ((((((((HT.out.be.setCell (p := ⟨g, 0, none⟩) (by simp; omega) _).setCell (p := ⟨g, 1, none⟩) (by simp; omega) _).setCell (p := ⟨w.heap.size + 1 + 1, 0, none⟩) (by simp; omega) _).setCell (p := ⟨w.heap.size + 1 + 1, 1, none⟩) (by simp; omega) _).setCell (p := ⟨w.heap.size + 1 + 1, 2, none⟩) (by simp; omega) _).setCell (p := ⟨w.heap.size + 1 + 1, 3, none⟩) (by simp; omega) _).setCell (p := ⟨w.heap.size + 1 + 1, 4, none⟩) (by simp; omega) _).setCell (p := ⟨w.heap.size + 1 + 1, 5, none⟩) (by simp; omega) _)
    · have d1 : decide (N < a0_0) = false := decide_eq_false hc
      have HC := Aside0.mk hc
      clear hc
      go_wp2
      have hres := blk_set (blk_set (blk_set (blk_set (blk_set (blk_set (blk_far (blk_far HT.out.res (p := ⟨g, 0, none⟩) (by have := HT.out.far; simp; omega) (.int .u64 18446744073709551615)) (p := ⟨g, 1, none⟩) (by have := HT.out.far; simp; omega) (.bool true)) 0 (.int .u64 18446744073709551615)) 1 (.bool true)) 2 (.int .i64 s1)) 3 (.int .u64 s2)) 4 (.int .i64 (lesser a0_4 a1_4))) 5 (.int .i64 (greater a0_5 a1_5))
      refine bodyPost_ret (results_cell_row rfl _ _ (w.heap.size + 1 + 1) 36 _ (0, 0) _ rfl hres hu rfl (by kernel_rfl)) rfl ?_
      have hm := HM.out; unfold mergeS at hm; rw [HN.out, if_pos (.inr rfl)] at hm; cases hm; refine ⟨rfl, ?_⟩
      have hg1 := HT.out.far
      exact ((((((((HT.out.be.setCell (p := ⟨g, 0, none⟩) (by simp; omega) _).setCell (p := ⟨g, 1, none⟩) (by simp; omega) _).setCell (p := ⟨w.heap.size + 1 + 1, 0, none⟩) (by simp; omega) _).setCell (p := ⟨w.heap.size + 1 + 1, 1, none⟩) (by simp; omega) _).setCell (p := ⟨w.heap.size + 1 + 1, 2, none⟩) (by simp; omega) _).setCell (p := ⟨w.heap.size + 1 + 1, 3, none⟩) (by simp; omega) _).setCell (p := ⟨w.heap.size + 1 + 1, 4, none⟩) (by simp; omega) _).setCell (p := ⟨w.heap.size + 1 + 1, 5, none⟩) (by simp; omega) _)

end Go.Proofs.Yteomanpaladdjaa.P
