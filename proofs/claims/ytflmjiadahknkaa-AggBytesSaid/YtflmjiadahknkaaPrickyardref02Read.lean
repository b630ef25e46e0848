-- Written by a program of this session out of the translation.
import Derived.Test.YtflmjiadahknkaaPx0
import Derived.Test.YtflmjiadahknkaaPrickyardref02Number
import Derived.Test.YtflmjiadahknkaaPrickyardref02Write
import Derived.Test.YtflmjiadahknkaaERefRead
namespace Go.Proofs.Ytflmjiadahknkaa.P
open Go.RowKit Go.Proofs.YtflmjiadahknkaaW.PrintWords Go.Proofs.YtflmjiadahknkaaW.PrintLast Go.Proofs.YtflmjiadahknkaaW.PrintMore
attribute [local go_sem] max2_int min2_int max_two min_two max_three min_three max_four min_four   -- for this text's walks alone
set_option linter.unusedVariables false
set_option linter.unusedSimpArgs false

theorem sa2_ {α : Type} {l : List α} {i : Nat} {a : α} : l.toArray.setIfInBounds i a = (l.set i a).toArray := List.setIfInBounds_toArray ..
theorem sb2_ {α : Type} {b a : α} {l : List α} : (b :: l).set 0 a = a :: l := List.set_cons_zero
theorem sc2_ {α : Type} {b a : α} {l : List α} {n : Nat} : (b :: l).set (n + 1) a = b :: l.set n a := List.set_cons_succ
theorem bn2_ {B : Nat} {w W : World} (h : Below B w W) (n : Nat) : Below B w (W.drewN n) := pw_below_drewN h n
theorem bd2_ {base : Nat} {w W : World} (h : Below base w W) : Below base w W.drew := below_drew1 h
abbrev T2 : Bool := true
abbrev F2 : Bool := false

/-! ### rickyardref02_Read: function 17 -/
def rickyardref02_Read.f (k : Nat) (l0 : List Int) : Option (Int × Bool × Int × Int × Int × Int × Int) := if (l0.length : Int) < 41 then (some (0, false, 0, 0, 0, 0, 10)) else (if (l0.length : Int) > 41 then (some (0, false, 0, 0, 0, 0, 2)) else (if 1 ≤ 9 then (if 9 ≤ (l0.length : Int) then ((rickyardref02_Number.f k ((l0.take 9).drop 1)).bind fun t401 => (if 0 < (l0.length : Int) then (if 25 ≤ 33 then (if 33 ≤ (l0.length : Int) then ((rickyardref02_Number.f k ((l0.take 33).drop 25)).bind fun t404 => (if 33 ≤ 41 then (if 41 ≤ (l0.length : Int) then ((rickyardref02_Number.f k ((l0.take 41).drop 33)).bind fun t406 => (if 9 ≤ 25 then (if 25 ≤ (l0.length : Int) then ((rickyardref01_Read.f ((l0.take 25).drop 9)).bind fun bt409 => ((rickyardref02_Write.f k t401 ((rd l0 0) != 0) bt409.1 bt409.2.1 (wrap64 (t404)) (wrap64 (t406))).bind fun bt412 => (if bt412.2 = 0 then (if (strOfNums bt412.1).toList = (strOfNums l0).toList then (some (t401, ((rd l0 0) != 0), bt409.1, bt409.2.1, wrap64 (t404), wrap64 (t406), bt412.2)) else (some (0, false, 0, 0, 0, 0, 3))) else (some (0, false, 0, 0, 0, 0, 3))))) else (none)) else (none))) else (none)) else (none))) else (none)) else (none)) else (none))) else (none)) else (none)))
theorem rickyardref02_Read.mono : ∀ a0 k, LeO (rickyardref02_Read.f k a0) (rickyardref02_Read.f (k + 1) a0) := by
 intro a0 k
 unfold rickyardref02_Read.f
 repeat' first
   | (with_reducible exact rickyardref02_Number.mono _ _)
   | (with_reducible exact rickyardref02_Write.mono _ _ _ _ _ _ _)
   | (with_reducible exact LeO.refl _)
   | (with_reducible exact LeO.none _)
   | (with_reducible refine LeO.ite ?_ ?_)
   | (with_reducible refine LeO.bind ?_ (fun _ => ?_))
   | exact rickyardref02_Number.mono _ _
   | exact rickyardref02_Write.mono _ _ _ _ _ _ _
   | exact LeO.none _
   | refine LeO.ite ?_ ?_
   | refine LeO.bind ?_ (fun _ => ?_)
def rickyardref02_Read.T5 : Bool × List (List Nat × List Nat) := (true, [([], []), ([0], [0]), ([1], [1]), ([], []), ([3], [3]), ([4], [4]), ([5], [5]), ([], []), ([7], [7]), ([8, 2], [8]), ([9], [9]), ([], []), ([11], [11]), ([12, 9], [12]), ([13], [13]), ([2, 6, 10, 14], [2, 6, 10, 14]), ([], []), ([16, 15, 13, 0, 1, 2, 3, 4, 5, 6, 7, 8, 9, 10, 11, 12, 13, 14, 15, 16], [15, 16])])
def rickyardref02_Read.B5 : List Nat := [0, 1, 3, 0, 8, 24, 56, 0, 128, 391, 903, 0, 2048, 7047, 15239, 32767, 0, 131071]
theorem rickyardref02_Read.tab5 : rtab .any (opsOf Try.f17 5) = rickyardref02_Read.T5 := by kernel_rfl
theorem rickyardref02_Read.bits5 : waitsOk rickyardref02_Read.T5.2 rickyardref02_Read.B5 = true := by kernel_rfl
set_option maxHeartbeats 8000000 in
set_option maxRecDepth 100000 in
theorem rickyardref02_Read.calls (k : Nat) (A0 : Option Addr) (c0 : Nat) (l0 : List Int) (r1 : Int) (r2 : Bool) (r3 : Int) (r4 : Int) (r5 : Int) (r6 : Int) (r7 : Int) (w : World) (hr0 : Kd.C (Kd.int .u8) w A0 l0.length l0) (hc0 : l0.length ≤ c0) (h : rickyardref02_Read.f k l0 = some (r1, r2, r3, r4, r5, r6, r7)) :
  Calls Try.prog 17 #[.slice A0 l0.length c0] w fun e w' => e = .returned (.tuple #[.agg #[.int .u64 r1, .bool r2, .int .i64 r3, .int .u64 r4, .int .i64 r5, .int .i64 r6], .int .i64 r7]) ∧ Below w.heap.size w w' := by
 have hu26 := Try.underlying26
 have hu24 := Try.underlying24
 have HR0 := Aside0.mk hr0
 have HC0 := Aside0.mk hc0
 clear hr0 hc0
 have HB := Aside0.mk (Below.refl w.heap.size w)
 have H : (if (l0.length : Int) < 41 then (some (0, false, 0, 0, 0, 0, 10)) else (if (l0.length : Int) > 41 then (some (0, false, 0, 0, 0, 0, 2)) else (if 1 ≤ 9 then (if 9 ≤ (l0.length : Int) then ((rickyardref02_Number.f k ((l0.take 9).drop 1)).bind fun t401 => (if 0 < (l0.length : Int) then (if 25 ≤ 33 then (if 33 ≤ (l0.length : Int) then ((rickyardref02_Number.f k ((l0.take 33).drop 25)).bind fun t404 => (if 33 ≤ 41 then (if 41 ≤ (l0.length : Int) then ((rickyardref02_Number.f k ((l0.take 41).drop 33)).bind fun t406 => (if 9 ≤ 25 then (if 25 ≤ (l0.length : Int) then ((rickyardref01_Read.f ((l0.take 25).drop 9)).bind fun bt409 => ((rickyardref02_Write.f k t401 ((rd l0 0) != 0) bt409.1 bt409.2.1 (wrap64 (t404)) (wrap64 (t406))).bind fun bt412 => (if bt412.2 = 0 then (if (strOfNums bt412.1).toList = (strOfNums l0).toList then (some (t401, ((rd l0 0) != 0), bt409.1, bt409.2.1, wrap64 (t404), wrap64 (t406), bt412.2)) else (some (0, false, 0, 0, 0, 0, 3))) else (some (0, false, 0, 0, 0, 0, 3))))) else (none)) else (none))) else (none)) else (none))) else (none)) else (none)) else (none))) else (none)) else (none)))) = some (r1, r2, r3, r4, r5, r6, r7) := h
 clear h
 by_cases c2 : (l0.length : Int) < 41
 ·rw [if_pos c2] at H
  have c2b0 : decide ((l0.length : Int) < 41) = true := decide_eq_true c2
  have c2b1 : decide (l0.length < 41) = true := decide_eq_true (by omega)
  clear c2
  simp only [Option.some.injEq, Prod.mk.injEq] at H
  obtain ⟨rfl, rfl, rfl, rfl, rfl, rfl, rfl⟩ := H
  go_enter Try.func17, Try.ntmps17
  go_wp2_with (first | ((with_reducible refine gate_dst (N := 2) rfl ?_); refine box_event ?hg (N := 2) ?hd (cs := #[.int .u64 0, .bool false, .int .i64 0, .int .u64 0, .int .i64 0, .int .i64 0]) (t := 26) ?hr ?_; (case hd => rfl); (case hg => rfl); (case hr => first | (go_simp; done) | (go_simp; rfl)); intro gb399 hg w3 hbox hb; have n0_ := Aside0.mk (below_step (by repeat (first | (with_reducible first | exact HB.out | apply below_alloc | apply bn2_ | apply bd2_) | exact HB.out)) hb); have n1_ := Aside0.mk (hbox); have n2_ := Aside0.mk ((by rw [hg]; exact (below_size (by repeat (first | (with_reducible first | exact HB.out | apply below_alloc | apply bn2_ | apply bd2_) | exact HB.out))) : w.heap.size ≤ gb399)); have n3_ := Aside0.mk ((by rw [hg]; exact (below_size (by repeat (first | (with_reducible first | exact HB.out | apply below_alloc | apply bn2_ | apply bd2_) | exact HB.out))) : w.heap.size ≤ gb399)); clear HB; have HB := n0_; have BK399 := n1_; have GW399 := n2_; have GE399 := n3_; clear n0_ n1_ n2_ n3_; clear hb hbox hg; have hcz4_0 : w3.cell? ⟨gb399, 0, none⟩ = some (.int .u64 0) := (blk_cell BK399.out 0).trans rfl; have hcz4_1 : w3.cell? ⟨gb399, 1, none⟩ = some (.bool false) := (blk_cell BK399.out 1).trans rfl; have hcz4_2 : w3.cell? ⟨gb399, 2, none⟩ = some (.int .i64 0) := (blk_cell BK399.out 2).trans rfl; have hcz4_3 : w3.cell? ⟨gb399, 3, none⟩ = some (.int .u64 0) := (blk_cell BK399.out 3).trans rfl; have hcz4_4 : w3.cell? ⟨gb399, 4, none⟩ = some (.int .i64 0) := (blk_cell BK399.out 4).trans rfl; have hcz4_5 : w3.cell? ⟨gb399, 5, none⟩ = some (.int .i64 0) := (blk_cell BK399.out 5).trans rfl; have hfz4_0 := blk_frozen BK399.out 0; have hfz4_1 := blk_frozen BK399.out 1; have hfz4_2 := blk_frozen BK399.out 2; have hfz4_3 := blk_frozen BK399.out 3; have hfz4_4 := blk_frozen BK399.out 4; have hfz4_5 := blk_frozen BK399.out 5))
  refine bodyPost_ret (results_ct rfl _ _ gb399 26 #[.int .u64 0, .bool false, .int .i64 0, .int .u64 0, .int .i64 0, .int .i64 0] (0, 0) _ rfl (by (with_reducible repeat (first | refine blk_drewN ?_ _ | refine blk_drew ?_ | refine blk_alloc ?_ _)); refine blk_put (cs := #[.int .u64 0, .bool false, .int .i64 0, .int .u64 0, .int .i64 0, .int .i64 0]) ?_ 5 _ rfl; (with_reducible repeat (first | refine blk_drewN ?_ _ | refine blk_drew ?_ | refine blk_alloc ?_ _)); refine blk_put (cs := #[.int .u64 0, .bool false, .int .i64 0, .int .u64 0, .int .i64 0, .int .i64 0]) ?_ 4 _ rfl; (with_reducible repeat (first | refine blk_drewN ?_ _ | refine blk_drew ?_ | refine blk_alloc ?_ _)); refine blk_put (cs := #[.int .u64 0, .bool false, .int .i64 0, .int .u64 0, .int .i64 0, .int .i64 0]) ?_ 3 _ rfl; (with_reducible repeat (first | refine blk_drewN ?_ _ | refine blk_drew ?_ | refine blk_alloc ?_ _)); refine blk_put (cs := #[.int .u64 0, .bool false, .int .i64 0, .int .u64 0, .int .i64 0, .int .i64 0]) ?_ 2 _ rfl; (with_reducible repeat (first | refine blk_drewN ?_ _ | refine blk_drew ?_ | refine blk_alloc ?_ _)); refine blk_put (cs := #[.int .u64 0, .bool false, .int .i64 0, .int .u64 0, .int .i64 0, .int .i64 0]) ?_ 1 _ rfl; (with_reducible repeat (first | refine blk_drewN ?_ _ | refine blk_drew ?_ | refine blk_alloc ?_ _)); refine blk_put (cs := #[.int .u64 0, .bool false, .int .i64 0, .int .u64 0, .int .i64 0, .int .i64 0]) ?_ 0 _ rfl; (with_reducible repeat (first | refine blk_drewN ?_ _ | refine blk_drew ?_ | refine blk_alloc ?_ _)); exact BK399.out) Try.underlying26 rfl (by kernel_rfl)) rfl ?_
  exact ⟨by first | rfl | (simp [errW_none, errW_some] <;> rfl) | (simp [*, errW_none, errW_some] <;> rfl), by repeat (first | (with_reducible first | exact HB.out | apply below_alloc | apply bn2_ | apply bd2_ | refine below_set ?_ GE399.out) | exact HB.out)⟩
 ·rw [if_neg c2] at H
  have c2b0 : decide ((l0.length : Int) < 41) = false := decide_eq_false c2
  have c2b1 : decide (l0.length < 41) = false := decide_eq_false (by omega)
  clear c2
  by_cases c5 : (l0.length : Int) > 41
  ·rw [if_pos c5] at H
   have c5b0 : decide (41 < (l0.length : Int)) = true := decide_eq_true c5
   have c5b1 : decide (41 < l0.length) = true := decide_eq_true (by omega)
   clear c5
   simp only [Option.some.injEq, Prod.mk.injEq] at H
   obtain ⟨rfl, rfl, rfl, rfl, rfl, rfl, rfl⟩ := H
   go_enter Try.func17, Try.ntmps17
   go_wp2_with (first | ((with_reducible refine gate_dst (N := 2) rfl ?_); refine box_event ?hg (N := 2) ?hd (cs := #[.int .u64 0, .bool false, .int .i64 0, .int .u64 0, .int .i64 0, .int .i64 0]) (t := 26) ?hr ?_; (case hd => rfl); (case hg => rfl); (case hr => first | (go_simp; done) | (go_simp; rfl)); intro gb399 hg w6 hbox hb; have n0_ := Aside0.mk (below_step (by repeat (first | (with_reducible first | exact HB.out | apply below_alloc | apply bn2_ | apply bd2_) | exact HB.out)) hb); have n1_ := Aside0.mk (hbox); have n2_ := Aside0.mk ((by rw [hg]; exact (below_size (by repeat (first | (with_reducible first | exact HB.out | apply below_alloc | apply bn2_ | apply bd2_) | exact HB.out))) : w.heap.size ≤ gb399)); have n3_ := Aside0.mk ((by rw [hg]; exact (below_size (by repeat (first | (with_reducible first | exact HB.out | apply below_alloc | apply bn2_ | apply bd2_) | exact HB.out))) : w.heap.size ≤ gb399)); clear HB; have HB := n0_; have BK399 := n1_; have GW399 := n2_; have GE399 := n3_; clear n0_ n1_ n2_ n3_; clear hb hbox hg; have hcz7_0 : w6.cell? ⟨gb399, 0, none⟩ = some (.int .u64 0) := (blk_cell BK399.out 0).trans rfl; have hcz7_1 : w6.cell? ⟨gb399, 1, none⟩ = some (.bool false) := (blk_cell BK399.out 1).trans rfl; have hcz7_2 : w6.cell? ⟨gb399, 2, none⟩ = some (.int .i64 0) := (blk_cell BK399.out 2).trans rfl; have hcz7_3 : w6.cell? ⟨gb399, 3, none⟩ = some (.int .u64 0) := (blk_cell BK399.out 3).trans rfl; have hcz7_4 : w6.cell? ⟨gb399, 4, none⟩ = some (.int .i64 0) := (blk_cell BK399.out 4).trans rfl; have hcz7_5 : w6.cell? ⟨gb399, 5, none⟩ = some (.int .i64 0) := (blk_cell BK399.out 5).trans rfl; have hfz7_0 := blk_frozen BK399.out 0; have hfz7_1 := blk_frozen BK399.out 1; have hfz7_2 := blk_frozen BK399.out 2; have hfz7_3 := blk_frozen BK399.out 3; have hfz7_4 := blk_frozen BK399.out 4; have hfz7_5 := blk_frozen BK399.out 5))
   refine bodyPost_ret (results_ct rfl _ _ gb399 26 #[.int .u64 0, .bool false, .int .i64 0, .int .u64 0, .int .i64 0, .int .i64 0] (0, 0) _ rfl (by (with_reducible repeat (first | refine blk_drewN ?_ _ | refine blk_drew ?_ | refine blk_alloc ?_ _)); refine blk_put (cs := #[.int .u64 0, .bool false, .int .i64 0, .int .u64 0, .int .i64 0, .int .i64 0]) ?_ 5 _ rfl; (with_reducible repeat (first | refine blk_drewN ?_ _ | refine blk_drew ?_ | refine blk_alloc ?_ _)); refine blk_put (cs := #[.int .u64 0, .bool false, .int .i64 0, .int .u64 0, .int .i64 0, .int .i64 0]) ?_ 4 _ rfl; (with_reducible repeat (first | refine blk_drewN ?_ _ | refine blk_drew ?_ | refine blk_alloc ?_ _)); refine blk_put (cs := #[.int .u64 0, .bool false, .int .i64 0, .int .u64 0, .int .i64 0, .int .i64 0]) ?_ 3 _ rfl; (with_reducible repeat (first | refine blk_drewN ?_ _ | refine blk_drew ?_ | refine blk_alloc ?_ _)); refine blk_put (cs := #[.int .u64 0, .bool false, .int .i64 0, .int .u64 0, .int .i64 0, .int .i64 0]) ?_ 2 _ rfl; (with_reducible repeat (first | refine blk_drewN ?_ _ | refine blk_drew ?_ | refine blk_alloc ?_ _)); refine blk_put (cs := #[.int .u64 0, .bool false, .int .i64 0, .int .u64 0, .int .i64 0, .int .i64 0]) ?_ 1 _ rfl; (with_reducible repeat (first | refine blk_drewN ?_ _ | refine blk_drew ?_ | refine blk_alloc ?_ _)); refine blk_put (cs := #[.int .u64 0, .bool false, .int .i64 0, .int .u64 0, .int .i64 0, .int .i64 0]) ?_ 0 _ rfl; (with_reducible repeat (first | refine blk_drewN ?_ _ | refine blk_drew ?_ | refine blk_alloc ?_ _)); exact BK399.out) Try.underlying26 rfl (by kernel_rfl)) rfl ?_
   exact ⟨by first | rfl | (simp [errW_none, errW_some] <;> rfl) | (simp [*, errW_none, errW_some] <;> rfl), by repeat (first | (with_reducible first | exact HB.out | apply below_alloc | apply bn2_ | apply bd2_ | refine below_set ?_ GE399.out) | exact HB.out)⟩
  ·rw [if_neg c5] at H
   have c5b0 : decide (41 < (l0.length : Int)) = false := decide_eq_false c5
   have c5b1 : decide (41 < l0.length) = false := decide_eq_false (by omega)
   clear c5
   by_cases c8 : 1 ≤ 9
   ·rw [if_pos c8] at H
    have c8b0 := eq_true c8
    have c8b1 : decide (1 ≤ 9) = true := decide_eq_true c8
    clear c8
    by_cases c9 : 9 ≤ (l0.length : Int)
    ·rw [if_pos c9] at H
     have c9b0 := eq_true c9
     have c9b1 : decide (9 ≤ (l0.length : Int)) = true := decide_eq_true c9
     clear c9
     replace H := Option.bind_eq_some_iff.mp H
     obtain ⟨t401, A100, H⟩ := H
     replace H : (if 0 < (l0.length : Int) then (if 25 ≤ 33 then (if 33 ≤ (l0.length : Int) then ((rickyardref02_Number.f k ((l0.take 33).drop 25)).bind fun t404 => (if 33 ≤ 41 then (if 41 ≤ (l0.length : Int) then ((rickyardref02_Number.f k ((l0.take 41).drop 33)).bind fun t406 => (if 9 ≤ 25 then (if 25 ≤ (l0.length : Int) then ((rickyardref01_Read.f ((l0.take 25).drop 9)).bind fun bt409 => ((rickyardref02_Write.f k t401 ((rd l0 0) != 0) bt409.1 bt409.2.1 (wrap64 (t404)) (wrap64 (t406))).bind fun bt412 => (if bt412.2 = 0 then (if (strOfNums bt412.1).toList = (strOfNums l0).toList then (some (t401, ((rd l0 0) != 0), bt409.1, bt409.2.1, wrap64 (t404), wrap64 (t406), bt412.2)) else (some (0, false, 0, 0, 0, 0, 3))) else (some (0, false, 0, 0, 0, 0, 3))))) else (none)) else (none))) else (none)) else (none))) else (none)) else (none)) else (none)) = some (r1, r2, r3, r4, r5, r6, r7) := H
     have A10 := Aside0.mk A100
     clear A100
     by_cases c11 : 0 < (l0.length : Int)
     ·rw [if_pos c11] at H
      have c11b0 : decide (0 < (l0.length : Int)) = true := decide_eq_true c11
      have c11b1 : decide (0 < l0.length) = true := decide_eq_true (by omega)
      clear c11
      by_cases c12 : 25 ≤ 33
      ·rw [if_pos c12] at H
       have c12b0 := eq_true c12
       have c12b1 : decide (25 ≤ 33) = true := decide_eq_true c12
       clear c12
       by_cases c13 : 33 ≤ (l0.length : Int)
       ·rw [if_pos c13] at H
        have c13b0 := eq_true c13
        have c13b1 : decide (33 ≤ (l0.length : Int)) = true := decide_eq_true c13
        clear c13
        replace H := Option.bind_eq_some_iff.mp H
        obtain ⟨t404, A140, H⟩ := H
        replace H : (if 33 ≤ 41 then (if 41 ≤ (l0.length : Int) then ((rickyardref02_Number.f k ((l0.take 41).drop 33)).bind fun t406 => (if 9 ≤ 25 then (if 25 ≤ (l0.length : Int) then ((rickyardref01_Read.f ((l0.take 25).drop 9)).bind fun bt409 => ((rickyardref02_Write.f k t401 ((rd l0 0) != 0) bt409.1 bt409.2.1 (wrap64 (t404)) (wrap64 (t406))).bind fun bt412 => (if bt412.2 = 0 then (if (strOfNums bt412.1).toList = (strOfNums l0).toList then (some (t401, ((rd l0 0) != 0), bt409.1, bt409.2.1, wrap64 (t404), wrap64 (t406), bt412.2)) else (some (0, false, 0, 0, 0, 0, 3))) else (some (0, false, 0, 0, 0, 0, 3))))) else (none)) else (none))) else (none)) else (none)) = some (r1, r2, r3, r4, r5, r6, r7) := H
        have A14 := Aside0.mk A140
        clear A140
        by_cases c15 : 33 ≤ 41
        ·rw [if_pos c15] at H
         have c15b0 := eq_true c15
         have c15b1 : decide (33 ≤ 41) = true := decide_eq_true c15
         clear c15
         by_cases c16 : 41 ≤ (l0.length : Int)
         ·rw [if_pos c16] at H
          have c16b0 := eq_true c16
          have c16b1 : decide (41 ≤ (l0.length : Int)) = true := decide_eq_true c16
          clear c16
          replace H := Option.bind_eq_some_iff.mp H
          obtain ⟨t406, A170, H⟩ := H
          replace H : (if 9 ≤ 25 then (if 25 ≤ (l0.length : Int) then ((rickyardref01_Read.f ((l0.take 25).drop 9)).bind fun bt409 => ((rickyardref02_Write.f k t401 ((rd l0 0) != 0) bt409.1 bt409.2.1 (wrap64 (t404)) (wrap64 (t406))).bind fun bt412 => (if bt412.2 = 0 then (if (strOfNums bt412.1).toList = (strOfNums l0).toList then (some (t401, ((rd l0 0) != 0), bt409.1, bt409.2.1, wrap64 (t404), wrap64 (t406), bt412.2)) else (some (0, false, 0, 0, 0, 0, 3))) else (some (0, false, 0, 0, 0, 0, 3))))) else (none)) else (none)) = some (r1, r2, r3, r4, r5, r6, r7) := H
          have A17 := Aside0.mk A170
          clear A170
          by_cases c18 : 9 ≤ 25
          ·rw [if_pos c18] at H
           have c18b0 := eq_true c18
           have c18b1 : decide (9 ≤ 25) = true := decide_eq_true c18
           clear c18
           by_cases c19 : 25 ≤ (l0.length : Int)
           ·rw [if_pos c19] at H
            have c19b0 := eq_true c19
            have c19b1 : decide (25 ≤ (l0.length : Int)) = true := decide_eq_true c19
            clear c19
            replace H := Option.bind_eq_some_iff.mp H
            obtain ⟨⟨t409, t410, t411⟩, A200, H⟩ := H
            replace H : ((rickyardref02_Write.f k t401 ((rd l0 0) != 0) t409 t410 (wrap64 (t404)) (wrap64 (t406))).bind fun bt412 => (if bt412.2 = 0 then (if (strOfNums bt412.1).toList = (strOfNums l0).toList then (some (t401, ((rd l0 0) != 0), t409, t410, wrap64 (t404), wrap64 (t406), bt412.2)) else (some (0, false, 0, 0, 0, 0, 3))) else (some (0, false, 0, 0, 0, 0, 3)))) = some (r1, r2, r3, r4, r5, r6, r7) := H
            have A20 := Aside0.mk A200
            clear A200
            replace H := Option.bind_eq_some_iff.mp H
            obtain ⟨⟨t412, t415⟩, A210, H⟩ := H
            replace H : (if t415 = 0 then (if (strOfNums t412).toList = (strOfNums l0).toList then (some (t401, ((rd l0 0) != 0), t409, t410, wrap64 (t404), wrap64 (t406), t415)) else (some (0, false, 0, 0, 0, 0, 3))) else (some (0, false, 0, 0, 0, 0, 3))) = some (r1, r2, r3, r4, r5, r6, r7) := H
            have A21 := Aside0.mk A210
            clear A210
            by_cases c22 : t415 = 0
            ·rw [if_pos c22] at H
             have c22b0 : (t415 == 0) = true := beq_iff_eq.mpr c22
             have c22b1 : (t415 != 0) = false := bne_eq_false_iff_eq.mpr c22
             clear c22
             by_cases c23 : (strOfNums t412).toList = (strOfNums l0).toList
             ·rw [if_pos c23] at H
              have c23b0 : ((strOfNums t412).toList == (strOfNums l0).toList) = true := beq_iff_eq.mpr c23
              have c23b1 : ((strOfNums t412).toList != (strOfNums l0).toList) = false := bne_eq_false_iff_eq.mpr c23
              clear c23
              simp only [Option.some.injEq, Prod.mk.injEq] at H
              obtain ⟨rfl, rfl, rfl, rfl, rfl, rfl, rfl⟩ := H
              go_enter Try.func17, Try.ntmps17
              try go_wp2_with (first | ((with_reducible refine gate_dst (N := 2) rfl ?_); refine box_event ?hg (N := 2) ?hd (cs := #[.int .u64 0, .bool false, .int .i64 0, .int .u64 0, .int .i64 0, .int .i64 0]) (t := 26) ?hr ?_; (case hd => rfl); (case hg => rfl); (case hr => first | (go_simp; done) | (go_simp; rfl)); intro gb399 hg w24 hbox hb; have n0_ := Aside0.mk (below_step (by repeat (first | (with_reducible first | exact HB.out | apply below_alloc | apply bn2_ | apply bd2_) | exact HB.out)) hb); have n1_ := Aside0.mk (hbox); have n2_ := Aside0.mk ((by rw [hg]; exact (below_size (by repeat (first | (with_reducible first | exact HB.out | apply below_alloc | apply bn2_ | apply bd2_) | exact HB.out))) : w.heap.size ≤ gb399)); have n3_ := Aside0.mk ((by rw [hg]; exact (below_size (by repeat (first | (with_reducible first | exact HB.out | apply below_alloc | apply bn2_ | apply bd2_) | exact HB.out))) : w.heap.size ≤ gb399)); clear HB; have HB := n0_; have BK399 := n1_; have GW399 := n2_; have GE399 := n3_; clear n0_ n1_ n2_ n3_; clear hb hbox hg))
              have n0_ := Aside0.mk (blk_drew BK399.out)
              have n1_ := Aside0.mk (below_drew1 HB.out)
              clear BK399 HB
              have BK399 := n0_
              have HB := n1_
              clear n0_ n1_
              obtain ⟨i026, hi026, _, hsz26, _⟩ := info_parts info5
              obtain ⟨A26, hcut26, hA26, hC26⟩ := print_mid_of (P := Try.prog) (Value.int .u8) 0 36 5 .i64 .i64 Try.underlying36 hi026 hsz26 A0 c0 l0 1 9 (by omega) (by first | omega | exact of_decide_eq_true (by first | (with_reducible assumption) | assumption)) (of_decide_eq_true (by first | (with_reducible assumption) | assumption)) HC0.out
              have HR400 := Aside0.mk (Kd.C_of_reads (h1 := fun _ => rfl) (hA26 _ (Kd.reads_of_C HR0.out)))
              have HC400 := Aside0.mk hC26
              clear hA26 hC26 hi026 hsz26
              have p402 : 0 ≤ (0 : Int) := (by omega)
              have q402 : 0 < (l0.length : Int) := of_decide_eq_true (by first | (with_reducible assumption) | assumption)
              obtain ⟨ad402, e402, hx402_0⟩ := Kd.at_int HR0.out 0 p402 q402
              have hw402_0 := hx402_0
              (try rw [show ((0 : Int)).toNat = 0 from rfl] at hw402_0)
              (try rw [show 0 * 1 = 0 from rfl] at hw402_0)
              (try rw [Addr.add_zero'] at hw402_0)
              cases e402
              have qi402 : (0 < l0.length) = True := eq_true (by omega)
              (try rw [show ((0 : Int)).toNat = 0 from rfl] at hx402_0)
              (try rw [Addr.add_zero'] at hx402_0)
              replace hx402_0 := (HB.out.cell (World.block_lt_of_cell? w _ hx402_0)).trans hx402_0
              replace p402 := eq_true p402
              replace q402 := eq_true q402
              obtain ⟨i027, hi027, _, hsz27, _⟩ := info_parts info5
              obtain ⟨A27, hcut27, hA27, hC27⟩ := print_mid_of (P := Try.prog) (Value.int .u8) 0 36 5 .i64 .i64 Try.underlying36 hi027 hsz27 (some ad402) c0 l0 25 33 (by omega) (by first | omega | exact of_decide_eq_true (by first | (with_reducible assumption) | assumption)) (of_decide_eq_true (by first | (with_reducible assumption) | assumption)) HC0.out
              have HR403 := Aside0.mk (Kd.C_of_reads (h1 := fun _ => rfl) (hA27 _ (Kd.reads_of_C HR0.out)))
              have HC403 := Aside0.mk hC27
              clear hA27 hC27 hi027 hsz27
              obtain ⟨i028, hi028, _, hsz28, _⟩ := info_parts info5
              obtain ⟨A28, hcut28, hA28, hC28⟩ := print_mid_of (P := Try.prog) (Value.int .u8) 0 36 5 .i64 .i64 Try.underlying36 hi028 hsz28 (some ad402) c0 l0 33 41 (by omega) (by first | omega | exact of_decide_eq_true (by first | (with_reducible assumption) | assumption)) (of_decide_eq_true (by first | (with_reducible assumption) | assumption)) HC0.out
              have HR405 := Aside0.mk (Kd.C_of_reads (h1 := fun _ => rfl) (hA28 _ (Kd.reads_of_C HR0.out)))
              have HC405 := Aside0.mk hC28
              clear hA28 hC28 hi028 hsz28
              refine start_ (n := 18) (S := fun w' => w'.cell? ad402 = some (.int .u8 (rd l0 0))) (ds := []) #[F2,F2,F2,F2,F2,F2,F2,F2,F2,F2,F2,F2,F2,F2,F2,F2,F2,F2] (by kernel_rfl) rfl rfl (((HB.out.cell (World.block_lt_of_cell? w _ hw402_0)).trans hw402_0)) (fun hHeld => ?_); refine with_tabW rickyardref02_Read.tab5 rickyardref02_Read.bits5 (fun HT_ HW_ => ?_)
              generalize w24.drew = w25 at BK399 HB HR400 HR403 HR405 hx402_0 hHeld ⊢
              refine pure_ (i := 0) (N := some 15) (v := ?_) (a' := ?_) #[T2,F2,F2,F2,F2,F2,F2,F2,F2,F2,F2,F2,F2,F2,F2,F2,F2,F2] rfl rfl (any_of HT_.out (by kernel_rfl)) (fun _ _ _ h => h) (Or.inl ⟨by rfl, ?_⟩) ?_ ?_
              rotate_left
              ·intro w'
               go_simp
               with_reducible rfl
              rotate_left
              ·simp only [Act.put, sa2_, sb2_, sc2_, i64_w, i32_w]
               rfl
              refine pure_ (i := 1) (N := some 16) (v := ?_) (a' := ?_) #[T2,T2,F2,F2,F2,F2,F2,F2,F2,F2,F2,F2,F2,F2,F2,F2,F2,F2] rfl rfl (any_of HT_.out (by kernel_rfl)) (fun _ _ _ h => h) (Or.inl ⟨by rfl, ?_⟩) ?_ ?_
              rotate_left
              ·intro w'
               go_simp
               with_reducible rfl
              rotate_left
              ·simp only [Act.put, sa2_, sb2_, sc2_, i64_w, i32_w]
               rfl
              refine pure_ (i := 3) (N := some 18) (v := ?_) (a' := ?_) #[T2,T2,F2,T2,F2,F2,F2,F2,F2,F2,F2,F2,F2,F2,F2,F2,F2,F2] rfl rfl (any_of HT_.out (by kernel_rfl)) (fun _ _ _ h => h) (Or.inl ⟨by rfl, ?_⟩) ?_ ?_
              rotate_left
              ·intro w'
               go_simp
               with_reducible rfl
              rotate_left
              ·simp only [Act.put, sa2_, sb2_, sc2_, i64_w, i32_w]
               rfl
              refine pure_ (i := 4) (N := some 19) (v := ?_) (a' := ?_) #[T2,T2,F2,T2,T2,F2,F2,F2,F2,F2,F2,F2,F2,F2,F2,F2,F2,F2] rfl rfl (any_of HT_.out (by kernel_rfl)) (fun _ _ _ h => h) (Or.inl ⟨by rfl, ?_⟩) ?_ ?_
              rotate_left
              ·intro w'
               go_simp
               with_reducible rfl
              rotate_left
              ·simp only [Act.put, sa2_, sb2_, sc2_, i64_w, i32_w]
               rfl
              refine pure_ (i := 7) (N := some 22) (v := ?_) (a' := ?_) #[T2,T2,F2,T2,T2,F2,F2,T2,F2,F2,F2,F2,F2,F2,F2,F2,F2,F2] rfl rfl (any_of HT_.out (by kernel_rfl)) (fun _ _ _ h => h) (Or.inl ⟨by rfl, ?_⟩) ?_ ?_
              rotate_left
              ·intro w'
               go_simp
               with_reducible rfl
              rotate_left
              ·simp only [Act.put, sa2_, sb2_, sc2_, i64_w, i32_w]
               rfl
              refine pure_ (i := 8) (N := some 23) (v := ?_) (a' := ?_) #[T2,T2,F2,T2,T2,F2,F2,T2,T2,F2,F2,F2,F2,F2,F2,F2,F2,F2] rfl rfl (any_of HT_.out (by kernel_rfl)) (fun _ _ _ h => h) (Or.inl ⟨by rfl, ?_⟩) ?_ ?_
              rotate_left
              ·intro w'
               go_simp
               with_reducible rfl
              rotate_left
              ·simp only [Act.put, sa2_, sb2_, sc2_, i64_w, i32_w]
               rfl
              refine pure_ (i := 11) (N := some 26) (v := ?_) (a' := ?_) #[T2,T2,F2,T2,T2,F2,F2,T2,T2,F2,F2,T2,F2,F2,F2,F2,F2,F2] rfl rfl (any_of HT_.out (by kernel_rfl)) (fun _ _ _ h => h) (Or.inl ⟨by rfl, ?_⟩) ?_ ?_
              rotate_left
              ·intro w'
               go_simp
               with_reducible rfl
              rotate_left
              ·simp only [Act.put, sa2_, sb2_, sc2_, i64_w, i32_w]
               rfl
              refine pure_ (i := 12) (N := some 27) (v := ?_) (a' := ?_) #[T2,T2,F2,T2,T2,F2,F2,T2,T2,F2,F2,T2,T2,F2,F2,F2,F2,F2] rfl rfl (any_of HT_.out (by kernel_rfl)) (fun _ _ _ h => h) (Or.inl ⟨by rfl, ?_⟩) ?_ ?_
              rotate_left
              ·intro w'
               go_simp
               with_reducible rfl
              rotate_left
              ·simp only [Act.put, sa2_, sb2_, sc2_, i64_w, i32_w]
               rfl
              refine take_ (i := 5) (N := some 20) (v := ?_) (a' := ?_) #[T2,T2,F2,T2,T2,T2,F2,T2,T2,F2,F2,T2,T2,F2,F2,F2,F2,F2] rfl rfl (take_ofW HT_.out HW_.out (by kernel_rfl)) (fun _ _ _ h => h) (Or.inl ⟨by rfl, ?_⟩) hHeld ?_ ?_
              rotate_left
              ·intro w' s0
               go_simp
               with_reducible rfl
              rotate_left
              ·simp only [Act.put, sa2_, sb2_, sc2_, i64_w, i32_w]
               rfl
              refine pure_ (i := 6) (N := some 21) (v := ?_) (a' := ?_) #[T2,T2,F2,T2,T2,T2,T2,T2,T2,F2,F2,T2,T2,F2,F2,F2,F2,F2] rfl rfl (any_of HT_.out (by kernel_rfl)) (fun _ _ _ h => h) (Or.inl ⟨by rfl, ?_⟩) ?_ ?_
              rotate_left
              ·intro w'
               go_simp
               with_reducible rfl
              rotate_left
              ·simp only [Act.put, sa2_, sb2_, sc2_, i64_w, i32_w]
               rfl
              refine join_ (σ := Nat) 1 #[T2,T2,T2,T2,T2,T2,T2,T2,T2,T2,T2,T2,T2,T2,T2,T2,T2,F2] (fun s_ => [(17, .int .u64 t401), (24, .int .u64 t404), (28, .int .u64 t406), (4, .pointer (some ⟨s_, 0, none⟩)), (25, .int .i64 (wrap64 (t404))), (29, .int .i64 (wrap64 (t406))), (30, .agg #[.int .u64 t401, .bool ((rd l0 0) != 0), .int .i64 0, .int .u64 0, .int .i64 (wrap64 (t404)), .int .i64 (wrap64 (t406))])]) (fun s_ w' => (w'.cell? ad402 = some (.int .u8 (rd l0 0))) ∧ (w'.heap[gb399]? = some (.cells #[.int .u64 0, .bool false, .int .i64 0, .int .u64 0, .int .i64 0, .int .i64 0] 26 (0, 0))) ∧ (w'.heap[s_]? = some (.cells #[.int .u64 0, .bool false, .int .i64 0, .int .u64 0, .int .i64 0, .int .i64 0] 26 (0, 0))) ∧ (w.heap.size ≤ s_) ∧ (w.heap.size ≤ s_) ∧ (gb399 ≠ s_) ∧ (s_ ≠ gb399) ∧ (Below w.heap.size w w')) ?_ ?_
              rotate_left
              ·intro hCont
               refine two_ (i := 2) (j := 16) (Ni := some 17) (Nj := some 4) #[T2,T2,T2,T2,T2,T2,T2,T2,T2,F2,F2,T2,T2,F2,F2,F2,F2,F2] #[T2,T2,F2,T2,T2,T2,T2,T2,T2,F2,F2,T2,T2,F2,F2,F2,T2,F2] rfl rfl rfl rfl (two_of HT_.out (by kernel_rfl)) (by decide) (by decide) (fun K hK => ?_) (fun K hK => ?_)
               ·skip
                refine goes_ Try.func32 (by kernel_rfl) rfl #[.slice A26 ((l0.take 9).drop 1).length (c0 - 1)] (by rfl) rfl rfl (by (try simp only [List.map_toArray, List.map_cons, List.map_nil]); first | done | (rw [show ((l0.take 9).drop 1).length = (9 - 1) from (by rw [List.length_drop, List.length_take]; have h_ : (9 : Int) ≤ (l0.length : Int) := of_decide_eq_true (by first | (with_reducible assumption) | assumption); omega)] <;> rfl) | rfl | (simp only [List.length_drop, List.length_take]; rfl)) ?_
                with_reducible refine (rickyardref02_Number.calls k _ _ ((l0.take 9).drop 1) t401 _ ?side1 ?side2 A10.out).mono ?_
                (case side1 => repeat (first | exact (Kd.C_below HR400.out HB.out) | (with_reducible refine Kd.C_alloc ?_ _) | (with_reducible refine Kd.C_drewN ?_ _) | (with_reducible refine Kd.C_drew ?_)))
                (case side2 => exact HC400.out)
                rintro e w' ⟨rfl, ⟨nd, rfl⟩⟩
                refine ⟨_, rfl, ?_⟩
                refine hK.out _ _ (((HB.out.cell (World.block_lt_of_cell? w _ hw402_0)).trans hw402_0)) (fun hHeld => ?_)
                clear hK K
                refine norm_ (a' := ?_) ?_ ?_
                rotate_left
                ·show Act.put _ (some 17) _ = _
                 simp only [Act.put, sa2_, sb2_, sc2_, i64_w, i32_w]
                 rfl
                refine two_ (i := 9) (j := 16) (Ni := some 24) (Nj := some 4) #[T2,T2,T2,T2,T2,T2,T2,T2,T2,T2,F2,T2,T2,F2,F2,F2,F2,F2] #[T2,T2,T2,T2,T2,T2,T2,T2,T2,F2,F2,T2,T2,F2,F2,F2,T2,F2] rfl rfl rfl rfl (two_of HT_.out (by kernel_rfl)) (by decide) (by decide) (fun K hK => ?_) (fun K hK => ?_)
                ·skip
                 refine goes_ Try.func32 (by kernel_rfl) rfl #[.slice A27 ((l0.take 33).drop 25).length (c0 - 25)] (by rfl) rfl rfl (by (try simp only [List.map_toArray, List.map_cons, List.map_nil]); first | done | (rw [show ((l0.take 33).drop 25).length = (33 - 25) from (by rw [List.length_drop, List.length_take]; have h_ : (33 : Int) ≤ (l0.length : Int) := of_decide_eq_true (by first | (with_reducible assumption) | assumption); omega)] <;> rfl) | rfl | (simp only [List.length_drop, List.length_take]; rfl)) ?_
                 with_reducible refine (rickyardref02_Number.calls k _ _ ((l0.take 33).drop 25) t404 _ ?side1 ?side2 A14.out).mono ?_
                 (case side1 => repeat (first | exact (Kd.C_below HR403.out (by repeat (first | (with_reducible first | exact HB.out | apply below_alloc | apply bn2_ | apply bd2_ | refine below_set ?_ GE399.out) | exact HB.out))) | (with_reducible refine Kd.C_alloc ?_ _) | (with_reducible refine Kd.C_drewN ?_ _) | (with_reducible refine Kd.C_drew ?_)))
                 (case side2 => exact HC403.out)
                 rintro e w' ⟨rfl, ⟨nd, rfl⟩⟩
                 refine ⟨_, rfl, ?_⟩
                 refine hK.out _ _ (((HB.out.cell (World.block_lt_of_cell? w _ hw402_0)).trans hw402_0)) (fun hHeld => ?_)
                 clear hK K
                 refine norm_ (a' := ?_) ?_ ?_
                 rotate_left
                 ·show Act.put _ (some 24) _ = _
                  simp only [Act.put, sa2_, sb2_, sc2_, i64_w, i32_w]
                  rfl
                 refine pure_ (i := 10) (N := some 25) (v := ?_) (a' := ?_) #[T2,T2,T2,T2,T2,T2,T2,T2,T2,T2,T2,T2,T2,F2,F2,F2,F2,F2] rfl rfl (any_of HT_.out (by kernel_rfl)) (fun _ _ _ h => h) (Or.inl ⟨by rfl, ?_⟩) ?_ ?_
                 rotate_left
                 ·intro w'
                  go_simp
                  with_reducible rfl
                 rotate_left
                 ·simp only [Act.put, sa2_, sb2_, sc2_, i64_w, i32_w]
                  rfl
                 refine two_ (i := 13) (j := 16) (Ni := some 28) (Nj := some 4) #[T2,T2,T2,T2,T2,T2,T2,T2,T2,T2,T2,T2,T2,T2,F2,F2,F2,F2] #[T2,T2,T2,T2,T2,T2,T2,T2,T2,T2,T2,T2,T2,F2,F2,F2,T2,F2] rfl rfl rfl rfl (two_of HT_.out (by kernel_rfl)) (by decide) (by decide) (fun K hK => ?_) (fun K hK => ?_)
                 ·skip
                  refine goes_ Try.func32 (by kernel_rfl) rfl #[.slice A28 ((l0.take 41).drop 33).length (c0 - 33)] (by rfl) rfl rfl (by (try simp only [List.map_toArray, List.map_cons, List.map_nil]); first | done | (rw [show ((l0.take 41).drop 33).length = (41 - 33) from (by rw [List.length_drop, List.length_take]; have h_ : (41 : Int) ≤ (l0.length : Int) := of_decide_eq_true (by first | (with_reducible assumption) | assumption); omega)] <;> rfl) | rfl | (simp only [List.length_drop, List.length_take]; rfl)) ?_
                  with_reducible refine (rickyardref02_Number.calls k _ _ ((l0.take 41).drop 33) t406 _ ?side1 ?side2 A17.out).mono ?_
                  (case side1 => repeat (first | exact (Kd.C_below HR405.out (by repeat (first | (with_reducible first | exact HB.out | apply below_alloc | apply bn2_ | apply bd2_ | refine below_set ?_ GE399.out) | exact HB.out))) | (with_reducible refine Kd.C_alloc ?_ _) | (with_reducible refine Kd.C_drewN ?_ _) | (with_reducible refine Kd.C_drew ?_)))
                  (case side2 => exact HC405.out)
                  rintro e w' ⟨rfl, ⟨nd, rfl⟩⟩
                  refine ⟨_, rfl, ?_⟩
                  refine hK.out _ _ (((HB.out.cell (World.block_lt_of_cell? w _ hw402_0)).trans hw402_0)) (fun hHeld => ?_)
                  clear hK K
                  refine norm_ (a' := ?_) ?_ ?_
                  rotate_left
                  ·show Act.put _ (some 28) _ = _
                   simp only [Act.put, sa2_, sb2_, sc2_, i64_w, i32_w]
                   rfl
                  refine pure_ (i := 14) (N := some 29) (v := ?_) (a' := ?_) #[T2,T2,T2,T2,T2,T2,T2,T2,T2,T2,T2,T2,T2,T2,T2,F2,F2,F2] rfl rfl (any_of HT_.out (by kernel_rfl)) (fun _ _ _ h => h) (Or.inl ⟨by rfl, ?_⟩) ?_ ?_
                  rotate_left
                  ·intro w'
                   go_simp
                   with_reducible rfl
                  rotate_left
                  ·simp only [Act.put, sa2_, sb2_, sc2_, i64_w, i32_w]
                   rfl
                  refine pure_ (i := 15) (N := some 30) (v := ?_) (a' := ?_) #[T2,T2,T2,T2,T2,T2,T2,T2,T2,T2,T2,T2,T2,T2,T2,T2,F2,F2] rfl rfl (any_of HT_.out (by kernel_rfl)) (fun _ _ _ h => h) (Or.inl ⟨by rfl, ?_⟩) ?_ ?_
                  rotate_left
                  ·intro w'
                   go_simp
                   with_reducible rfl
                  rotate_left
                  ·simp only [Act.put, sa2_, sb2_, sc2_, i64_w, i32_w]
                   rfl
                  refine one_ (i := 16) (N := some 4) #[T2,T2,T2,T2,T2,T2,T2,T2,T2,T2,T2,T2,T2,T2,T2,T2,T2,F2] rfl rfl (one_of HT_.out (by kernel_rfl)) (by decide) (fun K hK => ?_)
                  refine box_step ?hg (N := 4) ?hd (cs := #[.int .u64 0, .bool false, .int .i64 0, .int .u64 0, .int .i64 0, .int .i64 0]) (t := 26) ?hr ?_; (case hd => rfl); (case hg => rfl); (case hr => first | (go_simp; done) | (go_simp; rfl))
                  intro gb407 hg w29 hbox hb
                  have n0_ := Aside0.mk (blk_below (g := gb399) (o := .cells #[.int .u64 0, .bool false, .int .i64 0, .int .u64 0, .int .i64 0, .int .i64 0] 26 (0, 0)) (by (with_reducible repeat (first | refine blk_drewN ?_ _ | refine blk_drew ?_ | refine blk_alloc ?_ _)); exact BK399.out) hb)
                  have n1_ := Aside0.mk (below_step (by repeat (first | (with_reducible first | exact HB.out | apply below_alloc | apply bn2_ | apply bd2_ | refine below_set ?_ GE399.out) | exact HB.out)) hb)
                  have n2_ := Aside0.mk (hbox)
                  have n3_ := Aside0.mk ((by rw [hg]; exact (below_size (by repeat (first | (with_reducible first | exact HB.out | apply below_alloc | apply bn2_ | apply bd2_ | refine below_set ?_ GE399.out) | exact HB.out))) : w.heap.size ≤ gb407))
                  have n4_ := Aside0.mk ((by rw [hg]; exact (below_size (by repeat (first | (with_reducible first | exact HB.out | apply below_alloc | apply bn2_ | apply bd2_ | refine below_set ?_ GE399.out) | exact HB.out))) : w.heap.size ≤ gb407))
                  have n5_ := Aside0.mk ((by rw [hg]; exact Nat.ne_of_lt (blk_lt (g := gb399) (o := .cells #[.int .u64 0, .bool false, .int .i64 0, .int .u64 0, .int .i64 0, .int .i64 0] 26 (0, 0)) (by (with_reducible repeat (first | refine blk_drewN ?_ _ | refine blk_drew ?_ | refine blk_alloc ?_ _)); exact BK399.out)) : gb399 ≠ gb407))
                  have n6_ := Aside0.mk ((by rw [hg]; exact Nat.ne_of_gt (blk_lt (g := gb399) (o := .cells #[.int .u64 0, .bool false, .int .i64 0, .int .u64 0, .int .i64 0, .int .i64 0] 26 (0, 0)) (by (with_reducible repeat (first | refine blk_drewN ?_ _ | refine blk_drew ?_ | refine blk_alloc ?_ _)); exact BK399.out)) : gb407 ≠ gb399))
                  clear BK399 HB
                  have BK399 := n0_
                  have HB := n1_
                  have BK407 := n2_
                  have GW407 := n3_
                  have GE407 := n4_
                  have NB399_407 := n5_
                  have NB407_399 := n6_
                  clear n0_ n1_ n2_ n3_ n4_ n5_ n6_
                  clear hb hbox hg
                  refine hK.out _ _ (((HB.out.cell (World.block_lt_of_cell? w _ hw402_0)).trans hw402_0)) (fun hHeld => ?_)
                  clear hK K
                  refine norm_ (a' := ?_) ?_ ?_
                  rotate_left
                  ·show Act.put _ (some 4) _ = _
                   simp only [Act.put, sa2_, sb2_, sc2_, i64_w, i32_w]
                   rfl
                  exact norm_ (by simp only [putAll, Act.put, sa2_, sb2_, sc2_]) (hCont (gb407) _ ⟨hHeld, (by (with_reducible repeat (first | refine blk_drewN ?_ _ | refine blk_drew ?_ | refine blk_alloc ?_ _)); exact BK399.out), (by (with_reducible repeat (first | refine blk_drewN ?_ _ | refine blk_drew ?_ | refine blk_alloc ?_ _)); exact BK407.out), GW407.out, GE407.out, NB399_407.out, NB407_399.out, (by repeat (first | (with_reducible first | exact HB.out | apply below_alloc | apply bn2_ | apply bd2_ | refine below_set ?_ GE399.out | refine below_set ?_ GE407.out) | exact HB.out))⟩)
                 ·skip
                  refine box_step ?hg (N := 4) ?hd (cs := #[.int .u64 0, .bool false, .int .i64 0, .int .u64 0, .int .i64 0, .int .i64 0]) (t := 26) ?hr ?_; (case hd => rfl); (case hg => rfl); (case hr => first | (go_simp; done) | (go_simp; rfl))
                  intro gb407 hg w29 hbox hb
                  have n0_ := Aside0.mk (blk_below (g := gb399) (o := .cells #[.int .u64 0, .bool false, .int .i64 0, .int .u64 0, .int .i64 0, .int .i64 0] 26 (0, 0)) (by (with_reducible repeat (first | refine blk_drewN ?_ _ | refine blk_drew ?_ | refine blk_alloc ?_ _)); exact BK399.out) hb)
                  have n1_ := Aside0.mk (below_step (by repeat (first | (with_reducible first | exact HB.out | apply below_alloc | apply bn2_ | apply bd2_ | refine below_set ?_ GE399.out) | exact HB.out)) hb)
                  have n2_ := Aside0.mk (hbox)
                  have n3_ := Aside0.mk ((by rw [hg]; exact (below_size (by repeat (first | (with_reducible first | exact HB.out | apply below_alloc | apply bn2_ | apply bd2_ | refine below_set ?_ GE399.out) | exact HB.out))) : w.heap.size ≤ gb407))
                  have n4_ := Aside0.mk ((by rw [hg]; exact (below_size (by repeat (first | (with_reducible first | exact HB.out | apply below_alloc | apply bn2_ | apply bd2_ | refine below_set ?_ GE399.out) | exact HB.out))) : w.heap.size ≤ gb407))
                  have n5_ := Aside0.mk ((by rw [hg]; exact Nat.ne_of_lt (blk_lt (g := gb399) (o := .cells #[.int .u64 0, .bool false, .int .i64 0, .int .u64 0, .int .i64 0, .int .i64 0] 26 (0, 0)) (by (with_reducible repeat (first | refine blk_drewN ?_ _ | refine blk_drew ?_ | refine blk_alloc ?_ _)); exact BK399.out)) : gb399 ≠ gb407))
                  have n6_ := Aside0.mk ((by rw [hg]; exact Nat.ne_of_gt (blk_lt (g := gb399) (o := .cells #[.int .u64 0, .bool false, .int .i64 0, .int .u64 0, .int .i64 0, .int .i64 0] 26 (0, 0)) (by (with_reducible repeat (first | refine blk_drewN ?_ _ | refine blk_drew ?_ | refine blk_alloc ?_ _)); exact BK399.out)) : gb407 ≠ gb399))
                  clear BK399 HB
                  have BK399 := n0_
                  have HB := n1_
                  have BK407 := n2_
                  have GW407 := n3_
                  have GE407 := n4_
                  have NB399_407 := n5_
                  have NB407_399 := n6_
                  clear n0_ n1_ n2_ n3_ n4_ n5_ n6_
                  clear hb hbox hg
                  refine hK.out _ _ (((HB.out.cell (World.block_lt_of_cell? w _ hw402_0)).trans hw402_0)) (fun hHeld => ?_)
                  clear hK K
                  refine norm_ (a' := ?_) ?_ ?_
                  rotate_left
                  ·show Act.put _ (some 4) _ = _
                   simp only [Act.put, sa2_, sb2_, sc2_, i64_w, i32_w]
                   rfl
                  refine one_ (i := 13) (N := some 28) #[T2,T2,T2,T2,T2,T2,T2,T2,T2,T2,T2,T2,T2,T2,F2,F2,T2,F2] rfl rfl (one_of HT_.out (by kernel_rfl)) (by decide) (fun K hK => ?_)
                  refine goes_ Try.func32 (by kernel_rfl) rfl #[.slice A28 ((l0.take 41).drop 33).length (c0 - 33)] (by rfl) rfl rfl (by (try simp only [List.map_toArray, List.map_cons, List.map_nil]); first | done | (rw [show ((l0.take 41).drop 33).length = (41 - 33) from (by rw [List.length_drop, List.length_take]; have h_ : (41 : Int) ≤ (l0.length : Int) := of_decide_eq_true (by first | (with_reducible assumption) | assumption); omega)] <;> rfl) | rfl | (simp only [List.length_drop, List.length_take]; rfl)) ?_
                  with_reducible refine (rickyardref02_Number.calls k _ _ ((l0.take 41).drop 33) t406 _ ?side1 ?side2 A17.out).mono ?_
                  (case side1 => repeat (first | exact (Kd.C_below HR405.out HB.out) | (with_reducible refine Kd.C_alloc ?_ _) | (with_reducible refine Kd.C_drewN ?_ _) | (with_reducible refine Kd.C_drew ?_)))
                  (case side2 => exact HC405.out)
                  rintro e w' ⟨rfl, ⟨nd, rfl⟩⟩
                  refine ⟨_, rfl, ?_⟩
                  refine hK.out _ _ (((HB.out.cell (World.block_lt_of_cell? w _ hw402_0)).trans hw402_0)) (fun hHeld => ?_)
                  clear hK K
                  refine norm_ (a' := ?_) ?_ ?_
                  rotate_left
                  ·show Act.put _ (some 28) _ = _
                   simp only [Act.put, sa2_, sb2_, sc2_, i64_w, i32_w]
                   rfl
                  refine pure_ (i := 14) (N := some 29) (v := ?_) (a' := ?_) #[T2,T2,T2,T2,T2,T2,T2,T2,T2,T2,T2,T2,T2,T2,T2,F2,T2,F2] rfl rfl (any_of HT_.out (by kernel_rfl)) (fun _ _ _ h => h) (Or.inl ⟨by rfl, ?_⟩) ?_ ?_
                  rotate_left
                  ·intro w'
                   go_simp
                   with_reducible rfl
                  rotate_left
                  ·simp only [Act.put, sa2_, sb2_, sc2_, i64_w, i32_w]
                   rfl
                  refine pure_ (i := 15) (N := some 30) (v := ?_) (a' := ?_) #[T2,T2,T2,T2,T2,T2,T2,T2,T2,T2,T2,T2,T2,T2,T2,T2,T2,F2] rfl rfl (any_of HT_.out (by kernel_rfl)) (fun _ _ _ h => h) (Or.inl ⟨by rfl, ?_⟩) ?_ ?_
                  rotate_left
                  ·intro w'
                   go_simp
                   with_reducible rfl
                  rotate_left
                  ·simp only [Act.put, sa2_, sb2_, sc2_, i64_w, i32_w]
                   rfl
                  exact norm_ (by simp only [putAll, Act.put, sa2_, sb2_, sc2_]) (hCont (gb407) _ ⟨hHeld, (by (with_reducible repeat (first | refine blk_drewN ?_ _ | refine blk_drew ?_ | refine blk_alloc ?_ _)); exact BK399.out), (by (with_reducible repeat (first | refine blk_drewN ?_ _ | refine blk_drew ?_ | refine blk_alloc ?_ _)); exact BK407.out), GW407.out, GE407.out, NB399_407.out, NB407_399.out, (by repeat (first | (with_reducible first | exact HB.out | apply below_alloc | apply bn2_ | apply bd2_ | refine below_set ?_ GE399.out | refine below_set ?_ GE407.out) | exact HB.out))⟩)
                ·skip
                 refine box_step ?hg (N := 4) ?hd (cs := #[.int .u64 0, .bool false, .int .i64 0, .int .u64 0, .int .i64 0, .int .i64 0]) (t := 26) ?hr ?_; (case hd => rfl); (case hg => rfl); (case hr => first | (go_simp; done) | (go_simp; rfl))
                 intro gb407 hg w29 hbox hb
                 have n0_ := Aside0.mk (blk_below (g := gb399) (o := .cells #[.int .u64 0, .bool false, .int .i64 0, .int .u64 0, .int .i64 0, .int .i64 0] 26 (0, 0)) (by (with_reducible repeat (first | refine blk_drewN ?_ _ | refine blk_drew ?_ | refine blk_alloc ?_ _)); exact BK399.out) hb)
                 have n1_ := Aside0.mk (below_step (by repeat (first | (with_reducible first | exact HB.out | apply below_alloc | apply bn2_ | apply bd2_ | refine below_set ?_ GE399.out) | exact HB.out)) hb)
                 have n2_ := Aside0.mk (hbox)
                 have n3_ := Aside0.mk ((by rw [hg]; exact (below_size (by repeat (first | (with_reducible first | exact HB.out | apply below_alloc | apply bn2_ | apply bd2_ | refine below_set ?_ GE399.out) | exact HB.out))) : w.heap.size ≤ gb407))
                 have n4_ := Aside0.mk ((by rw [hg]; exact (below_size (by repeat (first | (with_reducible first | exact HB.out | apply below_alloc | apply bn2_ | apply bd2_ | refine below_set ?_ GE399.out) | exact HB.out))) : w.heap.size ≤ gb407))
                 have n5_ := Aside0.mk ((by rw [hg]; exact Nat.ne_of_lt (blk_lt (g := gb399) (o := .cells #[.int .u64 0, .bool false, .int .i64 0, .int .u64 0, .int .i64 0, .int .i64 0] 26 (0, 0)) (by (with_reducible repeat (first | refine blk_drewN ?_ _ | refine blk_drew ?_ | refine blk_alloc ?_ _)); exact BK399.out)) : gb399 ≠ gb407))
                 have n6_ := Aside0.mk ((by rw [hg]; exact Nat.ne_of_gt (blk_lt (g := gb399) (o := .cells #[.int .u64 0, .bool false, .int .i64 0, .int .u64 0, .int .i64 0, .int .i64 0] 26 (0, 0)) (by (with_reducible repeat (first | refine blk_drewN ?_ _ | refine blk_drew ?_ | refine blk_alloc ?_ _)); exact BK399.out)) : gb407 ≠ gb399))
                 clear BK399 HB
                 have BK399 := n0_
                 have HB := n1_
                 have BK407 := n2_
                 have GW407 := n3_
                 have GE407 := n4_
                 have NB399_407 := n5_
                 have NB407_399 := n6_
                 clear n0_ n1_ n2_ n3_ n4_ n5_ n6_
                 clear hb hbox hg
                 refine hK.out _ _ (((HB.out.cell (World.block_lt_of_cell? w _ hw402_0)).trans hw402_0)) (fun hHeld => ?_)
                 clear hK K
                 refine norm_ (a' := ?_) ?_ ?_
                 rotate_left
                 ·show Act.put _ (some 4) _ = _
                  simp only [Act.put, sa2_, sb2_, sc2_, i64_w, i32_w]
                  rfl
                 refine one_ (i := 9) (N := some 24) #[T2,T2,T2,T2,T2,T2,T2,T2,T2,T2,F2,T2,T2,F2,F2,F2,T2,F2] rfl rfl (one_of HT_.out (by kernel_rfl)) (by decide) (fun K hK => ?_)
                 refine goes_ Try.func32 (by kernel_rfl) rfl #[.slice A27 ((l0.take 33).drop 25).length (c0 - 25)] (by rfl) rfl rfl (by (try simp only [List.map_toArray, List.map_cons, List.map_nil]); first | done | (rw [show ((l0.take 33).drop 25).length = (33 - 25) from (by rw [List.length_drop, List.length_take]; have h_ : (33 : Int) ≤ (l0.length : Int) := of_decide_eq_true (by first | (with_reducible assumption) | assumption); omega)] <;> rfl) | rfl | (simp only [List.length_drop, List.length_take]; rfl)) ?_
                 with_reducible refine (rickyardref02_Number.calls k _ _ ((l0.take 33).drop 25) t404 _ ?side1 ?side2 A14.out).mono ?_
                 (case side1 => repeat (first | exact (Kd.C_below HR403.out HB.out) | (with_reducible refine Kd.C_alloc ?_ _) | (with_reducible refine Kd.C_drewN ?_ _) | (with_reducible refine Kd.C_drew ?_)))
                 (case side2 => exact HC403.out)
                 rintro e w' ⟨rfl, ⟨nd, rfl⟩⟩
                 refine ⟨_, rfl, ?_⟩
                 refine hK.out _ _ (((HB.out.cell (World.block_lt_of_cell? w _ hw402_0)).trans hw402_0)) (fun hHeld => ?_)
                 clear hK K
                 refine norm_ (a' := ?_) ?_ ?_
                 rotate_left
                 ·show Act.put _ (some 24) _ = _
                  simp only [Act.put, sa2_, sb2_, sc2_, i64_w, i32_w]
                  rfl
                 refine pure_ (i := 10) (N := some 25) (v := ?_) (a' := ?_) #[T2,T2,T2,T2,T2,T2,T2,T2,T2,T2,T2,T2,T2,F2,F2,F2,T2,F2] rfl rfl (any_of HT_.out (by kernel_rfl)) (fun _ _ _ h => h) (Or.inl ⟨by rfl, ?_⟩) ?_ ?_
                 rotate_left
                 ·intro w'
                  go_simp
                  with_reducible rfl
                 rotate_left
                 ·simp only [Act.put, sa2_, sb2_, sc2_, i64_w, i32_w]
                  rfl
                 refine one_ (i := 13) (N := some 28) #[T2,T2,T2,T2,T2,T2,T2,T2,T2,T2,T2,T2,T2,T2,F2,F2,T2,F2] rfl rfl (one_of HT_.out (by kernel_rfl)) (by decide) (fun K hK => ?_)
                 refine goes_ Try.func32 (by kernel_rfl) rfl #[.slice A28 ((l0.take 41).drop 33).length (c0 - 33)] (by rfl) rfl rfl (by (try simp only [List.map_toArray, List.map_cons, List.map_nil]); first | done | (rw [show ((l0.take 41).drop 33).length = (41 - 33) from (by rw [List.length_drop, List.length_take]; have h_ : (41 : Int) ≤ (l0.length : Int) := of_decide_eq_true (by first | (with_reducible assumption) | assumption); omega)] <;> rfl) | rfl | (simp only [List.length_drop, List.length_take]; rfl)) ?_
                 with_reducible refine (rickyardref02_Number.calls k _ _ ((l0.take 41).drop 33) t406 _ ?side1 ?side2 A17.out).mono ?_
                 (case side1 => repeat (first | exact (Kd.C_below HR405.out (by repeat (first | (with_reducible first | exact HB.out | apply below_alloc | apply bn2_ | apply bd2_ | refine below_set ?_ GE399.out | refine below_set ?_ GE407.out) | exact HB.out))) | (with_reducible refine Kd.C_alloc ?_ _) | (with_reducible refine Kd.C_drewN ?_ _) | (with_reducible refine Kd.C_drew ?_)))
                 (case side2 => exact HC405.out)
                 rintro e w' ⟨rfl, ⟨nd, rfl⟩⟩
                 refine ⟨_, rfl, ?_⟩
                 refine hK.out _ _ (((HB.out.cell (World.block_lt_of_cell? w _ hw402_0)).trans hw402_0)) (fun hHeld => ?_)
                 clear hK K
                 refine norm_ (a' := ?_) ?_ ?_
                 rotate_left
                 ·show Act.put _ (some 28) _ = _
                  simp only [Act.put, sa2_, sb2_, sc2_, i64_w, i32_w]
                  rfl
                 refine pure_ (i := 14) (N := some 29) (v := ?_) (a' := ?_) #[T2,T2,T2,T2,T2,T2,T2,T2,T2,T2,T2,T2,T2,T2,T2,F2,T2,F2] rfl rfl (any_of HT_.out (by kernel_rfl)) (fun _ _ _ h => h) (Or.inl ⟨by rfl, ?_⟩) ?_ ?_
                 rotate_left
                 ·intro w'
                  go_simp
                  with_reducible rfl
                 rotate_left
                 ·simp only [Act.put, sa2_, sb2_, sc2_, i64_w, i32_w]
                  rfl
                 refine pure_ (i := 15) (N := some 30) (v := ?_) (a' := ?_) #[T2,T2,T2,T2,T2,T2,T2,T2,T2,T2,T2,T2,T2,T2,T2,T2,T2,F2] rfl rfl (any_of HT_.out (by kernel_rfl)) (fun _ _ _ h => h) (Or.inl ⟨by rfl, ?_⟩) ?_ ?_
                 rotate_left
                 ·intro w'
                  go_simp
                  with_reducible rfl
                 rotate_left
                 ·simp only [Act.put, sa2_, sb2_, sc2_, i64_w, i32_w]
                  rfl
                 exact norm_ (by simp only [putAll, Act.put, sa2_, sb2_, sc2_]) (hCont (gb407) _ ⟨hHeld, (by (with_reducible repeat (first | refine blk_drewN ?_ _ | refine blk_drew ?_ | refine blk_alloc ?_ _)); exact BK399.out), (by (with_reducible repeat (first | refine blk_drewN ?_ _ | refine blk_drew ?_ | refine blk_alloc ?_ _)); exact BK407.out), GW407.out, GE407.out, NB399_407.out, NB407_399.out, (by repeat (first | (with_reducible first | exact HB.out | apply below_alloc | apply bn2_ | apply bd2_ | refine below_set ?_ GE399.out | refine below_set ?_ GE407.out) | exact HB.out))⟩)
               ·skip
                refine box_step ?hg (N := 4) ?hd (cs := #[.int .u64 0, .bool false, .int .i64 0, .int .u64 0, .int .i64 0, .int .i64 0]) (t := 26) ?hr ?_; (case hd => rfl); (case hg => rfl); (case hr => first | (go_simp; done) | (go_simp; rfl))
                intro gb407 hg w29 hbox hb
                have n0_ := Aside0.mk (blk_below (g := gb399) (o := .cells #[.int .u64 0, .bool false, .int .i64 0, .int .u64 0, .int .i64 0, .int .i64 0] 26 (0, 0)) (by (with_reducible repeat (first | refine blk_drewN ?_ _ | refine blk_drew ?_ | refine blk_alloc ?_ _)); exact BK399.out) hb)
                have n1_ := Aside0.mk (below_step (by repeat (first | (with_reducible first | exact HB.out | apply below_alloc | apply bn2_ | apply bd2_ | refine below_set ?_ GE399.out) | exact HB.out)) hb)
                have n2_ := Aside0.mk (hbox)
                have n3_ := Aside0.mk ((by rw [hg]; exact (below_size (by repeat (first | (with_reducible first | exact HB.out | apply below_alloc | apply bn2_ | apply bd2_ | refine below_set ?_ GE399.out) | exact HB.out))) : w.heap.size ≤ gb407))
                have n4_ := Aside0.mk ((by rw [hg]; exact (below_size (by repeat (first | (with_reducible first | exact HB.out | apply below_alloc | apply bn2_ | apply bd2_ | refine below_set ?_ GE399.out) | exact HB.out))) : w.heap.size ≤ gb407))
                have n5_ := Aside0.mk ((by rw [hg]; exact Nat.ne_of_lt (blk_lt (g := gb399) (o := .cells #[.int .u64 0, .bool false, .int .i64 0, .int .u64 0, .int .i64 0, .int .i64 0] 26 (0, 0)) (by (with_reducible repeat (first | refine blk_drewN ?_ _ | refine blk_drew ?_ | refine blk_alloc ?_ _)); exact BK399.out)) : gb399 ≠ gb407))
                have n6_ := Aside0.mk ((by rw [hg]; exact Nat.ne_of_gt (blk_lt (g := gb399) (o := .cells #[.int .u64 0, .bool false, .int .i64 0, .int .u64 0, .int .i64 0, .int .i64 0] 26 (0, 0)) (by (with_reducible repeat (first | refine blk_drewN ?_ _ | refine blk_drew ?_ | refine blk_alloc ?_ _)); exact BK399.out)) : gb407 ≠ gb399))
                clear BK399 HB
                have BK399 := n0_
                have HB := n1_
                have BK407 := n2_
                have GW407 := n3_
                have GE407 := n4_
                have NB399_407 := n5_
                have NB407_399 := n6_
                clear n0_ n1_ n2_ n3_ n4_ n5_ n6_
                clear hb hbox hg
                refine hK.out _ _ (((HB.out.cell (World.block_lt_of_cell? w _ hw402_0)).trans hw402_0)) (fun hHeld => ?_)
                clear hK K
                refine norm_ (a' := ?_) ?_ ?_
                rotate_left
                ·show Act.put _ (some 4) _ = _
                 simp only [Act.put, sa2_, sb2_, sc2_, i64_w, i32_w]
                 rfl
                refine one_ (i := 2) (N := some 17) #[T2,T2,T2,T2,T2,T2,T2,T2,T2,F2,F2,T2,T2,F2,F2,F2,T2,F2] rfl rfl (one_of HT_.out (by kernel_rfl)) (by decide) (fun K hK => ?_)
                refine goes_ Try.func32 (by kernel_rfl) rfl #[.slice A26 ((l0.take 9).drop 1).length (c0 - 1)] (by rfl) rfl rfl (by (try simp only [List.map_toArray, List.map_cons, List.map_nil]); first | done | (rw [show ((l0.take 9).drop 1).length = (9 - 1) from (by rw [List.length_drop, List.length_take]; have h_ : (9 : Int) ≤ (l0.length : Int) := of_decide_eq_true (by first | (with_reducible assumption) | assumption); omega)] <;> rfl) | rfl | (simp only [List.length_drop, List.length_take]; rfl)) ?_
                with_reducible refine (rickyardref02_Number.calls k _ _ ((l0.take 9).drop 1) t401 _ ?side1 ?side2 A10.out).mono ?_
                (case side1 => repeat (first | exact (Kd.C_below HR400.out HB.out) | (with_reducible refine Kd.C_alloc ?_ _) | (with_reducible refine Kd.C_drewN ?_ _) | (with_reducible refine Kd.C_drew ?_)))
                (case side2 => exact HC400.out)
                rintro e w' ⟨rfl, ⟨nd, rfl⟩⟩
                refine ⟨_, rfl, ?_⟩
                refine hK.out _ _ (((HB.out.cell (World.block_lt_of_cell? w _ hw402_0)).trans hw402_0)) (fun hHeld => ?_)
                clear hK K
                refine norm_ (a' := ?_) ?_ ?_
                rotate_left
                ·show Act.put _ (some 17) _ = _
                 simp only [Act.put, sa2_, sb2_, sc2_, i64_w, i32_w]
                 rfl
                refine one_ (i := 9) (N := some 24) #[T2,T2,T2,T2,T2,T2,T2,T2,T2,T2,F2,T2,T2,F2,F2,F2,T2,F2] rfl rfl (one_of HT_.out (by kernel_rfl)) (by decide) (fun K hK => ?_)
                refine goes_ Try.func32 (by kernel_rfl) rfl #[.slice A27 ((l0.take 33).drop 25).length (c0 - 25)] (by rfl) rfl rfl (by (try simp only [List.map_toArray, List.map_cons, List.map_nil]); first | done | (rw [show ((l0.take 33).drop 25).length = (33 - 25) from (by rw [List.length_drop, List.length_take]; have h_ : (33 : Int) ≤ (l0.length : Int) := of_decide_eq_true (by first | (with_reducible assumption) | assumption); omega)] <;> rfl) | rfl | (simp only [List.length_drop, List.length_take]; rfl)) ?_
                with_reducible refine (rickyardref02_Number.calls k _ _ ((l0.take 33).drop 25) t404 _ ?side1 ?side2 A14.out).mono ?_
                (case side1 => repeat (first | exact (Kd.C_below HR403.out (by repeat (first | (with_reducible first | exact HB.out | apply below_alloc | apply bn2_ | apply bd2_ | refine below_set ?_ GE399.out | refine below_set ?_ GE407.out) | exact HB.out))) | (with_reducible refine Kd.C_alloc ?_ _) | (with_reducible refine Kd.C_drewN ?_ _) | (with_reducible refine Kd.C_drew ?_)))
                (case side2 => exact HC403.out)
                rintro e w' ⟨rfl, ⟨nd, rfl⟩⟩
                refine ⟨_, rfl, ?_⟩
                refine hK.out _ _ (((HB.out.cell (World.block_lt_of_cell? w _ hw402_0)).trans hw402_0)) (fun hHeld => ?_)
                clear hK K
                refine norm_ (a' := ?_) ?_ ?_
                rotate_left
                ·show Act.put _ (some 24) _ = _
                 simp only [Act.put, sa2_, sb2_, sc2_, i64_w, i32_w]
                 rfl
                refine pure_ (i := 10) (N := some 25) (v := ?_) (a' := ?_) #[T2,T2,T2,T2,T2,T2,T2,T2,T2,T2,T2,T2,T2,F2,F2,F2,T2,F2] rfl rfl (any_of HT_.out (by kernel_rfl)) (fun _ _ _ h => h) (Or.inl ⟨by rfl, ?_⟩) ?_ ?_
                rotate_left
                ·intro w'
                 go_simp
                 with_reducible rfl
                rotate_left
                ·simp only [Act.put, sa2_, sb2_, sc2_, i64_w, i32_w]
                 rfl
                refine one_ (i := 13) (N := some 28) #[T2,T2,T2,T2,T2,T2,T2,T2,T2,T2,T2,T2,T2,T2,F2,F2,T2,F2] rfl rfl (one_of HT_.out (by kernel_rfl)) (by decide) (fun K hK => ?_)
                refine goes_ Try.func32 (by kernel_rfl) rfl #[.slice A28 ((l0.take 41).drop 33).length (c0 - 33)] (by rfl) rfl rfl (by (try simp only [List.map_toArray, List.map_cons, List.map_nil]); first | done | (rw [show ((l0.take 41).drop 33).length = (41 - 33) from (by rw [List.length_drop, List.length_take]; have h_ : (41 : Int) ≤ (l0.length : Int) := of_decide_eq_true (by first | (with_reducible assumption) | assumption); omega)] <;> rfl) | rfl | (simp only [List.length_drop, List.length_take]; rfl)) ?_
                with_reducible refine (rickyardref02_Number.calls k _ _ ((l0.take 41).drop 33) t406 _ ?side1 ?side2 A17.out).mono ?_
                (case side1 => repeat (first | exact (Kd.C_below HR405.out (by repeat (first | (with_reducible first | exact HB.out | apply below_alloc | apply bn2_ | apply bd2_ | refine below_set ?_ GE399.out | refine below_set ?_ GE407.out) | exact HB.out))) | (with_reducible refine Kd.C_alloc ?_ _) | (with_reducible refine Kd.C_drewN ?_ _) | (with_reducible refine Kd.C_drew ?_)))
                (case side2 => exact HC405.out)
                rintro e w' ⟨rfl, ⟨nd, rfl⟩⟩
                refine ⟨_, rfl, ?_⟩
                refine hK.out _ _ (((HB.out.cell (World.block_lt_of_cell? w _ hw402_0)).trans hw402_0)) (fun hHeld => ?_)
                clear hK K
                refine norm_ (a' := ?_) ?_ ?_
                rotate_left
                ·show Act.put _ (some 28) _ = _
                 simp only [Act.put, sa2_, sb2_, sc2_, i64_w, i32_w]
                 rfl
                refine pure_ (i := 14) (N := some 29) (v := ?_) (a' := ?_) #[T2,T2,T2,T2,T2,T2,T2,T2,T2,T2,T2,T2,T2,T2,T2,F2,T2,F2] rfl rfl (any_of HT_.out (by kernel_rfl)) (fun _ _ _ h => h) (Or.inl ⟨by rfl, ?_⟩) ?_ ?_
                rotate_left
                ·intro w'
                 go_simp
                 with_reducible rfl
                rotate_left
                ·simp only [Act.put, sa2_, sb2_, sc2_, i64_w, i32_w]
                 rfl
                refine pure_ (i := 15) (N := some 30) (v := ?_) (a' := ?_) #[T2,T2,T2,T2,T2,T2,T2,T2,T2,T2,T2,T2,T2,T2,T2,T2,T2,F2] rfl rfl (any_of HT_.out (by kernel_rfl)) (fun _ _ _ h => h) (Or.inl ⟨by rfl, ?_⟩) ?_ ?_
                rotate_left
                ·intro w'
                 go_simp
                 with_reducible rfl
                rotate_left
                ·simp only [Act.put, sa2_, sb2_, sc2_, i64_w, i32_w]
                 rfl
                exact norm_ (by simp only [putAll, Act.put, sa2_, sb2_, sc2_]) (hCont (gb407) _ ⟨hHeld, (by (with_reducible repeat (first | refine blk_drewN ?_ _ | refine blk_drew ?_ | refine blk_alloc ?_ _)); exact BK399.out), (by (with_reducible repeat (first | refine blk_drewN ?_ _ | refine blk_drew ?_ | refine blk_alloc ?_ _)); exact BK407.out), GW407.out, GE407.out, NB399_407.out, NB407_399.out, (by repeat (first | (with_reducible first | exact HB.out | apply below_alloc | apply bn2_ | apply bd2_ | refine below_set ?_ GE399.out | refine below_set ?_ GE407.out) | exact HB.out))⟩)
              rintro gb407 w30 ⟨hS_, h0_, h1_, h2_, h3_, h4_, h5_, h6_⟩
              have n0_ : Aside0 (w30.heap[gb399]? = some (.cells #[.int .u64 0, .bool false, .int .i64 0, .int .u64 0, .int .i64 0, .int .i64 0] 26 (0, 0))) := ⟨h0_⟩
              have n1_ : Aside0 (w30.heap[gb407]? = some (.cells #[.int .u64 0, .bool false, .int .i64 0, .int .u64 0, .int .i64 0, .int .i64 0] 26 (0, 0))) := ⟨h1_⟩
              have n2_ : Aside0 (w.heap.size ≤ gb407) := ⟨h2_⟩
              have n3_ : Aside0 (w.heap.size ≤ gb407) := ⟨h3_⟩
              have n4_ : Aside0 (gb399 ≠ gb407) := ⟨h4_⟩
              have n5_ : Aside0 (gb407 ≠ gb399) := ⟨h5_⟩
              have n6_ : Aside0 (Below w.heap.size w w30) := ⟨h6_⟩
              clear BK399 HB h0_ h1_ h2_ h3_ h4_ h5_ h6_
              have BK399 := n0_
              have BK407 := n1_
              have GW407 := n2_
              have GE407 := n3_
              have NB399_407 := n4_
              have NB407_399 := n5_
              have HB := n6_
              clear n0_ n1_ n2_ n3_ n4_ n5_ n6_
              have hHeld : w30.cell? ad402 = some (.int .u8 (rd l0 0)) := hS_
              refine norm_ (a' := ?_) ?_ ?_
              rotate_left
              ·simp only [putAll, Act.put, sa2_, sb2_, sc2_]
               rfl
              refine one_ (i := 17) (N := none) #[T2,T2,T2,T2,T2,T2,T2,T2,T2,T2,T2,T2,T2,T2,T2,T2,T2,T2] rfl rfl (one_of HT_.out (by kernel_rfl)) (by decide) (fun K hK => ?_)
              have hs31 : w30.cell? ⟨gb407, 0, none⟩ = some (.int .u64 0) := (blk_cell BK407.out 0).trans rfl
              have hfs31 := blk_frozen BK407.out 0
              have hns31_0 := NB399_407.out
              have hms31_0 := NB407_399.out
              have hs32 : w30.cell? ⟨gb407, 1, none⟩ = some (.bool false) := (blk_cell BK407.out 1).trans rfl
              have hfs32 := blk_frozen BK407.out 1
              have hns32_0 := NB399_407.out
              have hms32_0 := NB407_399.out
              have hs33 : w30.cell? ⟨gb407, 2, none⟩ = some (.int .i64 0) := (blk_cell BK407.out 2).trans rfl
              have hfs33 := blk_frozen BK407.out 2
              have hns33_0 := NB399_407.out
              have hms33_0 := NB407_399.out
              have hs34 : w30.cell? ⟨gb407, 3, none⟩ = some (.int .u64 0) := (blk_cell BK407.out 3).trans rfl
              have hfs34 := blk_frozen BK407.out 3
              have hns34_0 := NB399_407.out
              have hms34_0 := NB407_399.out
              have hs35 : w30.cell? ⟨gb407, 4, none⟩ = some (.int .i64 0) := (blk_cell BK407.out 4).trans rfl
              have hfs35 := blk_frozen BK407.out 4
              have hns35_0 := NB399_407.out
              have hms35_0 := NB407_399.out
              have hs36 : w30.cell? ⟨gb407, 5, none⟩ = some (.int .i64 0) := (blk_cell BK407.out 5).trans rfl
              have hfs36 := blk_frozen BK407.out 5
              have hns36_0 := NB399_407.out
              have hms36_0 := NB407_399.out
              refine skip_ (w1 := ?_) (by rfl) rfl ?_ ?_
              rotate_left
              ·go_simp
               rfl
              refine hK.out _ _ (((cell_far (p := ⟨gb407, _, none⟩) (by first | exact Nat.ne_of_lt (Nat.lt_of_lt_of_le (by have := World.block_lt_of_cell? _ _ hw402_0; first | rwa [add_block] at this | exact this) GW407.out) | (rw [add_block]; exact Nat.ne_of_lt (Nat.lt_of_lt_of_le (by have := World.block_lt_of_cell? _ _ hw402_0; first | rwa [add_block] at this | exact this) GW407.out)) | (show (Addr.add _ _).block ≠ _; rw [add_block]; exact Nat.ne_of_lt (Nat.lt_of_lt_of_le (by have := World.block_lt_of_cell? _ _ hw402_0; first | rwa [add_block] at this | exact this) GW407.out)) | (dsimp only; exact Nat.ne_of_lt (Nat.lt_of_lt_of_le (by have := World.block_lt_of_cell? _ _ hw402_0; first | rwa [add_block] at this | exact this) GW407.out))) _).trans (((cell_far (p := ⟨gb407, _, none⟩) (by first | exact Nat.ne_of_lt (Nat.lt_of_lt_of_le (by have := World.block_lt_of_cell? _ _ hw402_0; first | rwa [add_block] at this | exact this) GW407.out) | (rw [add_block]; exact Nat.ne_of_lt (Nat.lt_of_lt_of_le (by have := World.block_lt_of_cell? _ _ hw402_0; first | rwa [add_block] at this | exact this) GW407.out)) | (show (Addr.add _ _).block ≠ _; rw [add_block]; exact Nat.ne_of_lt (Nat.lt_of_lt_of_le (by have := World.block_lt_of_cell? _ _ hw402_0; first | rwa [add_block] at this | exact this) GW407.out)) | (dsimp only; exact Nat.ne_of_lt (Nat.lt_of_lt_of_le (by have := World.block_lt_of_cell? _ _ hw402_0; first | rwa [add_block] at this | exact this) GW407.out))) _).trans (((cell_far (p := ⟨gb407, _, none⟩) (by first | exact Nat.ne_of_lt (Nat.lt_of_lt_of_le (by have := World.block_lt_of_cell? _ _ hw402_0; first | rwa [add_block] at this | exact this) GW407.out) | (rw [add_block]; exact Nat.ne_of_lt (Nat.lt_of_lt_of_le (by have := World.block_lt_of_cell? _ _ hw402_0; first | rwa [add_block] at this | exact this) GW407.out)) | (show (Addr.add _ _).block ≠ _; rw [add_block]; exact Nat.ne_of_lt (Nat.lt_of_lt_of_le (by have := World.block_lt_of_cell? _ _ hw402_0; first | rwa [add_block] at this | exact this) GW407.out)) | (dsimp only; exact Nat.ne_of_lt (Nat.lt_of_lt_of_le (by have := World.block_lt_of_cell? _ _ hw402_0; first | rwa [add_block] at this | exact this) GW407.out))) _).trans (((cell_far (p := ⟨gb407, _, none⟩) (by first | exact Nat.ne_of_lt (Nat.lt_of_lt_of_le (by have := World.block_lt_of_cell? _ _ hw402_0; first | rwa [add_block] at this | exact this) GW407.out) | (rw [add_block]; exact Nat.ne_of_lt (Nat.lt_of_lt_of_le (by have := World.block_lt_of_cell? _ _ hw402_0; first | rwa [add_block] at this | exact this) GW407.out)) | (show (Addr.add _ _).block ≠ _; rw [add_block]; exact Nat.ne_of_lt (Nat.lt_of_lt_of_le (by have := World.block_lt_of_cell? _ _ hw402_0; first | rwa [add_block] at this | exact this) GW407.out)) | (dsimp only; exact Nat.ne_of_lt (Nat.lt_of_lt_of_le (by have := World.block_lt_of_cell? _ _ hw402_0; first | rwa [add_block] at this | exact this) GW407.out))) _).trans (((cell_far (p := ⟨gb407, _, none⟩) (by first | exact Nat.ne_of_lt (Nat.lt_of_lt_of_le (by have := World.block_lt_of_cell? _ _ hw402_0; first | rwa [add_block] at this | exact this) GW407.out) | (rw [add_block]; exact Nat.ne_of_lt (Nat.lt_of_lt_of_le (by have := World.block_lt_of_cell? _ _ hw402_0; first | rwa [add_block] at this | exact this) GW407.out)) | (show (Addr.add _ _).block ≠ _; rw [add_block]; exact Nat.ne_of_lt (Nat.lt_of_lt_of_le (by have := World.block_lt_of_cell? _ _ hw402_0; first | rwa [add_block] at this | exact this) GW407.out)) | (dsimp only; exact Nat.ne_of_lt (Nat.lt_of_lt_of_le (by have := World.block_lt_of_cell? _ _ hw402_0; first | rwa [add_block] at this | exact this) GW407.out))) _).trans (((cell_far (p := ⟨gb407, _, none⟩) (by first | exact Nat.ne_of_lt (Nat.lt_of_lt_of_le (by have := World.block_lt_of_cell? _ _ hw402_0; first | rwa [add_block] at this | exact this) GW407.out) | (rw [add_block]; exact Nat.ne_of_lt (Nat.lt_of_lt_of_le (by have := World.block_lt_of_cell? _ _ hw402_0; first | rwa [add_block] at this | exact this) GW407.out)) | (show (Addr.add _ _).block ≠ _; rw [add_block]; exact Nat.ne_of_lt (Nat.lt_of_lt_of_le (by have := World.block_lt_of_cell? _ _ hw402_0; first | rwa [add_block] at this | exact this) GW407.out)) | (dsimp only; exact Nat.ne_of_lt (Nat.lt_of_lt_of_le (by have := World.block_lt_of_cell? _ _ hw402_0; first | rwa [add_block] at this | exact this) GW407.out))) _).trans (hHeld))))))))))))) (fun hHeld => ?_)
              clear hK K
              refine done_ (done_of HT_.out (by kernel_rfl)) ?_
              obtain ⟨i037, hi037, _, hsz37, _⟩ := info_parts info5
              obtain ⟨A37, hcut37, hA37, hC37⟩ := print_mid_of (P := Try.prog) (Value.int .u8) 0 36 5 .i64 .i64 Try.underlying36 hi037 hsz37 (some ad402) c0 l0 9 25 (by omega) (by first | omega | exact of_decide_eq_true (by first | (with_reducible assumption) | assumption)) (of_decide_eq_true (by first | (with_reducible assumption) | assumption)) HC0.out
              have HR408 := Aside0.mk (Kd.C_of_reads (h1 := fun _ => rfl) (hA37 _ (Kd.reads_of_C HR0.out)))
              have HC408 := Aside0.mk hC37
              clear hA37 hC37 hi037 hsz37
              try go_wp2_with (first | ((with_reducible refine gate_callee (f := 33) rfl ?_); refine goesL_ (some 34) rfl rfl Try.func33 (by kernel_rfl) rfl #[.slice A37 ((l0.take 25).drop 9).length (c0 - 9)] rfl (by (try simp only [List.map_toArray, List.map_cons, List.map_nil]); first | done | (rw [show ((l0.take 25).drop 9).length = (25 - 9) from (by rw [List.length_drop, List.length_take]; have h_ : (25 : Int) ≤ (l0.length : Int) := of_decide_eq_true (by first | (with_reducible assumption) | assumption); omega)] <;> rfl) | rfl | (simp only [List.length_drop, List.length_take]; rfl)) ?_; (with_reducible refine (rickyardref01_Read.calls _ _ ((l0.take 25).drop 9) t409 t410 t411 _ ?side1 ?side2 A20.out).mono ?_); (case side1 => exact Kd.C_below HR408.out (by repeat (first | (with_reducible first | exact HB.out | apply below_alloc | apply bn2_ | apply bd2_ | refine below_set ?_ GE399.out | refine below_set ?_ GE407.out) | exact HB.out))); (case side2 => exact HC408.out); rintro e w38 ⟨rfl, hb⟩; refine ⟨_, rfl, ?_⟩; have n0_ := Aside0.mk (blk_below (g := gb399) (o := .cells #[.int .u64 0, .bool false, .int .i64 0, .int .u64 0, .int .i64 0, .int .i64 0] 26 (0, 0)) (by (with_reducible repeat (first | refine blk_drewN ?_ _ | refine blk_drew ?_ | refine blk_alloc ?_ _)); refine blk_far ?_ NB399_407.out _; (with_reducible repeat (first | refine blk_drewN ?_ _ | refine blk_drew ?_ | refine blk_alloc ?_ _)); refine blk_far ?_ NB399_407.out _; (with_reducible repeat (first | refine blk_drewN ?_ _ | refine blk_drew ?_ | refine blk_alloc ?_ _)); refine blk_far ?_ NB399_407.out _; (with_reducible repeat (first | refine blk_drewN ?_ _ | refine blk_drew ?_ | refine blk_alloc ?_ _)); refine blk_far ?_ NB399_407.out _; (with_reducible repeat (first | refine blk_drewN ?_ _ | refine blk_drew ?_ | refine blk_alloc ?_ _)); refine blk_far ?_ NB399_407.out _; (with_reducible repeat (first | refine blk_drewN ?_ _ | refine blk_drew ?_ | refine blk_alloc ?_ _)); refine blk_far ?_ NB399_407.out _; (with_reducible repeat (first | refine blk_drewN ?_ _ | refine blk_drew ?_ | refine blk_alloc ?_ _)); exact BK399.out) hb); have n1_ := Aside0.mk (blk_below (g := gb407) (o := .cells #[.int .u64 t401, .bool ((rd l0 0) != 0), .int .i64 0, .int .u64 0, .int .i64 (wrap64 (t404)), .int .i64 (wrap64 (t406))] 26 (0, 0)) (by (with_reducible repeat (first | refine blk_drewN ?_ _ | refine blk_drew ?_ | refine blk_alloc ?_ _)); refine blk_put (cs := #[.int .u64 t401, .bool ((rd l0 0) != 0), .int .i64 0, .int .u64 0, .int .i64 (wrap64 (t404)), .int .i64 0]) ?_ 5 _ rfl; (with_reducible repeat (first | refine blk_drewN ?_ _ | refine blk_drew ?_ | refine blk_alloc ?_ _)); refine blk_put (cs := #[.int .u64 t401, .bool ((rd l0 0) != 0), .int .i64 0, .int .u64 0, .int .i64 0, .int .i64 0]) ?_ 4 _ rfl; (with_reducible repeat (first | refine blk_drewN ?_ _ | refine blk_drew ?_ | refine blk_alloc ?_ _)); refine blk_put (cs := #[.int .u64 t401, .bool ((rd l0 0) != 0), .int .i64 0, .int .u64 0, .int .i64 0, .int .i64 0]) ?_ 3 _ rfl; (with_reducible repeat (first | refine blk_drewN ?_ _ | refine blk_drew ?_ | refine blk_alloc ?_ _)); refine blk_put (cs := #[.int .u64 t401, .bool ((rd l0 0) != 0), .int .i64 0, .int .u64 0, .int .i64 0, .int .i64 0]) ?_ 2 _ rfl; (with_reducible repeat (first | refine blk_drewN ?_ _ | refine blk_drew ?_ | refine blk_alloc ?_ _)); refine blk_put (cs := #[.int .u64 t401, .bool false, .int .i64 0, .int .u64 0, .int .i64 0, .int .i64 0]) ?_ 1 _ rfl; (with_reducible repeat (first | refine blk_drewN ?_ _ | refine blk_drew ?_ | refine blk_alloc ?_ _)); refine blk_put (cs := #[.int .u64 0, .bool false, .int .i64 0, .int .u64 0, .int .i64 0, .int .i64 0]) ?_ 0 _ rfl; (with_reducible repeat (first | refine blk_drewN ?_ _ | refine blk_drew ?_ | refine blk_alloc ?_ _)); exact BK407.out) hb); have n2_ := Aside0.mk (below_step (by repeat (first | (with_reducible first | exact HB.out | apply below_alloc | apply bn2_ | apply bd2_ | refine below_set ?_ GE399.out | refine below_set ?_ GE407.out) | exact HB.out)) hb); clear BK399; clear BK407; clear HB; have BK399 := n0_; have BK407 := n1_; have HB := n2_; clear n0_ n1_ n2_; (try clear hb); (try clear hb2); (try clear hk); (try clear hi); have hnb39 := NB407_399.out; have hnc39 := NB399_407.out; have hcz40_0 : w38.cell? ⟨gb407, 0, none⟩ = some (.int .u64 t401) := (blk_cell BK407.out 0).trans rfl; have hcz40_1 : w38.cell? ⟨gb407, 1, none⟩ = some (.bool ((rd l0 0) != 0)) := (blk_cell BK407.out 1).trans rfl; have hcz40_2 : w38.cell? ⟨gb407, 2, none⟩ = some (.int .i64 0) := (blk_cell BK407.out 2).trans rfl; have hcz40_3 : w38.cell? ⟨gb407, 3, none⟩ = some (.int .u64 0) := (blk_cell BK407.out 3).trans rfl; have hcz40_4 : w38.cell? ⟨gb407, 4, none⟩ = some (.int .i64 (wrap64 (t404))) := (blk_cell BK407.out 4).trans rfl; have hcz40_5 : w38.cell? ⟨gb407, 5, none⟩ = some (.int .i64 (wrap64 (t406))) := (blk_cell BK407.out 5).trans rfl; have hfz40_0 := blk_frozen BK407.out 0; have hfz40_1 := blk_frozen BK407.out 1; have hfz40_2 := blk_frozen BK407.out 2; have hfz40_3 := blk_frozen BK407.out 3; have hfz40_4 := blk_frozen BK407.out 4; have hfz40_5 := blk_frozen BK407.out 5) | ((with_reducible refine gate_callee (f := 15) rfl ?_); refine goesL_ (some 40) rfl rfl Try.func15 (by kernel_rfl) rfl #[.agg #[.int .u64 t401, .bool ((rd l0 0) != 0), .int .i64 t409, .int .u64 t410, .int .i64 (wrap64 (t404)), .int .i64 (wrap64 (t406))]] rfl (by (try simp only [List.map_toArray, List.map_cons, List.map_nil]); first | done | rfl | (simp only [List.length_drop, List.length_take]; rfl)) ?_; (with_reducible refine (rickyardref02_Write.calls k t401 ((rd l0 0) != 0) t409 t410 (wrap64 (t404)) (wrap64 (t406)) t412 t415 _ A21.out).mono ?_); rintro e w41 ⟨v413, rfl, ho0, hb⟩; refine ⟨_, rfl, ?_⟩; have n0_ := Aside0.mk (Kd.R_lower ho0 (below_size (by repeat (first | (with_reducible first | exact HB.out | apply below_alloc | apply bn2_ | apply bd2_ | refine below_set ?_ GE399.out | refine below_set ?_ GE407.out) | exact HB.out)))); have n1_ := Aside0.mk (blk_below (g := gb399) (o := .cells #[.int .u64 0, .bool false, .int .i64 0, .int .u64 0, .int .i64 0, .int .i64 0] 26 (0, 0)) (by (with_reducible repeat (first | refine blk_drewN ?_ _ | refine blk_drew ?_ | refine blk_alloc ?_ _)); refine blk_far ?_ NB399_407.out _; (with_reducible repeat (first | refine blk_drewN ?_ _ | refine blk_drew ?_ | refine blk_alloc ?_ _)); refine blk_far ?_ NB399_407.out _; (with_reducible repeat (first | refine blk_drewN ?_ _ | refine blk_drew ?_ | refine blk_alloc ?_ _)); exact BK399.out) hb); have n2_ := Aside0.mk (blk_below (g := gb407) (o := .cells #[.int .u64 t401, .bool ((rd l0 0) != 0), .int .i64 t409, .int .u64 t410, .int .i64 (wrap64 (t404)), .int .i64 (wrap64 (t406))] 26 (0, 0)) (by (with_reducible repeat (first | refine blk_drewN ?_ _ | refine blk_drew ?_ | refine blk_alloc ?_ _)); refine blk_put (cs := #[.int .u64 t401, .bool ((rd l0 0) != 0), .int .i64 t409, .int .u64 0, .int .i64 (wrap64 (t404)), .int .i64 (wrap64 (t406))]) ?_ 3 _ rfl; (with_reducible repeat (first | refine blk_drewN ?_ _ | refine blk_drew ?_ | refine blk_alloc ?_ _)); refine blk_put (cs := #[.int .u64 t401, .bool ((rd l0 0) != 0), .int .i64 0, .int .u64 0, .int .i64 (wrap64 (t404)), .int .i64 (wrap64 (t406))]) ?_ 2 _ rfl; (with_reducible repeat (first | refine blk_drewN ?_ _ | refine blk_drew ?_ | refine blk_alloc ?_ _)); exact BK407.out) hb); have n3_ := Aside0.mk (below_step (by repeat (first | (with_reducible first | exact HB.out | apply below_alloc | apply bn2_ | apply bd2_ | refine below_set ?_ GE399.out | refine below_set ?_ GE407.out) | exact HB.out)) hb); clear BK399; clear BK407; clear HB; have HO414 := n0_; have BK399 := n1_; have BK407 := n2_; have HB := n3_; clear n0_ n1_ n2_ n3_; (try clear hb); (try clear hb2); (try clear hk); (try clear hi); (try clear ho0); have hcv42 := own_string (P := Try.prog) Try.underlying36 Try.underlying5 Try.underlying9 (Kd.own_of_R HO414.out); have hcv43 := Kd.C_string (P := Try.prog) (A := (some ad402)) (c := c0) Try.underlying36 Try.underlying5 Try.underlying9 (Kd.C_below HR0.out HB.out); have hcv43n := fun n_ : Nat => Kd.C_string (P := Try.prog) (A := (some ad402)) (c := c0) Try.underlying36 Try.underlying5 Try.underlying9 (Kd.C_drewN (Kd.C_below HR0.out HB.out) n_); (try simp only [World.drewN_drewN] at hcv43n); have hcz44_0 : w41.cell? ⟨gb407, 0, none⟩ = some (.int .u64 t401) := (blk_cell BK407.out 0).trans rfl; have hcz44_1 : w41.cell? ⟨gb407, 1, none⟩ = some (.bool ((rd l0 0) != 0)) := (blk_cell BK407.out 1).trans rfl; have hcz44_2 : w41.cell? ⟨gb407, 2, none⟩ = some (.int .i64 t409) := (blk_cell BK407.out 2).trans rfl; have hcz44_3 : w41.cell? ⟨gb407, 3, none⟩ = some (.int .u64 t410) := (blk_cell BK407.out 3).trans rfl; have hcz44_4 : w41.cell? ⟨gb407, 4, none⟩ = some (.int .i64 (wrap64 (t404))) := (blk_cell BK407.out 4).trans rfl; have hcz44_5 : w41.cell? ⟨gb407, 5, none⟩ = some (.int .i64 (wrap64 (t406))) := (blk_cell BK407.out 5).trans rfl; have hfz44_0 := blk_frozen BK407.out 0; have hfz44_1 := blk_frozen BK407.out 1; have hfz44_2 := blk_frozen BK407.out 2; have hfz44_3 := blk_frozen BK407.out 3; have hfz44_4 := blk_frozen BK407.out 4; have hfz44_5 := blk_frozen BK407.out 5; have hcz45_0 : w41.cell? ⟨gb399, 0, none⟩ = some (.int .u64 0) := (blk_cell BK399.out 0).trans rfl; have hcz45_1 : w41.cell? ⟨gb399, 1, none⟩ = some (.bool false) := (blk_cell BK399.out 1).trans rfl; have hcz45_2 : w41.cell? ⟨gb399, 2, none⟩ = some (.int .i64 0) := (blk_cell BK399.out 2).trans rfl; have hcz45_3 : w41.cell? ⟨gb399, 3, none⟩ = some (.int .u64 0) := (blk_cell BK399.out 3).trans rfl; have hcz45_4 : w41.cell? ⟨gb399, 4, none⟩ = some (.int .i64 0) := (blk_cell BK399.out 4).trans rfl; have hcz45_5 : w41.cell? ⟨gb399, 5, none⟩ = some (.int .i64 0) := (blk_cell BK399.out 5).trans rfl; have hfz45_0 := blk_frozen BK399.out 0; have hfz45_1 := blk_frozen BK399.out 1; have hfz45_2 := blk_frozen BK399.out 2; have hfz45_3 := blk_frozen BK399.out 3; have hfz45_4 := blk_frozen BK399.out 4; have hfz45_5 := blk_frozen BK399.out 5))
              refine bodyPost_ret (results_ct rfl _ _ gb399 26 #[.int .u64 t401, .bool ((rd l0 0) != 0), .int .i64 t409, .int .u64 t410, .int .i64 (wrap64 (t404)), .int .i64 (wrap64 (t406))] (0, 0) _ rfl (by (with_reducible repeat (first | refine blk_drewN ?_ _ | refine blk_drew ?_ | refine blk_alloc ?_ _)); refine blk_put (cs := #[.int .u64 t401, .bool ((rd l0 0) != 0), .int .i64 t409, .int .u64 t410, .int .i64 (wrap64 (t404)), .int .i64 0]) ?_ 5 _ rfl; (with_reducible repeat (first | refine blk_drewN ?_ _ | refine blk_drew ?_ | refine blk_alloc ?_ _)); refine blk_put (cs := #[.int .u64 t401, .bool ((rd l0 0) != 0), .int .i64 t409, .int .u64 t410, .int .i64 0, .int .i64 0]) ?_ 4 _ rfl; (with_reducible repeat (first | refine blk_drewN ?_ _ | refine blk_drew ?_ | refine blk_alloc ?_ _)); refine blk_put (cs := #[.int .u64 t401, .bool ((rd l0 0) != 0), .int .i64 t409, .int .u64 0, .int .i64 0, .int .i64 0]) ?_ 3 _ rfl; (with_reducible repeat (first | refine blk_drewN ?_ _ | refine blk_drew ?_ | refine blk_alloc ?_ _)); refine blk_put (cs := #[.int .u64 t401, .bool ((rd l0 0) != 0), .int .i64 0, .int .u64 0, .int .i64 0, .int .i64 0]) ?_ 2 _ rfl; (with_reducible repeat (first | refine blk_drewN ?_ _ | refine blk_drew ?_ | refine blk_alloc ?_ _)); refine blk_put (cs := #[.int .u64 t401, .bool false, .int .i64 0, .int .u64 0, .int .i64 0, .int .i64 0]) ?_ 1 _ rfl; (with_reducible repeat (first | refine blk_drewN ?_ _ | refine blk_drew ?_ | refine blk_alloc ?_ _)); refine blk_put (cs := #[.int .u64 0, .bool false, .int .i64 0, .int .u64 0, .int .i64 0, .int .i64 0]) ?_ 0 _ rfl; (with_reducible repeat (first | refine blk_drewN ?_ _ | refine blk_drew ?_ | refine blk_alloc ?_ _)); exact BK399.out) Try.underlying26 rfl (by kernel_rfl)) rfl ?_
              exact ⟨by first | rfl | (simp [errW_none, errW_some] <;> rfl) | (simp [*, errW_none, errW_some] <;> rfl), by repeat (first | (with_reducible first | exact HB.out | apply below_alloc | apply bn2_ | apply bd2_ | refine below_set ?_ GE399.out | refine below_set ?_ GE407.out) | exact HB.out)⟩
             ·rw [if_neg c23] at H
              have c23b0 : ((strOfNums t412).toList == (strOfNums l0).toList) = false := beq_eq_false_iff_ne.mpr c23
              have c23b1 : ((strOfNums t412).toList != (strOfNums l0).toList) = true := bne_iff_ne.mpr c23
              simp only [Option.some.injEq, Prod.mk.injEq] at H
              obtain ⟨rfl, rfl, rfl, rfl, rfl, rfl, rfl⟩ := H
              go_enter Try.func17, Try.ntmps17
              try go_wp2_with (first | ((with_reducible refine gate_dst (N := 2) rfl ?_); refine box_event ?hg (N := 2) ?hd (cs := #[.int .u64 0, .bool false, .int .i64 0, .int .u64 0, .int .i64 0, .int .i64 0]) (t := 26) ?hr ?_; (case hd => rfl); (case hg => rfl); (case hr => first | (go_simp; done) | (go_simp; rfl)); intro gb399 hg w46 hbox hb; have n0_ := Aside0.mk (below_step (by repeat (first | (with_reducible first | exact HB.out | apply below_alloc | apply bn2_ | apply bd2_) | exact HB.out)) hb); have n1_ := Aside0.mk (hbox); have n2_ := Aside0.mk ((by rw [hg]; exact (below_size (by repeat (first | (with_reducible first | exact HB.out | apply below_alloc | apply bn2_ | apply bd2_) | exact HB.out))) : w.heap.size ≤ gb399)); have n3_ := Aside0.mk ((by rw [hg]; exact (below_size (by repeat (first | (with_reducible first | exact HB.out | apply below_alloc | apply bn2_ | apply bd2_) | exact HB.out))) : w.heap.size ≤ gb399)); clear HB; have HB := n0_; have BK399 := n1_; have GW399 := n2_; have GE399 := n3_; clear n0_ n1_ n2_ n3_; clear hb hbox hg))
              have n0_ := Aside0.mk (blk_drew BK399.out)
              have n1_ := Aside0.mk (below_drew1 HB.out)
              clear BK399 HB
              have BK399 := n0_
              have HB := n1_
              clear n0_ n1_
              obtain ⟨i048, hi048, _, hsz48, _⟩ := info_parts info5
              obtain ⟨A48, hcut48, hA48, hC48⟩ := print_mid_of (P := Try.prog) (Value.int .u8) 0 36 5 .i64 .i64 Try.underlying36 hi048 hsz48 A0 c0 l0 1 9 (by omega) (by first | omega | exact of_decide_eq_true (by first | (with_reducible assumption) | assumption)) (of_decide_eq_true (by first | (with_reducible assumption) | assumption)) HC0.out
              have HR400 := Aside0.mk (Kd.C_of_reads (h1 := fun _ => rfl) (hA48 _ (Kd.reads_of_C HR0.out)))
              have HC400 := Aside0.mk hC48
              clear hA48 hC48 hi048 hsz48
              have p402 : 0 ≤ (0 : Int) := (by omega)
              have q402 : 0 < (l0.length : Int) := of_decide_eq_true (by first | (with_reducible assumption) | assumption)
              obtain ⟨ad402, e402, hx402_0⟩ := Kd.at_int HR0.out 0 p402 q402
              have hw402_0 := hx402_0
              (try rw [show ((0 : Int)).toNat = 0 from rfl] at hw402_0)
              (try rw [show 0 * 1 = 0 from rfl] at hw402_0)
              (try rw [Addr.add_zero'] at hw402_0)
              cases e402
              have qi402 : (0 < l0.length) = True := eq_true (by omega)
              (try rw [show ((0 : Int)).toNat = 0 from rfl] at hx402_0)
              (try rw [Addr.add_zero'] at hx402_0)
              replace hx402_0 := (HB.out.cell (World.block_lt_of_cell? w _ hx402_0)).trans hx402_0
              replace p402 := eq_true p402
              replace q402 := eq_true q402
              obtain ⟨i049, hi049, _, hsz49, _⟩ := info_parts info5
              obtain ⟨A49, hcut49, hA49, hC49⟩ := print_mid_of (P := Try.prog) (Value.int .u8) 0 36 5 .i64 .i64 Try.underlying36 hi049 hsz49 (some ad402) c0 l0 25 33 (by omega) (by first | omega | exact of_decide_eq_true (by first | (with_reducible assumption) | assumption)) (of_decide_eq_true (by first | (with_reducible assumption) | assumption)) HC0.out
              have HR403 := Aside0.mk (Kd.C_of_reads (h1 := fun _ => rfl) (hA49 _ (Kd.reads_of_C HR0.out)))
              have HC403 := Aside0.mk hC49
              clear hA49 hC49 hi049 hsz49
              obtain ⟨i050, hi050, _, hsz50, _⟩ := info_parts info5
              obtain ⟨A50, hcut50, hA50, hC50⟩ := print_mid_of (P := Try.prog) (Value.int .u8) 0 36 5 .i64 .i64 Try.underlying36 hi050 hsz50 (some ad402) c0 l0 33 41 (by omega) (by first | omega | exact of_decide_eq_true (by first | (with_reducible assumption) | assumption)) (of_decide_eq_true (by first | (with_reducible assumption) | assumption)) HC0.out
              have HR405 := Aside0.mk (Kd.C_of_reads (h1 := fun _ => rfl) (hA50 _ (Kd.reads_of_C HR0.out)))
              have HC405 := Aside0.mk hC50
              clear hA50 hC50 hi050 hsz50
              refine start_ (n := 18) (S := fun w' => w'.cell? ad402 = some (.int .u8 (rd l0 0))) (ds := []) #[F2,F2,F2,F2,F2,F2,F2,F2,F2,F2,F2,F2,F2,F2,F2,F2,F2,F2] (by kernel_rfl) rfl rfl (((HB.out.cell (World.block_lt_of_cell? w _ hw402_0)).trans hw402_0)) (fun hHeld => ?_); refine with_tabW rickyardref02_Read.tab5 rickyardref02_Read.bits5 (fun HT_ HW_ => ?_)
              generalize w46.drew = w47 at BK399 HB HR400 HR403 HR405 hx402_0 hHeld ⊢
              refine pure_ (i := 0) (N := some 15) (v := ?_) (a' := ?_) #[T2,F2,F2,F2,F2,F2,F2,F2,F2,F2,F2,F2,F2,F2,F2,F2,F2,F2] rfl rfl (any_of HT_.out (by kernel_rfl)) (fun _ _ _ h => h) (Or.inl ⟨by rfl, ?_⟩) ?_ ?_
              rotate_left
              ·intro w'
               go_simp
               with_reducible rfl
              rotate_left
              ·simp only [Act.put, sa2_, sb2_, sc2_, i64_w, i32_w]
               rfl
              refine pure_ (i := 1) (N := some 16) (v := ?_) (a' := ?_) #[T2,T2,F2,F2,F2,F2,F2,F2,F2,F2,F2,F2,F2,F2,F2,F2,F2,F2] rfl rfl (any_of HT_.out (by kernel_rfl)) (fun _ _ _ h => h) (Or.inl ⟨by rfl, ?_⟩) ?_ ?_
              rotate_left
              ·intro w'
               go_simp
               with_reducible rfl
              rotate_left
              ·simp only [Act.put, sa2_, sb2_, sc2_, i64_w, i32_w]
               rfl
              refine pure_ (i := 3) (N := some 18) (v := ?_) (a' := ?_) #[T2,T2,F2,T2,F2,F2,F2,F2,F2,F2,F2,F2,F2,F2,F2,F2,F2,F2] rfl rfl (any_of HT_.out (by kernel_rfl)) (fun _ _ _ h => h) (Or.inl ⟨by rfl, ?_⟩) ?_ ?_
              rotate_left
              ·intro w'
               go_simp
               with_reducible rfl
              rotate_left
              ·simp only [Act.put, sa2_, sb2_, sc2_, i64_w, i32_w]
               rfl
              refine pure_ (i := 4) (N := some 19) (v := ?_) (a' := ?_) #[T2,T2,F2,T2,T2,F2,F2,F2,F2,F2,F2,F2,F2,F2,F2,F2,F2,F2] rfl rfl (any_of HT_.out (by kernel_rfl)) (fun _ _ _ h => h) (Or.inl ⟨by rfl, ?_⟩) ?_ ?_
              rotate_left
              ·intro w'
               go_simp
               with_reducible rfl
              rotate_left
              ·simp only [Act.put, sa2_, sb2_, sc2_, i64_w, i32_w]
               rfl
              refine pure_ (i := 7) (N := some 22) (v := ?_) (a' := ?_) #[T2,T2,F2,T2,T2,F2,F2,T2,F2,F2,F2,F2,F2,F2,F2,F2,F2,F2] rfl rfl (any_of HT_.out (by kernel_rfl)) (fun _ _ _ h => h) (Or.inl ⟨by rfl, ?_⟩) ?_ ?_
              rotate_left
              ·intro w'
               go_simp
               with_reducible rfl
              rotate_left
              ·simp only [Act.put, sa2_, sb2_, sc2_, i64_w, i32_w]
               rfl
              refine pure_ (i := 8) (N := some 23) (v := ?_) (a' := ?_) #[T2,T2,F2,T2,T2,F2,F2,T2,T2,F2,F2,F2,F2,F2,F2,F2,F2,F2] rfl rfl (any_of HT_.out (by kernel_rfl)) (fun _ _ _ h => h) (Or.inl ⟨by rfl, ?_⟩) ?_ ?_
              rotate_left
              ·intro w'
               go_simp
               with_reducible rfl
              rotate_left
              ·simp only [Act.put, sa2_, sb2_, sc2_, i64_w, i32_w]
               rfl
              refine pure_ (i := 11) (N := some 26) (v := ?_) (a' := ?_) #[T2,T2,F2,T2,T2,F2,F2,T2,T2,F2,F2,T2,F2,F2,F2,F2,F2,F2] rfl rfl (any_of HT_.out (by kernel_rfl)) (fun _ _ _ h => h) (Or.inl ⟨by rfl, ?_⟩) ?_ ?_
              rotate_left
              ·intro w'
               go_simp
               with_reducible rfl
              rotate_left
              ·simp only [Act.put, sa2_, sb2_, sc2_, i64_w, i32_w]
               rfl
              refine pure_ (i := 12) (N := some 27) (v := ?_) (a' := ?_) #[T2,T2,F2,T2,T2,F2,F2,T2,T2,F2,F2,T2,T2,F2,F2,F2,F2,F2] rfl rfl (any_of HT_.out (by kernel_rfl)) (fun _ _ _ h => h) (Or.inl ⟨by rfl, ?_⟩) ?_ ?_
              rotate_left
              ·intro w'
               go_simp
               with_reducible rfl
              rotate_left
              ·simp only [Act.put, sa2_, sb2_, sc2_, i64_w, i32_w]
               rfl
              refine take_ (i := 5) (N := some 20) (v := ?_) (a' := ?_) #[T2,T2,F2,T2,T2,T2,F2,T2,T2,F2,F2,T2,T2,F2,F2,F2,F2,F2] rfl rfl (take_ofW HT_.out HW_.out (by kernel_rfl)) (fun _ _ _ h => h) (Or.inl ⟨by rfl, ?_⟩) hHeld ?_ ?_
              rotate_left
              ·intro w' s0
               go_simp
               with_reducible rfl
              rotate_left
              ·simp only [Act.put, sa2_, sb2_, sc2_, i64_w, i32_w]
               rfl
              refine pure_ (i := 6) (N := some 21) (v := ?_) (a' := ?_) #[T2,T2,F2,T2,T2,T2,T2,T2,T2,F2,F2,T2,T2,F2,F2,F2,F2,F2] rfl rfl (any_of HT_.out (by kernel_rfl)) (fun _ _ _ h => h) (Or.inl ⟨by rfl, ?_⟩) ?_ ?_
              rotate_left
              ·intro w'
               go_simp
               with_reducible rfl
              rotate_left
              ·simp only [Act.put, sa2_, sb2_, sc2_, i64_w, i32_w]
               rfl
              refine join_ (σ := Nat) 1 #[T2,T2,T2,T2,T2,T2,T2,T2,T2,T2,T2,T2,T2,T2,T2,T2,T2,F2] (fun s_ => [(17, .int .u64 t401), (24, .int .u64 t404), (28, .int .u64 t406), (4, .pointer (some ⟨s_, 0, none⟩)), (25, .int .i64 (wrap64 (t404))), (29, .int .i64 (wrap64 (t406))), (30, .agg #[.int .u64 t401, .bool ((rd l0 0) != 0), .int .i64 0, .int .u64 0, .int .i64 (wrap64 (t404)), .int .i64 (wrap64 (t406))])]) (fun s_ w' => (w'.cell? ad402 = some (.int .u8 (rd l0 0))) ∧ (w'.heap[gb399]? = some (.cells #[.int .u64 0, .bool false, .int .i64 0, .int .u64 0, .int .i64 0, .int .i64 0] 26 (0, 0))) ∧ (w'.heap[s_]? = some (.cells #[.int .u64 0, .bool false, .int .i64 0, .int .u64 0, .int .i64 0, .int .i64 0] 26 (0, 0))) ∧ (w.heap.size ≤ s_) ∧ (w.heap.size ≤ s_) ∧ (gb399 ≠ s_) ∧ (s_ ≠ gb399) ∧ (Below w.heap.size w w')) ?_ ?_
              rotate_left
              ·intro hCont
               refine two_ (i := 2) (j := 16) (Ni := some 17) (Nj := some 4) #[T2,T2,T2,T2,T2,T2,T2,T2,T2,F2,F2,T2,T2,F2,F2,F2,F2,F2] #[T2,T2,F2,T2,T2,T2,T2,T2,T2,F2,F2,T2,T2,F2,F2,F2,T2,F2] rfl rfl rfl rfl (two_of HT_.out (by kernel_rfl)) (by decide) (by decide) (fun K hK => ?_) (fun K hK => ?_)
               ·skip
                refine goes_ Try.func32 (by kernel_rfl) rfl #[.slice A48 ((l0.take 9).drop 1).length (c0 - 1)] (by rfl) rfl rfl (by (try simp only [List.map_toArray, List.map_cons, List.map_nil]); first | done | (rw [show ((l0.take 9).drop 1).length = (9 - 1) from (by rw [List.length_drop, List.length_take]; have h_ : (9 : Int) ≤ (l0.length : Int) := of_decide_eq_true (by first | (with_reducible assumption) | assumption); omega)] <;> rfl) | rfl | (simp only [List.length_drop, List.length_take]; rfl)) ?_
                with_reducible refine (rickyardref02_Number.calls k _ _ ((l0.take 9).drop 1) t401 _ ?side1 ?side2 A10.out).mono ?_
                (case side1 => repeat (first | exact (Kd.C_below HR400.out HB.out) | (with_reducible refine Kd.C_alloc ?_ _) | (with_reducible refine Kd.C_drewN ?_ _) | (with_reducible refine Kd.C_drew ?_)))
                (case side2 => exact HC400.out)
                rintro e w' ⟨rfl, ⟨nd, rfl⟩⟩
                refine ⟨_, rfl, ?_⟩
                refine hK.out _ _ (((HB.out.cell (World.block_lt_of_cell? w _ hw402_0)).trans hw402_0)) (fun hHeld => ?_)
                clear hK K
                refine norm_ (a' := ?_) ?_ ?_
                rotate_left
                ·show Act.put _ (some 17) _ = _
                 simp only [Act.put, sa2_, sb2_, sc2_, i64_w, i32_w]
                 rfl
                refine two_ (i := 9) (j := 16) (Ni := some 24) (Nj := some 4) #[T2,T2,T2,T2,T2,T2,T2,T2,T2,T2,F2,T2,T2,F2,F2,F2,F2,F2] #[T2,T2,T2,T2,T2,T2,T2,T2,T2,F2,F2,T2,T2,F2,F2,F2,T2,F2] rfl rfl rfl rfl (two_of HT_.out (by kernel_rfl)) (by decide) (by decide) (fun K hK => ?_) (fun K hK => ?_)
                ·skip
                 refine goes_ Try.func32 (by kernel_rfl) rfl #[.slice A49 ((l0.take 33).drop 25).length (c0 - 25)] (by rfl) rfl rfl (by (try simp only [List.map_toArray, List.map_cons, List.map_nil]); first | done | (rw [show ((l0.take 33).drop 25).length = (33 - 25) from (by rw [List.length_drop, List.length_take]; have h_ : (33 : Int) ≤ (l0.length : Int) := of_decide_eq_true (by first | (with_reducible assumption) | assumption); omega)] <;> rfl) | rfl | (simp only [List.length_drop, List.length_take]; rfl)) ?_
                 with_reducible refine (rickyardref02_Number.calls k _ _ ((l0.take 33).drop 25) t404 _ ?side1 ?side2 A14.out).mono ?_
                 (case side1 => repeat (first | exact (Kd.C_below HR403.out (by repeat (first | (with_reducible first | exact HB.out | apply below_alloc | apply bn2_ | apply bd2_ | refine below_set ?_ GE399.out) | exact HB.out))) | (with_reducible refine Kd.C_alloc ?_ _) | (with_reducible refine Kd.C_drewN ?_ _) | (with_reducible refine Kd.C_drew ?_)))
                 (case side2 => exact HC403.out)
                 rintro e w' ⟨rfl, ⟨nd, rfl⟩⟩
                 refine ⟨_, rfl, ?_⟩
                 refine hK.out _ _ (((HB.out.cell (World.block_lt_of_cell? w _ hw402_0)).trans hw402_0)) (fun hHeld => ?_)
                 clear hK K
                 refine norm_ (a' := ?_) ?_ ?_
                 rotate_left
                 ·show Act.put _ (some 24) _ = _
                  simp only [Act.put, sa2_, sb2_, sc2_, i64_w, i32_w]
                  rfl
                 refine pure_ (i := 10) (N := some 25) (v := ?_) (a' := ?_) #[T2,T2,T2,T2,T2,T2,T2,T2,T2,T2,T2,T2,T2,F2,F2,F2,F2,F2] rfl rfl (any_of HT_.out (by kernel_rfl)) (fun _ _ _ h => h) (Or.inl ⟨by rfl, ?_⟩) ?_ ?_
                 rotate_left
                 ·intro w'
                  go_simp
                  with_reducible rfl
                 rotate_left
                 ·simp only [Act.put, sa2_, sb2_, sc2_, i64_w, i32_w]
                  rfl
                 refine two_ (i := 13) (j := 16) (Ni := some 28) (Nj := some 4) #[T2,T2,T2,T2,T2,T2,T2,T2,T2,T2,T2,T2,T2,T2,F2,F2,F2,F2] #[T2,T2,T2,T2,T2,T2,T2,T2,T2,T2,T2,T2,T2,F2,F2,F2,T2,F2] rfl rfl rfl rfl (two_of HT_.out (by kernel_rfl)) (by decide) (by decide) (fun K hK => ?_) (fun K hK => ?_)
                 ·skip
                  refine goes_ Try.func32 (by kernel_rfl) rfl #[.slice A50 ((l0.take 41).drop 33).length (c0 - 33)] (by rfl) rfl rfl (by (try simp only [List.map_toArray, List.map_cons, List.map_nil]); first | done | (rw [show ((l0.take 41).drop 33).length = (41 - 33) from (by rw [List.length_drop, List.length_take]; have h_ : (41 : Int) ≤ (l0.length : Int) := of_decide_eq_true (by first | (with_reducible assumption) | assumption); omega)] <;> rfl) | rfl | (simp only [List.length_drop, List.length_take]; rfl)) ?_
                  with_reducible refine (rickyardref02_Number.calls k _ _ ((l0.take 41).drop 33) t406 _ ?side1 ?side2 A17.out).mono ?_
                  (case side1 => repeat (first | exact (Kd.C_below HR405.out (by repeat (first | (with_reducible first | exact HB.out | apply below_alloc | apply bn2_ | apply bd2_ | refine below_set ?_ GE399.out) | exact HB.out))) | (with_reducible refine Kd.C_alloc ?_ _) | (with_reducible refine Kd.C_drewN ?_ _) | (with_reducible refine Kd.C_drew ?_)))
                  (case side2 => exact HC405.out)
                  rintro e w' ⟨rfl, ⟨nd, rfl⟩⟩
                  refine ⟨_, rfl, ?_⟩
                  refine hK.out _ _ (((HB.out.cell (World.block_lt_of_cell? w _ hw402_0)).trans hw402_0)) (fun hHeld => ?_)
                  clear hK K
                  refine norm_ (a' := ?_) ?_ ?_
                  rotate_left
                  ·show Act.put _ (some 28) _ = _
                   simp only [Act.put, sa2_, sb2_, sc2_, i64_w, i32_w]
                   rfl
                  refine pure_ (i := 14) (N := some 29) (v := ?_) (a' := ?_) #[T2,T2,T2,T2,T2,T2,T2,T2,T2,T2,T2,T2,T2,T2,T2,F2,F2,F2] rfl rfl (any_of HT_.out (by kernel_rfl)) (fun _ _ _ h => h) (Or.inl ⟨by rfl, ?_⟩) ?_ ?_
                  rotate_left
                  ·intro w'
                   go_simp
                   with_reducible rfl
                  rotate_left
                  ·simp only [Act.put, sa2_, sb2_, sc2_, i64_w, i32_w]
                   rfl
                  refine pure_ (i := 15) (N := some 30) (v := ?_) (a' := ?_) #[T2,T2,T2,T2,T2,T2,T2,T2,T2,T2,T2,T2,T2,T2,T2,T2,F2,F2] rfl rfl (any_of HT_.out (by kernel_rfl)) (fun _ _ _ h => h) (Or.inl ⟨by rfl, ?_⟩) ?_ ?_
                  rotate_left
                  ·intro w'
                   go_simp
                   with_reducible rfl
                  rotate_left
                  ·simp only [Act.put, sa2_, sb2_, sc2_, i64_w, i32_w]
                   rfl
                  refine one_ (i := 16) (N := some 4) #[T2,T2,T2,T2,T2,T2,T2,T2,T2,T2,T2,T2,T2,T2,T2,T2,T2,F2] rfl rfl (one_of HT_.out (by kernel_rfl)) (by decide) (fun K hK => ?_)
                  refine box_step ?hg (N := 4) ?hd (cs := #[.int .u64 0, .bool false, .int .i64 0, .int .u64 0, .int .i64 0, .int .i64 0]) (t := 26) ?hr ?_; (case hd => rfl); (case hg => rfl); (case hr => first | (go_simp; done) | (go_simp; rfl))
                  intro gb407 hg w51 hbox hb
                  have n0_ := Aside0.mk (blk_below (g := gb399) (o := .cells #[.int .u64 0, .bool false, .int .i64 0, .int .u64 0, .int .i64 0, .int .i64 0] 26 (0, 0)) (by (with_reducible repeat (first | refine blk_drewN ?_ _ | refine blk_drew ?_ | refine blk_alloc ?_ _)); exact BK399.out) hb)
                  have n1_ := Aside0.mk (below_step (by repeat (first | (with_reducible first | exact HB.out | apply below_alloc | apply bn2_ | apply bd2_ | refine below_set ?_ GE399.out) | exact HB.out)) hb)
                  have n2_ := Aside0.mk (hbox)
                  have n3_ := Aside0.mk ((by rw [hg]; exact (below_size (by repeat (first | (with_reducible first | exact HB.out | apply below_alloc | apply bn2_ | apply bd2_ | refine below_set ?_ GE399.out) | exact HB.out))) : w.heap.size ≤ gb407))
                  have n4_ := Aside0.mk ((by rw [hg]; exact (below_size (by repeat (first | (with_reducible first | exact HB.out | apply below_alloc | apply bn2_ | apply bd2_ | refine below_set ?_ GE399.out) | exact HB.out))) : w.heap.size ≤ gb407))
                  have n5_ := Aside0.mk ((by rw [hg]; exact Nat.ne_of_lt (blk_lt (g := gb399) (o := .cells #[.int .u64 0, .bool false, .int .i64 0, .int .u64 0, .int .i64 0, .int .i64 0] 26 (0, 0)) (by (with_reducible repeat (first | refine blk_drewN ?_ _ | refine blk_drew ?_ | refine blk_alloc ?_ _)); exact BK399.out)) : gb399 ≠ gb407))
                  have n6_ := Aside0.mk ((by rw [hg]; exact Nat.ne_of_gt (blk_lt (g := gb399) (o := .cells #[.int .u64 0, .bool false, .int .i64 0, .int .u64 0, .int .i64 0, .int .i64 0] 26 (0, 0)) (by (with_reducible repeat (first | refine blk_drewN ?_ _ | refine blk_drew ?_ | refine blk_alloc ?_ _)); exact BK399.out)) : gb407 ≠ gb399))
                  clear BK399 HB
                  have BK399 := n0_
                  have HB := n1_
                  have BK407 := n2_
                  have GW407 := n3_
                  have GE407 := n4_
                  have NB399_407 := n5_
                  have NB407_399 := n6_
                  clear n0_ n1_ n2_ n3_ n4_ n5_ n6_
                  clear hb hbox hg
                  refine hK.out _ _ (((HB.out.cell (World.block_lt_of_cell? w _ hw402_0)).trans hw402_0)) (fun hHeld => ?_)
                  clear hK K
                  refine norm_ (a' := ?_) ?_ ?_
                  rotate_left
                  ·show Act.put _ (some 4) _ = _
                   simp only [Act.put, sa2_, sb2_, sc2_, i64_w, i32_w]
                   rfl
                  exact norm_ (by simp only [putAll, Act.put, sa2_, sb2_, sc2_]) (hCont (gb407) _ ⟨hHeld, (by (with_reducible repeat (first | refine blk_drewN ?_ _ | refine blk_drew ?_ | refine blk_alloc ?_ _)); exact BK399.out), (by (with_reducible repeat (first | refine blk_drewN ?_ _ | refine blk_drew ?_ | refine blk_alloc ?_ _)); exact BK407.out), GW407.out, GE407.out, NB399_407.out, NB407_399.out, (by repeat (first | (with_reducible first | exact HB.out | apply below_alloc | apply bn2_ | apply bd2_ | refine below_set ?_ GE399.out | refine below_set ?_ GE407.out) | exact HB.out))⟩)
                 ·skip
                  refine box_step ?hg (N := 4) ?hd (cs := #[.int .u64 0, .bool false, .int .i64 0, .int .u64 0, .int .i64 0, .int .i64 0]) (t := 26) ?hr ?_; (case hd => rfl); (case hg => rfl); (case hr => first | (go_simp; done) | (go_simp; rfl))
                  intro gb407 hg w51 hbox hb
                  have n0_ := Aside0.mk (blk_below (g := gb399) (o := .cells #[.int .u64 0, .bool false, .int .i64 0, .int .u64 0, .int .i64 0, .int .i64 0] 26 (0, 0)) (by (with_reducible repeat (first | refine blk_drewN ?_ _ | refine blk_drew ?_ | refine blk_alloc ?_ _)); exact BK399.out) hb)
                  have n1_ := Aside0.mk (below_step (by repeat (first | (with_reducible first | exact HB.out | apply below_alloc | apply bn2_ | apply bd2_ | refine below_set ?_ GE399.out) | exact HB.out)) hb)
                  have n2_ := Aside0.mk (hbox)
                  have n3_ := Aside0.mk ((by rw [hg]; exact (below_size (by repeat (first | (with_reducible first | exact HB.out | apply below_alloc | apply bn2_ | apply bd2_ | refine below_set ?_ GE399.out) | exact HB.out))) : w.heap.size ≤ gb407))
                  have n4_ := Aside0.mk ((by rw [hg]; exact (below_size (by repeat (first | (with_reducible first | exact HB.out | apply below_alloc | apply bn2_ | apply bd2_ | refine below_set ?_ GE399.out) | exact HB.out))) : w.heap.size ≤ gb407))
                  have n5_ := Aside0.mk ((by rw [hg]; exact Nat.ne_of_lt (blk_lt (g := gb399) (o := .cells #[.int .u64 0, .bool false, .int .i64 0, .int .u64 0, .int .i64 0, .int .i64 0] 26 (0, 0)) (by (with_reducible repeat (first | refine blk_drewN ?_ _ | refine blk_drew ?_ | refine blk_alloc ?_ _)); exact BK399.out)) : gb399 ≠ gb407))
                  have n6_ := Aside0.mk ((by rw [hg]; exact Nat.ne_of_gt (blk_lt (g := gb399) (o := .cells #[.int .u64 0, .bool false, .int .i64 0, .int .u64 0, .int .i64 0, .int .i64 0] 26 (0, 0)) (by (with_reducible repeat (first | refine blk_drewN ?_ _ | refine blk_drew ?_ | refine blk_alloc ?_ _)); exact BK399.out)) : gb407 ≠ gb399))
                  clear BK399 HB
                  have BK399 := n0_
                  have HB := n1_
                  have BK407 := n2_
                  have GW407 := n3_
                  have GE407 := n4_
                  have NB399_407 := n5_
                  have NB407_399 := n6_
                  clear n0_ n1_ n2_ n3_ n4_ n5_ n6_
                  clear hb hbox hg
                  refine hK.out _ _ (((HB.out.cell (World.block_lt_of_cell? w _ hw402_0)).trans hw402_0)) (fun hHeld => ?_)
                  clear hK K
                  refine norm_ (a' := ?_) ?_ ?_
                  rotate_left
                  ·show Act.put _ (some 4) _ = _
                   simp only [Act.put, sa2_, sb2_, sc2_, i64_w, i32_w]
                   rfl
                  refine one_ (i := 13) (N := some 28) #[T2,T2,T2,T2,T2,T2,T2,T2,T2,T2,T2,T2,T2,T2,F2,F2,T2,F2] rfl rfl (one_of HT_.out (by kernel_rfl)) (by decide) (fun K hK => ?_)
                  refine goes_ Try.func32 (by kernel_rfl) rfl #[.slice A50 ((l0.take 41).drop 33).length (c0 - 33)] (by rfl) rfl rfl (by (try simp only [List.map_toArray, List.map_cons, List.map_nil]); first | done | (rw [show ((l0.take 41).drop 33).length = (41 - 33) from (by rw [List.length_drop, List.length_take]; have h_ : (41 : Int) ≤ (l0.length : Int) := of_decide_eq_true (by first | (with_reducible assumption) | assumption); omega)] <;> rfl) | rfl | (simp only [List.length_drop, List.length_take]; rfl)) ?_
                  with_reducible refine (rickyardref02_Number.calls k _ _ ((l0.take 41).drop 33) t406 _ ?side1 ?side2 A17.out).mono ?_
                  (case side1 => repeat (first | exact (Kd.C_below HR405.out HB.out) | (with_reducible refine Kd.C_alloc ?_ _) | (with_reducible refine Kd.C_drewN ?_ _) | (with_reducible refine Kd.C_drew ?_)))
                  (case side2 => exact HC405.out)
                  rintro e w' ⟨rfl, ⟨nd, rfl⟩⟩
                  refine ⟨_, rfl, ?_⟩
                  refine hK.out _ _ (((HB.out.cell (World.block_lt_of_cell? w _ hw402_0)).trans hw402_0)) (fun hHeld => ?_)
                  clear hK K
                  refine norm_ (a' := ?_) ?_ ?_
                  rotate_left
                  ·show Act.put _ (some 28) _ = _
                   simp only [Act.put, sa2_, sb2_, sc2_, i64_w, i32_w]
                   rfl
                  refine pure_ (i := 14) (N := some 29) (v := ?_) (a' := ?_) #[T2,T2,T2,T2,T2,T2,T2,T2,T2,T2,T2,T2,T2,T2,T2,F2,T2,F2] rfl rfl (any_of HT_.out (by kernel_rfl)) (fun _ _ _ h => h) (Or.inl ⟨by rfl, ?_⟩) ?_ ?_
                  rotate_left
                  ·intro w'
                   go_simp
                   with_reducible rfl
                  rotate_left
                  ·simp only [Act.put, sa2_, sb2_, sc2_, i64_w, i32_w]
                   rfl
                  refine pure_ (i := 15) (N := some 30) (v := ?_) (a' := ?_) #[T2,T2,T2,T2,T2,T2,T2,T2,T2,T2,T2,T2,T2,T2,T2,T2,T2,F2] rfl rfl (any_of HT_.out (by kernel_rfl)) (fun _ _ _ h => h) (Or.inl ⟨by rfl, ?_⟩) ?_ ?_
                  rotate_left
                  ·intro w'
                   go_simp
                   with_reducible rfl
                  rotate_left
                  ·simp only [Act.put, sa2_, sb2_, sc2_, i64_w, i32_w]
                   rfl
                  exact norm_ (by simp only [putAll, Act.put, sa2_, sb2_, sc2_]) (hCont (gb407) _ ⟨hHeld, (by (with_reducible repeat (first | refine blk_drewN ?_ _ | refine blk_drew ?_ | refine blk_alloc ?_ _)); exact BK399.out), (by (with_reducible repeat (first | refine blk_drewN ?_ _ | refine blk_drew ?_ | refine blk_alloc ?_ _)); exact BK407.out), GW407.out, GE407.out, NB399_407.out, NB407_399.out, (by repeat (first | (with_reducible first | exact HB.out | apply below_alloc | apply bn2_ | apply bd2_ | refine below_set ?_ GE399.out | refine below_set ?_ GE407.out) | exact HB.out))⟩)
                ·skip
                 refine box_step ?hg (N := 4) ?hd (cs := #[.int .u64 0, .bool false, .int .i64 0, .int .u64 0, .int .i64 0, .int .i64 0]) (t := 26) ?hr ?_; (case hd => rfl); (case hg => rfl); (case hr => first | (go_simp; done) | (go_simp; rfl))
                 intro gb407 hg w51 hbox hb
                 have n0_ := Aside0.mk (blk_below (g := gb399) (o := .cells #[.int .u64 0, .bool false, .int .i64 0, .int .u64 0, .int .i64 0, .int .i64 0] 26 (0, 0)) (by (with_reducible repeat (first | refine blk_drewN ?_ _ | refine blk_drew ?_ | refine blk_alloc ?_ _)); exact BK399.out) hb)
                 have n1_ := Aside0.mk (below_step (by repeat (first | (with_reducible first | exact HB.out | apply below_alloc | apply bn2_ | apply bd2_ | refine below_set ?_ GE399.out) | exact HB.out)) hb)
                 have n2_ := Aside0.mk (hbox)
                 have n3_ := Aside0.mk ((by rw [hg]; exact (below_size (by repeat (first | (with_reducible first | exact HB.out | apply below_alloc | apply bn2_ | apply bd2_ | refine below_set ?_ GE399.out) | exact HB.out))) : w.heap.size ≤ gb407))
                 have n4_ := Aside0.mk ((by rw [hg]; exact (below_size (by repeat (first | (with_reducible first | exact HB.out | apply below_alloc | apply bn2_ | apply bd2_ | refine below_set ?_ GE399.out) | exact HB.out))) : w.heap.size ≤ gb407))
                 have n5_ := Aside0.mk ((by rw [hg]; exact Nat.ne_of_lt (blk_lt (g := gb399) (o := .cells #[.int .u64 0, .bool false, .int .i64 0, .int .u64 0, .int .i64 0, .int .i64 0] 26 (0, 0)) (by (with_reducible repeat (first | refine blk_drewN ?_ _ | refine blk_drew ?_ | refine blk_alloc ?_ _)); exact BK399.out)) : gb399 ≠ gb407))
                 have n6_ := Aside0.mk ((by rw [hg]; exact Nat.ne_of_gt (blk_lt (g := gb399) (o := .cells #[.int .u64 0, .bool false, .int .i64 0, .int .u64 0, .int .i64 0, .int .i64 0] 26 (0, 0)) (by (with_reducible repeat (first | refine blk_drewN ?_ _ | refine blk_drew ?_ | refine blk_alloc ?_ _)); exact BK399.out)) : gb407 ≠ gb399))
                 clear BK399 HB
                 have BK399 := n0_
                 have HB := n1_
                 have BK407 := n2_
                 have GW407 := n3_
                 have GE407 := n4_
                 have NB399_407 := n5_
                 have NB407_399 := n6_
                 clear n0_ n1_ n2_ n3_ n4_ n5_ n6_
                 clear hb hbox hg
                 refine hK.out _ _ (((HB.out.cell (World.block_lt_of_cell? w _ hw402_0)).trans hw402_0)) (fun hHeld => ?_)
                 clear hK K
                 refine norm_ (a' := ?_) ?_ ?_
                 rotate_left
                 ·show Act.put _ (some 4) _ = _
                  simp only [Act.put, sa2_, sb2_, sc2_, i64_w, i32_w]
                  rfl
                 refine one_ (i := 9) (N := some 24) #[T2,T2,T2,T2,T2,T2,T2,T2,T2,T2,F2,T2,T2,F2,F2,F2,T2,F2] rfl rfl (one_of HT_.out (by kernel_rfl)) (by decide) (fun K hK => ?_)
                 refine goes_ Try.func32 (by kernel_rfl) rfl #[.slice A49 ((l0.take 33).drop 25).length (c0 - 25)] (by rfl) rfl rfl (by (try simp only [List.map_toArray, List.map_cons, List.map_nil]); first | done | (rw [show ((l0.take 33).drop 25).length = (33 - 25) from (by rw [List.length_drop, List.length_take]; have h_ : (33 : Int) ≤ (l0.length : Int) := of_decide_eq_true (by first | (with_reducible assumption) | assumption); omega)] <;> rfl) | rfl | (simp only [List.length_drop, List.length_take]; rfl)) ?_
                 with_reducible refine (rickyardref02_Number.calls k _ _ ((l0.take 33).drop 25) t404 _ ?side1 ?side2 A14.out).mono ?_
                 (case side1 => repeat (first | exact (Kd.C_below HR403.out HB.out) | (with_reducible refine Kd.C_alloc ?_ _) | (with_reducible refine Kd.C_drewN ?_ _) | (with_reducible refine Kd.C_drew ?_)))
                 (case side2 => exact HC403.out)
                 rintro e w' ⟨rfl, ⟨nd, rfl⟩⟩
                 refine ⟨_, rfl, ?_⟩
                 refine hK.out _ _ (((HB.out.cell (World.block_lt_of_cell? w _ hw402_0)).trans hw402_0)) (fun hHeld => ?_)
                 clear hK K
                 refine norm_ (a' := ?_) ?_ ?_
                 rotate_left
                 ·show Act.put _ (some 24) _ = _
                  simp only [Act.put, sa2_, sb2_, sc2_, i64_w, i32_w]
                  rfl
                 refine pure_ (i := 10) (N := some 25) (v := ?_) (a' := ?_) #[T2,T2,T2,T2,T2,T2,T2,T2,T2,T2,T2,T2,T2,F2,F2,F2,T2,F2] rfl rfl (any_of HT_.out (by kernel_rfl)) (fun _ _ _ h => h) (Or.inl ⟨by rfl, ?_⟩) ?_ ?_
                 rotate_left
                 ·intro w'
                  go_simp
                  with_reducible rfl
                 rotate_left
                 ·simp only [Act.put, sa2_, sb2_, sc2_, i64_w, i32_w]
                  rfl
                 refine one_ (i := 13) (N := some 28) #[T2,T2,T2,T2,T2,T2,T2,T2,T2,T2,T2,T2,T2,T2,F2,F2,T2,F2] rfl rfl (one_of HT_.out (by kernel_rfl)) (by decide) (fun K hK => ?_)
                 refine goes_ Try.func32 (by kernel_rfl) rfl #[.slice A50 ((l0.take 41).drop 33).length (c0 - 33)] (by rfl) rfl rfl (by (try simp only [List.map_toArray, List.map_cons, List.map_nil]); first | done | (rw [show ((l0.take 41).drop 33).length = (41 - 33) from (by rw [List.length_drop, List.length_take]; have h_ : (41 : Int) ≤ (l0.length : Int) := of_decide_eq_true (by first | (with_reducible assumption) | assumption); omega)] <;> rfl) | rfl | (simp only [List.length_drop, List.length_take]; rfl)) ?_
                 with_reducible refine (rickyardref02_Number.calls k _ _ ((l0.take 41).drop 33) t406 _ ?side1 ?side2 A17.out).mono ?_
                 (case side1 => repeat (first | exact (Kd.C_below HR405.out (by repeat (first | (with_reducible first | exact HB.out | apply below_alloc | apply bn2_ | apply bd2_ | refine below_set ?_ GE399.out | refine below_set ?_ GE407.out) | exact HB.out))) | (with_reducible refine Kd.C_alloc ?_ _) | (with_reducible refine Kd.C_drewN ?_ _) | (with_reducible refine Kd.C_drew ?_)))
                 (case side2 => exact HC405.out)
                 rintro e w' ⟨rfl, ⟨nd, rfl⟩⟩
                 refine ⟨_, rfl, ?_⟩
                 refine hK.out _ _ (((HB.out.cell (World.block_lt_of_cell? w _ hw402_0)).trans hw402_0)) (fun hHeld => ?_)
                 clear hK K
                 refine norm_ (a' := ?_) ?_ ?_
                 rotate_left
                 ·show Act.put _ (some 28) _ = _
                  simp only [Act.put, sa2_, sb2_, sc2_, i64_w, i32_w]
                  rfl
                 refine pure_ (i := 14) (N := some 29) (v := ?_) (a' := ?_) #[T2,T2,T2,T2,T2,T2,T2,T2,T2,T2,T2,T2,T2,T2,T2,F2,T2,F2] rfl rfl (any_of HT_.out (by kernel_rfl)) (fun _ _ _ h => h) (Or.inl ⟨by rfl, ?_⟩) ?_ ?_
                 rotate_left
                 ·intro w'
                  go_simp
                  with_reducible rfl
                 rotate_left
                 ·simp only [Act.put, sa2_, sb2_, sc2_, i64_w, i32_w]
                  rfl
                 refine pure_ (i := 15) (N := some 30) (v := ?_) (a' := ?_) #[T2,T2,T2,T2,T2,T2,T2,T2,T2,T2,T2,T2,T2,T2,T2,T2,T2,F2] rfl rfl (any_of HT_.out (by kernel_rfl)) (fun _ _ _ h => h) (Or.inl ⟨by rfl, ?_⟩) ?_ ?_
                 rotate_left
                 ·intro w'
                  go_simp
                  with_reducible rfl
                 rotate_left
                 ·simp only [Act.put, sa2_, sb2_, sc2_, i64_w, i32_w]
                  rfl
                 exact norm_ (by simp only [putAll, Act.put, sa2_, sb2_, sc2_]) (hCont (gb407) _ ⟨hHeld, (by (with_reducible repeat (first | refine blk_drewN ?_ _ | refine blk_drew ?_ | refine blk_alloc ?_ _)); exact BK399.out), (by (with_reducible repeat (first | refine blk_drewN ?_ _ | refine blk_drew ?_ | refine blk_alloc ?_ _)); exact BK407.out), GW407.out, GE407.out, NB399_407.out, NB407_399.out, (by repeat (first | (with_reducible first | exact HB.out | apply below_alloc | apply bn2_ | apply bd2_ | refine below_set ?_ GE399.out | refine below_set ?_ GE407.out) | exact HB.out))⟩)
               ·skip
                refine box_step ?hg (N := 4) ?hd (cs := #[.int .u64 0, .bool false, .int .i64 0, .int .u64 0, .int .i64 0, .int .i64 0]) (t := 26) ?hr ?_; (case hd => rfl); (case hg => rfl); (case hr => first | (go_simp; done) | (go_simp; rfl))
                intro gb407 hg w51 hbox hb
                have n0_ := Aside0.mk (blk_below (g := gb399) (o := .cells #[.int .u64 0, .bool false, .int .i64 0, .int .u64 0, .int .i64 0, .int .i64 0] 26 (0, 0)) (by (with_reducible repeat (first | refine blk_drewN ?_ _ | refine blk_drew ?_ | refine blk_alloc ?_ _)); exact BK399.out) hb)
                have n1_ := Aside0.mk (below_step (by repeat (first | (with_reducible first | exact HB.out | apply below_alloc | apply bn2_ | apply bd2_ | refine below_set ?_ GE399.out) | exact HB.out)) hb)
                have n2_ := Aside0.mk (hbox)
                have n3_ := Aside0.mk ((by rw [hg]; exact (below_size (by repeat (first | (with_reducible first | exact HB.out | apply below_alloc | apply bn2_ | apply bd2_ | refine below_set ?_ GE399.out) | exact HB.out))) : w.heap.size ≤ gb407))
                have n4_ := Aside0.mk ((by rw [hg]; exact (below_size (by repeat (first | (with_reducible first | exact HB.out | apply below_alloc | apply bn2_ | apply bd2_ | refine below_set ?_ GE399.out) | exact HB.out))) : w.heap.size ≤ gb407))
                have n5_ := Aside0.mk ((by rw [hg]; exact Nat.ne_of_lt (blk_lt (g := gb399) (o := .cells #[.int .u64 0, .bool false, .int .i64 0, .int .u64 0, .int .i64 0, .int .i64 0] 26 (0, 0)) (by (with_reducible repeat (first | refine blk_drewN ?_ _ | refine blk_drew ?_ | refine blk_alloc ?_ _)); exact BK399.out)) : gb399 ≠ gb407))
                have n6_ := Aside0.mk ((by rw [hg]; exact Nat.ne_of_gt (blk_lt (g := gb399) (o := .cells #[.int .u64 0, .bool false, .int .i64 0, .int .u64 0, .int .i64 0, .int .i64 0] 26 (0, 0)) (by (with_reducible repeat (first | refine blk_drewN ?_ _ | refine blk_drew ?_ | refine blk_alloc ?_ _)); exact BK399.out)) : gb407 ≠ gb399))
                clear BK399 HB
                have BK399 := n0_
                have HB := n1_
                have BK407 := n2_
                have GW407 := n3_
                have GE407 := n4_
                have NB399_407 := n5_
                have NB407_399 := n6_
                clear n0_ n1_ n2_ n3_ n4_ n5_ n6_
                clear hb hbox hg
                refine hK.out _ _ (((HB.out.cell (World.block_lt_of_cell? w _ hw402_0)).trans hw402_0)) (fun hHeld => ?_)
                clear hK K
                refine norm_ (a' := ?_) ?_ ?_
                rotate_left
                ·show Act.put _ (some 4) _ = _
                 simp only [Act.put, sa2_, sb2_, sc2_, i64_w, i32_w]
                 rfl
                refine one_ (i := 2) (N := some 17) #[T2,T2,T2,T2,T2,T2,T2,T2,T2,F2,F2,T2,T2,F2,F2,F2,T2,F2] rfl rfl (one_of HT_.out (by kernel_rfl)) (by decide) (fun K hK => ?_)
                refine goes_ Try.func32 (by kernel_rfl) rfl #[.slice A48 ((l0.take 9).drop 1).length (c0 - 1)] (by rfl) rfl rfl (by (try simp only [List.map_toArray, List.map_cons, List.map_nil]); first | done | (rw [show ((l0.take 9).drop 1).length = (9 - 1) from (by rw [List.length_drop, List.length_take]; have h_ : (9 : Int) ≤ (l0.length : Int) := of_decide_eq_true (by first | (with_reducible assumption) | assumption); omega)] <;> rfl) | rfl | (simp only [List.length_drop, List.length_take]; rfl)) ?_
                with_reducible refine (rickyardref02_Number.calls k _ _ ((l0.take 9).drop 1) t401 _ ?side1 ?side2 A10.out).mono ?_
                (case side1 => repeat (first | exact (Kd.C_below HR400.out HB.out) | (with_reducible refine Kd.C_alloc ?_ _) | (with_reducible refine Kd.C_drewN ?_ _) | (with_reducible refine Kd.C_drew ?_)))
                (case side2 => exact HC400.out)
                rintro e w' ⟨rfl, ⟨nd, rfl⟩⟩
                refine ⟨_, rfl, ?_⟩
                refine hK.out _ _ (((HB.out.cell (World.block_lt_of_cell? w _ hw402_0)).trans hw402_0)) (fun hHeld => ?_)
                clear hK K
                refine norm_ (a' := ?_) ?_ ?_
                rotate_left
                ·show Act.put _ (some 17) _ = _
                 simp only [Act.put, sa2_, sb2_, sc2_, i64_w, i32_w]
                 rfl
                refine one_ (i := 9) (N := some 24) #[T2,T2,T2,T2,T2,T2,T2,T2,T2,T2,F2,T2,T2,F2,F2,F2,T2,F2] rfl rfl (one_of HT_.out (by kernel_rfl)) (by decide) (fun K hK => ?_)
                refine goes_ Try.func32 (by kernel_rfl) rfl #[.slice A49 ((l0.take 33).drop 25).length (c0 - 25)] (by rfl) rfl rfl (by (try simp only [List.map_toArray, List.map_cons, List.map_nil]); first | done | (rw [show ((l0.take 33).drop 25).length = (33 - 25) from (by rw [List.length_drop, List.length_take]; have h_ : (33 : Int) ≤ (l0.length : Int) := of_decide_eq_true (by first | (with_reducible assumption) | assumption); omega)] <;> rfl) | rfl | (simp only [List.length_drop, List.length_take]; rfl)) ?_
                with_reducible refine (rickyardref02_Number.calls k _ _ ((l0.take 33).drop 25) t404 _ ?side1 ?side2 A14.out).mono ?_
                (case side1 => repeat (first | exact (Kd.C_below HR403.out (by repeat (first | (with_reducible first | exact HB.out | apply below_alloc | apply bn2_ | apply bd2_ | refine below_set ?_ GE399.out | refine below_set ?_ GE407.out) | exact HB.out))) | (with_reducible refine Kd.C_alloc ?_ _) | (with_reducible refine Kd.C_drewN ?_ _) | (with_reducible refine Kd.C_drew ?_)))
                (case side2 => exact HC403.out)
                rintro e w' ⟨rfl, ⟨nd, rfl⟩⟩
                refine ⟨_, rfl, ?_⟩
                refine hK.out _ _ (((HB.out.cell (World.block_lt_of_cell? w _ hw402_0)).trans hw402_0)) (fun hHeld => ?_)
                clear hK K
                refine norm_ (a' := ?_) ?_ ?_
                rotate_left
                ·show Act.put _ (some 24) _ = _
                 simp only [Act.put, sa2_, sb2_, sc2_, i64_w, i32_w]
                 rfl
                refine pure_ (i := 10) (N := some 25) (v := ?_) (a' := ?_) #[T2,T2,T2,T2,T2,T2,T2,T2,T2,T2,T2,T2,T2,F2,F2,F2,T2,F2] rfl rfl (any_of HT_.out (by kernel_rfl)) (fun _ _ _ h => h) (Or.inl ⟨by rfl, ?_⟩) ?_ ?_
                rotate_left
                ·intro w'
                 go_simp
                 with_reducible rfl
                rotate_left
                ·simp only [Act.put, sa2_, sb2_, sc2_, i64_w, i32_w]
                 rfl
                refine one_ (i := 13) (N := some 28) #[T2,T2,T2,T2,T2,T2,T2,T2,T2,T2,T2,T2,T2,T2,F2,F2,T2,F2] rfl rfl (one_of HT_.out (by kernel_rfl)) (by decide) (fun K hK => ?_)
                refine goes_ Try.func32 (by kernel_rfl) rfl #[.slice A50 ((l0.take 41).drop 33).length (c0 - 33)] (by rfl) rfl rfl (by (try simp only [List.map_toArray, List.map_cons, List.map_nil]); first | done | (rw [show ((l0.take 41).drop 33).length = (41 - 33) from (by rw [List.length_drop, List.length_take]; have h_ : (41 : Int) ≤ (l0.length : Int) := of_decide_eq_true (by first | (with_reducible assumption) | assumption); omega)] <;> rfl) | rfl | (simp only [List.length_drop, List.length_take]; rfl)) ?_
                with_reducible refine (rickyardref02_Number.calls k _ _ ((l0.take 41).drop 33) t406 _ ?side1 ?side2 A17.out).mono ?_
                (case side1 => repeat (first | exact (Kd.C_below HR405.out (by repeat (first | (with_reducible first | exact HB.out | apply below_alloc | apply bn2_ | apply bd2_ | refine below_set ?_ GE399.out | refine below_set ?_ GE407.out) | exact HB.out))) | (with_reducible refine Kd.C_alloc ?_ _) | (with_reducible refine Kd.C_drewN ?_ _) | (with_reducible refine Kd.C_drew ?_)))
                (case side2 => exact HC405.out)
                rintro e w' ⟨rfl, ⟨nd, rfl⟩⟩
                refine ⟨_, rfl, ?_⟩
                refine hK.out _ _ (((HB.out.cell (World.block_lt_of_cell? w _ hw402_0)).trans hw402_0)) (fun hHeld => ?_)
                clear hK K
                refine norm_ (a' := ?_) ?_ ?_
                rotate_left
                ·show Act.put _ (some 28) _ = _
                 simp only [Act.put, sa2_, sb2_, sc2_, i64_w, i32_w]
                 rfl
                refine pure_ (i := 14) (N := some 29) (v := ?_) (a' := ?_) #[T2,T2,T2,T2,T2,T2,T2,T2,T2,T2,T2,T2,T2,T2,T2,F2,T2,F2] rfl rfl (any_of HT_.out (by kernel_rfl)) (fun _ _ _ h => h) (Or.inl ⟨by rfl, ?_⟩) ?_ ?_
                rotate_left
                ·intro w'
                 go_simp
                 with_reducible rfl
                rotate_left
                ·simp only [Act.put, sa2_, sb2_, sc2_, i64_w, i32_w]
                 rfl
                refine pure_ (i := 15) (N := some 30) (v := ?_) (a' := ?_) #[T2,T2,T2,T2,T2,T2,T2,T2,T2,T2,T2,T2,T2,T2,T2,T2,T2,F2] rfl rfl (any_of HT_.out (by kernel_rfl)) (fun _ _ _ h => h) (Or.inl ⟨by rfl, ?_⟩) ?_ ?_
                rotate_left
                ·intro w'
                 go_simp
                 with_reducible rfl
                rotate_left
                ·simp only [Act.put, sa2_, sb2_, sc2_, i64_w, i32_w]
                 rfl
                exact norm_ (by simp only [putAll, Act.put, sa2_, sb2_, sc2_]) (hCont (gb407) _ ⟨hHeld, (by (with_reducible repeat (first | refine blk_drewN ?_ _ | refine blk_drew ?_ | refine blk_alloc ?_ _)); exact BK399.out), (by (with_reducible repeat (first | refine blk_drewN ?_ _ | refine blk_drew ?_ | refine blk_alloc ?_ _)); exact BK407.out), GW407.out, GE407.out, NB399_407.out, NB407_399.out, (by repeat (first | (with_reducible first | exact HB.out | apply below_alloc | apply bn2_ | apply bd2_ | refine below_set ?_ GE399.out | refine below_set ?_ GE407.out) | exact HB.out))⟩)
              rintro gb407 w52 ⟨hS_, h0_, h1_, h2_, h3_, h4_, h5_, h6_⟩
              have n0_ : Aside0 (w52.heap[gb399]? = some (.cells #[.int .u64 0, .bool false, .int .i64 0, .int .u64 0, .int .i64 0, .int .i64 0] 26 (0, 0))) := ⟨h0_⟩
              have n1_ : Aside0 (w52.heap[gb407]? = some (.cells #[.int .u64 0, .bool false, .int .i64 0, .int .u64 0, .int .i64 0, .int .i64 0] 26 (0, 0))) := ⟨h1_⟩
              have n2_ : Aside0 (w.heap.size ≤ gb407) := ⟨h2_⟩
              have n3_ : Aside0 (w.heap.size ≤ gb407) := ⟨h3_⟩
              have n4_ : Aside0 (gb399 ≠ gb407) := ⟨h4_⟩
              have n5_ : Aside0 (gb407 ≠ gb399) := ⟨h5_⟩
              have n6_ : Aside0 (Below w.heap.size w w52) := ⟨h6_⟩
              clear BK399 HB h0_ h1_ h2_ h3_ h4_ h5_ h6_
              have BK399 := n0_
              have BK407 := n1_
              have GW407 := n2_
              have GE407 := n3_
              have NB399_407 := n4_
              have NB407_399 := n5_
              have HB := n6_
              clear n0_ n1_ n2_ n3_ n4_ n5_ n6_
              have hHeld : w52.cell? ad402 = some (.int .u8 (rd l0 0)) := hS_
              refine norm_ (a' := ?_) ?_ ?_
              rotate_left
              ·simp only [putAll, Act.put, sa2_, sb2_, sc2_]
               rfl
              refine one_ (i := 17) (N := none) #[T2,T2,T2,T2,T2,T2,T2,T2,T2,T2,T2,T2,T2,T2,T2,T2,T2,T2] rfl rfl (one_of HT_.out (by kernel_rfl)) (by decide) (fun K hK => ?_)
              have hs53 : w52.cell? ⟨gb407, 0, none⟩ = some (.int .u64 0) := (blk_cell BK407.out 0).trans rfl
              have hfs53 := blk_frozen BK407.out 0
              have hns53_0 := NB399_407.out
              have hms53_0 := NB407_399.out
              have hs54 : w52.cell? ⟨gb407, 1, none⟩ = some (.bool false) := (blk_cell BK407.out 1).trans rfl
              have hfs54 := blk_frozen BK407.out 1
              have hns54_0 := NB399_407.out
              have hms54_0 := NB407_399.out
              have hs55 : w52.cell? ⟨gb407, 2, none⟩ = some (.int .i64 0) := (blk_cell BK407.out 2).trans rfl
              have hfs55 := blk_frozen BK407.out 2
              have hns55_0 := NB399_407.out
              have hms55_0 := NB407_399.out
              have hs56 : w52.cell? ⟨gb407, 3, none⟩ = some (.int .u64 0) := (blk_cell BK407.out 3).trans rfl
              have hfs56 := blk_frozen BK407.out 3
              have hns56_0 := NB399_407.out
              have hms56_0 := NB407_399.out
              have hs57 : w52.cell? ⟨gb407, 4, none⟩ = some (.int .i64 0) := (blk_cell BK407.out 4).trans rfl
              have hfs57 := blk_frozen BK407.out 4
              have hns57_0 := NB399_407.out
              have hms57_0 := NB407_399.out
              have hs58 : w52.cell? ⟨gb407, 5, none⟩ = some (.int .i64 0) := (blk_cell BK407.out 5).trans rfl
              have hfs58 := blk_frozen BK407.out 5
              have hns58_0 := NB399_407.out
              have hms58_0 := NB407_399.out
              refine skip_ (w1 := ?_) (by rfl) rfl ?_ ?_
              rotate_left
              ·go_simp
               rfl
              refine hK.out _ _ (((cell_far (p := ⟨gb407, _, none⟩) (by first | exact Nat.ne_of_lt (Nat.lt_of_lt_of_le (by have := World.block_lt_of_cell? _ _ hw402_0; first | rwa [add_block] at this | exact this) GW407.out) | (rw [add_block]; exact Nat.ne_of_lt (Nat.lt_of_lt_of_le (by have := World.block_lt_of_cell? _ _ hw402_0; first | rwa [add_block] at this | exact this) GW407.out)) | (show (Addr.add _ _).block ≠ _; rw [add_block]; exact Nat.ne_of_lt (Nat.lt_of_lt_of_le (by have := World.block_lt_of_cell? _ _ hw402_0; first | rwa [add_block] at this | exact this) GW407.out)) | (dsimp only; exact Nat.ne_of_lt (Nat.lt_of_lt_of_le (by have := World.block_lt_of_cell? _ _ hw402_0; first | rwa [add_block] at this | exact this) GW407.out))) _).trans (((cell_far (p := ⟨gb407, _, none⟩) (by first | exact Nat.ne_of_lt (Nat.lt_of_lt_of_le (by have := World.block_lt_of_cell? _ _ hw402_0; first | rwa [add_block] at this | exact this) GW407.out) | (rw [add_block]; exact Nat.ne_of_lt (Nat.lt_of_lt_of_le (by have := World.block_lt_of_cell? _ _ hw402_0; first | rwa [add_block] at this | exact this) GW407.out)) | (show (Addr.add _ _).block ≠ _; rw [add_block]; exact Nat.ne_of_lt (Nat.lt_of_lt_of_le (by have := World.block_lt_of_cell? _ _ hw402_0; first | rwa [add_block] at this | exact this) GW407.out)) | (dsimp only; exact Nat.ne_of_lt (Nat.lt_of_lt_of_le (by have := World.block_lt_of_cell? _ _ hw402_0; first | rwa [add_block] at this | exact this) GW407.out))) _).trans (((cell_far (p := ⟨gb407, _, none⟩) (by first | exact Nat.ne_of_lt (Nat.lt_of_lt_of_le (by have := World.block_lt_of_cell? _ _ hw402_0; first | rwa [add_block] at this | exact this) GW407.out) | (rw [add_block]; exact Nat.ne_of_lt (Nat.lt_of_lt_of_le (by have := World.block_lt_of_cell? _ _ hw402_0; first | rwa [add_block] at this | exact this) GW407.out)) | (show (Addr.add _ _).block ≠ _; rw [add_block]; exact Nat.ne_of_lt (Nat.lt_of_lt_of_le (by have := World.block_lt_of_cell? _ _ hw402_0; first | rwa [add_block] at this | exact this) GW407.out)) | (dsimp only; exact Nat.ne_of_lt (Nat.lt_of_lt_of_le (by have := World.block_lt_of_cell? _ _ hw402_0; first | rwa [add_block] at this | exact this) GW407.out))) _).trans (((cell_far (p := ⟨gb407, _, none⟩) (by first | exact Nat.ne_of_lt (Nat.lt_of_lt_of_le (by have := World.block_lt_of_cell? _ _ hw402_0; first | rwa [add_block] at this | exact this) GW407.out) | (rw [add_block]; exact Nat.ne_of_lt (Nat.lt_of_lt_of_le (by have := World.block_lt_of_cell? _ _ hw402_0; first | rwa [add_block] at this | exact this) GW407.out)) | (show (Addr.add _ _).block ≠ _; rw [add_block]; exact Nat.ne_of_lt (Nat.lt_of_lt_of_le (by have := World.block_lt_of_cell? _ _ hw402_0; first | rwa [add_block] at this | exact this) GW407.out)) | (dsimp only; exact Nat.ne_of_lt (Nat.lt_of_lt_of_le (by have := World.block_lt_of_cell? _ _ hw402_0; first | rwa [add_block] at this | exact this) GW407.out))) _).trans (((cell_far (p := ⟨gb407, _, none⟩) (by first | exact Nat.ne_of_lt (Nat.lt_of_lt_of_le (by have := World.block_lt_of_cell? _ _ hw402_0; first | rwa [add_block] at this | exact this) GW407.out) | (rw [add_block]; exact Nat.ne_of_lt (Nat.lt_of_lt_of_le (by have := World.block_lt_of_cell? _ _ hw402_0; first | rwa [add_block] at this | exact this) GW407.out)) | (show (Addr.add _ _).block ≠ _; rw [add_block]; exact Nat.ne_of_lt (Nat.lt_of_lt_of_le (by have := World.block_lt_of_cell? _ _ hw402_0; first | rwa [add_block] at this | exact this) GW407.out)) | (dsimp only; exact Nat.ne_of_lt (Nat.lt_of_lt_of_le (by have := World.block_lt_of_cell? _ _ hw402_0; first | rwa [add_block] at this | exact this) GW407.out))) _).trans (((cell_far (p := ⟨gb407, _, none⟩) (by first | exact Nat.ne_of_lt (Nat.lt_of_lt_of_le (by have := World.block_lt_of_cell? _ _ hw402_0; first | rwa [add_block] at this | exact this) GW407.out) | (rw [add_block]; exact Nat.ne_of_lt (Nat.lt_of_lt_of_le (by have := World.block_lt_of_cell? _ _ hw402_0; first | rwa [add_block] at this | exact this) GW407.out)) | (show (Addr.add _ _).block ≠ _; rw [add_block]; exact Nat.ne_of_lt (Nat.lt_of_lt_of_le (by have := World.block_lt_of_cell? _ _ hw402_0; first | rwa [add_block] at this | exact this) GW407.out)) | (dsimp only; exact Nat.ne_of_lt (Nat.lt_of_lt_of_le (by have := World.block_lt_of_cell? _ _ hw402_0; first | rwa [add_block] at this | exact this) GW407.out))) _).trans (hHeld))))))))))))) (fun hHeld => ?_)
              clear hK K
              refine done_ (done_of HT_.out (by kernel_rfl)) ?_
              obtain ⟨i059, hi059, _, hsz59, _⟩ := info_parts info5
              obtain ⟨A59, hcut59, hA59, hC59⟩ := print_mid_of (P := Try.prog) (Value.int .u8) 0 36 5 .i64 .i64 Try.underlying36 hi059 hsz59 (some ad402) c0 l0 9 25 (by omega) (by first | omega | exact of_decide_eq_true (by first | (with_reducible assumption) | assumption)) (of_decide_eq_true (by first | (with_reducible assumption) | assumption)) HC0.out
              have HR408 := Aside0.mk (Kd.C_of_reads (h1 := fun _ => rfl) (hA59 _ (Kd.reads_of_C HR0.out)))
              have HC408 := Aside0.mk hC59
              clear hA59 hC59 hi059 hsz59
              try go_wp2_with (first | ((with_reducible refine gate_callee (f := 33) rfl ?_); refine goesL_ (some 34) rfl rfl Try.func33 (by kernel_rfl) rfl #[.slice A59 ((l0.take 25).drop 9).length (c0 - 9)] rfl (by (try simp only [List.map_toArray, List.map_cons, List.map_nil]); first | done | (rw [show ((l0.take 25).drop 9).length = (25 - 9) from (by rw [List.length_drop, List.length_take]; have h_ : (25 : Int) ≤ (l0.length : Int) := of_decide_eq_true (by first | (with_reducible assumption) | assumption); omega)] <;> rfl) | rfl | (simp only [List.length_drop, List.length_take]; rfl)) ?_; (with_reducible refine (rickyardref01_Read.calls _ _ ((l0.take 25).drop 9) t409 t410 t411 _ ?side1 ?side2 A20.out).mono ?_); (case side1 => exact Kd.C_below HR408.out (by repeat (first | (with_reducible first | exact HB.out | apply below_alloc | apply bn2_ | apply bd2_ | refine below_set ?_ GE399.out | refine below_set ?_ GE407.out) | exact HB.out))); (case side2 => exact HC408.out); rintro e w60 ⟨rfl, hb⟩; refine ⟨_, rfl, ?_⟩; have n0_ := Aside0.mk (blk_below (g := gb399) (o := .cells #[.int .u64 0, .bool false, .int .i64 0, .int .u64 0, .int .i64 0, .int .i64 0] 26 (0, 0)) (by (with_reducible repeat (first | refine blk_drewN ?_ _ | refine blk_drew ?_ | refine blk_alloc ?_ _)); refine blk_far ?_ NB399_407.out _; (with_reducible repeat (first | refine blk_drewN ?_ _ | refine blk_drew ?_ | refine blk_alloc ?_ _)); refine blk_far ?_ NB399_407.out _; (with_reducible repeat (first | refine blk_drewN ?_ _ | refine blk_drew ?_ | refine blk_alloc ?_ _)); refine blk_far ?_ NB399_407.out _; (with_reducible repeat (first | refine blk_drewN ?_ _ | refine blk_drew ?_ | refine blk_alloc ?_ _)); refine blk_far ?_ NB399_407.out _; (with_reducible repeat (first | refine blk_drewN ?_ _ | refine blk_drew ?_ | refine blk_alloc ?_ _)); refine blk_far ?_ NB399_407.out _; (with_reducible repeat (first | refine blk_drewN ?_ _ | refine blk_drew ?_ | refine blk_alloc ?_ _)); refine blk_far ?_ NB399_407.out _; (with_reducible repeat (first | refine blk_drewN ?_ _ | refine blk_drew ?_ | refine blk_alloc ?_ _)); exact BK399.out) hb); have n1_ := Aside0.mk (blk_below (g := gb407) (o := .cells #[.int .u64 t401, .bool ((rd l0 0) != 0), .int .i64 0, .int .u64 0, .int .i64 (wrap64 (t404)), .int .i64 (wrap64 (t406))] 26 (0, 0)) (by (with_reducible repeat (first | refine blk_drewN ?_ _ | refine blk_drew ?_ | refine blk_alloc ?_ _)); refine blk_put (cs := #[.int .u64 t401, .bool ((rd l0 0) != 0), .int .i64 0, .int .u64 0, .int .i64 (wrap64 (t404)), .int .i64 0]) ?_ 5 _ rfl; (with_reducible repeat (first | refine blk_drewN ?_ _ | refine blk_drew ?_ | refine blk_alloc ?_ _)); refine blk_put (cs := #[.int .u64 t401, .bool ((rd l0 0) != 0), .int .i64 0, .int .u64 0, .int .i64 0, .int .i64 0]) ?_ 4 _ rfl; (with_reducible repeat (first | refine blk_drewN ?_ _ | refine blk_drew ?_ | refine blk_alloc ?_ _)); refine blk_put (cs := #[.int .u64 t401, .bool ((rd l0 0) != 0), .int .i64 0, .int .u64 0, .int .i64 0, .int .i64 0]) ?_ 3 _ rfl; (with_reducible repeat (first | refine blk_drewN ?_ _ | refine blk_drew ?_ | refine blk_alloc ?_ _)); refine blk_put (cs := #[.int .u64 t401, .bool ((rd l0 0) != 0), .int .i64 0, .int .u64 0, .int .i64 0, .int .i64 0]) ?_ 2 _ rfl; (with_reducible repeat (first | refine blk_drewN ?_ _ | refine blk_drew ?_ | refine blk_alloc ?_ _)); refine blk_put (cs := #[.int .u64 t401, .bool false, .int .i64 0, .int .u64 0, .int .i64 0, .int .i64 0]) ?_ 1 _ rfl; (with_reducible repeat (first | refine blk_drewN ?_ _ | refine blk_drew ?_ | refine blk_alloc ?_ _)); refine blk_put (cs := #[.int .u64 0, .bool false, .int .i64 0, .int .u64 0, .int .i64 0, .int .i64 0]) ?_ 0 _ rfl; (with_reducible repeat (first | refine blk_drewN ?_ _ | refine blk_drew ?_ | refine blk_alloc ?_ _)); exact BK407.out) hb); have n2_ := Aside0.mk (below_step (by repeat (first | (with_reducible first | exact HB.out | apply below_alloc | apply bn2_ | apply bd2_ | refine below_set ?_ GE399.out | refine below_set ?_ GE407.out) | exact HB.out)) hb); clear BK399; clear BK407; clear HB; have BK399 := n0_; have BK407 := n1_; have HB := n2_; clear n0_ n1_ n2_; (try clear hb); (try clear hb2); (try clear hk); (try clear hi); have hnb61 := NB407_399.out; have hnc61 := NB399_407.out; have hcz62_0 : w60.cell? ⟨gb407, 0, none⟩ = some (.int .u64 t401) := (blk_cell BK407.out 0).trans rfl; have hcz62_1 : w60.cell? ⟨gb407, 1, none⟩ = some (.bool ((rd l0 0) != 0)) := (blk_cell BK407.out 1).trans rfl; have hcz62_2 : w60.cell? ⟨gb407, 2, none⟩ = some (.int .i64 0) := (blk_cell BK407.out 2).trans rfl; have hcz62_3 : w60.cell? ⟨gb407, 3, none⟩ = some (.int .u64 0) := (blk_cell BK407.out 3).trans rfl; have hcz62_4 : w60.cell? ⟨gb407, 4, none⟩ = some (.int .i64 (wrap64 (t404))) := (blk_cell BK407.out 4).trans rfl; have hcz62_5 : w60.cell? ⟨gb407, 5, none⟩ = some (.int .i64 (wrap64 (t406))) := (blk_cell BK407.out 5).trans rfl; have hfz62_0 := blk_frozen BK407.out 0; have hfz62_1 := blk_frozen BK407.out 1; have hfz62_2 := blk_frozen BK407.out 2; have hfz62_3 := blk_frozen BK407.out 3; have hfz62_4 := blk_frozen BK407.out 4; have hfz62_5 := blk_frozen BK407.out 5) | ((with_reducible refine gate_callee (f := 15) rfl ?_); refine goesL_ (some 40) rfl rfl Try.func15 (by kernel_rfl) rfl #[.agg #[.int .u64 t401, .bool ((rd l0 0) != 0), .int .i64 t409, .int .u64 t410, .int .i64 (wrap64 (t404)), .int .i64 (wrap64 (t406))]] rfl (by (try simp only [List.map_toArray, List.map_cons, List.map_nil]); first | done | rfl | (simp only [List.length_drop, List.length_take]; rfl)) ?_; (with_reducible refine (rickyardref02_Write.calls k t401 ((rd l0 0) != 0) t409 t410 (wrap64 (t404)) (wrap64 (t406)) t412 t415 _ A21.out).mono ?_); rintro e w63 ⟨v413, rfl, ho0, hb⟩; refine ⟨_, rfl, ?_⟩; have n0_ := Aside0.mk (Kd.R_lower ho0 (below_size (by repeat (first | (with_reducible first | exact HB.out | apply below_alloc | apply bn2_ | apply bd2_ | refine below_set ?_ GE399.out | refine below_set ?_ GE407.out) | exact HB.out)))); have n1_ := Aside0.mk (blk_below (g := gb399) (o := .cells #[.int .u64 0, .bool false, .int .i64 0, .int .u64 0, .int .i64 0, .int .i64 0] 26 (0, 0)) (by (with_reducible repeat (first | refine blk_drewN ?_ _ | refine blk_drew ?_ | refine blk_alloc ?_ _)); refine blk_far ?_ NB399_407.out _; (with_reducible repeat (first | refine blk_drewN ?_ _ | refine blk_drew ?_ | refine blk_alloc ?_ _)); refine blk_far ?_ NB399_407.out _; (with_reducible repeat (first | refine blk_drewN ?_ _ | refine blk_drew ?_ | refine blk_alloc ?_ _)); exact BK399.out) hb); have n2_ := Aside0.mk (blk_below (g := gb407) (o := .cells #[.int .u64 t401, .bool ((rd l0 0) != 0), .int .i64 t409, .int .u64 t410, .int .i64 (wrap64 (t404)), .int .i64 (wrap64 (t406))] 26 (0, 0)) (by (with_reducible repeat (first | refine blk_drewN ?_ _ | refine blk_drew ?_ | refine blk_alloc ?_ _)); refine blk_put (cs := #[.int .u64 t401, .bool ((rd l0 0) != 0), .int .i64 t409, .int .u64 0, .int .i64 (wrap64 (t404)), .int .i64 (wrap64 (t406))]) ?_ 3 _ rfl; (with_reducible repeat (first | refine blk_drewN ?_ _ | refine blk_drew ?_ | refine blk_alloc ?_ _)); refine blk_put (cs := #[.int .u64 t401, .bool ((rd l0 0) != 0), .int .i64 0, .int .u64 0, .int .i64 (wrap64 (t404)), .int .i64 (wrap64 (t406))]) ?_ 2 _ rfl; (with_reducible repeat (first | refine blk_drewN ?_ _ | refine blk_drew ?_ | refine blk_alloc ?_ _)); exact BK407.out) hb); have n3_ := Aside0.mk (below_step (by repeat (first | (with_reducible first | exact HB.out | apply below_alloc | apply bn2_ | apply bd2_ | refine below_set ?_ GE399.out | refine below_set ?_ GE407.out) | exact HB.out)) hb); clear BK399; clear BK407; clear HB; have HO414 := n0_; have BK399 := n1_; have BK407 := n2_; have HB := n3_; clear n0_ n1_ n2_ n3_; (try clear hb); (try clear hb2); (try clear hk); (try clear hi); (try clear ho0); have hcv64 := own_string (P := Try.prog) Try.underlying36 Try.underlying5 Try.underlying9 (Kd.own_of_R HO414.out); have hcv65 := Kd.C_string (P := Try.prog) (A := (some ad402)) (c := c0) Try.underlying36 Try.underlying5 Try.underlying9 (Kd.C_below HR0.out HB.out); have hcv65n := fun n_ : Nat => Kd.C_string (P := Try.prog) (A := (some ad402)) (c := c0) Try.underlying36 Try.underlying5 Try.underlying9 (Kd.C_drewN (Kd.C_below HR0.out HB.out) n_); (try simp only [World.drewN_drewN] at hcv65n); have hcz66_0 : w63.cell? ⟨gb399, 0, none⟩ = some (.int .u64 0) := (blk_cell BK399.out 0).trans rfl; have hcz66_1 : w63.cell? ⟨gb399, 1, none⟩ = some (.bool false) := (blk_cell BK399.out 1).trans rfl; have hcz66_2 : w63.cell? ⟨gb399, 2, none⟩ = some (.int .i64 0) := (blk_cell BK399.out 2).trans rfl; have hcz66_3 : w63.cell? ⟨gb399, 3, none⟩ = some (.int .u64 0) := (blk_cell BK399.out 3).trans rfl; have hcz66_4 : w63.cell? ⟨gb399, 4, none⟩ = some (.int .i64 0) := (blk_cell BK399.out 4).trans rfl; have hcz66_5 : w63.cell? ⟨gb399, 5, none⟩ = some (.int .i64 0) := (blk_cell BK399.out 5).trans rfl; have hfz66_0 := blk_frozen BK399.out 0; have hfz66_1 := blk_frozen BK399.out 1; have hfz66_2 := blk_frozen BK399.out 2; have hfz66_3 := blk_frozen BK399.out 3; have hfz66_4 := blk_frozen BK399.out 4; have hfz66_5 := blk_frozen BK399.out 5))
              refine bodyPost_ret (results_ct rfl _ _ gb399 26 #[.int .u64 0, .bool false, .int .i64 0, .int .u64 0, .int .i64 0, .int .i64 0] (0, 0) _ rfl (by (with_reducible repeat (first | refine blk_drewN ?_ _ | refine blk_drew ?_ | refine blk_alloc ?_ _)); refine blk_put (cs := #[.int .u64 0, .bool false, .int .i64 0, .int .u64 0, .int .i64 0, .int .i64 0]) ?_ 5 _ rfl; (with_reducible repeat (first | refine blk_drewN ?_ _ | refine blk_drew ?_ | refine blk_alloc ?_ _)); refine blk_put (cs := #[.int .u64 0, .bool false, .int .i64 0, .int .u64 0, .int .i64 0, .int .i64 0]) ?_ 4 _ rfl; (with_reducible repeat (first | refine blk_drewN ?_ _ | refine blk_drew ?_ | refine blk_alloc ?_ _)); refine blk_put (cs := #[.int .u64 0, .bool false, .int .i64 0, .int .u64 0, .int .i64 0, .int .i64 0]) ?_ 3 _ rfl; (with_reducible repeat (first | refine blk_drewN ?_ _ | refine blk_drew ?_ | refine blk_alloc ?_ _)); refine blk_put (cs := #[.int .u64 0, .bool false, .int .i64 0, .int .u64 0, .int .i64 0, .int .i64 0]) ?_ 2 _ rfl; (with_reducible repeat (first | refine blk_drewN ?_ _ | refine blk_drew ?_ | refine blk_alloc ?_ _)); refine blk_put (cs := #[.int .u64 0, .bool false, .int .i64 0, .int .u64 0, .int .i64 0, .int .i64 0]) ?_ 1 _ rfl; (with_reducible repeat (first | refine blk_drewN ?_ _ | refine blk_drew ?_ | refine blk_alloc ?_ _)); refine blk_put (cs := #[.int .u64 0, .bool false, .int .i64 0, .int .u64 0, .int .i64 0, .int .i64 0]) ?_ 0 _ rfl; (with_reducible repeat (first | refine blk_drewN ?_ _ | refine blk_drew ?_ | refine blk_alloc ?_ _)); exact BK399.out) Try.underlying26 rfl (by kernel_rfl)) rfl ?_
              exact ⟨by first | rfl | (simp [errW_none, errW_some] <;> rfl) | (simp [*, errW_none, errW_some] <;> rfl), by repeat (first | (with_reducible first | exact HB.out | apply below_alloc | apply bn2_ | apply bd2_ | refine below_set ?_ GE399.out | refine below_set ?_ GE407.out) | exact HB.out)⟩
            ·rw [if_neg c22] at H
             have c22b0 : (t415 == 0) = false := beq_eq_false_iff_ne.mpr c22
             have c22b1 : (t415 != 0) = true := bne_iff_ne.mpr c22
             simp only [Option.some.injEq, Prod.mk.injEq] at H
             obtain ⟨rfl, rfl, rfl, rfl, rfl, rfl, rfl⟩ := H
             go_enter Try.func17, Try.ntmps17
             try go_wp2_with (first | ((with_reducible refine gate_dst (N := 2) rfl ?_); refine box_event ?hg (N := 2) ?hd (cs := #[.int .u64 0, .bool false, .int .i64 0, .int .u64 0, .int .i64 0, .int .i64 0]) (t := 26) ?hr ?_; (case hd => rfl); (case hg => rfl); (case hr => first | (go_simp; done) | (go_simp; rfl)); intro gb399 hg w67 hbox hb; have n0_ := Aside0.mk (below_step (by repeat (first | (with_reducible first | exact HB.out | apply below_alloc | apply bn2_ | apply bd2_) | exact HB.out)) hb); have n1_ := Aside0.mk (hbox); have n2_ := Aside0.mk ((by rw [hg]; exact (below_size (by repeat (first | (with_reducible first | exact HB.out | apply below_alloc | apply bn2_ | apply bd2_) | exact HB.out))) : w.heap.size ≤ gb399)); have n3_ := Aside0.mk ((by rw [hg]; exact (below_size (by repeat (first | (with_reducible first | exact HB.out | apply below_alloc | apply bn2_ | apply bd2_) | exact HB.out))) : w.heap.size ≤ gb399)); clear HB; have HB := n0_; have BK399 := n1_; have GW399 := n2_; have GE399 := n3_; clear n0_ n1_ n2_ n3_; clear hb hbox hg))
             have n0_ := Aside0.mk (blk_drew BK399.out)
             have n1_ := Aside0.mk (below_drew1 HB.out)
             clear BK399 HB
             have BK399 := n0_
             have HB := n1_
             clear n0_ n1_
             obtain ⟨i069, hi069, _, hsz69, _⟩ := info_parts info5
             obtain ⟨A69, hcut69, hA69, hC69⟩ := print_mid_of (P := Try.prog) (Value.int .u8) 0 36 5 .i64 .i64 Try.underlying36 hi069 hsz69 A0 c0 l0 1 9 (by omega) (by first | omega | exact of_decide_eq_true (by first | (with_reducible assumption) | assumption)) (of_decide_eq_true (by first | (with_reducible assumption) | assumption)) HC0.out
             have HR400 := Aside0.mk (Kd.C_of_reads (h1 := fun _ => rfl) (hA69 _ (Kd.reads_of_C HR0.out)))
             have HC400 := Aside0.mk hC69
             clear hA69 hC69 hi069 hsz69
             have p402 : 0 ≤ (0 : Int) := (by omega)
             have q402 : 0 < (l0.length : Int) := of_decide_eq_true (by first | (with_reducible assumption) | assumption)
             obtain ⟨ad402, e402, hx402_0⟩ := Kd.at_int HR0.out 0 p402 q402
             have hw402_0 := hx402_0
             (try rw [show ((0 : Int)).toNat = 0 from rfl] at hw402_0)
             (try rw [show 0 * 1 = 0 from rfl] at hw402_0)
             (try rw [Addr.add_zero'] at hw402_0)
             cases e402
             have qi402 : (0 < l0.length) = True := eq_true (by omega)
             (try rw [show ((0 : Int)).toNat = 0 from rfl] at hx402_0)
             (try rw [Addr.add_zero'] at hx402_0)
             replace hx402_0 := (HB.out.cell (World.block_lt_of_cell? w _ hx402_0)).trans hx402_0
             replace p402 := eq_true p402
             replace q402 := eq_true q402
             obtain ⟨i070, hi070, _, hsz70, _⟩ := info_parts info5
             obtain ⟨A70, hcut70, hA70, hC70⟩ := print_mid_of (P := Try.prog) (Value.int .u8) 0 36 5 .i64 .i64 Try.underlying36 hi070 hsz70 (some ad402) c0 l0 25 33 (by omega) (by first | omega | exact of_decide_eq_true (by first | (with_reducible assumption) | assumption)) (of_decide_eq_true (by first | (with_reducible assumption) | assumption)) HC0.out
             have HR403 := Aside0.mk (Kd.C_of_reads (h1 := fun _ => rfl) (hA70 _ (Kd.reads_of_C HR0.out)))
             have HC403 := Aside0.mk hC70
             clear hA70 hC70 hi070 hsz70
             obtain ⟨i071, hi071, _, hsz71, _⟩ := info_parts info5
             obtain ⟨A71, hcut71, hA71, hC71⟩ := print_mid_of (P := Try.prog) (Value.int .u8) 0 36 5 .i64 .i64 Try.underlying36 hi071 hsz71 (some ad402) c0 l0 33 41 (by omega) (by first | omega | exact of_decide_eq_true (by first | (with_reducible assumption) | assumption)) (of_decide_eq_true (by first | (with_reducible assumption) | assumption)) HC0.out
             have HR405 := Aside0.mk (Kd.C_of_reads (h1 := fun _ => rfl) (hA71 _ (Kd.reads_of_C HR0.out)))
             have HC405 := Aside0.mk hC71
             clear hA71 hC71 hi071 hsz71
             refine start_ (n := 18) (S := fun w' => w'.cell? ad402 = some (.int .u8 (rd l0 0))) (ds := []) #[F2,F2,F2,F2,F2,F2,F2,F2,F2,F2,F2,F2,F2,F2,F2,F2,F2,F2] (by kernel_rfl) rfl rfl (((HB.out.cell (World.block_lt_of_cell? w _ hw402_0)).trans hw402_0)) (fun hHeld => ?_); refine with_tabW rickyardref02_Read.tab5 rickyardref02_Read.bits5 (fun HT_ HW_ => ?_)
             generalize w67.drew = w68 at BK399 HB HR400 HR403 HR405 hx402_0 hHeld ⊢
             refine pure_ (i := 0) (N := some 15) (v := ?_) (a' := ?_) #[T2,F2,F2,F2,F2,F2,F2,F2,F2,F2,F2,F2,F2,F2,F2,F2,F2,F2] rfl rfl (any_of HT_.out (by kernel_rfl)) (fun _ _ _ h => h) (Or.inl ⟨by rfl, ?_⟩) ?_ ?_
             rotate_left
             ·intro w'
              go_simp
              with_reducible rfl
             rotate_left
             ·simp only [Act.put, sa2_, sb2_, sc2_, i64_w, i32_w]
              rfl
             refine pure_ (i := 1) (N := some 16) (v := ?_) (a' := ?_) #[T2,T2,F2,F2,F2,F2,F2,F2,F2,F2,F2,F2,F2,F2,F2,F2,F2,F2] rfl rfl (any_of HT_.out (by kernel_rfl)) (fun _ _ _ h => h) (Or.inl ⟨by rfl, ?_⟩) ?_ ?_
             rotate_left
             ·intro w'
              go_simp
              with_reducible rfl
             rotate_left
             ·simp only [Act.put, sa2_, sb2_, sc2_, i64_w, i32_w]
              rfl
             refine pure_ (i := 3) (N := some 18) (v := ?_) (a' := ?_) #[T2,T2,F2,T2,F2,F2,F2,F2,F2,F2,F2,F2,F2,F2,F2,F2,F2,F2] rfl rfl (any_of HT_.out (by kernel_rfl)) (fun _ _ _ h => h) (Or.inl ⟨by rfl, ?_⟩) ?_ ?_
             rotate_left
             ·intro w'
              go_simp
              with_reducible rfl
             rotate_left
             ·simp only [Act.put, sa2_, sb2_, sc2_, i64_w, i32_w]
              rfl
             refine pure_ (i := 4) (N := some 19) (v := ?_) (a' := ?_) #[T2,T2,F2,T2,T2,F2,F2,F2,F2,F2,F2,F2,F2,F2,F2,F2,F2,F2] rfl rfl (any_of HT_.out (by kernel_rfl)) (fun _ _ _ h => h) (Or.inl ⟨by rfl, ?_⟩) ?_ ?_
             rotate_left
             ·intro w'
              go_simp
              with_reducible rfl
             rotate_left
             ·simp only [Act.put, sa2_, sb2_, sc2_, i64_w, i32_w]
              rfl
             refine pure_ (i := 7) (N := some 22) (v := ?_) (a' := ?_) #[T2,T2,F2,T2,T2,F2,F2,T2,F2,F2,F2,F2,F2,F2,F2,F2,F2,F2] rfl rfl (any_of HT_.out (by kernel_rfl)) (fun _ _ _ h => h) (Or.inl ⟨by rfl, ?_⟩) ?_ ?_
             rotate_left
             ·intro w'
              go_simp
              with_reducible rfl
             rotate_left
             ·simp only [Act.put, sa2_, sb2_, sc2_, i64_w, i32_w]
              rfl
             refine pure_ (i := 8) (N := some 23) (v := ?_) (a' := ?_) #[T2,T2,F2,T2,T2,F2,F2,T2,T2,F2,F2,F2,F2,F2,F2,F2,F2,F2] rfl rfl (any_of HT_.out (by kernel_rfl)) (fun _ _ _ h => h) (Or.inl ⟨by rfl, ?_⟩) ?_ ?_
             rotate_left
             ·intro w'
              go_simp
              with_reducible rfl
             rotate_left
             ·simp only [Act.put, sa2_, sb2_, sc2_, i64_w, i32_w]
              rfl
             refine pure_ (i := 11) (N := some 26) (v := ?_) (a' := ?_) #[T2,T2,F2,T2,T2,F2,F2,T2,T2,F2,F2,T2,F2,F2,F2,F2,F2,F2] rfl rfl (any_of HT_.out (by kernel_rfl)) (fun _ _ _ h => h) (Or.inl ⟨by rfl, ?_⟩) ?_ ?_
             rotate_left
             ·intro w'
              go_simp
              with_reducible rfl
             rotate_left
             ·simp only [Act.put, sa2_, sb2_, sc2_, i64_w, i32_w]
              rfl
             refine pure_ (i := 12) (N := some 27) (v := ?_) (a' := ?_) #[T2,T2,F2,T2,T2,F2,F2,T2,T2,F2,F2,T2,T2,F2,F2,F2,F2,F2] rfl rfl (any_of HT_.out (by kernel_rfl)) (fun _ _ _ h => h) (Or.inl ⟨by rfl, ?_⟩) ?_ ?_
             rotate_left
             ·intro w'
              go_simp
              with_reducible rfl
             rotate_left
             ·simp only [Act.put, sa2_, sb2_, sc2_, i64_w, i32_w]
              rfl
             refine take_ (i := 5) (N := some 20) (v := ?_) (a' := ?_) #[T2,T2,F2,T2,T2,T2,F2,T2,T2,F2,F2,T2,T2,F2,F2,F2,F2,F2] rfl rfl (take_ofW HT_.out HW_.out (by kernel_rfl)) (fun _ _ _ h => h) (Or.inl ⟨by rfl, ?_⟩) hHeld ?_ ?_
             rotate_left
             ·intro w' s0
              go_simp
              with_reducible rfl
             rotate_left
             ·simp only [Act.put, sa2_, sb2_, sc2_, i64_w, i32_w]
              rfl
             refine pure_ (i := 6) (N := some 21) (v := ?_) (a' := ?_) #[T2,T2,F2,T2,T2,T2,T2,T2,T2,F2,F2,T2,T2,F2,F2,F2,F2,F2] rfl rfl (any_of HT_.out (by kernel_rfl)) (fun _ _ _ h => h) (Or.inl ⟨by rfl, ?_⟩) ?_ ?_
             rotate_left
             ·intro w'
              go_simp
              with_reducible rfl
             rotate_left
             ·simp only [Act.put, sa2_, sb2_, sc2_, i64_w, i32_w]
              rfl
             refine join_ (σ := Nat) 1 #[T2,T2,T2,T2,T2,T2,T2,T2,T2,T2,T2,T2,T2,T2,T2,T2,T2,F2] (fun s_ => [(17, .int .u64 t401), (24, .int .u64 t404), (28, .int .u64 t406), (4, .pointer (some ⟨s_, 0, none⟩)), (25, .int .i64 (wrap64 (t404))), (29, .int .i64 (wrap64 (t406))), (30, .agg #[.int .u64 t401, .bool ((rd l0 0) != 0), .int .i64 0, .int .u64 0, .int .i64 (wrap64 (t404)), .int .i64 (wrap64 (t406))])]) (fun s_ w' => (w'.cell? ad402 = some (.int .u8 (rd l0 0))) ∧ (w'.heap[gb399]? = some (.cells #[.int .u64 0, .bool false, .int .i64 0, .int .u64 0, .int .i64 0, .int .i64 0] 26 (0, 0))) ∧ (w'.heap[s_]? = some (.cells #[.int .u64 0, .bool false, .int .i64 0, .int .u64 0, .int .i64 0, .int .i64 0] 26 (0, 0))) ∧ (w.heap.size ≤ s_) ∧ (w.heap.size ≤ s_) ∧ (gb399 ≠ s_) ∧ (s_ ≠ gb399) ∧ (Below w.heap.size w w')) ?_ ?_
             rotate_left
             ·intro hCont
              refine two_ (i := 2) (j := 16) (Ni := some 17) (Nj := some 4) #[T2,T2,T2,T2,T2,T2,T2,T2,T2,F2,F2,T2,T2,F2,F2,F2,F2,F2] #[T2,T2,F2,T2,T2,T2,T2,T2,T2,F2,F2,T2,T2,F2,F2,F2,T2,F2] rfl rfl rfl rfl (two_of HT_.out (by kernel_rfl)) (by decide) (by decide) (fun K hK => ?_) (fun K hK => ?_)
              ·skip
               refine goes_ Try.func32 (by kernel_rfl) rfl #[.slice A69 ((l0.take 9).drop 1).length (c0 - 1)] (by rfl) rfl rfl (by (try simp only [List.map_toArray, List.map_cons, List.map_nil]); first | done | (rw [show ((l0.take 9).drop 1).length = (9 - 1) from (by rw [List.length_drop, List.length_take]; have h_ : (9 : Int) ≤ (l0.length : Int) := of_decide_eq_true (by first | (with_reducible assumption) | assumption); omega)] <;> rfl) | rfl | (simp only [List.length_drop, List.length_take]; rfl)) ?_
               with_reducible refine (rickyardref02_Number.calls k _ _ ((l0.take 9).drop 1) t401 _ ?side1 ?side2 A10.out).mono ?_
               (case side1 => repeat (first | exact (Kd.C_below HR400.out HB.out) | (with_reducible refine Kd.C_alloc ?_ _) | (with_reducible refine Kd.C_drewN ?_ _) | (with_reducible refine Kd.C_drew ?_)))
               (case side2 => exact HC400.out)
               rintro e w' ⟨rfl, ⟨nd, rfl⟩⟩
               refine ⟨_, rfl, ?_⟩
               refine hK.out _ _ (((HB.out.cell (World.block_lt_of_cell? w _ hw402_0)).trans hw402_0)) (fun hHeld => ?_)
               clear hK K
               refine norm_ (a' := ?_) ?_ ?_
               rotate_left
               ·show Act.put _ (some 17) _ = _
                simp only [Act.put, sa2_, sb2_, sc2_, i64_w, i32_w]
                rfl
               refine two_ (i := 9) (j := 16) (Ni := some 24) (Nj := some 4) #[T2,T2,T2,T2,T2,T2,T2,T2,T2,T2,F2,T2,T2,F2,F2,F2,F2,F2] #[T2,T2,T2,T2,T2,T2,T2,T2,T2,F2,F2,T2,T2,F2,F2,F2,T2,F2] rfl rfl rfl rfl (two_of HT_.out (by kernel_rfl)) (by decide) (by decide) (fun K hK => ?_) (fun K hK => ?_)
               ·skip
                refine goes_ Try.func32 (by kernel_rfl) rfl #[.slice A70 ((l0.take 33).drop 25).length (c0 - 25)] (by rfl) rfl rfl (by (try simp only [List.map_toArray, List.map_cons, List.map_nil]); first | done | (rw [show ((l0.take 33).drop 25).length = (33 - 25) from (by rw [List.length_drop, List.length_take]; have h_ : (33 : Int) ≤ (l0.length : Int) := of_decide_eq_true (by first | (with_reducible assumption) | assumption); omega)] <;> rfl) | rfl | (simp only [List.length_drop, List.length_take]; rfl)) ?_
                with_reducible refine (rickyardref02_Number.calls k _ _ ((l0.take 33).drop 25) t404 _ ?side1 ?side2 A14.out).mono ?_
                (case side1 => repeat (first | exact (Kd.C_below HR403.out (by repeat (first | (with_reducible first | exact HB.out | apply below_alloc | apply bn2_ | apply bd2_ | refine below_set ?_ GE399.out) | exact HB.out))) | (with_reducible refine Kd.C_alloc ?_ _) | (with_reducible refine Kd.C_drewN ?_ _) | (with_reducible refine Kd.C_drew ?_)))
                (case side2 => exact HC403.out)
                rintro e w' ⟨rfl, ⟨nd, rfl⟩⟩
                refine ⟨_, rfl, ?_⟩
                refine hK.out _ _ (((HB.out.cell (World.block_lt_of_cell? w _ hw402_0)).trans hw402_0)) (fun hHeld => ?_)
                clear hK K
                refine norm_ (a' := ?_) ?_ ?_
                rotate_left
                ·show Act.put _ (some 24) _ = _
                 simp only [Act.put, sa2_, sb2_, sc2_, i64_w, i32_w]
                 rfl
                refine pure_ (i := 10) (N := some 25) (v := ?_) (a' := ?_) #[T2,T2,T2,T2,T2,T2,T2,T2,T2,T2,T2,T2,T2,F2,F2,F2,F2,F2] rfl rfl (any_of HT_.out (by kernel_rfl)) (fun _ _ _ h => h) (Or.inl ⟨by rfl, ?_⟩) ?_ ?_
                rotate_left
                ·intro w'
                 go_simp
                 with_reducible rfl
                rotate_left
                ·simp only [Act.put, sa2_, sb2_, sc2_, i64_w, i32_w]
                 rfl
                refine two_ (i := 13) (j := 16) (Ni := some 28) (Nj := some 4) #[T2,T2,T2,T2,T2,T2,T2,T2,T2,T2,T2,T2,T2,T2,F2,F2,F2,F2] #[T2,T2,T2,T2,T2,T2,T2,T2,T2,T2,T2,T2,T2,F2,F2,F2,T2,F2] rfl rfl rfl rfl (two_of HT_.out (by kernel_rfl)) (by decide) (by decide) (fun K hK => ?_) (fun K hK => ?_)
                ·skip
                 refine goes_ Try.func32 (by kernel_rfl) rfl #[.slice A71 ((l0.take 41).drop 33).length (c0 - 33)] (by rfl) rfl rfl (by (try simp only [List.map_toArray, List.map_cons, List.map_nil]); first | done | (rw [show ((l0.take 41).drop 33).length = (41 - 33) from (by rw [List.length_drop, List.length_take]; have h_ : (41 : Int) ≤ (l0.length : Int) := of_decide_eq_true (by first | (with_reducible assumption) | assumption); omega)] <;> rfl) | rfl | (simp only [List.length_drop, List.length_take]; rfl)) ?_
                 with_reducible refine (rickyardref02_Number.calls k _ _ ((l0.take 41).drop 33) t406 _ ?side1 ?side2 A17.out).mono ?_
                 (case side1 => repeat (first | exact (Kd.C_below HR405.out (by repeat (first | (with_reducible first | exact HB.out | apply below_alloc | apply bn2_ | apply bd2_ | refine below_set ?_ GE399.out) | exact HB.out))) | (with_reducible refine Kd.C_alloc ?_ _) | (with_reducible refine Kd.C_drewN ?_ _) | (with_reducible refine Kd.C_drew ?_)))
                 (case side2 => exact HC405.out)
                 rintro e w' ⟨rfl, ⟨nd, rfl⟩⟩
                 refine ⟨_, rfl, ?_⟩
                 refine hK.out _ _ (((HB.out.cell (World.block_lt_of_cell? w _ hw402_0)).trans hw402_0)) (fun hHeld => ?_)
                 clear hK K
                 refine norm_ (a' := ?_) ?_ ?_
                 rotate_left
                 ·show Act.put _ (some 28) _ = _
                  simp only [Act.put, sa2_, sb2_, sc2_, i64_w, i32_w]
                  rfl
                 refine pure_ (i := 14) (N := some 29) (v := ?_) (a' := ?_) #[T2,T2,T2,T2,T2,T2,T2,T2,T2,T2,T2,T2,T2,T2,T2,F2,F2,F2] rfl rfl (any_of HT_.out (by kernel_rfl)) (fun _ _ _ h => h) (Or.inl ⟨by rfl, ?_⟩) ?_ ?_
                 rotate_left
                 ·intro w'
                  go_simp
                  with_reducible rfl
                 rotate_left
                 ·simp only [Act.put, sa2_, sb2_, sc2_, i64_w, i32_w]
                  rfl
                 refine pure_ (i := 15) (N := some 30) (v := ?_) (a' := ?_) #[T2,T2,T2,T2,T2,T2,T2,T2,T2,T2,T2,T2,T2,T2,T2,T2,F2,F2] rfl rfl (any_of HT_.out (by kernel_rfl)) (fun _ _ _ h => h) (Or.inl ⟨by rfl, ?_⟩) ?_ ?_
                 rotate_left
                 ·intro w'
                  go_simp
                  with_reducible rfl
                 rotate_left
                 ·simp only [Act.put, sa2_, sb2_, sc2_, i64_w, i32_w]
                  rfl
                 refine one_ (i := 16) (N := some 4) #[T2,T2,T2,T2,T2,T2,T2,T2,T2,T2,T2,T2,T2,T2,T2,T2,T2,F2] rfl rfl (one_of HT_.out (by kernel_rfl)) (by decide) (fun K hK => ?_)
                 refine box_step ?hg (N := 4) ?hd (cs := #[.int .u64 0, .bool false, .int .i64 0, .int .u64 0, .int .i64 0, .int .i64 0]) (t := 26) ?hr ?_; (case hd => rfl); (case hg => rfl); (case hr => first | (go_simp; done) | (go_simp; rfl))
                 intro gb407 hg w72 hbox hb
                 have n0_ := Aside0.mk (blk_below (g := gb399) (o := .cells #[.int .u64 0, .bool false, .int .i64 0, .int .u64 0, .int .i64 0, .int .i64 0] 26 (0, 0)) (by (with_reducible repeat (first | refine blk_drewN ?_ _ | refine blk_drew ?_ | refine blk_alloc ?_ _)); exact BK399.out) hb)
                 have n1_ := Aside0.mk (below_step (by repeat (first | (with_reducible first | exact HB.out | apply below_alloc | apply bn2_ | apply bd2_ | refine below_set ?_ GE399.out) | exact HB.out)) hb)
                 have n2_ := Aside0.mk (hbox)
                 have n3_ := Aside0.mk ((by rw [hg]; exact (below_size (by repeat (first | (with_reducible first | exact HB.out | apply below_alloc | apply bn2_ | apply bd2_ | refine below_set ?_ GE399.out) | exact HB.out))) : w.heap.size ≤ gb407))
                 have n4_ := Aside0.mk ((by rw [hg]; exact (below_size (by repeat (first | (with_reducible first | exact HB.out | apply below_alloc | apply bn2_ | apply bd2_ | refine below_set ?_ GE399.out) | exact HB.out))) : w.heap.size ≤ gb407))
                 have n5_ := Aside0.mk ((by rw [hg]; exact Nat.ne_of_lt (blk_lt (g := gb399) (o := .cells #[.int .u64 0, .bool false, .int .i64 0, .int .u64 0, .int .i64 0, .int .i64 0] 26 (0, 0)) (by (with_reducible repeat (first | refine blk_drewN ?_ _ | refine blk_drew ?_ | refine blk_alloc ?_ _)); exact BK399.out)) : gb399 ≠ gb407))
                 have n6_ := Aside0.mk ((by rw [hg]; exact Nat.ne_of_gt (blk_lt (g := gb399) (o := .cells #[.int .u64 0, .bool false, .int .i64 0, .int .u64 0, .int .i64 0, .int .i64 0] 26 (0, 0)) (by (with_reducible repeat (first | refine blk_drewN ?_ _ | refine blk_drew ?_ | refine blk_alloc ?_ _)); exact BK399.out)) : gb407 ≠ gb399))
                 clear BK399 HB
                 have BK399 := n0_
                 have HB := n1_
                 have BK407 := n2_
                 have GW407 := n3_
                 have GE407 := n4_
                 have NB399_407 := n5_
                 have NB407_399 := n6_
                 clear n0_ n1_ n2_ n3_ n4_ n5_ n6_
                 clear hb hbox hg
                 refine hK.out _ _ (((HB.out.cell (World.block_lt_of_cell? w _ hw402_0)).trans hw402_0)) (fun hHeld => ?_)
                 clear hK K
                 refine norm_ (a' := ?_) ?_ ?_
                 rotate_left
                 ·show Act.put _ (some 4) _ = _
                  simp only [Act.put, sa2_, sb2_, sc2_, i64_w, i32_w]
                  rfl
                 exact norm_ (by simp only [putAll, Act.put, sa2_, sb2_, sc2_]) (hCont (gb407) _ ⟨hHeld, (by (with_reducible repeat (first | refine blk_drewN ?_ _ | refine blk_drew ?_ | refine blk_alloc ?_ _)); exact BK399.out), (by (with_reducible repeat (first | refine blk_drewN ?_ _ | refine blk_drew ?_ | refine blk_alloc ?_ _)); exact BK407.out), GW407.out, GE407.out, NB399_407.out, NB407_399.out, (by repeat (first | (with_reducible first | exact HB.out | apply below_alloc | apply bn2_ | apply bd2_ | refine below_set ?_ GE399.out | refine below_set ?_ GE407.out) | exact HB.out))⟩)
                ·skip
                 refine box_step ?hg (N := 4) ?hd (cs := #[.int .u64 0, .bool false, .int .i64 0, .int .u64 0, .int .i64 0, .int .i64 0]) (t := 26) ?hr ?_; (case hd => rfl); (case hg => rfl); (case hr => first | (go_simp; done) | (go_simp; rfl))
                 intro gb407 hg w72 hbox hb
                 have n0_ := Aside0.mk (blk_below (g := gb399) (o := .cells #[.int .u64 0, .bool false, .int .i64 0, .int .u64 0, .int .i64 0, .int .i64 0] 26 (0, 0)) (by (with_reducible repeat (first | refine blk_drewN ?_ _ | refine blk_drew ?_ | refine blk_alloc ?_ _)); exact BK399.out) hb)
                 have n1_ := Aside0.mk (below_step (by repeat (first | (with_reducible first | exact HB.out | apply below_alloc | apply bn2_ | apply bd2_ | refine below_set ?_ GE399.out) | exact HB.out)) hb)
                 have n2_ := Aside0.mk (hbox)
                 have n3_ := Aside0.mk ((by rw [hg]; exact (below_size (by repeat (first | (with_reducible first | exact HB.out | apply below_alloc | apply bn2_ | apply bd2_ | refine below_set ?_ GE399.out) | exact HB.out))) : w.heap.size ≤ gb407))
                 have n4_ := Aside0.mk ((by rw [hg]; exact (below_size (by repeat (first | (with_reducible first | exact HB.out | apply below_alloc | apply bn2_ | apply bd2_ | refine below_set ?_ GE399.out) | exact HB.out))) : w.heap.size ≤ gb407))
                 have n5_ := Aside0.mk ((by rw [hg]; exact Nat.ne_of_lt (blk_lt (g := gb399) (o := .cells #[.int .u64 0, .bool false, .int .i64 0, .int .u64 0, .int .i64 0, .int .i64 0] 26 (0, 0)) (by (with_reducible repeat (first | refine blk_drewN ?_ _ | refine blk_drew ?_ | refine blk_alloc ?_ _)); exact BK399.out)) : gb399 ≠ gb407))
                 have n6_ := Aside0.mk ((by rw [hg]; exact Nat.ne_of_gt (blk_lt (g := gb399) (o := .cells #[.int .u64 0, .bool false, .int .i64 0, .int .u64 0, .int .i64 0, .int .i64 0] 26 (0, 0)) (by (with_reducible repeat (first | refine blk_drewN ?_ _ | refine blk_drew ?_ | refine blk_alloc ?_ _)); exact BK399.out)) : gb407 ≠ gb399))
                 clear BK399 HB
                 have BK399 := n0_
                 have HB := n1_
                 have BK407 := n2_
                 have GW407 := n3_
                 have GE407 := n4_
                 have NB399_407 := n5_
                 have NB407_399 := n6_
                 clear n0_ n1_ n2_ n3_ n4_ n5_ n6_
                 clear hb hbox hg
                 refine hK.out _ _ (((HB.out.cell (World.block_lt_of_cell? w _ hw402_0)).trans hw402_0)) (fun hHeld => ?_)
                 clear hK K
                 refine norm_ (a' := ?_) ?_ ?_
                 rotate_left
                 ·show Act.put _ (some 4) _ = _
                  simp only [Act.put, sa2_, sb2_, sc2_, i64_w, i32_w]
                  rfl
                 refine one_ (i := 13) (N := some 28) #[T2,T2,T2,T2,T2,T2,T2,T2,T2,T2,T2,T2,T2,T2,F2,F2,T2,F2] rfl rfl (one_of HT_.out (by kernel_rfl)) (by decide) (fun K hK => ?_)
                 refine goes_ Try.func32 (by kernel_rfl) rfl #[.slice A71 ((l0.take 41).drop 33).length (c0 - 33)] (by rfl) rfl rfl (by (try simp only [List.map_toArray, List.map_cons, List.map_nil]); first | done | (rw [show ((l0.take 41).drop 33).length = (41 - 33) from (by rw [List.length_drop, List.length_take]; have h_ : (41 : Int) ≤ (l0.length : Int) := of_decide_eq_true (by first | (with_reducible assumption) | assumption); omega)] <;> rfl) | rfl | (simp only [List.length_drop, List.length_take]; rfl)) ?_
                 with_reducible refine (rickyardref02_Number.calls k _ _ ((l0.take 41).drop 33) t406 _ ?side1 ?side2 A17.out).mono ?_
                 (case side1 => repeat (first | exact (Kd.C_below HR405.out HB.out) | (with_reducible refine Kd.C_alloc ?_ _) | (with_reducible refine Kd.C_drewN ?_ _) | (with_reducible refine Kd.C_drew ?_)))
                 (case side2 => exact HC405.out)
                 rintro e w' ⟨rfl, ⟨nd, rfl⟩⟩
                 refine ⟨_, rfl, ?_⟩
                 refine hK.out _ _ (((HB.out.cell (World.block_lt_of_cell? w _ hw402_0)).trans hw402_0)) (fun hHeld => ?_)
                 clear hK K
                 refine norm_ (a' := ?_) ?_ ?_
                 rotate_left
                 ·show Act.put _ (some 28) _ = _
                  simp only [Act.put, sa2_, sb2_, sc2_, i64_w, i32_w]
                  rfl
                 refine pure_ (i := 14) (N := some 29) (v := ?_) (a' := ?_) #[T2,T2,T2,T2,T2,T2,T2,T2,T2,T2,T2,T2,T2,T2,T2,F2,T2,F2] rfl rfl (any_of HT_.out (by kernel_rfl)) (fun _ _ _ h => h) (Or.inl ⟨by rfl, ?_⟩) ?_ ?_
                 rotate_left
                 ·intro w'
                  go_simp
                  with_reducible rfl
                 rotate_left
                 ·simp only [Act.put, sa2_, sb2_, sc2_, i64_w, i32_w]
                  rfl
                 refine pure_ (i := 15) (N := some 30) (v := ?_) (a' := ?_) #[T2,T2,T2,T2,T2,T2,T2,T2,T2,T2,T2,T2,T2,T2,T2,T2,T2,F2] rfl rfl (any_of HT_.out (by kernel_rfl)) (fun _ _ _ h => h) (Or.inl ⟨by rfl, ?_⟩) ?_ ?_
                 rotate_left
                 ·intro w'
                  go_simp
                  with_reducible rfl
                 rotate_left
                 ·simp only [Act.put, sa2_, sb2_, sc2_, i64_w, i32_w]
                  rfl
                 exact norm_ (by simp only [putAll, Act.put, sa2_, sb2_, sc2_]) (hCont (gb407) _ ⟨hHeld, (by (with_reducible repeat (first | refine blk_drewN ?_ _ | refine blk_drew ?_ | refine blk_alloc ?_ _)); exact BK399.out), (by (with_reducible repeat (first | refine blk_drewN ?_ _ | refine blk_drew ?_ | refine blk_alloc ?_ _)); exact BK407.out), GW407.out, GE407.out, NB399_407.out, NB407_399.out, (by repeat (first | (with_reducible first | exact HB.out | apply below_alloc | apply bn2_ | apply bd2_ | refine below_set ?_ GE399.out | refine below_set ?_ GE407.out) | exact HB.out))⟩)
               ·skip
                refine box_step ?hg (N := 4) ?hd (cs := #[.int .u64 0, .bool false, .int .i64 0, .int .u64 0, .int .i64 0, .int .i64 0]) (t := 26) ?hr ?_; (case hd => rfl); (case hg => rfl); (case hr => first | (go_simp; done) | (go_simp; rfl))
                intro gb407 hg w72 hbox hb
                have n0_ := Aside0.mk (blk_below (g := gb399) (o := .cells #[.int .u64 0, .bool false, .int .i64 0, .int .u64 0, .int .i64 0, .int .i64 0] 26 (0, 0)) (by (with_reducible repeat (first | refine blk_drewN ?_ _ | refine blk_drew ?_ | refine blk_alloc ?_ _)); exact BK399.out) hb)
                have n1_ := Aside0.mk (below_step (by repeat (first | (with_reducible first | exact HB.out | apply below_alloc | apply bn2_ | apply bd2_ | refine below_set ?_ GE399.out) | exact HB.out)) hb)
                have n2_ := Aside0.mk (hbox)
                have n3_ := Aside0.mk ((by rw [hg]; exact (below_size (by repeat (first | (with_reducible first | exact HB.out | apply below_alloc | apply bn2_ | apply bd2_ | refine below_set ?_ GE399.out) | exact HB.out))) : w.heap.size ≤ gb407))
                have n4_ := Aside0.mk ((by rw [hg]; exact (below_size (by repeat (first | (with_reducible first | exact HB.out | apply below_alloc | apply bn2_ | apply bd2_ | refine below_set ?_ GE399.out) | exact HB.out))) : w.heap.size ≤ gb407))
                have n5_ := Aside0.mk ((by rw [hg]; exact Nat.ne_of_lt (blk_lt (g := gb399) (o := .cells #[.int .u64 0, .bool false, .int .i64 0, .int .u64 0, .int .i64 0, .int .i64 0] 26 (0, 0)) (by (with_reducible repeat (first | refine blk_drewN ?_ _ | refine blk_drew ?_ | refine blk_alloc ?_ _)); exact BK399.out)) : gb399 ≠ gb407))
                have n6_ := Aside0.mk ((by rw [hg]; exact Nat.ne_of_gt (blk_lt (g := gb399) (o := .cells #[.int .u64 0, .bool false, .int .i64 0, .int .u64 0, .int .i64 0, .int .i64 0] 26 (0, 0)) (by (with_reducible repeat (first | refine blk_drewN ?_ _ | refine blk_drew ?_ | refine blk_alloc ?_ _)); exact BK399.out)) : gb407 ≠ gb399))
                clear BK399 HB
                have BK399 := n0_
                have HB := n1_
                have BK407 := n2_
                have GW407 := n3_
                have GE407 := n4_
                have NB399_407 := n5_
                have NB407_399 := n6_
                clear n0_ n1_ n2_ n3_ n4_ n5_ n6_
                clear hb hbox hg
                refine hK.out _ _ (((HB.out.cell (World.block_lt_of_cell? w _ hw402_0)).trans hw402_0)) (fun hHeld => ?_)
                clear hK K
                refine norm_ (a' := ?_) ?_ ?_
                rotate_left
                ·show Act.put _ (some 4) _ = _
                 simp only [Act.put, sa2_, sb2_, sc2_, i64_w, i32_w]
                 rfl
                refine one_ (i := 9) (N := some 24) #[T2,T2,T2,T2,T2,T2,T2,T2,T2,T2,F2,T2,T2,F2,F2,F2,T2,F2] rfl rfl (one_of HT_.out (by kernel_rfl)) (by decide) (fun K hK => ?_)
                refine goes_ Try.func32 (by kernel_rfl) rfl #[.slice A70 ((l0.take 33).drop 25).length (c0 - 25)] (by rfl) rfl rfl (by (try simp only [List.map_toArray, List.map_cons, List.map_nil]); first | done | (rw [show ((l0.take 33).drop 25).length = (33 - 25) from (by rw [List.length_drop, List.length_take]; have h_ : (33 : Int) ≤ (l0.length : Int) := of_decide_eq_true (by first | (with_reducible assumption) | assumption); omega)] <;> rfl) | rfl | (simp only [List.length_drop, List.length_take]; rfl)) ?_
                with_reducible refine (rickyardref02_Number.calls k _ _ ((l0.take 33).drop 25) t404 _ ?side1 ?side2 A14.out).mono ?_
                (case side1 => repeat (first | exact (Kd.C_below HR403.out HB.out) | (with_reducible refine Kd.C_alloc ?_ _) | (with_reducible refine Kd.C_drewN ?_ _) | (with_reducible refine Kd.C_drew ?_)))
                (case side2 => exact HC403.out)
                rintro e w' ⟨rfl, ⟨nd, rfl⟩⟩
                refine ⟨_, rfl, ?_⟩
                refine hK.out _ _ (((HB.out.cell (World.block_lt_of_cell? w _ hw402_0)).trans hw402_0)) (fun hHeld => ?_)
                clear hK K
                refine norm_ (a' := ?_) ?_ ?_
                rotate_left
                ·show Act.put _ (some 24) _ = _
                 simp only [Act.put, sa2_, sb2_, sc2_, i64_w, i32_w]
                 rfl
                refine pure_ (i := 10) (N := some 25) (v := ?_) (a' := ?_) #[T2,T2,T2,T2,T2,T2,T2,T2,T2,T2,T2,T2,T2,F2,F2,F2,T2,F2] rfl rfl (any_of HT_.out (by kernel_rfl)) (fun _ _ _ h => h) (Or.inl ⟨by rfl, ?_⟩) ?_ ?_
                rotate_left
                ·intro w'
                 go_simp
                 with_reducible rfl
                rotate_left
                ·simp only [Act.put, sa2_, sb2_, sc2_, i64_w, i32_w]
                 rfl
                refine one_ (i := 13) (N := some 28) #[T2,T2,T2,T2,T2,T2,T2,T2,T2,T2,T2,T2,T2,T2,F2,F2,T2,F2] rfl rfl (one_of HT_.out (by kernel_rfl)) (by decide) (fun K hK => ?_)
                refine goes_ Try.func32 (by kernel_rfl) rfl #[.slice A71 ((l0.take 41).drop 33).length (c0 - 33)] (by rfl) rfl rfl (by (try simp only [List.map_toArray, List.map_cons, List.map_nil]); first | done | (rw [show ((l0.take 41).drop 33).length = (41 - 33) from (by rw [List.length_drop, List.length_take]; have h_ : (41 : Int) ≤ (l0.length : Int) := of_decide_eq_true (by first | (with_reducible assumption) | assumption); omega)] <;> rfl) | rfl | (simp only [List.length_drop, List.length_take]; rfl)) ?_
                with_reducible refine (rickyardref02_Number.calls k _ _ ((l0.take 41).drop 33) t406 _ ?side1 ?side2 A17.out).mono ?_
                (case side1 => repeat (first | exact (Kd.C_below HR405.out (by repeat (first | (with_reducible first | exact HB.out | apply below_alloc | apply bn2_ | apply bd2_ | refine below_set ?_ GE399.out | refine below_set ?_ GE407.out) | exact HB.out))) | (with_reducible refine Kd.C_alloc ?_ _) | (with_reducible refine Kd.C_drewN ?_ _) | (with_reducible refine Kd.C_drew ?_)))
                (case side2 => exact HC405.out)
                rintro e w' ⟨rfl, ⟨nd, rfl⟩⟩
                refine ⟨_, rfl, ?_⟩
                refine hK.out _ _ (((HB.out.cell (World.block_lt_of_cell? w _ hw402_0)).trans hw402_0)) (fun hHeld => ?_)
                clear hK K
                refine norm_ (a' := ?_) ?_ ?_
                rotate_left
                ·show Act.put _ (some 28) _ = _
                 simp only [Act.put, sa2_, sb2_, sc2_, i64_w, i32_w]
                 rfl
                refine pure_ (i := 14) (N := some 29) (v := ?_) (a' := ?_) #[T2,T2,T2,T2,T2,T2,T2,T2,T2,T2,T2,T2,T2,T2,T2,F2,T2,F2] rfl rfl (any_of HT_.out (by kernel_rfl)) (fun _ _ _ h => h) (Or.inl ⟨by rfl, ?_⟩) ?_ ?_
                rotate_left
                ·intro w'
                 go_simp
                 with_reducible rfl
                rotate_left
                ·simp only [Act.put, sa2_, sb2_, sc2_, i64_w, i32_w]
                 rfl
                refine pure_ (i := 15) (N := some 30) (v := ?_) (a' := ?_) #[T2,T2,T2,T2,T2,T2,T2,T2,T2,T2,T2,T2,T2,T2,T2,T2,T2,F2] rfl rfl (any_of HT_.out (by kernel_rfl)) (fun _ _ _ h => h) (Or.inl ⟨by rfl, ?_⟩) ?_ ?_
                rotate_left
                ·intro w'
                 go_simp
                 with_reducible rfl
                rotate_left
                ·simp only [Act.put, sa2_, sb2_, sc2_, i64_w, i32_w]
                 rfl
                exact norm_ (by simp only [putAll, Act.put, sa2_, sb2_, sc2_]) (hCont (gb407) _ ⟨hHeld, (by (with_reducible repeat (first | refine blk_drewN ?_ _ | refine blk_drew ?_ | refine blk_alloc ?_ _)); exact BK399.out), (by (with_reducible repeat (first | refine blk_drewN ?_ _ | refine blk_drew ?_ | refine blk_alloc ?_ _)); exact BK407.out), GW407.out, GE407.out, NB399_407.out, NB407_399.out, (by repeat (first | (with_reducible first | exact HB.out | apply below_alloc | apply bn2_ | apply bd2_ | refine below_set ?_ GE399.out | refine below_set ?_ GE407.out) | exact HB.out))⟩)
              ·skip
               refine box_step ?hg (N := 4) ?hd (cs := #[.int .u64 0, .bool false, .int .i64 0, .int .u64 0, .int .i64 0, .int .i64 0]) (t := 26) ?hr ?_; (case hd => rfl); (case hg => rfl); (case hr => first | (go_simp; done) | (go_simp; rfl))
               intro gb407 hg w72 hbox hb
               have n0_ := Aside0.mk (blk_below (g := gb399) (o := .cells #[.int .u64 0, .bool false, .int .i64 0, .int .u64 0, .int .i64 0, .int .i64 0] 26 (0, 0)) (by (with_reducible repeat (first | refine blk_drewN ?_ _ | refine blk_drew ?_ | refine blk_alloc ?_ _)); exact BK399.out) hb)
               have n1_ := Aside0.mk (below_step (by repeat (first | (with_reducible first | exact HB.out | apply below_alloc | apply bn2_ | apply bd2_ | refine below_set ?_ GE399.out) | exact HB.out)) hb)
               have n2_ := Aside0.mk (hbox)
               have n3_ := Aside0.mk ((by rw [hg]; exact (below_size (by repeat (first | (with_reducible first | exact HB.out | apply below_alloc | apply bn2_ | apply bd2_ | refine below_set ?_ GE399.out) | exact HB.out))) : w.heap.size ≤ gb407))
               have n4_ := Aside0.mk ((by rw [hg]; exact (below_size (by repeat (first | (with_reducible first | exact HB.out | apply below_alloc | apply bn2_ | apply bd2_ | refine below_set ?_ GE399.out) | exact HB.out))) : w.heap.size ≤ gb407))
               have n5_ := Aside0.mk ((by rw [hg]; exact Nat.ne_of_lt (blk_lt (g := gb399) (o := .cells #[.int .u64 0, .bool false, .int .i64 0, .int .u64 0, .int .i64 0, .int .i64 0] 26 (0, 0)) (by (with_reducible repeat (first | refine blk_drewN ?_ _ | refine blk_drew ?_ | refine blk_alloc ?_ _)); exact BK399.out)) : gb399 ≠ gb407))
               have n6_ := Aside0.mk ((by rw [hg]; exact Nat.ne_of_gt (blk_lt (g := gb399) (o := .cells #[.int .u64 0, .bool false, .int .i64 0, .int .u64 0, .int .i64 0, .int .i64 0] 26 (0, 0)) (by (with_reducible repeat (first | refine blk_drewN ?_ _ | refine blk_drew ?_ | refine blk_alloc ?_ _)); exact BK399.out)) : gb407 ≠ gb399))
               clear BK399 HB
               have BK399 := n0_
               have HB := n1_
               have BK407 := n2_
               have GW407 := n3_
               have GE407 := n4_
               have NB399_407 := n5_
               have NB407_399 := n6_
               clear n0_ n1_ n2_ n3_ n4_ n5_ n6_
               clear hb hbox hg
               refine hK.out _ _ (((HB.out.cell (World.block_lt_of_cell? w _ hw402_0)).trans hw402_0)) (fun hHeld => ?_)
               clear hK K
               refine norm_ (a' := ?_) ?_ ?_
               rotate_left
               ·show Act.put _ (some 4) _ = _
                simp only [Act.put, sa2_, sb2_, sc2_, i64_w, i32_w]
                rfl
               refine one_ (i := 2) (N := some 17) #[T2,T2,T2,T2,T2,T2,T2,T2,T2,F2,F2,T2,T2,F2,F2,F2,T2,F2] rfl rfl (one_of HT_.out (by kernel_rfl)) (by decide) (fun K hK => ?_)
               refine goes_ Try.func32 (by kernel_rfl) rfl #[.slice A69 ((l0.take 9).drop 1).length (c0 - 1)] (by rfl) rfl rfl (by (try simp only [List.map_toArray, List.map_cons, List.map_nil]); first | done | (rw [show ((l0.take 9).drop 1).length = (9 - 1) from (by rw [List.length_drop, List.length_take]; have h_ : (9 : Int) ≤ (l0.length : Int) := of_decide_eq_true (by first | (with_reducible assumption) | assumption); omega)] <;> rfl) | rfl | (simp only [List.length_drop, List.length_take]; rfl)) ?_
               with_reducible refine (rickyardref02_Number.calls k _ _ ((l0.take 9).drop 1) t401 _ ?side1 ?side2 A10.out).mono ?_
               (case side1 => repeat (first | exact (Kd.C_below HR400.out HB.out) | (with_reducible refine Kd.C_alloc ?_ _) | (with_reducible refine Kd.C_drewN ?_ _) | (with_reducible refine Kd.C_drew ?_)))
               (case side2 => exact HC400.out)
               rintro e w' ⟨rfl, ⟨nd, rfl⟩⟩
               refine ⟨_, rfl, ?_⟩
               refine hK.out _ _ (((HB.out.cell (World.block_lt_of_cell? w _ hw402_0)).trans hw402_0)) (fun hHeld => ?_)
               clear hK K
               refine norm_ (a' := ?_) ?_ ?_
               rotate_left
               ·show Act.put _ (some 17) _ = _
                simp only [Act.put, sa2_, sb2_, sc2_, i64_w, i32_w]
                rfl
               refine one_ (i := 9) (N := some 24) #[T2,T2,T2,T2,T2,T2,T2,T2,T2,T2,F2,T2,T2,F2,F2,F2,T2,F2] rfl rfl (one_of HT_.out (by kernel_rfl)) (by decide) (fun K hK => ?_)
               refine goes_ Try.func32 (by kernel_rfl) rfl #[.slice A70 ((l0.take 33).drop 25).length (c0 - 25)] (by rfl) rfl rfl (by (try simp only [List.map_toArray, List.map_cons, List.map_nil]); first | done | (rw [show ((l0.take 33).drop 25).length = (33 - 25) from (by rw [List.length_drop, List.length_take]; have h_ : (33 : Int) ≤ (l0.length : Int) := of_decide_eq_true (by first | (with_reducible assumption) | assumption); omega)] <;> rfl) | rfl | (simp only [List.length_drop, List.length_take]; rfl)) ?_
               with_reducible refine (rickyardref02_Number.calls k _ _ ((l0.take 33).drop 25) t404 _ ?side1 ?side2 A14.out).mono ?_
               (case side1 => repeat (first | exact (Kd.C_below HR403.out (by repeat (first | (with_reducible first | exact HB.out | apply below_alloc | apply bn2_ | apply bd2_ | refine below_set ?_ GE399.out | refine below_set ?_ GE407.out) | exact HB.out))) | (with_reducible refine Kd.C_alloc ?_ _) | (with_reducible refine Kd.C_drewN ?_ _) | (with_reducible refine Kd.C_drew ?_)))
               (case side2 => exact HC403.out)
               rintro e w' ⟨rfl, ⟨nd, rfl⟩⟩
               refine ⟨_, rfl, ?_⟩
               refine hK.out _ _ (((HB.out.cell (World.block_lt_of_cell? w _ hw402_0)).trans hw402_0)) (fun hHeld => ?_)
               clear hK K
               refine norm_ (a' := ?_) ?_ ?_
               rotate_left
               ·show Act.put _ (some 24) _ = _
                simp only [Act.put, sa2_, sb2_, sc2_, i64_w, i32_w]
                rfl
               refine pure_ (i := 10) (N := some 25) (v := ?_) (a' := ?_) #[T2,T2,T2,T2,T2,T2,T2,T2,T2,T2,T2,T2,T2,F2,F2,F2,T2,F2] rfl rfl (any_of HT_.out (by kernel_rfl)) (fun _ _ _ h => h) (Or.inl ⟨by rfl, ?_⟩) ?_ ?_
               rotate_left
               ·intro w'
                go_simp
                with_reducible rfl
               rotate_left
               ·simp only [Act.put, sa2_, sb2_, sc2_, i64_w, i32_w]
                rfl
               refine one_ (i := 13) (N := some 28) #[T2,T2,T2,T2,T2,T2,T2,T2,T2,T2,T2,T2,T2,T2,F2,F2,T2,F2] rfl rfl (one_of HT_.out (by kernel_rfl)) (by decide) (fun K hK => ?_)
               refine goes_ Try.func32 (by kernel_rfl) rfl #[.slice A71 ((l0.take 41).drop 33).length (c0 - 33)] (by rfl) rfl rfl (by (try simp only [List.map_toArray, List.map_cons, List.map_nil]); first | done | (rw [show ((l0.take 41).drop 33).length = (41 - 33) from (by rw [List.length_drop, List.length_take]; have h_ : (41 : Int) ≤ (l0.length : Int) := of_decide_eq_true (by first | (with_reducible assumption) | assumption); omega)] <;> rfl) | rfl | (simp only [List.length_drop, List.length_take]; rfl)) ?_
               with_reducible refine (rickyardref02_Number.calls k _ _ ((l0.take 41).drop 33) t406 _ ?side1 ?side2 A17.out).mono ?_
               (case side1 => repeat (first | exact (Kd.C_below HR405.out (by repeat (first | (with_reducible first | exact HB.out | apply below_alloc | apply bn2_ | apply bd2_ | refine below_set ?_ GE399.out | refine below_set ?_ GE407.out) | exact HB.out))) | (with_reducible refine Kd.C_alloc ?_ _) | (with_reducible refine Kd.C_drewN ?_ _) | (with_reducible refine Kd.C_drew ?_)))
               (case side2 => exact HC405.out)
               rintro e w' ⟨rfl, ⟨nd, rfl⟩⟩
               refine ⟨_, rfl, ?_⟩
               refine hK.out _ _ (((HB.out.cell (World.block_lt_of_cell? w _ hw402_0)).trans hw402_0)) (fun hHeld => ?_)
               clear hK K
               refine norm_ (a' := ?_) ?_ ?_
               rotate_left
               ·show Act.put _ (some 28) _ = _
                simp only [Act.put, sa2_, sb2_, sc2_, i64_w, i32_w]
                rfl
               refine pure_ (i := 14) (N := some 29) (v := ?_) (a' := ?_) #[T2,T2,T2,T2,T2,T2,T2,T2,T2,T2,T2,T2,T2,T2,T2,F2,T2,F2] rfl rfl (any_of HT_.out (by kernel_rfl)) (fun _ _ _ h => h) (Or.inl ⟨by rfl, ?_⟩) ?_ ?_
               rotate_left
               ·intro w'
                go_simp
                with_reducible rfl
               rotate_left
               ·simp only [Act.put, sa2_, sb2_, sc2_, i64_w, i32_w]
                rfl
               refine pure_ (i := 15) (N := some 30) (v := ?_) (a' := ?_) #[T2,T2,T2,T2,T2,T2,T2,T2,T2,T2,T2,T2,T2,T2,T2,T2,T2,F2] rfl rfl (any_of HT_.out (by kernel_rfl)) (fun _ _ _ h => h) (Or.inl ⟨by rfl, ?_⟩) ?_ ?_
               rotate_left
               ·intro w'
                go_simp
                with_reducible rfl
               rotate_left
               ·simp only [Act.put, sa2_, sb2_, sc2_, i64_w, i32_w]
                rfl
               exact norm_ (by simp only [putAll, Act.put, sa2_, sb2_, sc2_]) (hCont (gb407) _ ⟨hHeld, (by (with_reducible repeat (first | refine blk_drewN ?_ _ | refine blk_drew ?_ | refine blk_alloc ?_ _)); exact BK399.out), (by (with_reducible repeat (first | refine blk_drewN ?_ _ | refine blk_drew ?_ | refine blk_alloc ?_ _)); exact BK407.out), GW407.out, GE407.out, NB399_407.out, NB407_399.out, (by repeat (first | (with_reducible first | exact HB.out | apply below_alloc | apply bn2_ | apply bd2_ | refine below_set ?_ GE399.out | refine below_set ?_ GE407.out) | exact HB.out))⟩)
             rintro gb407 w73 ⟨hS_, h0_, h1_, h2_, h3_, h4_, h5_, h6_⟩
             have n0_ : Aside0 (w73.heap[gb399]? = some (.cells #[.int .u64 0, .bool false, .int .i64 0, .int .u64 0, .int .i64 0, .int .i64 0] 26 (0, 0))) := ⟨h0_⟩
             have n1_ : Aside0 (w73.heap[gb407]? = some (.cells #[.int .u64 0, .bool false, .int .i64 0, .int .u64 0, .int .i64 0, .int .i64 0] 26 (0, 0))) := ⟨h1_⟩
             have n2_ : Aside0 (w.heap.size ≤ gb407) := ⟨h2_⟩
             have n3_ : Aside0 (w.heap.size ≤ gb407) := ⟨h3_⟩
             have n4_ : Aside0 (gb399 ≠ gb407) := ⟨h4_⟩
             have n5_ : Aside0 (gb407 ≠ gb399) := ⟨h5_⟩
             have n6_ : Aside0 (Below w.heap.size w w73) := ⟨h6_⟩
             clear BK399 HB h0_ h1_ h2_ h3_ h4_ h5_ h6_
             have BK399 := n0_
             have BK407 := n1_
             have GW407 := n2_
             have GE407 := n3_
             have NB399_407 := n4_
             have NB407_399 := n5_
             have HB := n6_
             clear n0_ n1_ n2_ n3_ n4_ n5_ n6_
             have hHeld : w73.cell? ad402 = some (.int .u8 (rd l0 0)) := hS_
             refine norm_ (a' := ?_) ?_ ?_
             rotate_left
             ·simp only [putAll, Act.put, sa2_, sb2_, sc2_]
              rfl
             refine one_ (i := 17) (N := none) #[T2,T2,T2,T2,T2,T2,T2,T2,T2,T2,T2,T2,T2,T2,T2,T2,T2,T2] rfl rfl (one_of HT_.out (by kernel_rfl)) (by decide) (fun K hK => ?_)
             have hs74 : w73.cell? ⟨gb407, 0, none⟩ = some (.int .u64 0) := (blk_cell BK407.out 0).trans rfl
             have hfs74 := blk_frozen BK407.out 0
             have hns74_0 := NB399_407.out
             have hms74_0 := NB407_399.out
             have hs75 : w73.cell? ⟨gb407, 1, none⟩ = some (.bool false) := (blk_cell BK407.out 1).trans rfl
             have hfs75 := blk_frozen BK407.out 1
             have hns75_0 := NB399_407.out
             have hms75_0 := NB407_399.out
             have hs76 : w73.cell? ⟨gb407, 2, none⟩ = some (.int .i64 0) := (blk_cell BK407.out 2).trans rfl
             have hfs76 := blk_frozen BK407.out 2
             have hns76_0 := NB399_407.out
             have hms76_0 := NB407_399.out
             have hs77 : w73.cell? ⟨gb407, 3, none⟩ = some (.int .u64 0) := (blk_cell BK407.out 3).trans rfl
             have hfs77 := blk_frozen BK407.out 3
             have hns77_0 := NB399_407.out
             have hms77_0 := NB407_399.out
             have hs78 : w73.cell? ⟨gb407, 4, none⟩ = some (.int .i64 0) := (blk_cell BK407.out 4).trans rfl
             have hfs78 := blk_frozen BK407.out 4
             have hns78_0 := NB399_407.out
             have hms78_0 := NB407_399.out
             have hs79 : w73.cell? ⟨gb407, 5, none⟩ = some (.int .i64 0) := (blk_cell BK407.out 5).trans rfl
             have hfs79 := blk_frozen BK407.out 5
             have hns79_0 := NB399_407.out
             have hms79_0 := NB407_399.out
             refine skip_ (w1 := ?_) (by rfl) rfl ?_ ?_
             rotate_left
             ·go_simp
              rfl
             refine hK.out _ _ (((cell_far (p := ⟨gb407, _, none⟩) (by first | exact Nat.ne_of_lt (Nat.lt_of_lt_of_le (by have := World.block_lt_of_cell? _ _ hw402_0; first | rwa [add_block] at this | exact this) GW407.out) | (rw [add_block]; exact Nat.ne_of_lt (Nat.lt_of_lt_of_le (by have := World.block_lt_of_cell? _ _ hw402_0; first | rwa [add_block] at this | exact this) GW407.out)) | (show (Addr.add _ _).block ≠ _; rw [add_block]; exact Nat.ne_of_lt (Nat.lt_of_lt_of_le (by have := World.block_lt_of_cell? _ _ hw402_0; first | rwa [add_block] at this | exact this) GW407.out)) | (dsimp only; exact Nat.ne_of_lt (Nat.lt_of_lt_of_le (by have := World.block_lt_of_cell? _ _ hw402_0; first | rwa [add_block] at this | exact this) GW407.out))) _).trans (((cell_far (p := ⟨gb407, _, none⟩) (by first | exact Nat.ne_of_lt (Nat.lt_of_lt_of_le (by have := World.block_lt_of_cell? _ _ hw402_0; first | rwa [add_block] at this | exact this) GW407.out) | (rw [add_block]; exact Nat.ne_of_lt (Nat.lt_of_lt_of_le (by have := World.block_lt_of_cell? _ _ hw402_0; first | rwa [add_block] at this | exact this) GW407.out)) | (show (Addr.add _ _).block ≠ _; rw [add_block]; exact Nat.ne_of_lt (Nat.lt_of_lt_of_le (by have := World.block_lt_of_cell? _ _ hw402_0; first | rwa [add_block] at this | exact this) GW407.out)) | (dsimp only; exact Nat.ne_of_lt (Nat.lt_of_lt_of_le (by have := World.block_lt_of_cell? _ _ hw402_0; first | rwa [add_block] at this | exact this) GW407.out))) _).trans (((cell_far (p := ⟨gb407, _, none⟩) (by first | exact Nat.ne_of_lt (Nat.lt_of_lt_of_le (by have := World.block_lt_of_cell? _ _ hw402_0; first | rwa [add_block] at this | exact this) GW407.out) | (rw [add_block]; exact Nat.ne_of_lt (Nat.lt_of_lt_of_le (by have := World.block_lt_of_cell? _ _ hw402_0; first | rwa [add_block] at this | exact this) GW407.out)) | (show (Addr.add _ _).block ≠ _; rw [add_block]; exact Nat.ne_of_lt (Nat.lt_of_lt_of_le (by have := World.block_lt_of_cell? _ _ hw402_0; first | rwa [add_block] at this | exact this) GW407.out)) | (dsimp only; exact Nat.ne_of_lt (Nat.lt_of_lt_of_le (by have := World.block_lt_of_cell? _ _ hw402_0; first | rwa [add_block] at this | exact this) GW407.out))) _).trans (((cell_far (p := ⟨gb407, _, none⟩) (by first | exact Nat.ne_of_lt (Nat.lt_of_lt_of_le (by have := World.block_lt_of_cell? _ _ hw402_0; first | rwa [add_block] at this | exact this) GW407.out) | (rw [add_block]; exact Nat.ne_of_lt (Nat.lt_of_lt_of_le (by have := World.block_lt_of_cell? _ _ hw402_0; first | rwa [add_block] at this | exact this) GW407.out)) | (show (Addr.add _ _).block ≠ _; rw [add_block]; exact Nat.ne_of_lt (Nat.lt_of_lt_of_le (by have := World.block_lt_of_cell? _ _ hw402_0; first | rwa [add_block] at this | exact this) GW407.out)) | (dsimp only; exact Nat.ne_of_lt (Nat.lt_of_lt_of_le (by have := World.block_lt_of_cell? _ _ hw402_0; first | rwa [add_block] at this | exact this) GW407.out))) _).trans (((cell_far (p := ⟨gb407, _, none⟩) (by first | exact Nat.ne_of_lt (Nat.lt_of_lt_of_le (by have := World.block_lt_of_cell? _ _ hw402_0; first | rwa [add_block] at this | exact this) GW407.out) | (rw [add_block]; exact Nat.ne_of_lt (Nat.lt_of_lt_of_le (by have := World.block_lt_of_cell? _ _ hw402_0; first | rwa [add_block] at this | exact this) GW407.out)) | (show (Addr.add _ _).block ≠ _; rw [add_block]; exact Nat.ne_of_lt (Nat.lt_of_lt_of_le (by have := World.block_lt_of_cell? _ _ hw402_0; first | rwa [add_block] at this | exact this) GW407.out)) | (dsimp only; exact Nat.ne_of_lt (Nat.lt_of_lt_of_le (by have := World.block_lt_of_cell? _ _ hw402_0; first | rwa [add_block] at this | exact this) GW407.out))) _).trans (((cell_far (p := ⟨gb407, _, none⟩) (by first | exact Nat.ne_of_lt (Nat.lt_of_lt_of_le (by have := World.block_lt_of_cell? _ _ hw402_0; first | rwa [add_block] at this | exact this) GW407.out) | (rw [add_block]; exact Nat.ne_of_lt (Nat.lt_of_lt_of_le (by have := World.block_lt_of_cell? _ _ hw402_0; first | rwa [add_block] at this | exact this) GW407.out)) | (show (Addr.add _ _).block ≠ _; rw [add_block]; exact Nat.ne_of_lt (Nat.lt_of_lt_of_le (by have := World.block_lt_of_cell? _ _ hw402_0; first | rwa [add_block] at this | exact this) GW407.out)) | (dsimp only; exact Nat.ne_of_lt (Nat.lt_of_lt_of_le (by have := World.block_lt_of_cell? _ _ hw402_0; first | rwa [add_block] at this | exact this) GW407.out))) _).trans (hHeld))))))))))))) (fun hHeld => ?_)
             clear hK K
             refine done_ (done_of HT_.out (by kernel_rfl)) ?_
             obtain ⟨i080, hi080, _, hsz80, _⟩ := info_parts info5
             obtain ⟨A80, hcut80, hA80, hC80⟩ := print_mid_of (P := Try.prog) (Value.int .u8) 0 36 5 .i64 .i64 Try.underlying36 hi080 hsz80 (some ad402) c0 l0 9 25 (by omega) (by first | omega | exact of_decide_eq_true (by first | (with_reducible assumption) | assumption)) (of_decide_eq_true (by first | (with_reducible assumption) | assumption)) HC0.out
             have HR408 := Aside0.mk (Kd.C_of_reads (h1 := fun _ => rfl) (hA80 _ (Kd.reads_of_C HR0.out)))
             have HC408 := Aside0.mk hC80
             clear hA80 hC80 hi080 hsz80
             try go_wp2_with (first | ((with_reducible refine gate_callee (f := 33) rfl ?_); refine goesL_ (some 34) rfl rfl Try.func33 (by kernel_rfl) rfl #[.slice A80 ((l0.take 25).drop 9).length (c0 - 9)] rfl (by (try simp only [List.map_toArray, List.map_cons, List.map_nil]); first | done | (rw [show ((l0.take 25).drop 9).length = (25 - 9) from (by rw [List.length_drop, List.length_take]; have h_ : (25 : Int) ≤ (l0.length : Int) := of_decide_eq_true (by first | (with_reducible assumption) | assumption); omega)] <;> rfl) | rfl | (simp only [List.length_drop, List.length_take]; rfl)) ?_; (with_reducible refine (rickyardref01_Read.calls _ _ ((l0.take 25).drop 9) t409 t410 t411 _ ?side1 ?side2 A20.out).mono ?_); (case side1 => exact Kd.C_below HR408.out (by repeat (first | (with_reducible first | exact HB.out | apply below_alloc | apply bn2_ | apply bd2_ | refine below_set ?_ GE399.out | refine below_set ?_ GE407.out) | exact HB.out))); (case side2 => exact HC408.out); rintro e w81 ⟨rfl, hb⟩; refine ⟨_, rfl, ?_⟩; have n0_ := Aside0.mk (blk_below (g := gb399) (o := .cells #[.int .u64 0, .bool false, .int .i64 0, .int .u64 0, .int .i64 0, .int .i64 0] 26 (0, 0)) (by (with_reducible repeat (first | refine blk_drewN ?_ _ | refine blk_drew ?_ | refine blk_alloc ?_ _)); refine blk_far ?_ NB399_407.out _; (with_reducible repeat (first | refine blk_drewN ?_ _ | refine blk_drew ?_ | refine blk_alloc ?_ _)); refine blk_far ?_ NB399_407.out _; (with_reducible repeat (first | refine blk_drewN ?_ _ | refine blk_drew ?_ | refine blk_alloc ?_ _)); refine blk_far ?_ NB399_407.out _; (with_reducible repeat (first | refine blk_drewN ?_ _ | refine blk_drew ?_ | refine blk_alloc ?_ _)); refine blk_far ?_ NB399_407.out _; (with_reducible repeat (first | refine blk_drewN ?_ _ | refine blk_drew ?_ | refine blk_alloc ?_ _)); refine blk_far ?_ NB399_407.out _; (with_reducible repeat (first | refine blk_drewN ?_ _ | refine blk_drew ?_ | refine blk_alloc ?_ _)); refine blk_far ?_ NB399_407.out _; (with_reducible repeat (first | refine blk_drewN ?_ _ | refine blk_drew ?_ | refine blk_alloc ?_ _)); exact BK399.out) hb); have n1_ := Aside0.mk (blk_below (g := gb407) (o := .cells #[.int .u64 t401, .bool ((rd l0 0) != 0), .int .i64 0, .int .u64 0, .int .i64 (wrap64 (t404)), .int .i64 (wrap64 (t406))] 26 (0, 0)) (by (with_reducible repeat (first | refine blk_drewN ?_ _ | refine blk_drew ?_ | refine blk_alloc ?_ _)); refine blk_put (cs := #[.int .u64 t401, .bool ((rd l0 0) != 0), .int .i64 0, .int .u64 0, .int .i64 (wrap64 (t404)), .int .i64 0]) ?_ 5 _ rfl; (with_reducible repeat (first | refine blk_drewN ?_ _ | refine blk_drew ?_ | refine blk_alloc ?_ _)); refine blk_put (cs := #[.int .u64 t401, .bool ((rd l0 0) != 0), .int .i64 0, .int .u64 0, .int .i64 0, .int .i64 0]) ?_ 4 _ rfl; (with_reducible repeat (first | refine blk_drewN ?_ _ | refine blk_drew ?_ | refine blk_alloc ?_ _)); refine blk_put (cs := #[.int .u64 t401, .bool ((rd l0 0) != 0), .int .i64 0, .int .u64 0, .int .i64 0, .int .i64 0]) ?_ 3 _ rfl; (with_reducible repeat (first | refine blk_drewN ?_ _ | refine blk_drew ?_ | refine blk_alloc ?_ _)); refine blk_put (cs := #[.int .u64 t401, .bool ((rd l0 0) != 0), .int .i64 0, .int .u64 0, .int .i64 0, .int .i64 0]) ?_ 2 _ rfl; (with_reducible repeat (first | refine blk_drewN ?_ _ | refine blk_drew ?_ | refine blk_alloc ?_ _)); refine blk_put (cs := #[.int .u64 t401, .bool false, .int .i64 0, .int .u64 0, .int .i64 0, .int .i64 0]) ?_ 1 _ rfl; (with_reducible repeat (first | refine blk_drewN ?_ _ | refine blk_drew ?_ | refine blk_alloc ?_ _)); refine blk_put (cs := #[.int .u64 0, .bool false, .int .i64 0, .int .u64 0, .int .i64 0, .int .i64 0]) ?_ 0 _ rfl; (with_reducible repeat (first | refine blk_drewN ?_ _ | refine blk_drew ?_ | refine blk_alloc ?_ _)); exact BK407.out) hb); have n2_ := Aside0.mk (below_step (by repeat (first | (with_reducible first | exact HB.out | apply below_alloc | apply bn2_ | apply bd2_ | refine below_set ?_ GE399.out | refine below_set ?_ GE407.out) | exact HB.out)) hb); clear BK399; clear BK407; clear HB; have BK399 := n0_; have BK407 := n1_; have HB := n2_; clear n0_ n1_ n2_; (try clear hb); (try clear hb2); (try clear hk); (try clear hi); have hnb82 := NB407_399.out; have hnc82 := NB399_407.out; have hcz83_0 : w81.cell? ⟨gb407, 0, none⟩ = some (.int .u64 t401) := (blk_cell BK407.out 0).trans rfl; have hcz83_1 : w81.cell? ⟨gb407, 1, none⟩ = some (.bool ((rd l0 0) != 0)) := (blk_cell BK407.out 1).trans rfl; have hcz83_2 : w81.cell? ⟨gb407, 2, none⟩ = some (.int .i64 0) := (blk_cell BK407.out 2).trans rfl; have hcz83_3 : w81.cell? ⟨gb407, 3, none⟩ = some (.int .u64 0) := (blk_cell BK407.out 3).trans rfl; have hcz83_4 : w81.cell? ⟨gb407, 4, none⟩ = some (.int .i64 (wrap64 (t404))) := (blk_cell BK407.out 4).trans rfl; have hcz83_5 : w81.cell? ⟨gb407, 5, none⟩ = some (.int .i64 (wrap64 (t406))) := (blk_cell BK407.out 5).trans rfl; have hfz83_0 := blk_frozen BK407.out 0; have hfz83_1 := blk_frozen BK407.out 1; have hfz83_2 := blk_frozen BK407.out 2; have hfz83_3 := blk_frozen BK407.out 3; have hfz83_4 := blk_frozen BK407.out 4; have hfz83_5 := blk_frozen BK407.out 5) | ((with_reducible refine gate_callee (f := 15) rfl ?_); refine goesL_ (some 40) rfl rfl Try.func15 (by kernel_rfl) rfl #[.agg #[.int .u64 t401, .bool ((rd l0 0) != 0), .int .i64 t409, .int .u64 t410, .int .i64 (wrap64 (t404)), .int .i64 (wrap64 (t406))]] rfl (by (try simp only [List.map_toArray, List.map_cons, List.map_nil]); first | done | rfl | (simp only [List.length_drop, List.length_take]; rfl)) ?_; (with_reducible refine (rickyardref02_Write.calls k t401 ((rd l0 0) != 0) t409 t410 (wrap64 (t404)) (wrap64 (t406)) t412 t415 _ A21.out).mono ?_); rintro e w84 ⟨v413, rfl, ho0, hb⟩; refine ⟨_, rfl, ?_⟩; have n0_ := Aside0.mk (Kd.R_lower ho0 (below_size (by repeat (first | (with_reducible first | exact HB.out | apply below_alloc | apply bn2_ | apply bd2_ | refine below_set ?_ GE399.out | refine below_set ?_ GE407.out) | exact HB.out)))); have n1_ := Aside0.mk (blk_below (g := gb399) (o := .cells #[.int .u64 0, .bool false, .int .i64 0, .int .u64 0, .int .i64 0, .int .i64 0] 26 (0, 0)) (by (with_reducible repeat (first | refine blk_drewN ?_ _ | refine blk_drew ?_ | refine blk_alloc ?_ _)); refine blk_far ?_ NB399_407.out _; (with_reducible repeat (first | refine blk_drewN ?_ _ | refine blk_drew ?_ | refine blk_alloc ?_ _)); refine blk_far ?_ NB399_407.out _; (with_reducible repeat (first | refine blk_drewN ?_ _ | refine blk_drew ?_ | refine blk_alloc ?_ _)); exact BK399.out) hb); have n2_ := Aside0.mk (blk_below (g := gb407) (o := .cells #[.int .u64 t401, .bool ((rd l0 0) != 0), .int .i64 t409, .int .u64 t410, .int .i64 (wrap64 (t404)), .int .i64 (wrap64 (t406))] 26 (0, 0)) (by (with_reducible repeat (first | refine blk_drewN ?_ _ | refine blk_drew ?_ | refine blk_alloc ?_ _)); refine blk_put (cs := #[.int .u64 t401, .bool ((rd l0 0) != 0), .int .i64 t409, .int .u64 0, .int .i64 (wrap64 (t404)), .int .i64 (wrap64 (t406))]) ?_ 3 _ rfl; (with_reducible repeat (first | refine blk_drewN ?_ _ | refine blk_drew ?_ | refine blk_alloc ?_ _)); refine blk_put (cs := #[.int .u64 t401, .bool ((rd l0 0) != 0), .int .i64 0, .int .u64 0, .int .i64 (wrap64 (t404)), .int .i64 (wrap64 (t406))]) ?_ 2 _ rfl; (with_reducible repeat (first | refine blk_drewN ?_ _ | refine blk_drew ?_ | refine blk_alloc ?_ _)); exact BK407.out) hb); have n3_ := Aside0.mk (below_step (by repeat (first | (with_reducible first | exact HB.out | apply below_alloc | apply bn2_ | apply bd2_ | refine below_set ?_ GE399.out | refine below_set ?_ GE407.out) | exact HB.out)) hb); clear BK399; clear BK407; clear HB; have HO414 := n0_; have BK399 := n1_; have BK407 := n2_; have HB := n3_; clear n0_ n1_ n2_ n3_; (try clear hb); (try clear hb2); (try clear hk); (try clear hi); (try clear ho0); have hcz85_0 : w84.cell? ⟨gb399, 0, none⟩ = some (.int .u64 0) := (blk_cell BK399.out 0).trans rfl; have hcz85_1 : w84.cell? ⟨gb399, 1, none⟩ = some (.bool false) := (blk_cell BK399.out 1).trans rfl; have hcz85_2 : w84.cell? ⟨gb399, 2, none⟩ = some (.int .i64 0) := (blk_cell BK399.out 2).trans rfl; have hcz85_3 : w84.cell? ⟨gb399, 3, none⟩ = some (.int .u64 0) := (blk_cell BK399.out 3).trans rfl; have hcz85_4 : w84.cell? ⟨gb399, 4, none⟩ = some (.int .i64 0) := (blk_cell BK399.out 4).trans rfl; have hcz85_5 : w84.cell? ⟨gb399, 5, none⟩ = some (.int .i64 0) := (blk_cell BK399.out 5).trans rfl; have hfz85_0 := blk_frozen BK399.out 0; have hfz85_1 := blk_frozen BK399.out 1; have hfz85_2 := blk_frozen BK399.out 2; have hfz85_3 := blk_frozen BK399.out 3; have hfz85_4 := blk_frozen BK399.out 4; have hfz85_5 := blk_frozen BK399.out 5))
             refine bodyPost_ret (results_ct rfl _ _ gb399 26 #[.int .u64 0, .bool false, .int .i64 0, .int .u64 0, .int .i64 0, .int .i64 0] (0, 0) _ rfl (by (with_reducible repeat (first | refine blk_drewN ?_ _ | refine blk_drew ?_ | refine blk_alloc ?_ _)); refine blk_put (cs := #[.int .u64 0, .bool false, .int .i64 0, .int .u64 0, .int .i64 0, .int .i64 0]) ?_ 5 _ rfl; (with_reducible repeat (first | refine blk_drewN ?_ _ | refine blk_drew ?_ | refine blk_alloc ?_ _)); refine blk_put (cs := #[.int .u64 0, .bool false, .int .i64 0, .int .u64 0, .int .i64 0, .int .i64 0]) ?_ 4 _ rfl; (with_reducible repeat (first | refine blk_drewN ?_ _ | refine blk_drew ?_ | refine blk_alloc ?_ _)); refine blk_put (cs := #[.int .u64 0, .bool false, .int .i64 0, .int .u64 0, .int .i64 0, .int .i64 0]) ?_ 3 _ rfl; (with_reducible repeat (first | refine blk_drewN ?_ _ | refine blk_drew ?_ | refine blk_alloc ?_ _)); refine blk_put (cs := #[.int .u64 0, .bool false, .int .i64 0, .int .u64 0, .int .i64 0, .int .i64 0]) ?_ 2 _ rfl; (with_reducible repeat (first | refine blk_drewN ?_ _ | refine blk_drew ?_ | refine blk_alloc ?_ _)); refine blk_put (cs := #[.int .u64 0, .bool false, .int .i64 0, .int .u64 0, .int .i64 0, .int .i64 0]) ?_ 1 _ rfl; (with_reducible repeat (first | refine blk_drewN ?_ _ | refine blk_drew ?_ | refine blk_alloc ?_ _)); refine blk_put (cs := #[.int .u64 0, .bool false, .int .i64 0, .int .u64 0, .int .i64 0, .int .i64 0]) ?_ 0 _ rfl; (with_reducible repeat (first | refine blk_drewN ?_ _ | refine blk_drew ?_ | refine blk_alloc ?_ _)); exact BK399.out) Try.underlying26 rfl (by kernel_rfl)) rfl ?_
             exact ⟨by first | rfl | (simp [errW_none, errW_some] <;> rfl) | (simp [*, errW_none, errW_some] <;> rfl), by repeat (first | (with_reducible first | exact HB.out | apply below_alloc | apply bn2_ | apply bd2_ | refine below_set ?_ GE399.out | refine below_set ?_ GE407.out) | exact HB.out)⟩
           ·rw [if_neg c19] at H
            exact absurd H (by simp)
          ·rw [if_neg c18] at H
           exact absurd H (by simp)
         ·rw [if_neg c16] at H
          exact absurd H (by simp)
        ·rw [if_neg c15] at H
         exact absurd H (by simp)
       ·rw [if_neg c13] at H
        exact absurd H (by simp)
      ·rw [if_neg c12] at H
       exact absurd H (by simp)
     ·rw [if_neg c11] at H
      exact absurd H (by simp)
    ·rw [if_neg c9] at H
     exact absurd H (by simp)
   ·rw [if_neg c8] at H
    exact absurd H (by simp)

end Go.Proofs.Ytflmjiadahknkaa.P
