-- Written by a program of this session out of the translation.
import Derived.Test.YtflmjiadahknkaaPx0
import Derived.Test.YtflmjiadahknkaaPaggRight
import Derived.Test.YtflmjiadahknkaaPaggnumber
import Derived.Test.YtflmjiadahknkaaEWideRead
namespace Go.Proofs.Ytflmjiadahknkaa.P
open Go.RowKit Go.Proofs.YtflmjiadahknkaaW.PrintWords Go.Proofs.YtflmjiadahknkaaW.PrintLast Go.Proofs.YtflmjiadahknkaaW.PrintMore
attribute [local go_sem] max2_int min2_int max_two min_two max_three min_three max_four min_four   -- for this text's walks alone
set_option linter.unusedVariables false
set_option linter.unusedSimpArgs false

theorem sa1_ {α : Type} {l : List α} {i : Nat} {a : α} : l.toArray.setIfInBounds i a = (l.set i a).toArray := List.setIfInBounds_toArray ..
theorem sb1_ {α : Type} {b a : α} {l : List α} : (b :: l).set 0 a = a :: l := List.set_cons_zero
theorem sc1_ {α : Type} {b a : α} {l : List α} {n : Nat} : (b :: l).set (n + 1) a = b :: l.set n a := List.set_cons_succ
theorem bn1_ {B : Nat} {w W : World} (h : Below B w W) (n : Nat) : Below B w (W.drewN n) := pw_below_drewN h n
theorem bd1_ {base : Nat} {w W : World} (h : Below base w W) : Below base w W.drew := below_drew1 h
abbrev T1 : Bool := true
abbrev F1 : Bool := false

/-! ### agg_Read: function 16 -/
def agg_Read.f (k : Nat) (l0 : List Int) : Option (Int × Bool × Int × Int × Int × Int × Int) := if (l0.length : Int) < 41 then (some (0, false, 0, 0, 0, 0, 10)) else (if (l0.length : Int) > 41 then (some (0, false, 0, 0, 0, 0, 2)) else (if 1 ≤ 9 then (if 9 ≤ (l0.length : Int) then ((agg_number.f k ((l0.take 9).drop 1)).bind fun t385 => (if 0 < (l0.length : Int) then (if 25 ≤ 33 then (if 33 ≤ (l0.length : Int) then ((agg_number.f k ((l0.take 33).drop 25)).bind fun t388 => ((agg_number.f k (l0.drop 33)).bind fun t390 => (if 9 ≤ 25 then (if 25 ≤ (l0.length : Int) then ((wide_Read.f ((l0.take 25).drop 9)).bind fun bt393 => (if (rd l0 0) > 1 then (some (0, false, 0, 0, 0, 0, 3)) else ((agg_Right.f t385 ((rd l0 0) == 1) bt393.1 bt393.2.1 (wrap64 (t388)) (wrap64 (t390))).bind fun t397 => (if t397 = true then (some (t385, ((rd l0 0) == 1), bt393.1, bt393.2.1, wrap64 (t388), wrap64 (t390), 0)) else (some (0, false, 0, 0, 0, 0, 3)))))) else (none)) else (none)))) else (none)) else (none)) else (none))) else (none)) else (none)))
theorem agg_Read.mono : ∀ a0 k, LeO (agg_Read.f k a0) (agg_Read.f (k + 1) a0) := by
 intro a0 k
 unfold agg_Read.f
 repeat' first
   | (with_reducible exact agg_number.mono _ _)
   | (with_reducible exact LeO.refl _)
   | (with_reducible exact LeO.none _)
   | (with_reducible refine LeO.ite ?_ ?_)
   | (with_reducible refine LeO.bind ?_ (fun _ => ?_))
   | exact agg_number.mono _ _
   | exact LeO.none _
   | refine LeO.ite ?_ ?_
   | refine LeO.bind ?_ (fun _ => ?_)
def agg_Read.T5 : Bool × List (List Nat × List Nat) := (true, [([], []), ([0], [0]), ([1], [1]), ([], []), ([3], [3]), ([4], [4]), ([5], [5]), ([], []), ([7], [7]), ([8, 2], [8]), ([9], [9]), ([], []), ([11], [11]), ([12, 9], [12]), ([13], [13]), ([2, 6, 10, 14], [2, 6, 10, 14]), ([], []), ([16, 15, 13, 0, 1, 2, 3, 4, 5, 6, 7, 8, 9, 10, 11, 12, 13, 14, 15, 16], [15, 16])])
def agg_Read.B5 : List Nat := [0, 1, 3, 0, 8, 24, 56, 0, 128, 391, 903, 0, 2048, 7047, 15239, 32767, 0, 131071]
theorem agg_Read.tab5 : rtab .any (opsOf Try.f16 5) = agg_Read.T5 := by kernel_rfl
theorem agg_Read.bits5 : waitsOk agg_Read.T5.2 agg_Read.B5 = true := by kernel_rfl
set_option maxHeartbeats 8000000 in
set_option maxRecDepth 100000 in
theorem agg_Read.calls (k : Nat) (A0 : Option Addr) (c0 : Nat) (l0 : List Int) (r1 : Int) (r2 : Bool) (r3 : Int) (r4 : Int) (r5 : Int) (r6 : Int) (r7 : Int) (w : World) (hr0 : Kd.C (Kd.int .u8) w A0 l0.length l0) (hc0 : l0.length ≤ c0) (h : agg_Read.f k l0 = some (r1, r2, r3, r4, r5, r6, r7)) :
  Calls Try.prog 16 #[.slice A0 l0.length c0] w fun e w' => e = .returned (.tuple #[.agg #[.int .u64 r1, .bool r2, .int .i64 r3, .int .u64 r4, .int .i64 r5, .int .i64 r6], .int .i64 r7]) ∧ Below w.heap.size w w' := by
 have hu26 := Try.underlying26
 have hu24 := Try.underlying24
 have HR0 := Aside0.mk hr0
 have HC0 := Aside0.mk hc0
 clear hr0 hc0
 have HB := Aside0.mk (Below.refl w.heap.size w)
 have H : (if (l0.length : Int) < 41 then (some (0, false, 0, 0, 0, 0, 10)) else (if (l0.length : Int) > 41 then (some (0, false, 0, 0, 0, 0, 2)) else (if 1 ≤ 9 then (if 9 ≤ (l0.length : Int) then ((agg_number.f k ((l0.take 9).drop 1)).bind fun t385 => (if 0 < (l0.length : Int) then (if 25 ≤ 33 then (if 33 ≤ (l0.length : Int) then ((agg_number.f k ((l0.take 33).drop 25)).bind fun t388 => ((agg_number.f k (l0.drop 33)).bind fun t390 => (if 9 ≤ 25 then (if 25 ≤ (l0.length : Int) then ((wide_Read.f ((l0.take 25).drop 9)).bind fun bt393 => (if (rd l0 0) > 1 then (some (0, false, 0, 0, 0, 0, 3)) else ((agg_Right.f t385 ((rd l0 0) == 1) bt393.1 bt393.2.1 (wrap64 (t388)) (wrap64 (t390))).bind fun t397 => (if t397 = true then (some (t385, ((rd l0 0) == 1), bt393.1, bt393.2.1, wrap64 (t388), wrap64 (t390), 0)) else (some (0, false, 0, 0, 0, 0, 3)))))) else (none)) else (none)))) else (none)) else (none)) else (none))) else (none)) else (none)))) = some (r1, r2, r3, r4, r5, r6, r7) := h
 clear h
 by_cases c2 : (l0.length : Int) < 41
 ·rw [if_pos c2] at H
  have c2b0 : decide ((l0.length : Int) < 41) = true := decide_eq_true c2
  have c2b1 : decide (l0.length < 41) = true := decide_eq_true (by omega)
  clear c2
  simp only [Option.some.injEq, Prod.mk.injEq] at H
  obtain ⟨rfl, rfl, rfl, rfl, rfl, rfl, rfl⟩ := H
  go_enter Try.func16, Try.ntmps16
  go_wp2_with (first | ((with_reducible refine gate_dst (N := 2) rfl ?_); refine box_event ?hg (N := 2) ?hd (cs := #[.int .u64 0, .bool false, .int .i64 0, .int .u64 0, .int .i64 0, .int .i64 0]) (t := 26) ?hr ?_; (case hd => rfl); (case hg => rfl); (case hr => first | (go_simp; done) | (go_simp; rfl)); intro gb383 hg w3 hbox hb; have n0_ := Aside0.mk (below_step (by repeat (first | (with_reducible first | exact HB.out | apply below_alloc | apply bn1_ | apply bd1_) | exact HB.out)) hb); have n1_ := Aside0.mk (hbox); have n2_ := Aside0.mk ((by rw [hg]; exact (below_size (by repeat (first | (with_reducible first | exact HB.out | apply below_alloc | apply bn1_ | apply bd1_) | exact HB.out))) : w.heap.size ≤ gb383)); have n3_ := Aside0.mk ((by rw [hg]; exact (below_size (by repeat (first | (with_reducible first | exact HB.out | apply below_alloc | apply bn1_ | apply bd1_) | exact HB.out))) : w.heap.size ≤ gb383)); clear HB; have HB := n0_; have BK383 := n1_; have GW383 := n2_; have GE383 := n3_; clear n0_ n1_ n2_ n3_; clear hb hbox hg; have hcz4_0 : w3.cell? ⟨gb383, 0, none⟩ = some (.int .u64 0) := (blk_cell BK383.out 0).trans rfl; have hcz4_1 : w3.cell? ⟨gb383, 1, none⟩ = some (.bool false) := (blk_cell BK383.out 1).trans rfl; have hcz4_2 : w3.cell? ⟨gb383, 2, none⟩ = some (.int .i64 0) := (blk_cell BK383.out 2).trans rfl; have hcz4_3 : w3.cell? ⟨gb383, 3, none⟩ = some (.int .u64 0) := (blk_cell BK383.out 3).trans rfl; have hcz4_4 : w3.cell? ⟨gb383, 4, none⟩ = some (.int .i64 0) := (blk_cell BK383.out 4).trans rfl; have hcz4_5 : w3.cell? ⟨gb383, 5, none⟩ = some (.int .i64 0) := (blk_cell BK383.out 5).trans rfl; have hfz4_0 := blk_frozen BK383.out 0; have hfz4_1 := blk_frozen BK383.out 1; have hfz4_2 := blk_frozen BK383.out 2; have hfz4_3 := blk_frozen BK383.out 3; have hfz4_4 := blk_frozen BK383.out 4; have hfz4_5 := blk_frozen BK383.out 5))
  refine bodyPost_ret (results_ct rfl _ _ gb383 26 #[.int .u64 0, .bool false, .int .i64 0, .int .u64 0, .int .i64 0, .int .i64 0] (0, 0) _ rfl (by (with_reducible repeat (first | refine blk_drewN ?_ _ | refine blk_drew ?_ | refine blk_alloc ?_ _)); refine blk_put (cs := #[.int .u64 0, .bool false, .int .i64 0, .int .u64 0, .int .i64 0, .int .i64 0]) ?_ 5 _ rfl; (with_reducible repeat (first | refine blk_drewN ?_ _ | refine blk_drew ?_ | refine blk_alloc ?_ _)); refine blk_put (cs := #[.int .u64 0, .bool false, .int .i64 0, .int .u64 0, .int .i64 0, .int .i64 0]) ?_ 4 _ rfl; (with_reducible repeat (first | refine blk_drewN ?_ _ | refine blk_drew ?_ | refine blk_alloc ?_ _)); refine blk_put (cs := #[.int .u64 0, .bool false, .int .i64 0, .int .u64 0, .int .i64 0, .int .i64 0]) ?_ 3 _ rfl; (with_reducible repeat (first | refine blk_drewN ?_ _ | refine blk_drew ?_ | refine blk_alloc ?_ _)); refine blk_put (cs := #[.int .u64 0, .bool false, .int .i64 0, .int .u64 0, .int .i64 0, .int .i64 0]) ?_ 2 _ rfl; (with_reducible repeat (first | refine blk_drewN ?_ _ | refine blk_drew ?_ | refine blk_alloc ?_ _)); refine blk_put (cs := #[.int .u64 0, .bool false, .int .i64 0, .int .u64 0, .int .i64 0, .int .i64 0]) ?_ 1 _ rfl; (with_reducible repeat (first | refine blk_drewN ?_ _ | refine blk_drew ?_ | refine blk_alloc ?_ _)); refine blk_put (cs := #[.int .u64 0, .bool false, .int .i64 0, .int .u64 0, .int .i64 0, .int .i64 0]) ?_ 0 _ rfl; (with_reducible repeat (first | refine blk_drewN ?_ _ | refine blk_drew ?_ | refine blk_alloc ?_ _)); exact BK383.out) Try.underlying26 rfl (by kernel_rfl)) rfl ?_
  exact ⟨by first | rfl | (simp [errW_none, errW_some] <;> rfl) | (simp [*, errW_none, errW_some] <;> rfl), by repeat (first | (with_reducible first | exact HB.out | apply below_alloc | apply bn1_ | apply bd1_ | refine below_set ?_ GE383.out) | exact HB.out)⟩
 ·rw [if_neg c2] at H
  have c2b0 : decide ((l0.length : Int) < 41) = false := decide_eq_false c2
  have c2b1 : decide (l0.length < 41) = false := decide_eq_false (by omega)
  clear c2
  by_cases c5 : (l0.length : Int) > 41
  ·rw [if_pos c5] at H
   have c5b0 : decide (41 < (l0.length : Int)) = true := decide_eq_true c5
   have c5b1 : decide (41 < l0.length) = true := decide_eq_true (by omega)
   clear c5
   simp only [Option.some.injEq, Prod.mk.injEq] at H
   obtain ⟨rfl, rfl, rfl, rfl, rfl, rfl, rfl⟩ := H
   go_enter Try.func16, Try.ntmps16
   go_wp2_with (first | ((with_reducible refine gate_dst (N := 2) rfl ?_); refine box_event ?hg (N := 2) ?hd (cs := #[.int .u64 0, .bool false, .int .i64 0, .int .u64 0, .int .i64 0, .int .i64 0]) (t := 26) ?hr ?_; (case hd => rfl); (case hg => rfl); (case hr => first | (go_simp; done) | (go_simp; rfl)); intro gb383 hg w6 hbox hb; have n0_ := Aside0.mk (below_step (by repeat (first | (with_reducible first | exact HB.out | apply below_alloc | apply bn1_ | apply bd1_) | exact HB.out)) hb); have n1_ := Aside0.mk (hbox); have n2_ := Aside0.mk ((by rw [hg]; exact (below_size (by repeat (first | (with_reducible first | exact HB.out | apply below_alloc | apply bn1_ | apply bd1_) | exact HB.out))) : w.heap.size ≤ gb383)); have n3_ := Aside0.mk ((by rw [hg]; exact (below_size (by repeat (first | (with_reducible first | exact HB.out | apply below_alloc | apply bn1_ | apply bd1_) | exact HB.out))) : w.heap.size ≤ gb383)); clear HB; have HB := n0_; have BK383 := n1_; have GW383 := n2_; have GE383 := n3_; clear n0_ n1_ n2_ n3_; clear hb hbox hg; have hcz7_0 : w6.cell? ⟨gb383, 0, none⟩ = some (.int .u64 0) := (blk_cell BK383.out 0).trans rfl; have hcz7_1 : w6.cell? ⟨gb383, 1, none⟩ = some (.bool false) := (blk_cell BK383.out 1).trans rfl; have hcz7_2 : w6.cell? ⟨gb383, 2, none⟩ = some (.int .i64 0) := (blk_cell BK383.out 2).trans rfl; have hcz7_3 : w6.cell? ⟨gb383, 3, none⟩ = some (.int .u64 0) := (blk_cell BK383.out 3).trans rfl; have hcz7_4 : w6.cell? ⟨gb383, 4, none⟩ = some (.int .i64 0) := (blk_cell BK383.out 4).trans rfl; have hcz7_5 : w6.cell? ⟨gb383, 5, none⟩ = some (.int .i64 0) := (blk_cell BK383.out 5).trans rfl; have hfz7_0 := blk_frozen BK383.out 0; have hfz7_1 := blk_frozen BK383.out 1; have hfz7_2 := blk_frozen BK383.out 2; have hfz7_3 := blk_frozen BK383.out 3; have hfz7_4 := blk_frozen BK383.out 4; have hfz7_5 := blk_frozen BK383.out 5))
   refine bodyPost_ret (results_ct rfl _ _ gb383 26 #[.int .u64 0, .bool false, .int .i64 0, .int .u64 0, .int .i64 0, .int .i64 0] (0, 0) _ rfl (by (with_reducible repeat (first | refine blk_drewN ?_ _ | refine blk_drew ?_ | refine blk_alloc ?_ _)); refine blk_put (cs := #[.int .u64 0, .bool false, .int .i64 0, .int .u64 0, .int .i64 0, .int .i64 0]) ?_ 5 _ rfl; (with_reducible repeat (first | refine blk_drewN ?_ _ | refine blk_drew ?_ | refine blk_alloc ?_ _)); refine blk_put (cs := #[.int .u64 0, .bool false, .int .i64 0, .int .u64 0, .int .i64 0, .int .i64 0]) ?_ 4 _ rfl; (with_reducible repeat (first | refine blk_drewN ?_ _ | refine blk_drew ?_ | refine blk_alloc ?_ _)); refine blk_put (cs := #[.int .u64 0, .bool false, .int .i64 0, .int .u64 0, .int .i64 0, .int .i64 0]) ?_ 3 _ rfl; (with_reducible repeat (first | refine blk_drewN ?_ _ | refine blk_drew ?_ | refine blk_alloc ?_ _)); refine blk_put (cs := #[.int .u64 0, .bool false, .int .i64 0, .int .u64 0, .int .i64 0, .int .i64 0]) ?_ 2 _ rfl; (with_reducible repeat (first | refine blk_drewN ?_ _ | refine blk_drew ?_ | refine blk_alloc ?_ _)); refine blk_put (cs := #[.int .u64 0, .bool false, .int .i64 0, .int .u64 0, .int .i64 0, .int .i64 0]) ?_ 1 _ rfl; (with_reducible repeat (first | refine blk_drewN ?_ _ | refine blk_drew ?_ | refine blk_alloc ?_ _)); refine blk_put (cs := #[.int .u64 0, .bool false, .int .i64 0, .int .u64 0, .int .i64 0, .int .i64 0]) ?_ 0 _ rfl; (with_reducible repeat (first | refine blk_drewN ?_ _ | refine blk_drew ?_ | refine blk_alloc ?_ _)); exact BK383.out) Try.underlying26 rfl (by kernel_rfl)) rfl ?_
   exact ⟨by first | rfl | (simp [errW_none, errW_some] <;> rfl) | (simp [*, errW_none, errW_some] <;> rfl), by repeat (first | (with_reducible first | exact HB.out | apply below_alloc | apply bn1_ | apply bd1_ | refine below_set ?_ GE383.out) | exact HB.out)⟩
  ·rw [if_neg c5] at H
   have c5b0 : decide (41 < (l0.length : Int)) = false := decide_eq_false c5
   have c5b1 : decide (41 < l0.length) = false := decide_eq_false (by omega)
   clear c5
   by_cases c8 : 1 ≤ 9
   ·rw [if_pos c8] at H
    have c8b0 := eq_true c8
    have c8b1 : decide (1 ≤ 9) = true := decide_eq_true c8
    clear c8
    by_cases c9 : 9 ≤ (l0.length : Int)
    ·rw [if_pos c9] at H
     have c9b0 := eq_true c9
     have c9b1 : decide (9 ≤ (l0.length : Int)) = true := decide_eq_true c9
     clear c9
     replace H := Option.bind_eq_some_iff.mp H
     obtain ⟨t385, A100, H⟩ := H
     replace H : (if 0 < (l0.length : Int) then (if 25 ≤ 33 then (if 33 ≤ (l0.length : Int) then ((agg_number.f k ((l0.take 33).drop 25)).bind fun t388 => ((agg_number.f k (l0.drop 33)).bind fun t390 => (if 9 ≤ 25 then (if 25 ≤ (l0.length : Int) then ((wide_Read.f ((l0.take 25).drop 9)).bind fun bt393 => (if (rd l0 0) > 1 then (some (0, false, 0, 0, 0, 0, 3)) else ((agg_Right.f t385 ((rd l0 0) == 1) bt393.1 bt393.2.1 (wrap64 (t388)) (wrap64 (t390))).bind fun t397 => (if t397 = true then (some (t385, ((rd l0 0) == 1), bt393.1, bt393.2.1, wrap64 (t388), wrap64 (t390), 0)) else (some (0, false, 0, 0, 0, 0, 3)))))) else (none)) else (none)))) else (none)) else (none)) else (none)) = some (r1, r2, r3, r4, r5, r6, r7) := H
     have A10 := Aside0.mk A100
     clear A100
     by_cases c11 : 0 < (l0.length : Int)
     ·rw [if_pos c11] at H
      have c11b0 : decide (0 < (l0.length : Int)) = true := decide_eq_true c11
      have c11b1 : decide (0 < l0.length) = true := decide_eq_true (by omega)
      clear c11
      by_cases c12 : 25 ≤ 33
      ·rw [if_pos c12] at H
       have c12b0 := eq_true c12
       have c12b1 : decide (25 ≤ 33) = true := decide_eq_true c12
       clear c12
       by_cases c13 : 33 ≤ (l0.length : Int)
       ·rw [if_pos c13] at H
        have c13b0 := eq_true c13
        have c13b1 : decide (33 ≤ (l0.length : Int)) = true := decide_eq_true c13
        clear c13
        replace H := Option.bind_eq_some_iff.mp H
        obtain ⟨t388, A140, H⟩ := H
        replace H : ((agg_number.f k (l0.drop 33)).bind fun t390 => (if 9 ≤ 25 then (if 25 ≤ (l0.length : Int) then ((wide_Read.f ((l0.take 25).drop 9)).bind fun bt393 => (if (rd l0 0) > 1 then (some (0, false, 0, 0, 0, 0, 3)) else ((agg_Right.f t385 ((rd l0 0) == 1) bt393.1 bt393.2.1 (wrap64 (t388)) (wrap64 (t390))).bind fun t397 => (if t397 = true then (some (t385, ((rd l0 0) == 1), bt393.1, bt393.2.1, wrap64 (t388), wrap64 (t390), 0)) else (some (0, false, 0, 0, 0, 0, 3)))))) else (none)) else (none))) = some (r1, r2, r3, r4, r5, r6, r7) := H
        have A14 := Aside0.mk A140
        clear A140
        have c15b0 := eq_true (of_decide_eq_true (by first | (with_reducible assumption) | assumption) : 33 ≤ (l0.length : Int))
        replace H := Option.bind_eq_some_iff.mp H
        obtain ⟨t390, A160, H⟩ := H
        replace H : (if 9 ≤ 25 then (if 25 ≤ (l0.length : Int) then ((wide_Read.f ((l0.take 25).drop 9)).bind fun bt393 => (if (rd l0 0) > 1 then (some (0, false, 0, 0, 0, 0, 3)) else ((agg_Right.f t385 ((rd l0 0) == 1) bt393.1 bt393.2.1 (wrap64 (t388)) (wrap64 (t390))).bind fun t397 => (if t397 = true then (some (t385, ((rd l0 0) == 1), bt393.1, bt393.2.1, wrap64 (t388), wrap64 (t390), 0)) else (some (0, false, 0, 0, 0, 0, 3)))))) else (none)) else (none)) = some (r1, r2, r3, r4, r5, r6, r7) := H
        have A16 := Aside0.mk A160
        clear A160
        by_cases c17 : 9 ≤ 25
        ·rw [if_pos c17] at H
         have c17b0 := eq_true c17
         have c17b1 : decide (9 ≤ 25) = true := decide_eq_true c17
         clear c17
         by_cases c18 : 25 ≤ (l0.length : Int)
         ·rw [if_pos c18] at H
          have c18b0 := eq_true c18
          have c18b1 : decide (25 ≤ (l0.length : Int)) = true := decide_eq_true c18
          clear c18
          replace H := Option.bind_eq_some_iff.mp H
          obtain ⟨⟨t393, t394, t395⟩, A190, H⟩ := H
          replace H : (if (rd l0 0) > 1 then (some (0, false, 0, 0, 0, 0, 3)) else ((agg_Right.f t385 ((rd l0 0) == 1) t393 t394 (wrap64 (t388)) (wrap64 (t390))).bind fun t397 => (if t397 = true then (some (t385, ((rd l0 0) == 1), t393, t394, wrap64 (t388), wrap64 (t390), 0)) else (some (0, false, 0, 0, 0, 0, 3))))) = some (r1, r2, r3, r4, r5, r6, r7) := H
          have A19 := Aside0.mk A190
          clear A190
          by_cases c20 : (rd l0 0) > 1
          ·rw [if_pos c20] at H
           have c20b0 : decide (1 < (rd l0 0)) = true := decide_eq_true c20
           clear c20
           simp only [Option.some.injEq, Prod.mk.injEq] at H
           obtain ⟨rfl, rfl, rfl, rfl, rfl, rfl, rfl⟩ := H
           go_enter Try.func16, Try.ntmps16
           try go_wp2_with (first | ((with_reducible refine gate_dst (N := 2) rfl ?_); refine box_event ?hg (N := 2) ?hd (cs := #[.int .u64 0, .bool false, .int .i64 0, .int .u64 0, .int .i64 0, .int .i64 0]) (t := 26) ?hr ?_; (case hd => rfl); (case hg => rfl); (case hr => first | (go_simp; done) | (go_simp; rfl)); intro gb383 hg w21 hbox hb; have n0_ := Aside0.mk (below_step (by repeat (first | (with_reducible first | exact HB.out | apply below_alloc | apply bn1_ | apply bd1_) | exact HB.out)) hb); have n1_ := Aside0.mk (hbox); have n2_ := Aside0.mk ((by rw [hg]; exact (below_size (by repeat (first | (with_reducible first | exact HB.out | apply below_alloc | apply bn1_ | apply bd1_) | exact HB.out))) : w.heap.size ≤ gb383)); have n3_ := Aside0.mk ((by rw [hg]; exact (below_size (by repeat (first | (with_reducible first | exact HB.out | apply below_alloc | apply bn1_ | apply bd1_) | exact HB.out))) : w.heap.size ≤ gb383)); clear HB; have HB := n0_; have BK383 := n1_; have GW383 := n2_; have GE383 := n3_; clear n0_ n1_ n2_ n3_; clear hb hbox hg))
           have n0_ := Aside0.mk (blk_drew BK383.out)
           have n1_ := Aside0.mk (below_drew1 HB.out)
           clear BK383 HB
           have BK383 := n0_
           have HB := n1_
           clear n0_ n1_
           obtain ⟨i023, hi023, _, hsz23, _⟩ := info_parts info5
           obtain ⟨A23, hcut23, hA23, hC23⟩ := print_mid_of (P := Try.prog) (Value.int .u8) 0 36 5 .i64 .i64 Try.underlying36 hi023 hsz23 A0 c0 l0 1 9 (by omega) (by first | omega | exact of_decide_eq_true (by first | (with_reducible assumption) | assumption)) (of_decide_eq_true (by first | (with_reducible assumption) | assumption)) HC0.out
           have HR384 := Aside0.mk (Kd.C_of_reads (h1 := fun _ => rfl) (hA23 _ (Kd.reads_of_C HR0.out)))
           have HC384 := Aside0.mk hC23
           clear hA23 hC23 hi023 hsz23
           have p386 : 0 ≤ (0 : Int) := (by omega)
           have q386 : 0 < (l0.length : Int) := of_decide_eq_true (by first | (with_reducible assumption) | assumption)
           obtain ⟨ad386, e386, hx386_0⟩ := Kd.at_int HR0.out 0 p386 q386
           have hw386_0 := hx386_0
           (try rw [show ((0 : Int)).toNat = 0 from rfl] at hw386_0)
           (try rw [show 0 * 1 = 0 from rfl] at hw386_0)
           (try rw [Addr.add_zero'] at hw386_0)
           cases e386
           have qi386 : (0 < l0.length) = True := eq_true (by omega)
           (try rw [show ((0 : Int)).toNat = 0 from rfl] at hx386_0)
           (try rw [Addr.add_zero'] at hx386_0)
           replace hx386_0 := (HB.out.cell (World.block_lt_of_cell? w _ hx386_0)).trans hx386_0
           replace p386 := eq_true p386
           replace q386 := eq_true q386
           obtain ⟨i024, hi024, _, hsz24, _⟩ := info_parts info5
           obtain ⟨A24, hcut24, hA24, hC24⟩ := print_mid_of (P := Try.prog) (Value.int .u8) 0 36 5 .i64 .i64 Try.underlying36 hi024 hsz24 (some ad386) c0 l0 25 33 (by omega) (by first | omega | exact of_decide_eq_true (by first | (with_reducible assumption) | assumption)) (of_decide_eq_true (by first | (with_reducible assumption) | assumption)) HC0.out
           have HR387 := Aside0.mk (Kd.C_of_reads (h1 := fun _ => rfl) (hA24 _ (Kd.reads_of_C HR0.out)))
           have HC387 := Aside0.mk hC24
           clear hA24 hC24 hi024 hsz24
           obtain ⟨i025, hi025, _, hsz25, _⟩ := info_parts info5
           obtain ⟨A25, hcut25, hA25, hC25⟩ := print_drop_of (P := Try.prog) (Value.int .u8) 0 36 5 .i64 Try.underlying36 hi025 hsz25 (some ad386) c0 l0 33 (by omega) (of_decide_eq_true (by first | (with_reducible assumption) | assumption)) HC0.out
           have HR389 := Aside0.mk (Kd.C_of_reads (h1 := fun _ => rfl) (hA25 _ (Kd.reads_of_C HR0.out)))
           have HC389 := Aside0.mk hC25
           clear hA25 hC25 hi025 hsz25
           refine start_ (n := 18) (S := fun w' => w'.cell? ad386 = some (.int .u8 (rd l0 0))) (ds := []) #[F1,F1,F1,F1,F1,F1,F1,F1,F1,F1,F1,F1,F1,F1,F1,F1,F1,F1] (by kernel_rfl) rfl rfl (((HB.out.cell (World.block_lt_of_cell? w _ hw386_0)).trans hw386_0)) (fun hHeld => ?_); refine with_tabW agg_Read.tab5 agg_Read.bits5 (fun HT_ HW_ => ?_)
           generalize w21.drew = w22 at BK383 HB HR384 HR387 HR389 hx386_0 hHeld ⊢
           refine pure_ (i := 0) (N := some 15) (v := ?_) (a' := ?_) #[T1,F1,F1,F1,F1,F1,F1,F1,F1,F1,F1,F1,F1,F1,F1,F1,F1,F1] rfl rfl (any_of HT_.out (by kernel_rfl)) (fun _ _ _ h => h) (Or.inl ⟨by rfl, ?_⟩) ?_ ?_
           rotate_left
           ·intro w'
            go_simp
            with_reducible rfl
           rotate_left
           ·simp only [Act.put, sa1_, sb1_, sc1_, i64_w, i32_w]
            rfl
           refine pure_ (i := 1) (N := some 16) (v := ?_) (a' := ?_) #[T1,T1,F1,F1,F1,F1,F1,F1,F1,F1,F1,F1,F1,F1,F1,F1,F1,F1] rfl rfl (any_of HT_.out (by kernel_rfl)) (fun _ _ _ h => h) (Or.inl ⟨by rfl, ?_⟩) ?_ ?_
           rotate_left
           ·intro w'
            go_simp
            with_reducible rfl
           rotate_left
           ·simp only [Act.put, sa1_, sb1_, sc1_, i64_w, i32_w]
            rfl
           refine pure_ (i := 3) (N := some 18) (v := ?_) (a' := ?_) #[T1,T1,F1,T1,F1,F1,F1,F1,F1,F1,F1,F1,F1,F1,F1,F1,F1,F1] rfl rfl (any_of HT_.out (by kernel_rfl)) (fun _ _ _ h => h) (Or.inl ⟨by rfl, ?_⟩) ?_ ?_
           rotate_left
           ·intro w'
            go_simp
            with_reducible rfl
           rotate_left
           ·simp only [Act.put, sa1_, sb1_, sc1_, i64_w, i32_w]
            rfl
           refine pure_ (i := 4) (N := some 19) (v := ?_) (a' := ?_) #[T1,T1,F1,T1,T1,F1,F1,F1,F1,F1,F1,F1,F1,F1,F1,F1,F1,F1] rfl rfl (any_of HT_.out (by kernel_rfl)) (fun _ _ _ h => h) (Or.inl ⟨by rfl, ?_⟩) ?_ ?_
           rotate_left
           ·intro w'
            go_simp
            with_reducible rfl
           rotate_left
           ·simp only [Act.put, sa1_, sb1_, sc1_, i64_w, i32_w]
            rfl
           refine pure_ (i := 7) (N := some 22) (v := ?_) (a' := ?_) #[T1,T1,F1,T1,T1,F1,F1,T1,F1,F1,F1,F1,F1,F1,F1,F1,F1,F1] rfl rfl (any_of HT_.out (by kernel_rfl)) (fun _ _ _ h => h) (Or.inl ⟨by rfl, ?_⟩) ?_ ?_
           rotate_left
           ·intro w'
            go_simp
            with_reducible rfl
           rotate_left
           ·simp only [Act.put, sa1_, sb1_, sc1_, i64_w, i32_w]
            rfl
           refine pure_ (i := 8) (N := some 23) (v := ?_) (a' := ?_) #[T1,T1,F1,T1,T1,F1,F1,T1,T1,F1,F1,F1,F1,F1,F1,F1,F1,F1] rfl rfl (any_of HT_.out (by kernel_rfl)) (fun _ _ _ h => h) (Or.inl ⟨by rfl, ?_⟩) ?_ ?_
           rotate_left
           ·intro w'
            go_simp
            with_reducible rfl
           rotate_left
           ·simp only [Act.put, sa1_, sb1_, sc1_, i64_w, i32_w]
            rfl
           refine pure_ (i := 11) (N := some 26) (v := ?_) (a' := ?_) #[T1,T1,F1,T1,T1,F1,F1,T1,T1,F1,F1,T1,F1,F1,F1,F1,F1,F1] rfl rfl (any_of HT_.out (by kernel_rfl)) (fun _ _ _ h => h) (Or.inl ⟨by rfl, ?_⟩) ?_ ?_
           rotate_left
           ·intro w'
            go_simp
            with_reducible rfl
           rotate_left
           ·simp only [Act.put, sa1_, sb1_, sc1_, i64_w, i32_w]
            rfl
           refine pure_ (i := 12) (N := some 27) (v := ?_) (a' := ?_) #[T1,T1,F1,T1,T1,F1,F1,T1,T1,F1,F1,T1,T1,F1,F1,F1,F1,F1] rfl rfl (any_of HT_.out (by kernel_rfl)) (fun _ _ _ h => h) (Or.inl ⟨by rfl, ?_⟩) ?_ ?_
           rotate_left
           ·intro w'
            go_simp
            with_reducible rfl
           rotate_left
           ·simp only [Act.put, sa1_, sb1_, sc1_, i64_w, i32_w]
            rfl
           refine take_ (i := 5) (N := some 20) (v := ?_) (a' := ?_) #[T1,T1,F1,T1,T1,T1,F1,T1,T1,F1,F1,T1,T1,F1,F1,F1,F1,F1] rfl rfl (take_ofW HT_.out HW_.out (by kernel_rfl)) (fun _ _ _ h => h) (Or.inl ⟨by rfl, ?_⟩) hHeld ?_ ?_
           rotate_left
           ·intro w' s0
            go_simp
            with_reducible rfl
           rotate_left
           ·simp only [Act.put, sa1_, sb1_, sc1_, i64_w, i32_w]
            rfl
           refine pure_ (i := 6) (N := some 21) (v := ?_) (a' := ?_) #[T1,T1,F1,T1,T1,T1,T1,T1,T1,F1,F1,T1,T1,F1,F1,F1,F1,F1] rfl rfl (any_of HT_.out (by kernel_rfl)) (fun _ _ _ h => h) (Or.inl ⟨by rfl, ?_⟩) ?_ ?_
           rotate_left
           ·intro w'
            go_simp
            with_reducible rfl
           rotate_left
           ·simp only [Act.put, sa1_, sb1_, sc1_, i64_w, i32_w]
            rfl
           refine join_ (σ := Nat) 1 #[T1,T1,T1,T1,T1,T1,T1,T1,T1,T1,T1,T1,T1,T1,T1,T1,T1,F1] (fun s_ => [(17, .int .u64 t385), (24, .int .u64 t388), (28, .int .u64 t390), (4, .pointer (some ⟨s_, 0, none⟩)), (25, .int .i64 (wrap64 (t388))), (29, .int .i64 (wrap64 (t390))), (30, .agg #[.int .u64 t385, .bool ((rd l0 0) == 1), .int .i64 0, .int .u64 0, .int .i64 (wrap64 (t388)), .int .i64 (wrap64 (t390))])]) (fun s_ w' => (w'.cell? ad386 = some (.int .u8 (rd l0 0))) ∧ (w'.heap[gb383]? = some (.cells #[.int .u64 0, .bool false, .int .i64 0, .int .u64 0, .int .i64 0, .int .i64 0] 26 (0, 0))) ∧ (w'.heap[s_]? = some (.cells #[.int .u64 0, .bool false, .int .i64 0, .int .u64 0, .int .i64 0, .int .i64 0] 26 (0, 0))) ∧ (w.heap.size ≤ s_) ∧ (w.heap.size ≤ s_) ∧ (gb383 ≠ s_) ∧ (s_ ≠ gb383) ∧ (Below w.heap.size w w')) ?_ ?_
           rotate_left
           ·intro hCont
            refine two_ (i := 2) (j := 16) (Ni := some 17) (Nj := some 4) #[T1,T1,T1,T1,T1,T1,T1,T1,T1,F1,F1,T1,T1,F1,F1,F1,F1,F1] #[T1,T1,F1,T1,T1,T1,T1,T1,T1,F1,F1,T1,T1,F1,F1,F1,T1,F1] rfl rfl rfl rfl (two_of HT_.out (by kernel_rfl)) (by decide) (by decide) (fun K hK => ?_) (fun K hK => ?_)
            ·skip
             refine goes_ Try.func30 (by kernel_rfl) rfl #[.slice A23 ((l0.take 9).drop 1).length (c0 - 1)] (by rfl) rfl rfl (by (try simp only [List.map_toArray, List.map_cons, List.map_nil]); first | done | (rw [show ((l0.take 9).drop 1).length = (9 - 1) from (by rw [List.length_drop, List.length_take]; have h_ : (9 : Int) ≤ (l0.length : Int) := of_decide_eq_true (by first | (with_reducible assumption) | assumption); omega)] <;> rfl) | rfl | (simp only [List.length_drop, List.length_take]; rfl)) ?_
             with_reducible refine (agg_number.calls k _ _ ((l0.take 9).drop 1) t385 _ ?side1 ?side2 A10.out).mono ?_
             (case side1 => repeat (first | exact (Kd.C_below HR384.out HB.out) | (with_reducible refine Kd.C_alloc ?_ _) | (with_reducible refine Kd.C_drewN ?_ _) | (with_reducible refine Kd.C_drew ?_)))
             (case side2 => exact HC384.out)
             rintro e w' ⟨rfl, ⟨nd, rfl⟩⟩
             refine ⟨_, rfl, ?_⟩
             refine hK.out _ _ (((HB.out.cell (World.block_lt_of_cell? w _ hw386_0)).trans hw386_0)) (fun hHeld => ?_)
             clear hK K
             refine norm_ (a' := ?_) ?_ ?_
             rotate_left
             ·show Act.put _ (some 17) _ = _
              simp only [Act.put, sa1_, sb1_, sc1_, i64_w, i32_w]
              rfl
             refine two_ (i := 9) (j := 16) (Ni := some 24) (Nj := some 4) #[T1,T1,T1,T1,T1,T1,T1,T1,T1,T1,F1,T1,T1,F1,F1,F1,F1,F1] #[T1,T1,T1,T1,T1,T1,T1,T1,T1,F1,F1,T1,T1,F1,F1,F1,T1,F1] rfl rfl rfl rfl (two_of HT_.out (by kernel_rfl)) (by decide) (by decide) (fun K hK => ?_) (fun K hK => ?_)
             ·skip
              refine goes_ Try.func30 (by kernel_rfl) rfl #[.slice A24 ((l0.take 33).drop 25).length (c0 - 25)] (by rfl) rfl rfl (by (try simp only [List.map_toArray, List.map_cons, List.map_nil]); first | done | (rw [show ((l0.take 33).drop 25).length = (33 - 25) from (by rw [List.length_drop, List.length_take]; have h_ : (33 : Int) ≤ (l0.length : Int) := of_decide_eq_true (by first | (with_reducible assumption) | assumption); omega)] <;> rfl) | rfl | (simp only [List.length_drop, List.length_take]; rfl)) ?_
              with_reducible refine (agg_number.calls k _ _ ((l0.take 33).drop 25) t388 _ ?side1 ?side2 A14.out).mono ?_
              (case side1 => repeat (first | exact (Kd.C_below HR387.out (by repeat (first | (with_reducible first | exact HB.out | apply below_alloc | apply bn1_ | apply bd1_ | refine below_set ?_ GE383.out) | exact HB.out))) | (with_reducible refine Kd.C_alloc ?_ _) | (with_reducible refine Kd.C_drewN ?_ _) | (with_reducible refine Kd.C_drew ?_)))
              (case side2 => exact HC387.out)
              rintro e w' ⟨rfl, ⟨nd, rfl⟩⟩
              refine ⟨_, rfl, ?_⟩
              refine hK.out _ _ (((HB.out.cell (World.block_lt_of_cell? w _ hw386_0)).trans hw386_0)) (fun hHeld => ?_)
              clear hK K
              refine norm_ (a' := ?_) ?_ ?_
              rotate_left
              ·show Act.put _ (some 24) _ = _
               simp only [Act.put, sa1_, sb1_, sc1_, i64_w, i32_w]
               rfl
              refine pure_ (i := 10) (N := some 25) (v := ?_) (a' := ?_) #[T1,T1,T1,T1,T1,T1,T1,T1,T1,T1,T1,T1,T1,F1,F1,F1,F1,F1] rfl rfl (any_of HT_.out (by kernel_rfl)) (fun _ _ _ h => h) (Or.inl ⟨by rfl, ?_⟩) ?_ ?_
              rotate_left
              ·intro w'
               go_simp
               with_reducible rfl
              rotate_left
              ·simp only [Act.put, sa1_, sb1_, sc1_, i64_w, i32_w]
               rfl
              refine two_ (i := 13) (j := 16) (Ni := some 28) (Nj := some 4) #[T1,T1,T1,T1,T1,T1,T1,T1,T1,T1,T1,T1,T1,T1,F1,F1,F1,F1] #[T1,T1,T1,T1,T1,T1,T1,T1,T1,T1,T1,T1,T1,F1,F1,F1,T1,F1] rfl rfl rfl rfl (two_of HT_.out (by kernel_rfl)) (by decide) (by decide) (fun K hK => ?_) (fun K hK => ?_)
              ·skip
               refine goes_ Try.func30 (by kernel_rfl) rfl #[.slice A25 (l0.drop 33).length (c0 - 33)] (by rfl) rfl rfl (by (try simp only [List.map_toArray, List.map_cons, List.map_nil]); first | done | (rw [show (l0.drop 33).length = (l0.length - 33) from List.length_drop] <;> rfl) | rfl | (simp only [List.length_drop, List.length_take]; rfl)) ?_
               with_reducible refine (agg_number.calls k _ _ (l0.drop 33) t390 _ ?side1 ?side2 A16.out).mono ?_
               (case side1 => repeat (first | exact (Kd.C_below HR389.out (by repeat (first | (with_reducible first | exact HB.out | apply below_alloc | apply bn1_ | apply bd1_ | refine below_set ?_ GE383.out) | exact HB.out))) | (with_reducible refine Kd.C_alloc ?_ _) | (with_reducible refine Kd.C_drewN ?_ _) | (with_reducible refine Kd.C_drew ?_)))
               (case side2 => exact HC389.out)
               rintro e w' ⟨rfl, ⟨nd, rfl⟩⟩
               refine ⟨_, rfl, ?_⟩
               refine hK.out _ _ (((HB.out.cell (World.block_lt_of_cell? w _ hw386_0)).trans hw386_0)) (fun hHeld => ?_)
               clear hK K
               refine norm_ (a' := ?_) ?_ ?_
               rotate_left
               ·show Act.put _ (some 28) _ = _
                simp only [Act.put, sa1_, sb1_, sc1_, i64_w, i32_w]
                rfl
               refine pure_ (i := 14) (N := some 29) (v := ?_) (a' := ?_) #[T1,T1,T1,T1,T1,T1,T1,T1,T1,T1,T1,T1,T1,T1,T1,F1,F1,F1] rfl rfl (any_of HT_.out (by kernel_rfl)) (fun _ _ _ h => h) (Or.inl ⟨by rfl, ?_⟩) ?_ ?_
               rotate_left
               ·intro w'
                go_simp
                with_reducible rfl
               rotate_left
               ·simp only [Act.put, sa1_, sb1_, sc1_, i64_w, i32_w]
                rfl
               refine pure_ (i := 15) (N := some 30) (v := ?_) (a' := ?_) #[T1,T1,T1,T1,T1,T1,T1,T1,T1,T1,T1,T1,T1,T1,T1,T1,F1,F1] rfl rfl (any_of HT_.out (by kernel_rfl)) (fun _ _ _ h => h) (Or.inl ⟨by rfl, ?_⟩) ?_ ?_
               rotate_left
               ·intro w'
                go_simp
                with_reducible rfl
               rotate_left
               ·simp only [Act.put, sa1_, sb1_, sc1_, i64_w, i32_w]
                rfl
               refine one_ (i := 16) (N := some 4) #[T1,T1,T1,T1,T1,T1,T1,T1,T1,T1,T1,T1,T1,T1,T1,T1,T1,F1] rfl rfl (one_of HT_.out (by kernel_rfl)) (by decide) (fun K hK => ?_)
               refine box_step ?hg (N := 4) ?hd (cs := #[.int .u64 0, .bool false, .int .i64 0, .int .u64 0, .int .i64 0, .int .i64 0]) (t := 26) ?hr ?_; (case hd => rfl); (case hg => rfl); (case hr => first | (go_simp; done) | (go_simp; rfl))
               intro gb391 hg w26 hbox hb
               have n0_ := Aside0.mk (blk_below (g := gb383) (o := .cells #[.int .u64 0, .bool false, .int .i64 0, .int .u64 0, .int .i64 0, .int .i64 0] 26 (0, 0)) (by (with_reducible repeat (first | refine blk_drewN ?_ _ | refine blk_drew ?_ | refine blk_alloc ?_ _)); exact BK383.out) hb)
               have n1_ := Aside0.mk (below_step (by repeat (first | (with_reducible first | exact HB.out | apply below_alloc | apply bn1_ | apply bd1_ | refine below_set ?_ GE383.out) | exact HB.out)) hb)
               have n2_ := Aside0.mk (hbox)
               have n3_ := Aside0.mk ((by rw [hg]; exact (below_size (by repeat (first | (with_reducible first | exact HB.out | apply below_alloc | apply bn1_ | apply bd1_ | refine below_set ?_ GE383.out) | exact HB.out))) : w.heap.size ≤ gb391))
               have n4_ := Aside0.mk ((by rw [hg]; exact (below_size (by repeat (first | (with_reducible first | exact HB.out | apply below_alloc | apply bn1_ | apply bd1_ | refine below_set ?_ GE383.out) | exact HB.out))) : w.heap.size ≤ gb391))
               have n5_ := Aside0.mk ((by rw [hg]; exact Nat.ne_of_lt (blk_lt (g := gb383) (o := .cells #[.int .u64 0, .bool false, .int .i64 0, .int .u64 0, .int .i64 0, .int .i64 0] 26 (0, 0)) (by (with_reducible repeat (first | refine blk_drewN ?_ _ | refine blk_drew ?_ | refine blk_alloc ?_ _)); exact BK383.out)) : gb383 ≠ gb391))
               have n6_ := Aside0.mk ((by rw [hg]; exact Nat.ne_of_gt (blk_lt (g := gb383) (o := .cells #[.int .u64 0, .bool false, .int .i64 0, .int .u64 0, .int .i64 0, .int .i64 0] 26 (0, 0)) (by (with_reducible repeat (first | refine blk_drewN ?_ _ | refine blk_drew ?_ | refine blk_alloc ?_ _)); exact BK383.out)) : gb391 ≠ gb383))
               clear BK383 HB
               have BK383 := n0_
               have HB := n1_
               have BK391 := n2_
               have GW391 := n3_
               have GE391 := n4_
               have NB383_391 := n5_
               have NB391_383 := n6_
               clear n0_ n1_ n2_ n3_ n4_ n5_ n6_
               clear hb hbox hg
               refine hK.out _ _ (((HB.out.cell (World.block_lt_of_cell? w _ hw386_0)).trans hw386_0)) (fun hHeld => ?_)
               clear hK K
               refine norm_ (a' := ?_) ?_ ?_
               rotate_left
               ·show Act.put _ (some 4) _ = _
                simp only [Act.put, sa1_, sb1_, sc1_, i64_w, i32_w]
                rfl
               exact norm_ (by simp only [putAll, Act.put, sa1_, sb1_, sc1_]) (hCont (gb391) _ ⟨hHeld, (by (with_reducible repeat (first | refine blk_drewN ?_ _ | refine blk_drew ?_ | refine blk_alloc ?_ _)); exact BK383.out), (by (with_reducible repeat (first | refine blk_drewN ?_ _ | refine blk_drew ?_ | refine blk_alloc ?_ _)); exact BK391.out), GW391.out, GE391.out, NB383_391.out, NB391_383.out, (by repeat (first | (with_reducible first | exact HB.out | apply below_alloc | apply bn1_ | apply bd1_ | refine below_set ?_ GE383.out | refine below_set ?_ GE391.out) | exact HB.out))⟩)
              ·skip
               refine box_step ?hg (N := 4) ?hd (cs := #[.int .u64 0, .bool false, .int .i64 0, .int .u64 0, .int .i64 0, .int .i64 0]) (t := 26) ?hr ?_; (case hd => rfl); (case hg => rfl); (case hr => first | (go_simp; done) | (go_simp; rfl))
               intro gb391 hg w26 hbox hb
               have n0_ := Aside0.mk (blk_below (g := gb383) (o := .cells #[.int .u64 0, .bool false, .int .i64 0, .int .u64 0, .int .i64 0, .int .i64 0] 26 (0, 0)) (by (with_reducible repeat (first | refine blk_drewN ?_ _ | refine blk_drew ?_ | refine blk_alloc ?_ _)); exact BK383.out) hb)
               have n1_ := Aside0.mk (below_step (by repeat (first | (with_reducible first | exact HB.out | apply below_alloc | apply bn1_ | apply bd1_ | refine below_set ?_ GE383.out) | exact HB.out)) hb)
               have n2_ := Aside0.mk (hbox)
               have n3_ := Aside0.mk ((by rw [hg]; exact (below_size (by repeat (first | (with_reducible first | exact HB.out | apply below_alloc | apply bn1_ | apply bd1_ | refine below_set ?_ GE383.out) | exact HB.out))) : w.heap.size ≤ gb391))
               have n4_ := Aside0.mk ((by rw [hg]; exact (below_size (by repeat (first | (with_reducible first | exact HB.out | apply below_alloc | apply bn1_ | apply bd1_ | refine below_set ?_ GE383.out) | exact HB.out))) : w.heap.size ≤ gb391))
               have n5_ := Aside0.mk ((by rw [hg]; exact Nat.ne_of_lt (blk_lt (g := gb383) (o := .cells #[.int .u64 0, .bool false, .int .i64 0, .int .u64 0, .int .i64 0, .int .i64 0] 26 (0, 0)) (by (with_reducible repeat (first | refine blk_drewN ?_ _ | refine blk_drew ?_ | refine blk_alloc ?_ _)); exact BK383.out)) : gb383 ≠ gb391))
               have n6_ := Aside0.mk ((by rw [hg]; exact Nat.ne_of_gt (blk_lt (g := gb383) (o := .cells #[.int .u64 0, .bool false, .int .i64 0, .int .u64 0, .int .i64 0, .int .i64 0] 26 (0, 0)) (by (with_reducible repeat (first | refine blk_drewN ?_ _ | refine blk_drew ?_ | refine blk_alloc ?_ _)); exact BK383.out)) : gb391 ≠ gb383))
               clear BK383 HB
               have BK383 := n0_
               have HB := n1_
               have BK391 := n2_
               have GW391 := n3_
               have GE391 := n4_
               have NB383_391 := n5_
               have NB391_383 := n6_
               clear n0_ n1_ n2_ n3_ n4_ n5_ n6_
               clear hb hbox hg
               refine hK.out _ _ (((HB.out.cell (World.block_lt_of_cell? w _ hw386_0)).trans hw386_0)) (fun hHeld => ?_)
               clear hK K
               refine norm_ (a' := ?_) ?_ ?_
               rotate_left
               ·show Act.put _ (some 4) _ = _
                simp only [Act.put, sa1_, sb1_, sc1_, i64_w, i32_w]
                rfl
               refine one_ (i := 13) (N := some 28) #[T1,T1,T1,T1,T1,T1,T1,T1,T1,T1,T1,T1,T1,T1,F1,F1,T1,F1] rfl rfl (one_of HT_.out (by kernel_rfl)) (by decide) (fun K hK => ?_)
               refine goes_ Try.func30 (by kernel_rfl) rfl #[.slice A25 (l0.drop 33).length (c0 - 33)] (by rfl) rfl rfl (by (try simp only [List.map_toArray, List.map_cons, List.map_nil]); first | done | (rw [show (l0.drop 33).length = (l0.length - 33) from List.length_drop] <;> rfl) | rfl | (simp only [List.length_drop, List.length_take]; rfl)) ?_
               with_reducible refine (agg_number.calls k _ _ (l0.drop 33) t390 _ ?side1 ?side2 A16.out).mono ?_
               (case side1 => repeat (first | exact (Kd.C_below HR389.out HB.out) | (with_reducible refine Kd.C_alloc ?_ _) | (with_reducible refine Kd.C_drewN ?_ _) | (with_reducible refine Kd.C_drew ?_)))
               (case side2 => exact HC389.out)
               rintro e w' ⟨rfl, ⟨nd, rfl⟩⟩
               refine ⟨_, rfl, ?_⟩
               refine hK.out _ _ (((HB.out.cell (World.block_lt_of_cell? w _ hw386_0)).trans hw386_0)) (fun hHeld => ?_)
               clear hK K
               refine norm_ (a' := ?_) ?_ ?_
               rotate_left
               ·show Act.put _ (some 28) _ = _
                simp only [Act.put, sa1_, sb1_, sc1_, i64_w, i32_w]
                rfl
               refine pure_ (i := 14) (N := some 29) (v := ?_) (a' := ?_) #[T1,T1,T1,T1,T1,T1,T1,T1,T1,T1,T1,T1,T1,T1,T1,F1,T1,F1] rfl rfl (any_of HT_.out (by kernel_rfl)) (fun _ _ _ h => h) (Or.inl ⟨by rfl, ?_⟩) ?_ ?_
               rotate_left
               ·intro w'
                go_simp
                with_reducible rfl
               rotate_left
               ·simp only [Act.put, sa1_, sb1_, sc1_, i64_w, i32_w]
                rfl
               refine pure_ (i := 15) (N := some 30) (v := ?_) (a' := ?_) #[T1,T1,T1,T1,T1,T1,T1,T1,T1,T1,T1,T1,T1,T1,T1,T1,T1,F1] rfl rfl (any_of HT_.out (by kernel_rfl)) (fun _ _ _ h => h) (Or.inl ⟨by rfl, ?_⟩) ?_ ?_
               rotate_left
               ·intro w'
                go_simp
                with_reducible rfl
               rotate_left
               ·simp only [Act.put, sa1_, sb1_, sc1_, i64_w, i32_w]
                rfl
               exact norm_ (by simp only [putAll, Act.put, sa1_, sb1_, sc1_]) (hCont (gb391) _ ⟨hHeld, (by (with_reducible repeat (first | refine blk_drewN ?_ _ | refine blk_drew ?_ | refine blk_alloc ?_ _)); exact BK383.out), (by (with_reducible repeat (first | refine blk_drewN ?_ _ | refine blk_drew ?_ | refine blk_alloc ?_ _)); exact BK391.out), GW391.out, GE391.out, NB383_391.out, NB391_383.out, (by repeat (first | (with_reducible first | exact HB.out | apply below_alloc | apply bn1_ | apply bd1_ | refine below_set ?_ GE383.out | refine below_set ?_ GE391.out) | exact HB.out))⟩)
             ·skip
              refine box_step ?hg (N := 4) ?hd (cs := #[.int .u64 0, .bool false, .int .i64 0, .int .u64 0, .int .i64 0, .int .i64 0]) (t := 26) ?hr ?_; (case hd => rfl); (case hg => rfl); (case hr => first | (go_simp; done) | (go_simp; rfl))
              intro gb391 hg w26 hbox hb
              have n0_ := Aside0.mk (blk_below (g := gb383) (o := .cells #[.int .u64 0, .bool false, .int .i64 0, .int .u64 0, .int .i64 0, .int .i64 0] 26 (0, 0)) (by (with_reducible repeat (first | refine blk_drewN ?_ _ | refine blk_drew ?_ | refine blk_alloc ?_ _)); exact BK383.out) hb)
              have n1_ := Aside0.mk (below_step (by repeat (first | (with_reducible first | exact HB.out | apply below_alloc | apply bn1_ | apply bd1_ | refine below_set ?_ GE383.out) | exact HB.out)) hb)
              have n2_ := Aside0.mk (hbox)
              have n3_ := Aside0.mk ((by rw [hg]; exact (below_size (by repeat (first | (with_reducible first | exact HB.out | apply below_alloc | apply bn1_ | apply bd1_ | refine below_set ?_ GE383.out) | exact HB.out))) : w.heap.size ≤ gb391))
              have n4_ := Aside0.mk ((by rw [hg]; exact (below_size (by repeat (first | (with_reducible first | exact HB.out | apply below_alloc | apply bn1_ | apply bd1_ | refine below_set ?_ GE383.out) | exact HB.out))) : w.heap.size ≤ gb391))
              have n5_ := Aside0.mk ((by rw [hg]; exact Nat.ne_of_lt (blk_lt (g := gb383) (o := .cells #[.int .u64 0, .bool false, .int .i64 0, .int .u64 0, .int .i64 0, .int .i64 0] 26 (0, 0)) (by (with_reducible repeat (first | refine blk_drewN ?_ _ | refine blk_drew ?_ | refine blk_alloc ?_ _)); exact BK383.out)) : gb383 ≠ gb391))
              have n6_ := Aside0.mk ((by rw [hg]; exact Nat.ne_of_gt (blk_lt (g := gb383) (o := .cells #[.int .u64 0, .bool false, .int .i64 0, .int .u64 0, .int .i64 0, .int .i64 0] 26 (0, 0)) (by (with_reducible repeat (first | refine blk_drewN ?_ _ | refine blk_drew ?_ | refine blk_alloc ?_ _)); exact BK383.out)) : gb391 ≠ gb383))
              clear BK383 HB
              have BK383 := n0_
              have HB := n1_
              have BK391 := n2_
              have GW391 := n3_
              have GE391 := n4_
              have NB383_391 := n5_
              have NB391_383 := n6_
              clear n0_ n1_ n2_ n3_ n4_ n5_ n6_
              clear hb hbox hg
              refine hK.out _ _ (((HB.out.cell (World.block_lt_of_cell? w _ hw386_0)).trans hw386_0)) (fun hHeld => ?_)
              clear hK K
              refine norm_ (a' := ?_) ?_ ?_
              rotate_left
              ·show Act.put _ (some 4) _ = _
               simp only [Act.put, sa1_, sb1_, sc1_, i64_w, i32_w]
               rfl
              refine one_ (i := 9) (N := some 24) #[T1,T1,T1,T1,T1,T1,T1,T1,T1,T1,F1,T1,T1,F1,F1,F1,T1,F1] rfl rfl (one_of HT_.out (by kernel_rfl)) (by decide) (fun K hK => ?_)
              refine goes_ Try.func30 (by kernel_rfl) rfl #[.slice A24 ((l0.take 33).drop 25).length (c0 - 25)] (by rfl) rfl rfl (by (try simp only [List.map_toArray, List.map_cons, List.map_nil]); first | done | (rw [show ((l0.take 33).drop 25).length = (33 - 25) from (by rw [List.length_drop, List.length_take]; have h_ : (33 : Int) ≤ (l0.length : Int) := of_decide_eq_true (by first | (with_reducible assumption) | assumption); omega)] <;> rfl) | rfl | (simp only [List.length_drop, List.length_take]; rfl)) ?_
              with_reducible refine (agg_number.calls k _ _ ((l0.take 33).drop 25) t388 _ ?side1 ?side2 A14.out).mono ?_
              (case side1 => repeat (first | exact (Kd.C_below HR387.out HB.out) | (with_reducible refine Kd.C_alloc ?_ _) | (with_reducible refine Kd.C_drewN ?_ _) | (with_reducible refine Kd.C_drew ?_)))
              (case side2 => exact HC387.out)
              rintro e w' ⟨rfl, ⟨nd, rfl⟩⟩
              refine ⟨_, rfl, ?_⟩
              refine hK.out _ _ (((HB.out.cell (World.block_lt_of_cell? w _ hw386_0)).trans hw386_0)) (fun hHeld => ?_)
              clear hK K
              refine norm_ (a' := ?_) ?_ ?_
              rotate_left
              ·show Act.put _ (some 24) _ = _
               simp only [Act.put, sa1_, sb1_, sc1_, i64_w, i32_w]
               rfl
              refine pure_ (i := 10) (N := some 25) (v := ?_) (a' := ?_) #[T1,T1,T1,T1,T1,T1,T1,T1,T1,T1,T1,T1,T1,F1,F1,F1,T1,F1] rfl rfl (any_of HT_.out (by kernel_rfl)) (fun _ _ _ h => h) (Or.inl ⟨by rfl, ?_⟩) ?_ ?_
              rotate_left
              ·intro w'
               go_simp
               with_reducible rfl
              rotate_left
              ·simp only [Act.put, sa1_, sb1_, sc1_, i64_w, i32_w]
               rfl
              refine one_ (i := 13) (N := some 28) #[T1,T1,T1,T1,T1,T1,T1,T1,T1,T1,T1,T1,T1,T1,F1,F1,T1,F1] rfl rfl (one_of HT_.out (by kernel_rfl)) (by decide) (fun K hK => ?_)
              refine goes_ Try.func30 (by kernel_rfl) rfl #[.slice A25 (l0.drop 33).length (c0 - 33)] (by rfl) rfl rfl (by (try simp only [List.map_toArray, List.map_cons, List.map_nil]); first | done | (rw [show (l0.drop 33).length = (l0.length - 33) from List.length_drop] <;> rfl) | rfl | (simp only [List.length_drop, List.length_take]; rfl)) ?_
              with_reducible refine (agg_number.calls k _ _ (l0.drop 33) t390 _ ?side1 ?side2 A16.out).mono ?_
              (case side1 => repeat (first | exact (Kd.C_below HR389.out (by repeat (first | (with_reducible first | exact HB.out | apply below_alloc | apply bn1_ | apply bd1_ | refine below_set ?_ GE383.out | refine below_set ?_ GE391.out) | exact HB.out))) | (with_reducible refine Kd.C_alloc ?_ _) | (with_reducible refine Kd.C_drewN ?_ _) | (with_reducible refine Kd.C_drew ?_)))
              (case side2 => exact HC389.out)
              rintro e w' ⟨rfl, ⟨nd, rfl⟩⟩
              refine ⟨_, rfl, ?_⟩
              refine hK.out _ _ (((HB.out.cell (World.block_lt_of_cell? w _ hw386_0)).trans hw386_0)) (fun hHeld => ?_)
              clear hK K
              refine norm_ (a' := ?_) ?_ ?_
              rotate_left
              ·show Act.put _ (some 28) _ = _
               simp only [Act.put, sa1_, sb1_, sc1_, i64_w, i32_w]
               rfl
              refine pure_ (i := 14) (N := some 29) (v := ?_) (a' := ?_) #[T1,T1,T1,T1,T1,T1,T1,T1,T1,T1,T1,T1,T1,T1,T1,F1,T1,F1] rfl rfl (any_of HT_.out (by kernel_rfl)) (fun _ _ _ h => h) (Or.inl ⟨by rfl, ?_⟩) ?_ ?_
              rotate_left
              ·intro w'
               go_simp
               with_reducible rfl
              rotate_left
              ·simp only [Act.put, sa1_, sb1_, sc1_, i64_w, i32_w]
               rfl
              refine pure_ (i := 15) (N := some 30) (v := ?_) (a' := ?_) #[T1,T1,T1,T1,T1,T1,T1,T1,T1,T1,T1,T1,T1,T1,T1,T1,T1,F1] rfl rfl (any_of HT_.out (by kernel_rfl)) (fun _ _ _ h => h) (Or.inl ⟨by rfl, ?_⟩) ?_ ?_
              rotate_left
              ·intro w'
               go_simp
               with_reducible rfl
              rotate_left
              ·simp only [Act.put, sa1_, sb1_, sc1_, i64_w, i32_w]
               rfl
              exact norm_ (by simp only [putAll, Act.put, sa1_, sb1_, sc1_]) (hCont (gb391) _ ⟨hHeld, (by (with_reducible repeat (first | refine blk_drewN ?_ _ | refine blk_drew ?_ | refine blk_alloc ?_ _)); exact BK383.out), (by (with_reducible repeat (first | refine blk_drewN ?_ _ | refine blk_drew ?_ | refine blk_alloc ?_ _)); exact BK391.out), GW391.out, GE391.out, NB383_391.out, NB391_383.out, (by repeat (first | (with_reducible first | exact HB.out | apply below_alloc | apply bn1_ | apply bd1_ | refine below_set ?_ GE383.out | refine below_set ?_ GE391.out) | exact HB.out))⟩)
            ·skip
             refine box_step ?hg (N := 4) ?hd (cs := #[.int .u64 0, .bool false, .int .i64 0, .int .u64 0, .int .i64 0, .int .i64 0]) (t := 26) ?hr ?_; (case hd => rfl); (case hg => rfl); (case hr => first | (go_simp; done) | (go_simp; rfl))
             intro gb391 hg w26 hbox hb
             have n0_ := Aside0.mk (blk_below (g := gb383) (o := .cells #[.int .u64 0, .bool false, .int .i64 0, .int .u64 0, .int .i64 0, .int .i64 0] 26 (0, 0)) (by (with_reducible repeat (first | refine blk_drewN ?_ _ | refine blk_drew ?_ | refine blk_alloc ?_ _)); exact BK383.out) hb)
             have n1_ := Aside0.mk (below_step (by repeat (first | (with_reducible first | exact HB.out | apply below_alloc | apply bn1_ | apply bd1_ | refine below_set ?_ GE383.out) | exact HB.out)) hb)
             have n2_ := Aside0.mk (hbox)
             have n3_ := Aside0.mk ((by rw [hg]; exact (below_size (by repeat (first | (with_reducible first | exact HB.out | apply below_alloc | apply bn1_ | apply bd1_ | refine below_set ?_ GE383.out) | exact HB.out))) : w.heap.size ≤ gb391))
             have n4_ := Aside0.mk ((by rw [hg]; exact (below_size (by repeat (first | (with_reducible first | exact HB.out | apply below_alloc | apply bn1_ | apply bd1_ | refine below_set ?_ GE383.out) | exact HB.out))) : w.heap.size ≤ gb391))
             have n5_ := Aside0.mk ((by rw [hg]; exact Nat.ne_of_lt (blk_lt (g := gb383) (o := .cells #[.int .u64 0, .bool false, .int .i64 0, .int .u64 0, .int .i64 0, .int .i64 0] 26 (0, 0)) (by (with_reducible repeat (first | refine blk_drewN ?_ _ | refine blk_drew ?_ | refine blk_alloc ?_ _)); exact BK383.out)) : gb383 ≠ gb391))
             have n6_ := Aside0.mk ((by rw [hg]; exact Nat.ne_of_gt (blk_lt (g := gb383) (o := .cells #[.int .u64 0, .bool false, .int .i64 0, .int .u64 0, .int .i64 0, .int .i64 0] 26 (0, 0)) (by (with_reducible repeat (first | refine blk_drewN ?_ _ | refine blk_drew ?_ | refine blk_alloc ?_ _)); exact BK383.out)) : gb391 ≠ gb383))
             clear BK383 HB
             have BK383 := n0_
             have HB := n1_
             have BK391 := n2_
             have GW391 := n3_
             have GE391 := n4_
             have NB383_391 := n5_
             have NB391_383 := n6_
             clear n0_ n1_ n2_ n3_ n4_ n5_ n6_
             clear hb hbox hg
             refine hK.out _ _ (((HB.out.cell (World.block_lt_of_cell? w _ hw386_0)).trans hw386_0)) (fun hHeld => ?_)
             clear hK K
             refine norm_ (a' := ?_) ?_ ?_
             rotate_left
             ·show Act.put _ (some 4) _ = _
              simp only [Act.put, sa1_, sb1_, sc1_, i64_w, i32_w]
              rfl
             refine one_ (i := 2) (N := some 17) #[T1,T1,T1,T1,T1,T1,T1,T1,T1,F1,F1,T1,T1,F1,F1,F1,T1,F1] rfl rfl (one_of HT_.out (by kernel_rfl)) (by decide) (fun K hK => ?_)
             refine goes_ Try.func30 (by kernel_rfl) rfl #[.slice A23 ((l0.take 9).drop 1).length (c0 - 1)] (by rfl) rfl rfl (by (try simp only [List.map_toArray, List.map_cons, List.map_nil]); first | done | (rw [show ((l0.take 9).drop 1).length = (9 - 1) from (by rw [List.length_drop, List.length_take]; have h_ : (9 : Int) ≤ (l0.length : Int) := of_decide_eq_true (by first | (with_reducible assumption) | assumption); omega)] <;> rfl) | rfl | (simp only [List.length_drop, List.length_take]; rfl)) ?_
             with_reducible refine (agg_number.calls k _ _ ((l0.take 9).drop 1) t385 _ ?side1 ?side2 A10.out).mono ?_
             (case side1 => repeat (first | exact (Kd.C_below HR384.out HB.out) | (with_reducible refine Kd.C_alloc ?_ _) | (with_reducible refine Kd.C_drewN ?_ _) | (with_reducible refine Kd.C_drew ?_)))
             (case side2 => exact HC384.out)
             rintro e w' ⟨rfl, ⟨nd, rfl⟩⟩
             refine ⟨_, rfl, ?_⟩
             refine hK.out _ _ (((HB.out.cell (World.block_lt_of_cell? w _ hw386_0)).trans hw386_0)) (fun hHeld => ?_)
             clear hK K
             refine norm_ (a' := ?_) ?_ ?_
             rotate_left
             ·show Act.put _ (some 17) _ = _
              simp only [Act.put, sa1_, sb1_, sc1_, i64_w, i32_w]
              rfl
             refine one_ (i := 9) (N := some 24) #[T1,T1,T1,T1,T1,T1,T1,T1,T1,T1,F1,T1,T1,F1,F1,F1,T1,F1] rfl rfl (one_of HT_.out (by kernel_rfl)) (by decide) (fun K hK => ?_)
             refine goes_ Try.func30 (by kernel_rfl) rfl #[.slice A24 ((l0.take 33).drop 25).length (c0 - 25)] (by rfl) rfl rfl (by (try simp only [List.map_toArray, List.map_cons, List.map_nil]); first | done | (rw [show ((l0.take 33).drop 25).length = (33 - 25) from (by rw [List.length_drop, List.length_take]; have h_ : (33 : Int) ≤ (l0.length : Int) := of_decide_eq_true (by first | (with_reducible assumption) | assumption); omega)] <;> rfl) | rfl | (simp only [List.length_drop, List.length_take]; rfl)) ?_
             with_reducible refine (agg_number.calls k _ _ ((l0.take 33).drop 25) t388 _ ?side1 ?side2 A14.out).mono ?_
             (case side1 => repeat (first | exact (Kd.C_below HR387.out (by repeat (first | (with_reducible first | exact HB.out | apply below_alloc | apply bn1_ | apply bd1_ | refine below_set ?_ GE383.out | refine below_set ?_ GE391.out) | exact HB.out))) | (with_reducible refine Kd.C_alloc ?_ _) | (with_reducible refine Kd.C_drewN ?_ _) | (with_reducible refine Kd.C_drew ?_)))
             (case side2 => exact HC387.out)
             rintro e w' ⟨rfl, ⟨nd, rfl⟩⟩
             refine ⟨_, rfl, ?_⟩
             refine hK.out _ _ (((HB.out.cell (World.block_lt_of_cell? w _ hw386_0)).trans hw386_0)) (fun hHeld => ?_)
             clear hK K
             refine norm_ (a' := ?_) ?_ ?_
             rotate_left
             ·show Act.put _ (some 24) _ = _
              simp only [Act.put, sa1_, sb1_, sc1_, i64_w, i32_w]
              rfl
             refine pure_ (i := 10) (N := some 25) (v := ?_) (a' := ?_) #[T1,T1,T1,T1,T1,T1,T1,T1,T1,T1,T1,T1,T1,F1,F1,F1,T1,F1] rfl rfl (any_of HT_.out (by kernel_rfl)) (fun _ _ _ h => h) (Or.inl ⟨by rfl, ?_⟩) ?_ ?_
             rotate_left
             ·intro w'
              go_simp
              with_reducible rfl
             rotate_left
             ·simp only [Act.put, sa1_, sb1_, sc1_, i64_w, i32_w]
              rfl
             refine one_ (i := 13) (N := some 28) #[T1,T1,T1,T1,T1,T1,T1,T1,T1,T1,T1,T1,T1,T1,F1,F1,T1,F1] rfl rfl (one_of HT_.out (by kernel_rfl)) (by decide) (fun K hK => ?_)
             refine goes_ Try.func30 (by kernel_rfl) rfl #[.slice A25 (l0.drop 33).length (c0 - 33)] (by rfl) rfl rfl (by (try simp only [List.map_toArray, List.map_cons, List.map_nil]); first | done | (rw [show (l0.drop 33).length = (l0.length - 33) from List.length_drop] <;> rfl) | rfl | (simp only [List.length_drop, List.length_take]; rfl)) ?_
             with_reducible refine (agg_number.calls k _ _ (l0.drop 33) t390 _ ?side1 ?side2 A16.out).mono ?_
             (case side1 => repeat (first | exact (Kd.C_below HR389.out (by repeat (first | (with_reducible first | exact HB.out | apply below_alloc | apply bn1_ | apply bd1_ | refine below_set ?_ GE383.out | refine below_set ?_ GE391.out) | exact HB.out))) | (with_reducible refine Kd.C_alloc ?_ _) | (with_reducible refine Kd.C_drewN ?_ _) | (with_reducible refine Kd.C_drew ?_)))
             (case side2 => exact HC389.out)
             rintro e w' ⟨rfl, ⟨nd, rfl⟩⟩
             refine ⟨_, rfl, ?_⟩
             refine hK.out _ _ (((HB.out.cell (World.block_lt_of_cell? w _ hw386_0)).trans hw386_0)) (fun hHeld => ?_)
             clear hK K
             refine norm_ (a' := ?_) ?_ ?_
             rotate_left
             ·show Act.put _ (some 28) _ = _
              simp only [Act.put, sa1_, sb1_, sc1_, i64_w, i32_w]
              rfl
             refine pure_ (i := 14) (N := some 29) (v := ?_) (a' := ?_) #[T1,T1,T1,T1,T1,T1,T1,T1,T1,T1,T1,T1,T1,T1,T1,F1,T1,F1] rfl rfl (any_of HT_.out (by kernel_rfl)) (fun _ _ _ h => h) (Or.inl ⟨by rfl, ?_⟩) ?_ ?_
             rotate_left
             ·intro w'
              go_simp
              with_reducible rfl
             rotate_left
             ·simp only [Act.put, sa1_, sb1_, sc1_, i64_w, i32_w]
              rfl
             refine pure_ (i := 15) (N := some 30) (v := ?_) (a' := ?_) #[T1,T1,T1,T1,T1,T1,T1,T1,T1,T1,T1,T1,T1,T1,T1,T1,T1,F1] rfl rfl (any_of HT_.out (by kernel_rfl)) (fun _ _ _ h => h) (Or.inl ⟨by rfl, ?_⟩) ?_ ?_
             rotate_left
             ·intro w'
              go_simp
              with_reducible rfl
             rotate_left
             ·simp only [Act.put, sa1_, sb1_, sc1_, i64_w, i32_w]
              rfl
             exact norm_ (by simp only [putAll, Act.put, sa1_, sb1_, sc1_]) (hCont (gb391) _ ⟨hHeld, (by (with_reducible repeat (first | refine blk_drewN ?_ _ | refine blk_drew ?_ | refine blk_alloc ?_ _)); exact BK383.out), (by (with_reducible repeat (first | refine blk_drewN ?_ _ | refine blk_drew ?_ | refine blk_alloc ?_ _)); exact BK391.out), GW391.out, GE391.out, NB383_391.out, NB391_383.out, (by repeat (first | (with_reducible first | exact HB.out | apply below_alloc | apply bn1_ | apply bd1_ | refine below_set ?_ GE383.out | refine below_set ?_ GE391.out) | exact HB.out))⟩)
           rintro gb391 w27 ⟨hS_, h0_, h1_, h2_, h3_, h4_, h5_, h6_⟩
           have n0_ : Aside0 (w27.heap[gb383]? = some (.cells #[.int .u64 0, .bool false, .int .i64 0, .int .u64 0, .int .i64 0, .int .i64 0] 26 (0, 0))) := ⟨h0_⟩
           have n1_ : Aside0 (w27.heap[gb391]? = some (.cells #[.int .u64 0, .bool false, .int .i64 0, .int .u64 0, .int .i64 0, .int .i64 0] 26 (0, 0))) := ⟨h1_⟩
           have n2_ : Aside0 (w.heap.size ≤ gb391) := ⟨h2_⟩
           have n3_ : Aside0 (w.heap.size ≤ gb391) := ⟨h3_⟩
           have n4_ : Aside0 (gb383 ≠ gb391) := ⟨h4_⟩
           have n5_ : Aside0 (gb391 ≠ gb383) := ⟨h5_⟩
           have n6_ : Aside0 (Below w.heap.size w w27) := ⟨h6_⟩
           clear BK383 HB h0_ h1_ h2_ h3_ h4_ h5_ h6_
           have BK383 := n0_
           have BK391 := n1_
           have GW391 := n2_
           have GE391 := n3_
           have NB383_391 := n4_
           have NB391_383 := n5_
           have HB := n6_
           clear n0_ n1_ n2_ n3_ n4_ n5_ n6_
           have hHeld : w27.cell? ad386 = some (.int .u8 (rd l0 0)) := hS_
           refine norm_ (a' := ?_) ?_ ?_
           rotate_left
           ·simp only [putAll, Act.put, sa1_, sb1_, sc1_]
            rfl
           refine one_ (i := 17) (N := none) #[T1,T1,T1,T1,T1,T1,T1,T1,T1,T1,T1,T1,T1,T1,T1,T1,T1,T1] rfl rfl (one_of HT_.out (by kernel_rfl)) (by decide) (fun K hK => ?_)
           have hs28 : w27.cell? ⟨gb391, 0, none⟩ = some (.int .u64 0) := (blk_cell BK391.out 0).trans rfl
           have hfs28 := blk_frozen BK391.out 0
           have hns28_0 := NB383_391.out
           have hms28_0 := NB391_383.out
           have hs29 : w27.cell? ⟨gb391, 1, none⟩ = some (.bool false) := (blk_cell BK391.out 1).trans rfl
           have hfs29 := blk_frozen BK391.out 1
           have hns29_0 := NB383_391.out
           have hms29_0 := NB391_383.out
           have hs30 : w27.cell? ⟨gb391, 2, none⟩ = some (.int .i64 0) := (blk_cell BK391.out 2).trans rfl
           have hfs30 := blk_frozen BK391.out 2
           have hns30_0 := NB383_391.out
           have hms30_0 := NB391_383.out
           have hs31 : w27.cell? ⟨gb391, 3, none⟩ = some (.int .u64 0) := (blk_cell BK391.out 3).trans rfl
           have hfs31 := blk_frozen BK391.out 3
           have hns31_0 := NB383_391.out
           have hms31_0 := NB391_383.out
           have hs32 : w27.cell? ⟨gb391, 4, none⟩ = some (.int .i64 0) := (blk_cell BK391.out 4).trans rfl
           have hfs32 := blk_frozen BK391.out 4
           have hns32_0 := NB383_391.out
           have hms32_0 := NB391_383.out
           have hs33 : w27.cell? ⟨gb391, 5, none⟩ = some (.int .i64 0) := (blk_cell BK391.out 5).trans rfl
           have hfs33 := blk_frozen BK391.out 5
           have hns33_0 := NB383_391.out
           have hms33_0 := NB391_383.out
           refine skip_ (w1 := ?_) (by rfl) rfl ?_ ?_
           rotate_left
           ·go_simp
            rfl
           refine hK.out _ _ (((cell_far (p := ⟨gb391, _, none⟩) (by first | exact Nat.ne_of_lt (Nat.lt_of_lt_of_le (by have := World.block_lt_of_cell? _ _ hw386_0; first | rwa [add_block] at this | exact this) GW391.out) | (rw [add_block]; exact Nat.ne_of_lt (Nat.lt_of_lt_of_le (by have := World.block_lt_of_cell? _ _ hw386_0; first | rwa [add_block] at this | exact this) GW391.out)) | (show (Addr.add _ _).block ≠ _; rw [add_block]; exact Nat.ne_of_lt (Nat.lt_of_lt_of_le (by have := World.block_lt_of_cell? _ _ hw386_0; first | rwa [add_block] at this | exact this) GW391.out)) | (dsimp only; exact Nat.ne_of_lt (Nat.lt_of_lt_of_le (by have := World.block_lt_of_cell? _ _ hw386_0; first | rwa [add_block] at this | exact this) GW391.out))) _).trans (((cell_far (p := ⟨gb391, _, none⟩) (by first | exact Nat.ne_of_lt (Nat.lt_of_lt_of_le (by have := World.block_lt_of_cell? _ _ hw386_0; first | rwa [add_block] at this | exact this) GW391.out) | (rw [add_block]; exact Nat.ne_of_lt (Nat.lt_of_lt_of_le (by have := World.block_lt_of_cell? _ _ hw386_0; first | rwa [add_block] at this | exact this) GW391.out)) | (show (Addr.add _ _).block ≠ _; rw [add_block]; exact Nat.ne_of_lt (Nat.lt_of_lt_of_le (by have := World.block_lt_of_cell? _ _ hw386_0; first | rwa [add_block] at this | exact this) GW391.out)) | (dsimp only; exact Nat.ne_of_lt (Nat.lt_of_lt_of_le (by have := World.block_lt_of_cell? _ _ hw386_0; first | rwa [add_block] at this | exact this) GW391.out))) _).trans (((cell_far (p := ⟨gb391, _, none⟩) (by first | exact Nat.ne_of_lt (Nat.lt_of_lt_of_le (by have := World.block_lt_of_cell? _ _ hw386_0; first | rwa [add_block] at this | exact this) GW391.out) | (rw [add_block]; exact Nat.ne_of_lt (Nat.lt_of_lt_of_le (by have := World.block_lt_of_cell? _ _ hw386_0; first | rwa [add_block] at this | exact this) GW391.out)) | (show (Addr.add _ _).block ≠ _; rw [add_block]; exact Nat.ne_of_lt (Nat.lt_of_lt_of_le (by have := World.block_lt_of_cell? _ _ hw386_0; first | rwa [add_block] at this | exact this) GW391.out)) | (dsimp only; exact Nat.ne_of_lt (Nat.lt_of_lt_of_le (by have := World.block_lt_of_cell? _ _ hw386_0; first | rwa [add_block] at this | exact this) GW391.out))) _).trans (((cell_far (p := ⟨gb391, _, none⟩) (by first | exact Nat.ne_of_lt (Nat.lt_of_lt_of_le (by have := World.block_lt_of_cell? _ _ hw386_0; first | rwa [add_block] at this | exact this) GW391.out) | (rw [add_block]; exact Nat.ne_of_lt (Nat.lt_of_lt_of_le (by have := World.block_lt_of_cell? _ _ hw386_0; first | rwa [add_block] at this | exact this) GW391.out)) | (show (Addr.add _ _).block ≠ _; rw [add_block]; exact Nat.ne_of_lt (Nat.lt_of_lt_of_le (by have := World.block_lt_of_cell? _ _ hw386_0; first | rwa [add_block] at this | exact this) GW391.out)) | (dsimp only; exact Nat.ne_of_lt (Nat.lt_of_lt_of_le (by have := World.block_lt_of_cell? _ _ hw386_0; first | rwa [add_block] at this | exact this) GW391.out))) _).trans (((cell_far (p := ⟨gb391, _, none⟩) (by first | exact Nat.ne_of_lt (Nat.lt_of_lt_of_le (by have := World.block_lt_of_cell? _ _ hw386_0; first | rwa [add_block] at this | exact this) GW391.out) | (rw [add_block]; exact Nat.ne_of_lt (Nat.lt_of_lt_of_le (by have := World.block_lt_of_cell? _ _ hw386_0; first | rwa [add_block] at this | exact this) GW391.out)) | (show (Addr.add _ _).block ≠ _; rw [add_block]; exact Nat.ne_of_lt (Nat.lt_of_lt_of_le (by have := World.block_lt_of_cell? _ _ hw386_0; first | rwa [add_block] at this | exact this) GW391.out)) | (dsimp only; exact Nat.ne_of_lt (Nat.lt_of_lt_of_le (by have := World.block_lt_of_cell? _ _ hw386_0; first | rwa [add_block] at this | exact this) GW391.out))) _).trans (((cell_far (p := ⟨gb391, _, none⟩) (by first | exact Nat.ne_of_lt (Nat.lt_of_lt_of_le (by have := World.block_lt_of_cell? _ _ hw386_0; first | rwa [add_block] at this | exact this) GW391.out) | (rw [add_block]; exact Nat.ne_of_lt (Nat.lt_of_lt_of_le (by have := World.block_lt_of_cell? _ _ hw386_0; first | rwa [add_block] at this | exact this) GW391.out)) | (show (Addr.add _ _).block ≠ _; rw [add_block]; exact Nat.ne_of_lt (Nat.lt_of_lt_of_le (by have := World.block_lt_of_cell? _ _ hw386_0; first | rwa [add_block] at this | exact this) GW391.out)) | (dsimp only; exact Nat.ne_of_lt (Nat.lt_of_lt_of_le (by have := World.block_lt_of_cell? _ _ hw386_0; first | rwa [add_block] at this | exact this) GW391.out))) _).trans (hHeld))))))))))))) (fun hHeld => ?_)
           clear hK K
           refine done_ (done_of HT_.out (by kernel_rfl)) ?_
           obtain ⟨i034, hi034, _, hsz34, _⟩ := info_parts info5
           obtain ⟨A34, hcut34, hA34, hC34⟩ := print_mid_of (P := Try.prog) (Value.int .u8) 0 36 5 .i64 .i64 Try.underlying36 hi034 hsz34 (some ad386) c0 l0 9 25 (by omega) (by first | omega | exact of_decide_eq_true (by first | (with_reducible assumption) | assumption)) (of_decide_eq_true (by first | (with_reducible assumption) | assumption)) HC0.out
           have HR392 := Aside0.mk (Kd.C_of_reads (h1 := fun _ => rfl) (hA34 _ (Kd.reads_of_C HR0.out)))
           have HC392 := Aside0.mk hC34
           clear hA34 hC34 hi034 hsz34
           try go_wp2_with (first | ((with_reducible refine gate_callee (f := 31) rfl ?_); refine goesL_ (some 34) rfl rfl Try.func31 (by kernel_rfl) rfl #[.slice A34 ((l0.take 25).drop 9).length (c0 - 9)] rfl (by (try simp only [List.map_toArray, List.map_cons, List.map_nil]); first | done | (rw [show ((l0.take 25).drop 9).length = (25 - 9) from (by rw [List.length_drop, List.length_take]; have h_ : (25 : Int) ≤ (l0.length : Int) := of_decide_eq_true (by first | (with_reducible assumption) | assumption); omega)] <;> rfl) | rfl | (simp only [List.length_drop, List.length_take]; rfl)) ?_; (with_reducible refine (wide_Read.calls _ _ ((l0.take 25).drop 9) t393 t394 t395 _ ?side1 ?side2 A19.out).mono ?_); (case side1 => exact Kd.C_below HR392.out (by repeat (first | (with_reducible first | exact HB.out | apply below_alloc | apply bn1_ | apply bd1_ | refine below_set ?_ GE383.out | refine below_set ?_ GE391.out) | exact HB.out))); (case side2 => exact HC392.out); rintro e w35 ⟨rfl, hb⟩; refine ⟨_, rfl, ?_⟩; have n0_ := Aside0.mk (blk_below (g := gb383) (o := .cells #[.int .u64 0, .bool false, .int .i64 0, .int .u64 0, .int .i64 0, .int .i64 0] 26 (0, 0)) (by (with_reducible repeat (first | refine blk_drewN ?_ _ | refine blk_drew ?_ | refine blk_alloc ?_ _)); refine blk_far ?_ NB383_391.out _; (with_reducible repeat (first | refine blk_drewN ?_ _ | refine blk_drew ?_ | refine blk_alloc ?_ _)); refine blk_far ?_ NB383_391.out _; (with_reducible repeat (first | refine blk_drewN ?_ _ | refine blk_drew ?_ | refine blk_alloc ?_ _)); refine blk_far ?_ NB383_391.out _; (with_reducible repeat (first | refine blk_drewN ?_ _ | refine blk_drew ?_ | refine blk_alloc ?_ _)); refine blk_far ?_ NB383_391.out _; (with_reducible repeat (first | refine blk_drewN ?_ _ | refine blk_drew ?_ | refine blk_alloc ?_ _)); refine blk_far ?_ NB383_391.out _; (with_reducible repeat (first | refine blk_drewN ?_ _ | refine blk_drew ?_ | refine blk_alloc ?_ _)); refine blk_far ?_ NB383_391.out _; (with_reducible repeat (first | refine blk_drewN ?_ _ | refine blk_drew ?_ | refine blk_alloc ?_ _)); exact BK383.out) hb); have n1_ := Aside0.mk (blk_below (g := gb391) (o := .cells #[.int .u64 t385, .bool ((rd l0 0) == 1), .int .i64 0, .int .u64 0, .int .i64 (wrap64 (t388)), .int .i64 (wrap64 (t390))] 26 (0, 0)) (by (with_reducible repeat (first | refine blk_drewN ?_ _ | refine blk_drew ?_ | refine blk_alloc ?_ _)); refine blk_put (cs := #[.int .u64 t385, .bool ((rd l0 0) == 1), .int .i64 0, .int .u64 0, .int .i64 (wrap64 (t388)), .int .i64 0]) ?_ 5 _ rfl; (with_reducible repeat (first | refine blk_drewN ?_ _ | refine blk_drew ?_ | refine blk_alloc ?_ _)); refine blk_put (cs := #[.int .u64 t385, .bool ((rd l0 0) == 1), .int .i64 0, .int .u64 0, .int .i64 0, .int .i64 0]) ?_ 4 _ rfl; (with_reducible repeat (first | refine blk_drewN ?_ _ | refine blk_drew ?_ | refine blk_alloc ?_ _)); refine blk_put (cs := #[.int .u64 t385, .bool ((rd l0 0) == 1), .int .i64 0, .int .u64 0, .int .i64 0, .int .i64 0]) ?_ 3 _ rfl; (with_reducible repeat (first | refine blk_drewN ?_ _ | refine blk_drew ?_ | refine blk_alloc ?_ _)); refine blk_put (cs := #[.int .u64 t385, .bool ((rd l0 0) == 1), .int .i64 0, .int .u64 0, .int .i64 0, .int .i64 0]) ?_ 2 _ rfl; (with_reducible repeat (first | refine blk_drewN ?_ _ | refine blk_drew ?_ | refine blk_alloc ?_ _)); refine blk_put (cs := #[.int .u64 t385, .bool false, .int .i64 0, .int .u64 0, .int .i64 0, .int .i64 0]) ?_ 1 _ rfl; (with_reducible repeat (first | refine blk_drewN ?_ _ | refine blk_drew ?_ | refine blk_alloc ?_ _)); refine blk_put (cs := #[.int .u64 0, .bool false, .int .i64 0, .int .u64 0, .int .i64 0, .int .i64 0]) ?_ 0 _ rfl; (with_reducible repeat (first | refine blk_drewN ?_ _ | refine blk_drew ?_ | refine blk_alloc ?_ _)); exact BK391.out) hb); have n2_ := Aside0.mk (below_step (by repeat (first | (with_reducible first | exact HB.out | apply below_alloc | apply bn1_ | apply bd1_ | refine below_set ?_ GE383.out | refine below_set ?_ GE391.out) | exact HB.out)) hb); clear BK383; clear BK391; clear HB; have BK383 := n0_; have BK391 := n1_; have HB := n2_; clear n0_ n1_ n2_; (try clear hb); (try clear hb2); (try clear hk); (try clear hi); have hnb36 := NB391_383.out; have hnc36 := NB383_391.out; have hcz37_0 : w35.cell? ⟨gb391, 0, none⟩ = some (.int .u64 t385) := (blk_cell BK391.out 0).trans rfl; have hcz37_1 : w35.cell? ⟨gb391, 1, none⟩ = some (.bool ((rd l0 0) == 1)) := (blk_cell BK391.out 1).trans rfl; have hcz37_2 : w35.cell? ⟨gb391, 2, none⟩ = some (.int .i64 0) := (blk_cell BK391.out 2).trans rfl; have hcz37_3 : w35.cell? ⟨gb391, 3, none⟩ = some (.int .u64 0) := (blk_cell BK391.out 3).trans rfl; have hcz37_4 : w35.cell? ⟨gb391, 4, none⟩ = some (.int .i64 (wrap64 (t388))) := (blk_cell BK391.out 4).trans rfl; have hcz37_5 : w35.cell? ⟨gb391, 5, none⟩ = some (.int .i64 (wrap64 (t390))) := (blk_cell BK391.out 5).trans rfl; have hfz37_0 := blk_frozen BK391.out 0; have hfz37_1 := blk_frozen BK391.out 1; have hfz37_2 := blk_frozen BK391.out 2; have hfz37_3 := blk_frozen BK391.out 3; have hfz37_4 := blk_frozen BK391.out 4; have hfz37_5 := blk_frozen BK391.out 5; have p396 : 0 ≤ (0 : Int) := (by omega); have q396 : 0 < (l0.length : Int) := of_decide_eq_true (by first | (with_reducible assumption) | assumption); obtain ⟨ad396, e396, hx396_0⟩ := Kd.at_int HR0.out 0 p396 q396; obtain rfl : ad386 = ad396 := (by injection e396); have qi396 : (0 < l0.length) = True := eq_true (by omega); (try rw [show ((0 : Int)).toNat = 0 from rfl] at hx396_0); (try rw [Addr.add_zero'] at hx396_0); have hn396_0 : ad386.block ≠ gb391 := Nat.ne_of_lt (Nat.lt_of_lt_of_le (by have := World.block_lt_of_cell? _ _ hx396_0; first | rwa [add_block] at this | exact this) GW391.out); have hn396_1 : ad386.block ≠ gb391 := Nat.ne_of_lt (Nat.lt_of_lt_of_le (by have := World.block_lt_of_cell? _ _ hx396_0; first | rwa [add_block] at this | exact this) GW391.out); replace hx396_0 := (HB.out.cell (World.block_lt_of_cell? w _ hx396_0)).trans hx396_0; replace hx396_0 := (cell_far (p := ⟨gb391, 2, none⟩) (by first | (rw [add_block]; exact hn396_0) | (show (Addr.add _ _).block ≠ _; rw [add_block]; exact hn396_0) | exact hn396_0) (.int .i64 t393)).trans hx396_0; replace hx396_0 := (cell_far (p := ⟨gb391, 3, none⟩) (by first | (rw [add_block]; exact hn396_1) | (show (Addr.add _ _).block ≠ _; rw [add_block]; exact hn396_1) | exact hn396_1) (.int .u64 t394)).trans hx396_0; clear hn396_0; clear hn396_1; replace p396 := eq_true p396; replace q396 := eq_true q396; have hcz38_0 : w35.cell? ⟨gb383, 0, none⟩ = some (.int .u64 0) := (blk_cell BK383.out 0).trans rfl; have hcz38_1 : w35.cell? ⟨gb383, 1, none⟩ = some (.bool false) := (blk_cell BK383.out 1).trans rfl; have hcz38_2 : w35.cell? ⟨gb383, 2, none⟩ = some (.int .i64 0) := (blk_cell BK383.out 2).trans rfl; have hcz38_3 : w35.cell? ⟨gb383, 3, none⟩ = some (.int .u64 0) := (blk_cell BK383.out 3).trans rfl; have hcz38_4 : w35.cell? ⟨gb383, 4, none⟩ = some (.int .i64 0) := (blk_cell BK383.out 4).trans rfl; have hcz38_5 : w35.cell? ⟨gb383, 5, none⟩ = some (.int .i64 0) := (blk_cell BK383.out 5).trans rfl; have hfz38_0 := blk_frozen BK383.out 0; have hfz38_1 := blk_frozen BK383.out 1; have hfz38_2 := blk_frozen BK383.out 2; have hfz38_3 := blk_frozen BK383.out 3; have hfz38_4 := blk_frozen BK383.out 4; have hfz38_5 := blk_frozen BK383.out 5))
           refine bodyPost_ret (results_ct rfl _ _ gb383 26 #[.int .u64 0, .bool false, .int .i64 0, .int .u64 0, .int .i64 0, .int .i64 0] (0, 0) _ rfl (by (with_reducible repeat (first | refine blk_drewN ?_ _ | refine blk_drew ?_ | refine blk_alloc ?_ _)); refine blk_put (cs := #[.int .u64 0, .bool false, .int .i64 0, .int .u64 0, .int .i64 0, .int .i64 0]) ?_ 5 _ rfl; (with_reducible repeat (first | refine blk_drewN ?_ _ | refine blk_drew ?_ | refine blk_alloc ?_ _)); refine blk_put (cs := #[.int .u64 0, .bool false, .int .i64 0, .int .u64 0, .int .i64 0, .int .i64 0]) ?_ 4 _ rfl; (with_reducible repeat (first | refine blk_drewN ?_ _ | refine blk_drew ?_ | refine blk_alloc ?_ _)); refine blk_put (cs := #[.int .u64 0, .bool false, .int .i64 0, .int .u64 0, .int .i64 0, .int .i64 0]) ?_ 3 _ rfl; (with_reducible repeat (first | refine blk_drewN ?_ _ | refine blk_drew ?_ | refine blk_alloc ?_ _)); refine blk_put (cs := #[.int .u64 0, .bool false, .int .i64 0, .int .u64 0, .int .i64 0, .int .i64 0]) ?_ 2 _ rfl; (with_reducible repeat (first | refine blk_drewN ?_ _ | refine blk_drew ?_ | refine blk_alloc ?_ _)); refine blk_put (cs := #[.int .u64 0, .bool false, .int .i64 0, .int .u64 0, .int .i64 0, .int .i64 0]) ?_ 1 _ rfl; (with_reducible repeat (first | refine blk_drewN ?_ _ | refine blk_drew ?_ | refine blk_alloc ?_ _)); refine blk_put (cs := #[.int .u64 0, .bool false, .int .i64 0, .int .u64 0, .int .i64 0, .int .i64 0]) ?_ 0 _ rfl; (with_reducible repeat (first | refine blk_drewN ?_ _ | refine blk_drew ?_ | refine blk_alloc ?_ _)); refine blk_far ?_ NB383_391.out _; (with_reducible repeat (first | refine blk_drewN ?_ _ | refine blk_drew ?_ | refine blk_alloc ?_ _)); refine blk_far ?_ NB383_391.out _; (with_reducible repeat (first | refine blk_drewN ?_ _ | refine blk_drew ?_ | refine blk_alloc ?_ _)); exact BK383.out) Try.underlying26 rfl (by kernel_rfl)) rfl ?_
           exact ⟨by first | rfl | (simp [errW_none, errW_some] <;> rfl) | (simp [*, errW_none, errW_some] <;> rfl), by repeat (first | (with_reducible first | exact HB.out | apply below_alloc | apply bn1_ | apply bd1_ | refine below_set ?_ GE383.out | refine below_set ?_ GE391.out) | exact HB.out)⟩
          ·rw [if_neg c20] at H
           have c20b0 : decide (1 < (rd l0 0)) = false := decide_eq_false c20
           clear c20
           replace H := Option.bind_eq_some_iff.mp H
           obtain ⟨t397, A390, H⟩ := H
           replace H : (if t397 = true then (some (t385, ((rd l0 0) == 1), t393, t394, wrap64 (t388), wrap64 (t390), 0)) else (some (0, false, 0, 0, 0, 0, 3))) = some (r1, r2, r3, r4, r5, r6, r7) := H
           have A39 := Aside0.mk A390
           clear A390
           by_cases c40 : t397 = true
           ·subst c40
            have H1 : (some (t385, ((rd l0 0) == 1), t393, t394, wrap64 (t388), wrap64 (t390), 0)) = some (r1, r2, r3, r4, r5, r6, r7) := by rw [if_pos rfl] at H; exact H
            clear H
            have H := H1
            clear H1
            simp only [Option.some.injEq, Prod.mk.injEq] at H
            obtain ⟨rfl, rfl, rfl, rfl, rfl, rfl, rfl⟩ := H
            go_enter Try.func16, Try.ntmps16
            try go_wp2_with (first | ((with_reducible refine gate_dst (N := 2) rfl ?_); refine box_event ?hg (N := 2) ?hd (cs := #[.int .u64 0, .bool false, .int .i64 0, .int .u64 0, .int .i64 0, .int .i64 0]) (t := 26) ?hr ?_; (case hd => rfl); (case hg => rfl); (case hr => first | (go_simp; done) | (go_simp; rfl)); intro gb383 hg w41 hbox hb; have n0_ := Aside0.mk (below_step (by repeat (first | (with_reducible first | exact HB.out | apply below_alloc | apply bn1_ | apply bd1_) | exact HB.out)) hb); have n1_ := Aside0.mk (hbox); have n2_ := Aside0.mk ((by rw [hg]; exact (below_size (by repeat (first | (with_reducible first | exact HB.out | apply below_alloc | apply bn1_ | apply bd1_) | exact HB.out))) : w.heap.size ≤ gb383)); have n3_ := Aside0.mk ((by rw [hg]; exact (below_size (by repeat (first | (with_reducible first | exact HB.out | apply below_alloc | apply bn1_ | apply bd1_) | exact HB.out))) : w.heap.size ≤ gb383)); clear HB; have HB := n0_; have BK383 := n1_; have GW383 := n2_; have GE383 := n3_; clear n0_ n1_ n2_ n3_; clear hb hbox hg))
            have n0_ := Aside0.mk (blk_drew BK383.out)
            have n1_ := Aside0.mk (below_drew1 HB.out)
            clear BK383 HB
            have BK383 := n0_
            have HB := n1_
            clear n0_ n1_
            obtain ⟨i043, hi043, _, hsz43, _⟩ := info_parts info5
            obtain ⟨A43, hcut43, hA43, hC43⟩ := print_mid_of (P := Try.prog) (Value.int .u8) 0 36 5 .i64 .i64 Try.underlying36 hi043 hsz43 A0 c0 l0 1 9 (by omega) (by first | omega | exact of_decide_eq_true (by first | (with_reducible assumption) | assumption)) (of_decide_eq_true (by first | (with_reducible assumption) | assumption)) HC0.out
            have HR384 := Aside0.mk (Kd.C_of_reads (h1 := fun _ => rfl) (hA43 _ (Kd.reads_of_C HR0.out)))
            have HC384 := Aside0.mk hC43
            clear hA43 hC43 hi043 hsz43
            have p386 : 0 ≤ (0 : Int) := (by omega)
            have q386 : 0 < (l0.length : Int) := of_decide_eq_true (by first | (with_reducible assumption) | assumption)
            obtain ⟨ad386, e386, hx386_0⟩ := Kd.at_int HR0.out 0 p386 q386
            have hw386_0 := hx386_0
            (try rw [show ((0 : Int)).toNat = 0 from rfl] at hw386_0)
            (try rw [show 0 * 1 = 0 from rfl] at hw386_0)
            (try rw [Addr.add_zero'] at hw386_0)
            cases e386
            have qi386 : (0 < l0.length) = True := eq_true (by omega)
            (try rw [show ((0 : Int)).toNat = 0 from rfl] at hx386_0)
            (try rw [Addr.add_zero'] at hx386_0)
            replace hx386_0 := (HB.out.cell (World.block_lt_of_cell? w _ hx386_0)).trans hx386_0
            replace p386 := eq_true p386
            replace q386 := eq_true q386
            obtain ⟨i044, hi044, _, hsz44, _⟩ := info_parts info5
            obtain ⟨A44, hcut44, hA44, hC44⟩ := print_mid_of (P := Try.prog) (Value.int .u8) 0 36 5 .i64 .i64 Try.underlying36 hi044 hsz44 (some ad386) c0 l0 25 33 (by omega) (by first | omega | exact of_decide_eq_true (by first | (with_reducible assumption) | assumption)) (of_decide_eq_true (by first | (with_reducible assumption) | assumption)) HC0.out
            have HR387 := Aside0.mk (Kd.C_of_reads (h1 := fun _ => rfl) (hA44 _ (Kd.reads_of_C HR0.out)))
            have HC387 := Aside0.mk hC44
            clear hA44 hC44 hi044 hsz44
            obtain ⟨i045, hi045, _, hsz45, _⟩ := info_parts info5
            obtain ⟨A45, hcut45, hA45, hC45⟩ := print_drop_of (P := Try.prog) (Value.int .u8) 0 36 5 .i64 Try.underlying36 hi045 hsz45 (some ad386) c0 l0 33 (by omega) (of_decide_eq_true (by first | (with_reducible assumption) | assumption)) HC0.out
            have HR389 := Aside0.mk (Kd.C_of_reads (h1 := fun _ => rfl) (hA45 _ (Kd.reads_of_C HR0.out)))
            have HC389 := Aside0.mk hC45
            clear hA45 hC45 hi045 hsz45
            refine start_ (n := 18) (S := fun w' => w'.cell? ad386 = some (.int .u8 (rd l0 0))) (ds := []) #[F1,F1,F1,F1,F1,F1,F1,F1,F1,F1,F1,F1,F1,F1,F1,F1,F1,F1] (by kernel_rfl) rfl rfl (((HB.out.cell (World.block_lt_of_cell? w _ hw386_0)).trans hw386_0)) (fun hHeld => ?_); refine with_tabW agg_Read.tab5 agg_Read.bits5 (fun HT_ HW_ => ?_)
            generalize w41.drew = w42 at BK383 HB HR384 HR387 HR389 hx386_0 hHeld ⊢
            refine pure_ (i := 0) (N := some 15) (v := ?_) (a' := ?_) #[T1,F1,F1,F1,F1,F1,F1,F1,F1,F1,F1,F1,F1,F1,F1,F1,F1,F1] rfl rfl (any_of HT_.out (by kernel_rfl)) (fun _ _ _ h => h) (Or.inl ⟨by rfl, ?_⟩) ?_ ?_
            rotate_left
            ·intro w'
             go_simp
             with_reducible rfl
            rotate_left
            ·simp only [Act.put, sa1_, sb1_, sc1_, i64_w, i32_w]
             rfl
            refine pure_ (i := 1) (N := some 16) (v := ?_) (a' := ?_) #[T1,T1,F1,F1,F1,F1,F1,F1,F1,F1,F1,F1,F1,F1,F1,F1,F1,F1] rfl rfl (any_of HT_.out (by kernel_rfl)) (fun _ _ _ h => h) (Or.inl ⟨by rfl, ?_⟩) ?_ ?_
            rotate_left
            ·intro w'
             go_simp
             with_reducible rfl
            rotate_left
            ·simp only [Act.put, sa1_, sb1_, sc1_, i64_w, i32_w]
             rfl
            refine pure_ (i := 3) (N := some 18) (v := ?_) (a' := ?_) #[T1,T1,F1,T1,F1,F1,F1,F1,F1,F1,F1,F1,F1,F1,F1,F1,F1,F1] rfl rfl (any_of HT_.out (by kernel_rfl)) (fun _ _ _ h => h) (Or.inl ⟨by rfl, ?_⟩) ?_ ?_
            rotate_left
            ·intro w'
             go_simp
             with_reducible rfl
            rotate_left
            ·simp only [Act.put, sa1_, sb1_, sc1_, i64_w, i32_w]
             rfl
            refine pure_ (i := 4) (N := some 19) (v := ?_) (a' := ?_) #[T1,T1,F1,T1,T1,F1,F1,F1,F1,F1,F1,F1,F1,F1,F1,F1,F1,F1] rfl rfl (any_of HT_.out (by kernel_rfl)) (fun _ _ _ h => h) (Or.inl ⟨by rfl, ?_⟩) ?_ ?_
            rotate_left
            ·intro w'
             go_simp
             with_reducible rfl
            rotate_left
            ·simp only [Act.put, sa1_, sb1_, sc1_, i64_w, i32_w]
             rfl
            refine pure_ (i := 7) (N := some 22) (v := ?_) (a' := ?_) #[T1,T1,F1,T1,T1,F1,F1,T1,F1,F1,F1,F1,F1,F1,F1,F1,F1,F1] rfl rfl (any_of HT_.out (by kernel_rfl)) (fun _ _ _ h => h) (Or.inl ⟨by rfl, ?_⟩) ?_ ?_
            rotate_left
            ·intro w'
             go_simp
             with_reducible rfl
            rotate_left
            ·simp only [Act.put, sa1_, sb1_, sc1_, i64_w, i32_w]
             rfl
            refine pure_ (i := 8) (N := some 23) (v := ?_) (a' := ?_) #[T1,T1,F1,T1,T1,F1,F1,T1,T1,F1,F1,F1,F1,F1,F1,F1,F1,F1] rfl rfl (any_of HT_.out (by kernel_rfl)) (fun _ _ _ h => h) (Or.inl ⟨by rfl, ?_⟩) ?_ ?_
            rotate_left
            ·intro w'
             go_simp
             with_reducible rfl
            rotate_left
            ·simp only [Act.put, sa1_, sb1_, sc1_, i64_w, i32_w]
             rfl
            refine pure_ (i := 11) (N := some 26) (v := ?_) (a' := ?_) #[T1,T1,F1,T1,T1,F1,F1,T1,T1,F1,F1,T1,F1,F1,F1,F1,F1,F1] rfl rfl (any_of HT_.out (by kernel_rfl)) (fun _ _ _ h => h) (Or.inl ⟨by rfl, ?_⟩) ?_ ?_
            rotate_left
            ·intro w'
             go_simp
             with_reducible rfl
            rotate_left
            ·simp only [Act.put, sa1_, sb1_, sc1_, i64_w, i32_w]
             rfl
            refine pure_ (i := 12) (N := some 27) (v := ?_) (a' := ?_) #[T1,T1,F1,T1,T1,F1,F1,T1,T1,F1,F1,T1,T1,F1,F1,F1,F1,F1] rfl rfl (any_of HT_.out (by kernel_rfl)) (fun _ _ _ h => h) (Or.inl ⟨by rfl, ?_⟩) ?_ ?_
            rotate_left
            ·intro w'
             go_simp
             with_reducible rfl
            rotate_left
            ·simp only [Act.put, sa1_, sb1_, sc1_, i64_w, i32_w]
             rfl
            refine take_ (i := 5) (N := some 20) (v := ?_) (a' := ?_) #[T1,T1,F1,T1,T1,T1,F1,T1,T1,F1,F1,T1,T1,F1,F1,F1,F1,F1] rfl rfl (take_ofW HT_.out HW_.out (by kernel_rfl)) (fun _ _ _ h => h) (Or.inl ⟨by rfl, ?_⟩) hHeld ?_ ?_
            rotate_left
            ·intro w' s0
             go_simp
             with_reducible rfl
            rotate_left
            ·simp only [Act.put, sa1_, sb1_, sc1_, i64_w, i32_w]
             rfl
            refine pure_ (i := 6) (N := some 21) (v := ?_) (a' := ?_) #[T1,T1,F1,T1,T1,T1,T1,T1,T1,F1,F1,T1,T1,F1,F1,F1,F1,F1] rfl rfl (any_of HT_.out (by kernel_rfl)) (fun _ _ _ h => h) (Or.inl ⟨by rfl, ?_⟩) ?_ ?_
            rotate_left
            ·intro w'
             go_simp
             with_reducible rfl
            rotate_left
            ·simp only [Act.put, sa1_, sb1_, sc1_, i64_w, i32_w]
             rfl
            refine join_ (σ := Nat) 1 #[T1,T1,T1,T1,T1,T1,T1,T1,T1,T1,T1,T1,T1,T1,T1,T1,T1,F1] (fun s_ => [(17, .int .u64 t385), (24, .int .u64 t388), (28, .int .u64 t390), (4, .pointer (some ⟨s_, 0, none⟩)), (25, .int .i64 (wrap64 (t388))), (29, .int .i64 (wrap64 (t390))), (30, .agg #[.int .u64 t385, .bool ((rd l0 0) == 1), .int .i64 0, .int .u64 0, .int .i64 (wrap64 (t388)), .int .i64 (wrap64 (t390))])]) (fun s_ w' => (w'.cell? ad386 = some (.int .u8 (rd l0 0))) ∧ (w'.heap[gb383]? = some (.cells #[.int .u64 0, .bool false, .int .i64 0, .int .u64 0, .int .i64 0, .int .i64 0] 26 (0, 0))) ∧ (w'.heap[s_]? = some (.cells #[.int .u64 0, .bool false, .int .i64 0, .int .u64 0, .int .i64 0, .int .i64 0] 26 (0, 0))) ∧ (w.heap.size ≤ s_) ∧ (w.heap.size ≤ s_) ∧ (gb383 ≠ s_) ∧ (s_ ≠ gb383) ∧ (Below w.heap.size w w')) ?_ ?_
            rotate_left
            ·intro hCont
             refine two_ (i := 2) (j := 16) (Ni := some 17) (Nj := some 4) #[T1,T1,T1,T1,T1,T1,T1,T1,T1,F1,F1,T1,T1,F1,F1,F1,F1,F1] #[T1,T1,F1,T1,T1,T1,T1,T1,T1,F1,F1,T1,T1,F1,F1,F1,T1,F1] rfl rfl rfl rfl (two_of HT_.out (by kernel_rfl)) (by decide) (by decide) (fun K hK => ?_) (fun K hK => ?_)
             ·skip
              refine goes_ Try.func30 (by kernel_rfl) rfl #[.slice A43 ((l0.take 9).drop 1).length (c0 - 1)] (by rfl) rfl rfl (by (try simp only [List.map_toArray, List.map_cons, List.map_nil]); first | done | (rw [show ((l0.take 9).drop 1).length = (9 - 1) from (by rw [List.length_drop, List.length_take]; have h_ : (9 : Int) ≤ (l0.length : Int) := of_decide_eq_true (by first | (with_reducible assumption) | assumption); omega)] <;> rfl) | rfl | (simp only [List.length_drop, List.length_take]; rfl)) ?_
              with_reducible refine (agg_number.calls k _ _ ((l0.take 9).drop 1) t385 _ ?side1 ?side2 A10.out).mono ?_
              (case side1 => repeat (first | exact (Kd.C_below HR384.out HB.out) | (with_reducible refine Kd.C_alloc ?_ _) | (with_reducible refine Kd.C_drewN ?_ _) | (with_reducible refine Kd.C_drew ?_)))
              (case side2 => exact HC384.out)
              rintro e w' ⟨rfl, ⟨nd, rfl⟩⟩
              refine ⟨_, rfl, ?_⟩
              refine hK.out _ _ (((HB.out.cell (World.block_lt_of_cell? w _ hw386_0)).trans hw386_0)) (fun hHeld => ?_)
              clear hK K
              refine norm_ (a' := ?_) ?_ ?_
              rotate_left
              ·show Act.put _ (some 17) _ = _
               simp only [Act.put, sa1_, sb1_, sc1_, i64_w, i32_w]
               rfl
              refine two_ (i := 9) (j := 16) (Ni := some 24) (Nj := some 4) #[T1,T1,T1,T1,T1,T1,T1,T1,T1,T1,F1,T1,T1,F1,F1,F1,F1,F1] #[T1,T1,T1,T1,T1,T1,T1,T1,T1,F1,F1,T1,T1,F1,F1,F1,T1,F1] rfl rfl rfl rfl (two_of HT_.out (by kernel_rfl)) (by decide) (by decide) (fun K hK => ?_) (fun K hK => ?_)
              ·skip
               refine goes_ Try.func30 (by kernel_rfl) rfl #[.slice A44 ((l0.take 33).drop 25).length (c0 - 25)] (by rfl) rfl rfl (by (try simp only [List.map_toArray, List.map_cons, List.map_nil]); first | done | (rw [show ((l0.take 33).drop 25).length = (33 - 25) from (by rw [List.length_drop, List.length_take]; have h_ : (33 : Int) ≤ (l0.length : Int) := of_decide_eq_true (by first | (with_reducible assumption) | assumption); omega)] <;> rfl) | rfl | (simp only [List.length_drop, List.length_take]; rfl)) ?_
               with_reducible refine (agg_number.calls k _ _ ((l0.take 33).drop 25) t388 _ ?side1 ?side2 A14.out).mono ?_
               (case side1 => repeat (first | exact (Kd.C_below HR387.out (by repeat (first | (with_reducible first | exact HB.out | apply below_alloc | apply bn1_ | apply bd1_ | refine below_set ?_ GE383.out) | exact HB.out))) | (with_reducible refine Kd.C_alloc ?_ _) | (with_reducible refine Kd.C_drewN ?_ _) | (with_reducible refine Kd.C_drew ?_)))
               (case side2 => exact HC387.out)
               rintro e w' ⟨rfl, ⟨nd, rfl⟩⟩
               refine ⟨_, rfl, ?_⟩
               refine hK.out _ _ (((HB.out.cell (World.block_lt_of_cell? w _ hw386_0)).trans hw386_0)) (fun hHeld => ?_)
               clear hK K
               refine norm_ (a' := ?_) ?_ ?_
               rotate_left
               ·show Act.put _ (some 24) _ = _
                simp only [Act.put, sa1_, sb1_, sc1_, i64_w, i32_w]
                rfl
               refine pure_ (i := 10) (N := some 25) (v := ?_) (a' := ?_) #[T1,T1,T1,T1,T1,T1,T1,T1,T1,T1,T1,T1,T1,F1,F1,F1,F1,F1] rfl rfl (any_of HT_.out (by kernel_rfl)) (fun _ _ _ h => h) (Or.inl ⟨by rfl, ?_⟩) ?_ ?_
               rotate_left
               ·intro w'
                go_simp
                with_reducible rfl
               rotate_left
               ·simp only [Act.put, sa1_, sb1_, sc1_, i64_w, i32_w]
                rfl
               refine two_ (i := 13) (j := 16) (Ni := some 28) (Nj := some 4) #[T1,T1,T1,T1,T1,T1,T1,T1,T1,T1,T1,T1,T1,T1,F1,F1,F1,F1] #[T1,T1,T1,T1,T1,T1,T1,T1,T1,T1,T1,T1,T1,F1,F1,F1,T1,F1] rfl rfl rfl rfl (two_of HT_.out (by kernel_rfl)) (by decide) (by decide) (fun K hK => ?_) (fun K hK => ?_)
               ·skip
                refine goes_ Try.func30 (by kernel_rfl) rfl #[.slice A45 (l0.drop 33).length (c0 - 33)] (by rfl) rfl rfl (by (try simp only [List.map_toArray, List.map_cons, List.map_nil]); first | done | (rw [show (l0.drop 33).length = (l0.length - 33) from List.length_drop] <;> rfl) | rfl | (simp only [List.length_drop, List.length_take]; rfl)) ?_
                with_reducible refine (agg_number.calls k _ _ (l0.drop 33) t390 _ ?side1 ?side2 A16.out).mono ?_
                (case side1 => repeat (first | exact (Kd.C_below HR389.out (by repeat (first | (with_reducible first | exact HB.out | apply below_alloc | apply bn1_ | apply bd1_ | refine below_set ?_ GE383.out) | exact HB.out))) | (with_reducible refine Kd.C_alloc ?_ _) | (with_reducible refine Kd.C_drewN ?_ _) | (with_reducible refine Kd.C_drew ?_)))
                (case side2 => exact HC389.out)
                rintro e w' ⟨rfl, ⟨nd, rfl⟩⟩
                refine ⟨_, rfl, ?_⟩
                refine hK.out _ _ (((HB.out.cell (World.block_lt_of_cell? w _ hw386_0)).trans hw386_0)) (fun hHeld => ?_)
                clear hK K
                refine norm_ (a' := ?_) ?_ ?_
                rotate_left
                ·show Act.put _ (some 28) _ = _
                 simp only [Act.put, sa1_, sb1_, sc1_, i64_w, i32_w]
                 rfl
                refine pure_ (i := 14) (N := some 29) (v := ?_) (a' := ?_) #[T1,T1,T1,T1,T1,T1,T1,T1,T1,T1,T1,T1,T1,T1,T1,F1,F1,F1] rfl rfl (any_of HT_.out (by kernel_rfl)) (fun _ _ _ h => h) (Or.inl ⟨by rfl, ?_⟩) ?_ ?_
                rotate_left
                ·intro w'
                 go_simp
                 with_reducible rfl
                rotate_left
                ·simp only [Act.put, sa1_, sb1_, sc1_, i64_w, i32_w]
                 rfl
                refine pure_ (i := 15) (N := some 30) (v := ?_) (a' := ?_) #[T1,T1,T1,T1,T1,T1,T1,T1,T1,T1,T1,T1,T1,T1,T1,T1,F1,F1] rfl rfl (any_of HT_.out (by kernel_rfl)) (fun _ _ _ h => h) (Or.inl ⟨by rfl, ?_⟩) ?_ ?_
                rotate_left
                ·intro w'
                 go_simp
                 with_reducible rfl
                rotate_left
                ·simp only [Act.put, sa1_, sb1_, sc1_, i64_w, i32_w]
                 rfl
                refine one_ (i := 16) (N := some 4) #[T1,T1,T1,T1,T1,T1,T1,T1,T1,T1,T1,T1,T1,T1,T1,T1,T1,F1] rfl rfl (one_of HT_.out (by kernel_rfl)) (by decide) (fun K hK => ?_)
                refine box_step ?hg (N := 4) ?hd (cs := #[.int .u64 0, .bool false, .int .i64 0, .int .u64 0, .int .i64 0, .int .i64 0]) (t := 26) ?hr ?_; (case hd => rfl); (case hg => rfl); (case hr => first | (go_simp; done) | (go_simp; rfl))
                intro gb391 hg w46 hbox hb
                have n0_ := Aside0.mk (blk_below (g := gb383) (o := .cells #[.int .u64 0, .bool false, .int .i64 0, .int .u64 0, .int .i64 0, .int .i64 0] 26 (0, 0)) (by (with_reducible repeat (first | refine blk_drewN ?_ _ | refine blk_drew ?_ | refine blk_alloc ?_ _)); exact BK383.out) hb)
                have n1_ := Aside0.mk (below_step (by repeat (first | (with_reducible first | exact HB.out | apply below_alloc | apply bn1_ | apply bd1_ | refine below_set ?_ GE383.out) | exact HB.out)) hb)
                have n2_ := Aside0.mk (hbox)
                have n3_ := Aside0.mk ((by rw [hg]; exact (below_size (by repeat (first | (with_reducible first | exact HB.out | apply below_alloc | apply bn1_ | apply bd1_ | refine below_set ?_ GE383.out) | exact HB.out))) : w.heap.size ≤ gb391))
                have n4_ := Aside0.mk ((by rw [hg]; exact (below_size (by repeat (first | (with_reducible first | exact HB.out | apply below_alloc | apply bn1_ | apply bd1_ | refine below_set ?_ GE383.out) | exact HB.out))) : w.heap.size ≤ gb391))
                have n5_ := Aside0.mk ((by rw [hg]; exact Nat.ne_of_lt (blk_lt (g := gb383) (o := .cells #[.int .u64 0, .bool false, .int .i64 0, .int .u64 0, .int .i64 0, .int .i64 0] 26 (0, 0)) (by (with_reducible repeat (first | refine blk_drewN ?_ _ | refine blk_drew ?_ | refine blk_alloc ?_ _)); exact BK383.out)) : gb383 ≠ gb391))
                have n6_ := Aside0.mk ((by rw [hg]; exact Nat.ne_of_gt (blk_lt (g := gb383) (o := .cells #[.int .u64 0, .bool false, .int .i64 0, .int .u64 0, .int .i64 0, .int .i64 0] 26 (0, 0)) (by (with_reducible repeat (first | refine blk_drewN ?_ _ | refine blk_drew ?_ | refine blk_alloc ?_ _)); exact BK383.out)) : gb391 ≠ gb383))
                clear BK383 HB
                have BK383 := n0_
                have HB := n1_
                have BK391 := n2_
                have GW391 := n3_
                have GE391 := n4_
                have NB383_391 := n5_
                have NB391_383 := n6_
                clear n0_ n1_ n2_ n3_ n4_ n5_ n6_
                clear hb hbox hg
                refine hK.out _ _ (((HB.out.cell (World.block_lt_of_cell? w _ hw386_0)).trans hw386_0)) (fun hHeld => ?_)
                clear hK K
                refine norm_ (a' := ?_) ?_ ?_
                rotate_left
                ·show Act.put _ (some 4) _ = _
                 simp only [Act.put, sa1_, sb1_, sc1_, i64_w, i32_w]
                 rfl
                exact norm_ (by simp only [putAll, Act.put, sa1_, sb1_, sc1_]) (hCont (gb391) _ ⟨hHeld, (by (with_reducible repeat (first | refine blk_drewN ?_ _ | refine blk_drew ?_ | refine blk_alloc ?_ _)); exact BK383.out), (by (with_reducible repeat (first | refine blk_drewN ?_ _ | refine blk_drew ?_ | refine blk_alloc ?_ _)); exact BK391.out), GW391.out, GE391.out, NB383_391.out, NB391_383.out, (by repeat (first | (with_reducible first | exact HB.out | apply below_alloc | apply bn1_ | apply bd1_ | refine below_set ?_ GE383.out | refine below_set ?_ GE391.out) | exact HB.out))⟩)
               ·skip
                refine box_step ?hg (N := 4) ?hd (cs := #[.int .u64 0, .bool false, .int .i64 0, .int .u64 0, .int .i64 0, .int .i64 0]) (t := 26) ?hr ?_; (case hd => rfl); (case hg => rfl); (case hr => first | (go_simp; done) | (go_simp; rfl))
                intro gb391 hg w46 hbox hb
                have n0_ := Aside0.mk (blk_below (g := gb383) (o := .cells #[.int .u64 0, .bool false, .int .i64 0, .int .u64 0, .int .i64 0, .int .i64 0] 26 (0, 0)) (by (with_reducible repeat (first | refine blk_drewN ?_ _ | refine blk_drew ?_ | refine blk_alloc ?_ _)); exact BK383.out) hb)
                have n1_ := Aside0.mk (below_step (by repeat (first | (with_reducible first | exact HB.out | apply below_alloc | apply bn1_ | apply bd1_ | refine below_set ?_ GE383.out) | exact HB.out)) hb)
                have n2_ := Aside0.mk (hbox)
                have n3_ := Aside0.mk ((by rw [hg]; exact (below_size (by repeat (first | (with_reducible first | exact HB.out | apply below_alloc | apply bn1_ | apply bd1_ | refine below_set ?_ GE383.out) | exact HB.out))) : w.heap.size ≤ gb391))
                have n4_ := Aside0.mk ((by rw [hg]; exact (below_size (by repeat (first | (with_reducible first | exact HB.out | apply below_alloc | apply bn1_ | apply bd1_ | refine below_set ?_ GE383.out) | exact HB.out))) : w.heap.size ≤ gb391))
                have n5_ := Aside0.mk ((by rw [hg]; exact Nat.ne_of_lt (blk_lt (g := gb383) (o := .cells #[.int .u64 0, .bool false, .int .i64 0, .int .u64 0, .int .i64 0, .int .i64 0] 26 (0, 0)) (by (with_reducible repeat (first | refine blk_drewN ?_ _ | refine blk_drew ?_ | refine blk_alloc ?_ _)); exact BK383.out)) : gb383 ≠ gb391))
                have n6_ := Aside0.mk ((by rw [hg]; exact Nat.ne_of_gt (blk_lt (g := gb383) (o := .cells #[.int .u64 0, .bool false, .int .i64 0, .int .u64 0, .int .i64 0, .int .i64 0] 26 (0, 0)) (by (with_reducible repeat (first | refine blk_drewN ?_ _ | refine blk_drew ?_ | refine blk_alloc ?_ _)); exact BK383.out)) : gb391 ≠ gb383))
                clear BK383 HB
                have BK383 := n0_
                have HB := n1_
                have BK391 := n2_
                have GW391 := n3_
                have GE391 := n4_
                have NB383_391 := n5_
                have NB391_383 := n6_
                clear n0_ n1_ n2_ n3_ n4_ n5_ n6_
                clear hb hbox hg
                refine hK.out _ _ (((HB.out.cell (World.block_lt_of_cell? w _ hw386_0)).trans hw386_0)) (fun hHeld => ?_)
                clear hK K
                refine norm_ (a' := ?_) ?_ ?_
                rotate_left
                ·show Act.put _ (some 4) _ = _
                 simp only [Act.put, sa1_, sb1_, sc1_, i64_w, i32_w]
                 rfl
                refine one_ (i := 13) (N := some 28) #[T1,T1,T1,T1,T1,T1,T1,T1,T1,T1,T1,T1,T1,T1,F1,F1,T1,F1] rfl rfl (one_of HT_.out (by kernel_rfl)) (by decide) (fun K hK => ?_)
                refine goes_ Try.func30 (by kernel_rfl) rfl #[.slice A45 (l0.drop 33).length (c0 - 33)] (by rfl) rfl rfl (by (try simp only [List.map_toArray, List.map_cons, List.map_nil]); first | done | (rw [show (l0.drop 33).length = (l0.length - 33) from List.length_drop] <;> rfl) | rfl | (simp only [List.length_drop, List.length_take]; rfl)) ?_
                with_reducible refine (agg_number.calls k _ _ (l0.drop 33) t390 _ ?side1 ?side2 A16.out).mono ?_
                (case side1 => repeat (first | exact (Kd.C_below HR389.out HB.out) | (with_reducible refine Kd.C_alloc ?_ _) | (with_reducible refine Kd.C_drewN ?_ _) | (with_reducible refine Kd.C_drew ?_)))
                (case side2 => exact HC389.out)
                rintro e w' ⟨rfl, ⟨nd, rfl⟩⟩
                refine ⟨_, rfl, ?_⟩
                refine hK.out _ _ (((HB.out.cell (World.block_lt_of_cell? w _ hw386_0)).trans hw386_0)) (fun hHeld => ?_)
                clear hK K
                refine norm_ (a' := ?_) ?_ ?_
                rotate_left
                ·show Act.put _ (some 28) _ = _
                 simp only [Act.put, sa1_, sb1_, sc1_, i64_w, i32_w]
                 rfl
                refine pure_ (i := 14) (N := some 29) (v := ?_) (a' := ?_) #[T1,T1,T1,T1,T1,T1,T1,T1,T1,T1,T1,T1,T1,T1,T1,F1,T1,F1] rfl rfl (any_of HT_.out (by kernel_rfl)) (fun _ _ _ h => h) (Or.inl ⟨by rfl, ?_⟩) ?_ ?_
                rotate_left
                ·intro w'
                 go_simp
                 with_reducible rfl
                rotate_left
                ·simp only [Act.put, sa1_, sb1_, sc1_, i64_w, i32_w]
                 rfl
                refine pure_ (i := 15) (N := some 30) (v := ?_) (a' := ?_) #[T1,T1,T1,T1,T1,T1,T1,T1,T1,T1,T1,T1,T1,T1,T1,T1,T1,F1] rfl rfl (any_of HT_.out (by kernel_rfl)) (fun _ _ _ h => h) (Or.inl ⟨by rfl, ?_⟩) ?_ ?_
                rotate_left
                ·intro w'
                 go_simp
                 with_reducible rfl
                rotate_left
                ·simp only [Act.put, sa1_, sb1_, sc1_, i64_w, i32_w]
                 rfl
                exact norm_ (by simp only [putAll, Act.put, sa1_, sb1_, sc1_]) (hCont (gb391) _ ⟨hHeld, (by (with_reducible repeat (first | refine blk_drewN ?_ _ | refine blk_drew ?_ | refine blk_alloc ?_ _)); exact BK383.out), (by (with_reducible repeat (first | refine blk_drewN ?_ _ | refine blk_drew ?_ | refine blk_alloc ?_ _)); exact BK391.out), GW391.out, GE391.out, NB383_391.out, NB391_383.out, (by repeat (first | (with_reducible first | exact HB.out | apply below_alloc | apply bn1_ | apply bd1_ | refine below_set ?_ GE383.out | refine below_set ?_ GE391.out) | exact HB.out))⟩)
              ·skip
               refine box_step ?hg (N := 4) ?hd (cs := #[.int .u64 0, .bool false, .int .i64 0, .int .u64 0, .int .i64 0, .int .i64 0]) (t := 26) ?hr ?_; (case hd => rfl); (case hg => rfl); (case hr => first | (go_simp; done) | (go_simp; rfl))
               intro gb391 hg w46 hbox hb
               have n0_ := Aside0.mk (blk_below (g := gb383) (o := .cells #[.int .u64 0, .bool false, .int .i64 0, .int .u64 0, .int .i64 0, .int .i64 0] 26 (0, 0)) (by (with_reducible repeat (first | refine blk_drewN ?_ _ | refine blk_drew ?_ | refine blk_alloc ?_ _)); exact BK383.out) hb)
               have n1_ := Aside0.mk (below_step (by repeat (first | (with_reducible first | exact HB.out | apply below_alloc | apply bn1_ | apply bd1_ | refine below_set ?_ GE383.out) | exact HB.out)) hb)
               have n2_ := Aside0.mk (hbox)
               have n3_ := Aside0.mk ((by rw [hg]; exact (below_size (by repeat (first | (with_reducible first | exact HB.out | apply below_alloc | apply bn1_ | apply bd1_ | refine below_set ?_ GE383.out) | exact HB.out))) : w.heap.size ≤ gb391))
               have n4_ := Aside0.mk ((by rw [hg]; exact (below_size (by repeat (first | (with_reducible first | exact HB.out | apply below_alloc | apply bn1_ | apply bd1_ | refine below_set ?_ GE383.out) | exact HB.out))) : w.heap.size ≤ gb391))
               have n5_ := Aside0.mk ((by rw [hg]; exact Nat.ne_of_lt (blk_lt (g := gb383) (o := .cells #[.int .u64 0, .bool false, .int .i64 0, .int .u64 0, .int .i64 0, .int .i64 0] 26 (0, 0)) (by (with_reducible repeat (first | refine blk_drewN ?_ _ | refine blk_drew ?_ | refine blk_alloc ?_ _)); exact BK383.out)) : gb383 ≠ gb391))
               have n6_ := Aside0.mk ((by rw [hg]; exact Nat.ne_of_gt (blk_lt (g := gb383) (o := .cells #[.int .u64 0, .bool false, .int .i64 0, .int .u64 0, .int .i64 0, .int .i64 0] 26 (0, 0)) (by (with_reducible repeat (first | refine blk_drewN ?_ _ | refine blk_drew ?_ | refine blk_alloc ?_ _)); exact BK383.out)) : gb391 ≠ gb383))
               clear BK383 HB
               have BK383 := n0_
               have HB := n1_
               have BK391 := n2_
               have GW391 := n3_
               have GE391 := n4_
               have NB383_391 := n5_
               have NB391_383 := n6_
               clear n0_ n1_ n2_ n3_ n4_ n5_ n6_
               clear hb hbox hg
               refine hK.out _ _ (((HB.out.cell (World.block_lt_of_cell? w _ hw386_0)).trans hw386_0)) (fun hHeld => ?_)
               clear hK K
               refine norm_ (a' := ?_) ?_ ?_
               rotate_left
               ·show Act.put _ (some 4) _ = _
                simp only [Act.put, sa1_, sb1_, sc1_, i64_w, i32_w]
                rfl
               refine one_ (i := 9) (N := some 24) #[T1,T1,T1,T1,T1,T1,T1,T1,T1,T1,F1,T1,T1,F1,F1,F1,T1,F1] rfl rfl (one_of HT_.out (by kernel_rfl)) (by decide) (fun K hK => ?_)
               refine goes_ Try.func30 (by kernel_rfl) rfl #[.slice A44 ((l0.take 33).drop 25).length (c0 - 25)] (by rfl) rfl rfl (by (try simp only [List.map_toArray, List.map_cons, List.map_nil]); first | done | (rw [show ((l0.take 33).drop 25).length = (33 - 25) from (by rw [List.length_drop, List.length_take]; have h_ : (33 : Int) ≤ (l0.length : Int) := of_decide_eq_true (by first | (with_reducible assumption) | assumption); omega)] <;> rfl) | rfl | (simp only [List.length_drop, List.length_take]; rfl)) ?_
               with_reducible refine (agg_number.calls k _ _ ((l0.take 33).drop 25) t388 _ ?side1 ?side2 A14.out).mono ?_
               (case side1 => repeat (first | exact (Kd.C_below HR387.out HB.out) | (with_reducible refine Kd.C_alloc ?_ _) | (with_reducible refine Kd.C_drewN ?_ _) | (with_reducible refine Kd.C_drew ?_)))
               (case side2 => exact HC387.out)
               rintro e w' ⟨rfl, ⟨nd, rfl⟩⟩
               refine ⟨_, rfl, ?_⟩
               refine hK.out _ _ (((HB.out.cell (World.block_lt_of_cell? w _ hw386_0)).trans hw386_0)) (fun hHeld => ?_)
               clear hK K
               refine norm_ (a' := ?_) ?_ ?_
               rotate_left
               ·show Act.put _ (some 24) _ = _
                simp only [Act.put, sa1_, sb1_, sc1_, i64_w, i32_w]
                rfl
               refine pure_ (i := 10) (N := some 25) (v := ?_) (a' := ?_) #[T1,T1,T1,T1,T1,T1,T1,T1,T1,T1,T1,T1,T1,F1,F1,F1,T1,F1] rfl rfl (any_of HT_.out (by kernel_rfl)) (fun _ _ _ h => h) (Or.inl ⟨by rfl, ?_⟩) ?_ ?_
               rotate_left
               ·intro w'
                go_simp
                with_reducible rfl
               rotate_left
               ·simp only [Act.put, sa1_, sb1_, sc1_, i64_w, i32_w]
                rfl
               refine one_ (i := 13) (N := some 28) #[T1,T1,T1,T1,T1,T1,T1,T1,T1,T1,T1,T1,T1,T1,F1,F1,T1,F1] rfl rfl (one_of HT_.out (by kernel_rfl)) (by decide) (fun K hK => ?_)
               refine goes_ Try.func30 (by kernel_rfl) rfl #[.slice A45 (l0.drop 33).length (c0 - 33)] (by rfl) rfl rfl (by (try simp only [List.map_toArray, List.map_cons, List.map_nil]); first | done | (rw [show (l0.drop 33).length = (l0.length - 33) from List.length_drop] <;> rfl) | rfl | (simp only [List.length_drop, List.length_take]; rfl)) ?_
               with_reducible refine (agg_number.calls k _ _ (l0.drop 33) t390 _ ?side1 ?side2 A16.out).mono ?_
               (case side1 => repeat (first | exact (Kd.C_below HR389.out (by repeat (first | (with_reducible first | exact HB.out | apply below_alloc | apply bn1_ | apply bd1_ | refine below_set ?_ GE383.out | refine below_set ?_ GE391.out) | exact HB.out))) | (with_reducible refine Kd.C_alloc ?_ _) | (with_reducible refine Kd.C_drewN ?_ _) | (with_reducible refine Kd.C_drew ?_)))
               (case side2 => exact HC389.out)
               rintro e w' ⟨rfl, ⟨nd, rfl⟩⟩
               refine ⟨_, rfl, ?_⟩
               refine hK.out _ _ (((HB.out.cell (World.block_lt_of_cell? w _ hw386_0)).trans hw386_0)) (fun hHeld => ?_)
               clear hK K
               refine norm_ (a' := ?_) ?_ ?_
               rotate_left
               ·show Act.put _ (some 28) _ = _
                simp only [Act.put, sa1_, sb1_, sc1_, i64_w, i32_w]
                rfl
               refine pure_ (i := 14) (N := some 29) (v := ?_) (a' := ?_) #[T1,T1,T1,T1,T1,T1,T1,T1,T1,T1,T1,T1,T1,T1,T1,F1,T1,F1] rfl rfl (any_of HT_.out (by kernel_rfl)) (fun _ _ _ h => h) (Or.inl ⟨by rfl, ?_⟩) ?_ ?_
               rotate_left
               ·intro w'
                go_simp
                with_reducible rfl
               rotate_left
               ·simp only [Act.put, sa1_, sb1_, sc1_, i64_w, i32_w]
                rfl
               refine pure_ (i := 15) (N := some 30) (v := ?_) (a' := ?_) #[T1,T1,T1,T1,T1,T1,T1,T1,T1,T1,T1,T1,T1,T1,T1,T1,T1,F1] rfl rfl (any_of HT_.out (by kernel_rfl)) (fun _ _ _ h => h) (Or.inl ⟨by rfl, ?_⟩) ?_ ?_
               rotate_left
               ·intro w'
                go_simp
                with_reducible rfl
               rotate_left
               ·simp only [Act.put, sa1_, sb1_, sc1_, i64_w, i32_w]
                rfl
               exact norm_ (by simp only [putAll, Act.put, sa1_, sb1_, sc1_]) (hCont (gb391) _ ⟨hHeld, (by (with_reducible repeat (first | refine blk_drewN ?_ _ | refine blk_drew ?_ | refine blk_alloc ?_ _)); exact BK383.out), (by (with_reducible repeat (first | refine blk_drewN ?_ _ | refine blk_drew ?_ | refine blk_alloc ?_ _)); exact BK391.out), GW391.out, GE391.out, NB383_391.out, NB391_383.out, (by repeat (first | (with_reducible first | exact HB.out | apply below_alloc | apply bn1_ | apply bd1_ | refine below_set ?_ GE383.out | refine below_set ?_ GE391.out) | exact HB.out))⟩)
             ·skip
              refine box_step ?hg (N := 4) ?hd (cs := #[.int .u64 0, .bool false, .int .i64 0, .int .u64 0, .int .i64 0, .int .i64 0]) (t := 26) ?hr ?_; (case hd => rfl); (case hg => rfl); (case hr => first | (go_simp; done) | (go_simp; rfl))
              intro gb391 hg w46 hbox hb
              have n0_ := Aside0.mk (blk_below (g := gb383) (o := .cells #[.int .u64 0, .bool false, .int .i64 0, .int .u64 0, .int .i64 0, .int .i64 0] 26 (0, 0)) (by (with_reducible repeat (first | refine blk_drewN ?_ _ | refine blk_drew ?_ | refine blk_alloc ?_ _)); exact BK383.out) hb)
              have n1_ := Aside0.mk (below_step (by repeat (first | (with_reducible first | exact HB.out | apply below_alloc | apply bn1_ | apply bd1_ | refine below_set ?_ GE383.out) | exact HB.out)) hb)
              have n2_ := Aside0.mk (hbox)
              have n3_ := Aside0.mk ((by rw [hg]; exact (below_size (by repeat (first | (with_reducible first | exact HB.out | apply below_alloc | apply bn1_ | apply bd1_ | refine below_set ?_ GE383.out) | exact HB.out))) : w.heap.size ≤ gb391))
              have n4_ := Aside0.mk ((by rw [hg]; exact (below_size (by repeat (first | (with_reducible first | exact HB.out | apply below_alloc | apply bn1_ | apply bd1_ | refine below_set ?_ GE383.out) | exact HB.out))) : w.heap.size ≤ gb391))
              have n5_ := Aside0.mk ((by rw [hg]; exact Nat.ne_of_lt (blk_lt (g := gb383) (o := .cells #[.int .u64 0, .bool false, .int .i64 0, .int .u64 0, .int .i64 0, .int .i64 0] 26 (0, 0)) (by (with_reducible repeat (first | refine blk_drewN ?_ _ | refine blk_drew ?_ | refine blk_alloc ?_ _)); exact BK383.out)) : gb383 ≠ gb391))
              have n6_ := Aside0.mk ((by rw [hg]; exact Nat.ne_of_gt (blk_lt (g := gb383) (o := .cells #[.int .u64 0, .bool false, .int .i64 0, .int .u64 0, .int .i64 0, .int .i64 0] 26 (0, 0)) (by (with_reducible repeat (first | refine blk_drewN ?_ _ | refine blk_drew ?_ | refine blk_alloc ?_ _)); exact BK383.out)) : gb391 ≠ gb383))
              clear BK383 HB
              have BK383 := n0_
              have HB := n1_
              have BK391 := n2_
              have GW391 := n3_
              have GE391 := n4_
              have NB383_391 := n5_
              have NB391_383 := n6_
              clear n0_ n1_ n2_ n3_ n4_ n5_ n6_
              clear hb hbox hg
              refine hK.out _ _ (((HB.out.cell (World.block_lt_of_cell? w _ hw386_0)).trans hw386_0)) (fun hHeld => ?_)
              clear hK K
              refine norm_ (a' := ?_) ?_ ?_
              rotate_left
              ·show Act.put _ (some 4) _ = _
               simp only [Act.put, sa1_, sb1_, sc1_, i64_w, i32_w]
               rfl
              refine one_ (i := 2) (N := some 17) #[T1,T1,T1,T1,T1,T1,T1,T1,T1,F1,F1,T1,T1,F1,F1,F1,T1,F1] rfl rfl (one_of HT_.out (by kernel_rfl)) (by decide) (fun K hK => ?_)
              refine goes_ Try.func30 (by kernel_rfl) rfl #[.slice A43 ((l0.take 9).drop 1).length (c0 - 1)] (by rfl) rfl rfl (by (try simp only [List.map_toArray, List.map_cons, List.map_nil]); first | done | (rw [show ((l0.take 9).drop 1).length = (9 - 1) from (by rw [List.length_drop, List.length_take]; have h_ : (9 : Int) ≤ (l0.length : Int) := of_decide_eq_true (by first | (with_reducible assumption) | assumption); omega)] <;> rfl) | rfl | (simp only [List.length_drop, List.length_take]; rfl)) ?_
              with_reducible refine (agg_number.calls k _ _ ((l0.take 9).drop 1) t385 _ ?side1 ?side2 A10.out).mono ?_
              (case side1 => repeat (first | exact (Kd.C_below HR384.out HB.out) | (with_reducible refine Kd.C_alloc ?_ _) | (with_reducible refine Kd.C_drewN ?_ _) | (with_reducible refine Kd.C_drew ?_)))
              (case side2 => exact HC384.out)
              rintro e w' ⟨rfl, ⟨nd, rfl⟩⟩
              refine ⟨_, rfl, ?_⟩
              refine hK.out _ _ (((HB.out.cell (World.block_lt_of_cell? w _ hw386_0)).trans hw386_0)) (fun hHeld => ?_)
              clear hK K
              refine norm_ (a' := ?_) ?_ ?_
              rotate_left
              ·show Act.put _ (some 17) _ = _
               simp only [Act.put, sa1_, sb1_, sc1_, i64_w, i32_w]
               rfl
              refine one_ (i := 9) (N := some 24) #[T1,T1,T1,T1,T1,T1,T1,T1,T1,T1,F1,T1,T1,F1,F1,F1,T1,F1] rfl rfl (one_of HT_.out (by kernel_rfl)) (by decide) (fun K hK => ?_)
              refine goes_ Try.func30 (by kernel_rfl) rfl #[.slice A44 ((l0.take 33).drop 25).length (c0 - 25)] (by rfl) rfl rfl (by (try simp only [List.map_toArray, List.map_cons, List.map_nil]); first | done | (rw [show ((l0.take 33).drop 25).length = (33 - 25) from (by rw [List.length_drop, List.length_take]; have h_ : (33 : Int) ≤ (l0.length : Int) := of_decide_eq_true (by first | (with_reducible assumption) | assumption); omega)] <;> rfl) | rfl | (simp only [List.length_drop, List.length_take]; rfl)) ?_
              with_reducible refine (agg_number.calls k _ _ ((l0.take 33).drop 25) t388 _ ?side1 ?side2 A14.out).mono ?_
              (case side1 => repeat (first | exact (Kd.C_below HR387.out (by repeat (first | (with_reducible first | exact HB.out | apply below_alloc | apply bn1_ | apply bd1_ | refine below_set ?_ GE383.out | refine below_set ?_ GE391.out) | exact HB.out))) | (with_reducible refine Kd.C_alloc ?_ _) | (with_reducible refine Kd.C_drewN ?_ _) | (with_reducible refine Kd.C_drew ?_)))
              (case side2 => exact HC387.out)
              rintro e w' ⟨rfl, ⟨nd, rfl⟩⟩
              refine ⟨_, rfl, ?_⟩
              refine hK.out _ _ (((HB.out.cell (World.block_lt_of_cell? w _ hw386_0)).trans hw386_0)) (fun hHeld => ?_)
              clear hK K
              refine norm_ (a' := ?_) ?_ ?_
              rotate_left
              ·show Act.put _ (some 24) _ = _
               simp only [Act.put, sa1_, sb1_, sc1_, i64_w, i32_w]
               rfl
              refine pure_ (i := 10) (N := some 25) (v := ?_) (a' := ?_) #[T1,T1,T1,T1,T1,T1,T1,T1,T1,T1,T1,T1,T1,F1,F1,F1,T1,F1] rfl rfl (any_of HT_.out (by kernel_rfl)) (fun _ _ _ h => h) (Or.inl ⟨by rfl, ?_⟩) ?_ ?_
              rotate_left
              ·intro w'
               go_simp
               with_reducible rfl
              rotate_left
              ·simp only [Act.put, sa1_, sb1_, sc1_, i64_w, i32_w]
               rfl
              refine one_ (i := 13) (N := some 28) #[T1,T1,T1,T1,T1,T1,T1,T1,T1,T1,T1,T1,T1,T1,F1,F1,T1,F1] rfl rfl (one_of HT_.out (by kernel_rfl)) (by decide) (fun K hK => ?_)
              refine goes_ Try.func30 (by kernel_rfl) rfl #[.slice A45 (l0.drop 33).length (c0 - 33)] (by rfl) rfl rfl (by (try simp only [List.map_toArray, List.map_cons, List.map_nil]); first | done | (rw [show (l0.drop 33).length = (l0.length - 33) from List.length_drop] <;> rfl) | rfl | (simp only [List.length_drop, List.length_take]; rfl)) ?_
              with_reducible refine (agg_number.calls k _ _ (l0.drop 33) t390 _ ?side1 ?side2 A16.out).mono ?_
              (case side1 => repeat (first | exact (Kd.C_below HR389.out (by repeat (first | (with_reducible first | exact HB.out | apply below_alloc | apply bn1_ | apply bd1_ | refine below_set ?_ GE383.out | refine below_set ?_ GE391.out) | exact HB.out))) | (with_reducible refine Kd.C_alloc ?_ _) | (with_reducible refine Kd.C_drewN ?_ _) | (with_reducible refine Kd.C_drew ?_)))
              (case side2 => exact HC389.out)
              rintro e w' ⟨rfl, ⟨nd, rfl⟩⟩
              refine ⟨_, rfl, ?_⟩
              refine hK.out _ _ (((HB.out.cell (World.block_lt_of_cell? w _ hw386_0)).trans hw386_0)) (fun hHeld => ?_)
              clear hK K
              refine norm_ (a' := ?_) ?_ ?_
              rotate_left
              ·show Act.put _ (some 28) _ = _
               simp only [Act.put, sa1_, sb1_, sc1_, i64_w, i32_w]
               rfl
              refine pure_ (i := 14) (N := some 29) (v := ?_) (a' := ?_) #[T1,T1,T1,T1,T1,T1,T1,T1,T1,T1,T1,T1,T1,T1,T1,F1,T1,F1] rfl rfl (any_of HT_.out (by kernel_rfl)) (fun _ _ _ h => h) (Or.inl ⟨by rfl, ?_⟩) ?_ ?_
              rotate_left
              ·intro w'
               go_simp
               with_reducible rfl
              rotate_left
              ·simp only [Act.put, sa1_, sb1_, sc1_, i64_w, i32_w]
               rfl
              refine pure_ (i := 15) (N := some 30) (v := ?_) (a' := ?_) #[T1,T1,T1,T1,T1,T1,T1,T1,T1,T1,T1,T1,T1,T1,T1,T1,T1,F1] rfl rfl (any_of HT_.out (by kernel_rfl)) (fun _ _ _ h => h) (Or.inl ⟨by rfl, ?_⟩) ?_ ?_
              rotate_left
              ·intro w'
               go_simp
               with_reducible rfl
              rotate_left
              ·simp only [Act.put, sa1_, sb1_, sc1_, i64_w, i32_w]
               rfl
              exact norm_ (by simp only [putAll, Act.put, sa1_, sb1_, sc1_]) (hCont (gb391) _ ⟨hHeld, (by (with_reducible repeat (first | refine blk_drewN ?_ _ | refine blk_drew ?_ | refine blk_alloc ?_ _)); exact BK383.out), (by (with_reducible repeat (first | refine blk_drewN ?_ _ | refine blk_drew ?_ | refine blk_alloc ?_ _)); exact BK391.out), GW391.out, GE391.out, NB383_391.out, NB391_383.out, (by repeat (first | (with_reducible first | exact HB.out | apply below_alloc | apply bn1_ | apply bd1_ | refine below_set ?_ GE383.out | refine below_set ?_ GE391.out) | exact HB.out))⟩)
            rintro gb391 w47 ⟨hS_, h0_, h1_, h2_, h3_, h4_, h5_, h6_⟩
            have n0_ : Aside0 (w47.heap[gb383]? = some (.cells #[.int .u64 0, .bool false, .int .i64 0, .int .u64 0, .int .i64 0, .int .i64 0] 26 (0, 0))) := ⟨h0_⟩
            have n1_ : Aside0 (w47.heap[gb391]? = some (.cells #[.int .u64 0, .bool false, .int .i64 0, .int .u64 0, .int .i64 0, .int .i64 0] 26 (0, 0))) := ⟨h1_⟩
            have n2_ : Aside0 (w.heap.size ≤ gb391) := ⟨h2_⟩
            have n3_ : Aside0 (w.heap.size ≤ gb391) := ⟨h3_⟩
            have n4_ : Aside0 (gb383 ≠ gb391) := ⟨h4_⟩
            have n5_ : Aside0 (gb391 ≠ gb383) := ⟨h5_⟩
            have n6_ : Aside0 (Below w.heap.size w w47) := ⟨h6_⟩
            clear BK383 HB h0_ h1_ h2_ h3_ h4_ h5_ h6_
            have BK383 := n0_
            have BK391 := n1_
            have GW391 := n2_
            have GE391 := n3_
            have NB383_391 := n4_
            have NB391_383 := n5_
            have HB := n6_
            clear n0_ n1_ n2_ n3_ n4_ n5_ n6_
            have hHeld : w47.cell? ad386 = some (.int .u8 (rd l0 0)) := hS_
            refine norm_ (a' := ?_) ?_ ?_
            rotate_left
            ·simp only [putAll, Act.put, sa1_, sb1_, sc1_]
             rfl
            refine one_ (i := 17) (N := none) #[T1,T1,T1,T1,T1,T1,T1,T1,T1,T1,T1,T1,T1,T1,T1,T1,T1,T1] rfl rfl (one_of HT_.out (by kernel_rfl)) (by decide) (fun K hK => ?_)
            have hs48 : w47.cell? ⟨gb391, 0, none⟩ = some (.int .u64 0) := (blk_cell BK391.out 0).trans rfl
            have hfs48 := blk_frozen BK391.out 0
            have hns48_0 := NB383_391.out
            have hms48_0 := NB391_383.out
            have hs49 : w47.cell? ⟨gb391, 1, none⟩ = some (.bool false) := (blk_cell BK391.out 1).trans rfl
            have hfs49 := blk_frozen BK391.out 1
            have hns49_0 := NB383_391.out
            have hms49_0 := NB391_383.out
            have hs50 : w47.cell? ⟨gb391, 2, none⟩ = some (.int .i64 0) := (blk_cell BK391.out 2).trans rfl
            have hfs50 := blk_frozen BK391.out 2
            have hns50_0 := NB383_391.out
            have hms50_0 := NB391_383.out
            have hs51 : w47.cell? ⟨gb391, 3, none⟩ = some (.int .u64 0) := (blk_cell BK391.out 3).trans rfl
            have hfs51 := blk_frozen BK391.out 3
            have hns51_0 := NB383_391.out
            have hms51_0 := NB391_383.out
            have hs52 : w47.cell? ⟨gb391, 4, none⟩ = some (.int .i64 0) := (blk_cell BK391.out 4).trans rfl
            have hfs52 := blk_frozen BK391.out 4
            have hns52_0 := NB383_391.out
            have hms52_0 := NB391_383.out
            have hs53 : w47.cell? ⟨gb391, 5, none⟩ = some (.int .i64 0) := (blk_cell BK391.out 5).trans rfl
            have hfs53 := blk_frozen BK391.out 5
            have hns53_0 := NB383_391.out
            have hms53_0 := NB391_383.out
            refine skip_ (w1 := ?_) (by rfl) rfl ?_ ?_
            rotate_left
            ·go_simp
             rfl
            refine hK.out _ _ (((cell_far (p := ⟨gb391, _, none⟩) (by first | exact Nat.ne_of_lt (Nat.lt_of_lt_of_le (by have := World.block_lt_of_cell? _ _ hw386_0; first | rwa [add_block] at this | exact this) GW391.out) | (rw [add_block]; exact Nat.ne_of_lt (Nat.lt_of_lt_of_le (by have := World.block_lt_of_cell? _ _ hw386_0; first | rwa [add_block] at this | exact this) GW391.out)) | (show (Addr.add _ _).block ≠ _; rw [add_block]; exact Nat.ne_of_lt (Nat.lt_of_lt_of_le (by have := World.block_lt_of_cell? _ _ hw386_0; first | rwa [add_block] at this | exact this) GW391.out)) | (dsimp only; exact Nat.ne_of_lt (Nat.lt_of_lt_of_le (by have := World.block_lt_of_cell? _ _ hw386_0; first | rwa [add_block] at this | exact this) GW391.out))) _).trans (((cell_far (p := ⟨gb391, _, none⟩) (by first | exact Nat.ne_of_lt (Nat.lt_of_lt_of_le (by have := World.block_lt_of_cell? _ _ hw386_0; first | rwa [add_block] at this | exact this) GW391.out) | (rw [add_block]; exact Nat.ne_of_lt (Nat.lt_of_lt_of_le (by have := World.block_lt_of_cell? _ _ hw386_0; first | rwa [add_block] at this | exact this) GW391.out)) | (show (Addr.add _ _).block ≠ _; rw [add_block]; exact Nat.ne_of_lt (Nat.lt_of_lt_of_le (by have := World.block_lt_of_cell? _ _ hw386_0; first | rwa [add_block] at this | exact this) GW391.out)) | (dsimp only; exact Nat.ne_of_lt (Nat.lt_of_lt_of_le (by have := World.block_lt_of_cell? _ _ hw386_0; first | rwa [add_block] at this | exact this) GW391.out))) _).trans (((cell_far (p := ⟨gb391, _, none⟩) (by first | exact Nat.ne_of_lt (Nat.lt_of_lt_of_le (by have := World.block_lt_of_cell? _ _ hw386_0; first | rwa [add_block] at this | exact this) GW391.out) | (rw [add_block]; exact Nat.ne_of_lt (Nat.lt_of_lt_of_le (by have := World.block_lt_of_cell? _ _ hw386_0; first | rwa [add_block] at this | exact this) GW391.out)) | (show (Addr.add _ _).block ≠ _; rw [add_block]; exact Nat.ne_of_lt (Nat.lt_of_lt_of_le (by have := World.block_lt_of_cell? _ _ hw386_0; first | rwa [add_block] at this | exact this) GW391.out)) | (dsimp only; exact Nat.ne_of_lt (Nat.lt_of_lt_of_le (by have := World.block_lt_of_cell? _ _ hw386_0; first | rwa [add_block] at this | exact this) GW391.out))) _).trans (((cell_far (p := ⟨gb391, _, none⟩) (by first | exact Nat.ne_of_lt (Nat.lt_of_lt_of_le (by have := World.block_lt_of_cell? _ _ hw386_0; first | rwa [add_block] at this | exact this) GW391.out) | (rw [add_block]; exact Nat.ne_of_lt (Nat.lt_of_lt_of_le (by have := World.block_lt_of_cell? _ _ hw386_0; first | rwa [add_block] at this | exact this) GW391.out)) | (show (Addr.add _ _).block ≠ _; rw [add_block]; exact Nat.ne_of_lt (Nat.lt_of_lt_of_le (by have := World.block_lt_of_cell? _ _ hw386_0; first | rwa [add_block] at this | exact this) GW391.out)) | (dsimp only; exact Nat.ne_of_lt (Nat.lt_of_lt_of_le (by have := World.block_lt_of_cell? _ _ hw386_0; first | rwa [add_block] at this | exact this) GW391.out))) _).trans (((cell_far (p := ⟨gb391, _, none⟩) (by first | exact Nat.ne_of_lt (Nat.lt_of_lt_of_le (by have := World.block_lt_of_cell? _ _ hw386_0; first | rwa [add_block] at this | exact this) GW391.out) | (rw [add_block]; exact Nat.ne_of_lt (Nat.lt_of_lt_of_le (by have := World.block_lt_of_cell? _ _ hw386_0; first | rwa [add_block] at this | exact this) GW391.out)) | (show (Addr.add _ _).block ≠ _; rw [add_block]; exact Nat.ne_of_lt (Nat.lt_of_lt_of_le (by have := World.block_lt_of_cell? _ _ hw386_0; first | rwa [add_block] at this | exact this) GW391.out)) | (dsimp only; exact Nat.ne_of_lt (Nat.lt_of_lt_of_le (by have := World.block_lt_of_cell? _ _ hw386_0; first | rwa [add_block] at this | exact this) GW391.out))) _).trans (((cell_far (p := ⟨gb391, _, none⟩) (by first | exact Nat.ne_of_lt (Nat.lt_of_lt_of_le (by have := World.block_lt_of_cell? _ _ hw386_0; first | rwa [add_block] at this | exact this) GW391.out) | (rw [add_block]; exact Nat.ne_of_lt (Nat.lt_of_lt_of_le (by have := World.block_lt_of_cell? _ _ hw386_0; first | rwa [add_block] at this | exact this) GW391.out)) | (show (Addr.add _ _).block ≠ _; rw [add_block]; exact Nat.ne_of_lt (Nat.lt_of_lt_of_le (by have := World.block_lt_of_cell? _ _ hw386_0; first | rwa [add_block] at this | exact this) GW391.out)) | (dsimp only; exact Nat.ne_of_lt (Nat.lt_of_lt_of_le (by have := World.block_lt_of_cell? _ _ hw386_0; first | rwa [add_block] at this | exact this) GW391.out))) _).trans (hHeld))))))))))))) (fun hHeld => ?_)
            clear hK K
            refine done_ (done_of HT_.out (by kernel_rfl)) ?_
            obtain ⟨i054, hi054, _, hsz54, _⟩ := info_parts info5
            obtain ⟨A54, hcut54, hA54, hC54⟩ := print_mid_of (P := Try.prog) (Value.int .u8) 0 36 5 .i64 .i64 Try.underlying36 hi054 hsz54 (some ad386) c0 l0 9 25 (by omega) (by first | omega | exact of_decide_eq_true (by first | (with_reducible assumption) | assumption)) (of_decide_eq_true (by first | (with_reducible assumption) | assumption)) HC0.out
            have HR392 := Aside0.mk (Kd.C_of_reads (h1 := fun _ => rfl) (hA54 _ (Kd.reads_of_C HR0.out)))
            have HC392 := Aside0.mk hC54
            clear hA54 hC54 hi054 hsz54
            try go_wp2_with (first | ((with_reducible refine gate_callee (f := 31) rfl ?_); refine goesL_ (some 34) rfl rfl Try.func31 (by kernel_rfl) rfl #[.slice A54 ((l0.take 25).drop 9).length (c0 - 9)] rfl (by (try simp only [List.map_toArray, List.map_cons, List.map_nil]); first | done | (rw [show ((l0.take 25).drop 9).length = (25 - 9) from (by rw [List.length_drop, List.length_take]; have h_ : (25 : Int) ≤ (l0.length : Int) := of_decide_eq_true (by first | (with_reducible assumption) | assumption); omega)] <;> rfl) | rfl | (simp only [List.length_drop, List.length_take]; rfl)) ?_; (with_reducible refine (wide_Read.calls _ _ ((l0.take 25).drop 9) t393 t394 t395 _ ?side1 ?side2 A19.out).mono ?_); (case side1 => exact Kd.C_below HR392.out (by repeat (first | (with_reducible first | exact HB.out | apply below_alloc | apply bn1_ | apply bd1_ | refine below_set ?_ GE383.out | refine below_set ?_ GE391.out) | exact HB.out))); (case side2 => exact HC392.out); rintro e w55 ⟨rfl, hb⟩; refine ⟨_, rfl, ?_⟩; have n0_ := Aside0.mk (blk_below (g := gb383) (o := .cells #[.int .u64 0, .bool false, .int .i64 0, .int .u64 0, .int .i64 0, .int .i64 0] 26 (0, 0)) (by (with_reducible repeat (first | refine blk_drewN ?_ _ | refine blk_drew ?_ | refine blk_alloc ?_ _)); refine blk_far ?_ NB383_391.out _; (with_reducible repeat (first | refine blk_drewN ?_ _ | refine blk_drew ?_ | refine blk_alloc ?_ _)); refine blk_far ?_ NB383_391.out _; (with_reducible repeat (first | refine blk_drewN ?_ _ | refine blk_drew ?_ | refine blk_alloc ?_ _)); refine blk_far ?_ NB383_391.out _; (with_reducible repeat (first | refine blk_drewN ?_ _ | refine blk_drew ?_ | refine blk_alloc ?_ _)); refine blk_far ?_ NB383_391.out _; (with_reducible repeat (first | refine blk_drewN ?_ _ | refine blk_drew ?_ | refine blk_alloc ?_ _)); refine blk_far ?_ NB383_391.out _; (with_reducible repeat (first | refine blk_drewN ?_ _ | refine blk_drew ?_ | refine blk_alloc ?_ _)); refine blk_far ?_ NB383_391.out _; (with_reducible repeat (first | refine blk_drewN ?_ _ | refine blk_drew ?_ | refine blk_alloc ?_ _)); exact BK383.out) hb); have n1_ := Aside0.mk (blk_below (g := gb391) (o := .cells #[.int .u64 t385, .bool ((rd l0 0) == 1), .int .i64 0, .int .u64 0, .int .i64 (wrap64 (t388)), .int .i64 (wrap64 (t390))] 26 (0, 0)) (by (with_reducible repeat (first | refine blk_drewN ?_ _ | refine blk_drew ?_ | refine blk_alloc ?_ _)); refine blk_put (cs := #[.int .u64 t385, .bool ((rd l0 0) == 1), .int .i64 0, .int .u64 0, .int .i64 (wrap64 (t388)), .int .i64 0]) ?_ 5 _ rfl; (with_reducible repeat (first | refine blk_drewN ?_ _ | refine blk_drew ?_ | refine blk_alloc ?_ _)); refine blk_put (cs := #[.int .u64 t385, .bool ((rd l0 0) == 1), .int .i64 0, .int .u64 0, .int .i64 0, .int .i64 0]) ?_ 4 _ rfl; (with_reducible repeat (first | refine blk_drewN ?_ _ | refine blk_drew ?_ | refine blk_alloc ?_ _)); refine blk_put (cs := #[.int .u64 t385, .bool ((rd l0 0) == 1), .int .i64 0, .int .u64 0, .int .i64 0, .int .i64 0]) ?_ 3 _ rfl; (with_reducible repeat (first | refine blk_drewN ?_ _ | refine blk_drew ?_ | refine blk_alloc ?_ _)); refine blk_put (cs := #[.int .u64 t385, .bool ((rd l0 0) == 1), .int .i64 0, .int .u64 0, .int .i64 0, .int .i64 0]) ?_ 2 _ rfl; (with_reducible repeat (first | refine blk_drewN ?_ _ | refine blk_drew ?_ | refine blk_alloc ?_ _)); refine blk_put (cs := #[.int .u64 t385, .bool false, .int .i64 0, .int .u64 0, .int .i64 0, .int .i64 0]) ?_ 1 _ rfl; (with_reducible repeat (first | refine blk_drewN ?_ _ | refine blk_drew ?_ | refine blk_alloc ?_ _)); refine blk_put (cs := #[.int .u64 0, .bool false, .int .i64 0, .int .u64 0, .int .i64 0, .int .i64 0]) ?_ 0 _ rfl; (with_reducible repeat (first | refine blk_drewN ?_ _ | refine blk_drew ?_ | refine blk_alloc ?_ _)); exact BK391.out) hb); have n2_ := Aside0.mk (below_step (by repeat (first | (with_reducible first | exact HB.out | apply below_alloc | apply bn1_ | apply bd1_ | refine below_set ?_ GE383.out | refine below_set ?_ GE391.out) | exact HB.out)) hb); clear BK383; clear BK391; clear HB; have BK383 := n0_; have BK391 := n1_; have HB := n2_; clear n0_ n1_ n2_; (try clear hb); (try clear hb2); (try clear hk); (try clear hi); have hnb56 := NB391_383.out; have hnc56 := NB383_391.out; have hcz57_0 : w55.cell? ⟨gb391, 0, none⟩ = some (.int .u64 t385) := (blk_cell BK391.out 0).trans rfl; have hcz57_1 : w55.cell? ⟨gb391, 1, none⟩ = some (.bool ((rd l0 0) == 1)) := (blk_cell BK391.out 1).trans rfl; have hcz57_2 : w55.cell? ⟨gb391, 2, none⟩ = some (.int .i64 0) := (blk_cell BK391.out 2).trans rfl; have hcz57_3 : w55.cell? ⟨gb391, 3, none⟩ = some (.int .u64 0) := (blk_cell BK391.out 3).trans rfl; have hcz57_4 : w55.cell? ⟨gb391, 4, none⟩ = some (.int .i64 (wrap64 (t388))) := (blk_cell BK391.out 4).trans rfl; have hcz57_5 : w55.cell? ⟨gb391, 5, none⟩ = some (.int .i64 (wrap64 (t390))) := (blk_cell BK391.out 5).trans rfl; have hfz57_0 := blk_frozen BK391.out 0; have hfz57_1 := blk_frozen BK391.out 1; have hfz57_2 := blk_frozen BK391.out 2; have hfz57_3 := blk_frozen BK391.out 3; have hfz57_4 := blk_frozen BK391.out 4; have hfz57_5 := blk_frozen BK391.out 5; have p396 : 0 ≤ (0 : Int) := (by omega); have q396 : 0 < (l0.length : Int) := of_decide_eq_true (by first | (with_reducible assumption) | assumption); obtain ⟨ad396, e396, hx396_0⟩ := Kd.at_int HR0.out 0 p396 q396; obtain rfl : ad386 = ad396 := (by injection e396); have qi396 : (0 < l0.length) = True := eq_true (by omega); (try rw [show ((0 : Int)).toNat = 0 from rfl] at hx396_0); (try rw [Addr.add_zero'] at hx396_0); have hn396_0 : ad386.block ≠ gb391 := Nat.ne_of_lt (Nat.lt_of_lt_of_le (by have := World.block_lt_of_cell? _ _ hx396_0; first | rwa [add_block] at this | exact this) GW391.out); have hn396_1 : ad386.block ≠ gb391 := Nat.ne_of_lt (Nat.lt_of_lt_of_le (by have := World.block_lt_of_cell? _ _ hx396_0; first | rwa [add_block] at this | exact this) GW391.out); replace hx396_0 := (HB.out.cell (World.block_lt_of_cell? w _ hx396_0)).trans hx396_0; replace hx396_0 := (cell_far (p := ⟨gb391, 2, none⟩) (by first | (rw [add_block]; exact hn396_0) | (show (Addr.add _ _).block ≠ _; rw [add_block]; exact hn396_0) | exact hn396_0) (.int .i64 t393)).trans hx396_0; replace hx396_0 := (cell_far (p := ⟨gb391, 3, none⟩) (by first | (rw [add_block]; exact hn396_1) | (show (Addr.add _ _).block ≠ _; rw [add_block]; exact hn396_1) | exact hn396_1) (.int .u64 t394)).trans hx396_0; clear hn396_0; clear hn396_1; replace p396 := eq_true p396; replace q396 := eq_true q396) | (go_at_call 9; (with_reducible refine (agg_Right.calls t385 ((rd l0 0) == 1) t393 t394 (wrap64 (t388)) (wrap64 (t390)) true _ A39.out).mono ?_); rintro e w58 ⟨rfl, hb⟩; have n0_ := Aside0.mk (blk_below (g := gb383) (o := .cells #[.int .u64 0, .bool false, .int .i64 0, .int .u64 0, .int .i64 0, .int .i64 0] 26 (0, 0)) (by (with_reducible repeat (first | refine blk_drewN ?_ _ | refine blk_drew ?_ | refine blk_alloc ?_ _)); refine blk_far ?_ NB383_391.out _; (with_reducible repeat (first | refine blk_drewN ?_ _ | refine blk_drew ?_ | refine blk_alloc ?_ _)); refine blk_far ?_ NB383_391.out _; (with_reducible repeat (first | refine blk_drewN ?_ _ | refine blk_drew ?_ | refine blk_alloc ?_ _)); exact BK383.out) hb); have n1_ := Aside0.mk (blk_below (g := gb391) (o := .cells #[.int .u64 t385, .bool ((rd l0 0) == 1), .int .i64 t393, .int .u64 t394, .int .i64 (wrap64 (t388)), .int .i64 (wrap64 (t390))] 26 (0, 0)) (by (with_reducible repeat (first | refine blk_drewN ?_ _ | refine blk_drew ?_ | refine blk_alloc ?_ _)); refine blk_put (cs := #[.int .u64 t385, .bool ((rd l0 0) == 1), .int .i64 t393, .int .u64 0, .int .i64 (wrap64 (t388)), .int .i64 (wrap64 (t390))]) ?_ 3 _ rfl; (with_reducible repeat (first | refine blk_drewN ?_ _ | refine blk_drew ?_ | refine blk_alloc ?_ _)); refine blk_put (cs := #[.int .u64 t385, .bool ((rd l0 0) == 1), .int .i64 0, .int .u64 0, .int .i64 (wrap64 (t388)), .int .i64 (wrap64 (t390))]) ?_ 2 _ rfl; (with_reducible repeat (first | refine blk_drewN ?_ _ | refine blk_drew ?_ | refine blk_alloc ?_ _)); exact BK391.out) hb); have n2_ := Aside0.mk (below_step (by repeat (first | (with_reducible first | exact HB.out | apply below_alloc | apply bn1_ | apply bd1_ | refine below_set ?_ GE383.out | refine below_set ?_ GE391.out) | exact HB.out)) hb); clear BK383; clear BK391; clear HB; have BK383 := n0_; have BK391 := n1_; have HB := n2_; clear n0_ n1_ n2_; (try clear hb); (try clear hb2); (try clear hk); (try clear hi); have hcz59_0 : w58.cell? ⟨gb391, 0, none⟩ = some (.int .u64 t385) := (blk_cell BK391.out 0).trans rfl; have hcz59_1 : w58.cell? ⟨gb391, 1, none⟩ = some (.bool ((rd l0 0) == 1)) := (blk_cell BK391.out 1).trans rfl; have hcz59_2 : w58.cell? ⟨gb391, 2, none⟩ = some (.int .i64 t393) := (blk_cell BK391.out 2).trans rfl; have hcz59_3 : w58.cell? ⟨gb391, 3, none⟩ = some (.int .u64 t394) := (blk_cell BK391.out 3).trans rfl; have hcz59_4 : w58.cell? ⟨gb391, 4, none⟩ = some (.int .i64 (wrap64 (t388))) := (blk_cell BK391.out 4).trans rfl; have hcz59_5 : w58.cell? ⟨gb391, 5, none⟩ = some (.int .i64 (wrap64 (t390))) := (blk_cell BK391.out 5).trans rfl; have hfz59_0 := blk_frozen BK391.out 0; have hfz59_1 := blk_frozen BK391.out 1; have hfz59_2 := blk_frozen BK391.out 2; have hfz59_3 := blk_frozen BK391.out 3; have hfz59_4 := blk_frozen BK391.out 4; have hfz59_5 := blk_frozen BK391.out 5; have hcz60_0 : w58.cell? ⟨gb383, 0, none⟩ = some (.int .u64 0) := (blk_cell BK383.out 0).trans rfl; have hcz60_1 : w58.cell? ⟨gb383, 1, none⟩ = some (.bool false) := (blk_cell BK383.out 1).trans rfl; have hcz60_2 : w58.cell? ⟨gb383, 2, none⟩ = some (.int .i64 0) := (blk_cell BK383.out 2).trans rfl; have hcz60_3 : w58.cell? ⟨gb383, 3, none⟩ = some (.int .u64 0) := (blk_cell BK383.out 3).trans rfl; have hcz60_4 : w58.cell? ⟨gb383, 4, none⟩ = some (.int .i64 0) := (blk_cell BK383.out 4).trans rfl; have hcz60_5 : w58.cell? ⟨gb383, 5, none⟩ = some (.int .i64 0) := (blk_cell BK383.out 5).trans rfl; have hfz60_0 := blk_frozen BK383.out 0; have hfz60_1 := blk_frozen BK383.out 1; have hfz60_2 := blk_frozen BK383.out 2; have hfz60_3 := blk_frozen BK383.out 3; have hfz60_4 := blk_frozen BK383.out 4; have hfz60_5 := blk_frozen BK383.out 5))
            refine bodyPost_ret (results_ct rfl _ _ gb383 26 #[.int .u64 t385, .bool ((rd l0 0) == 1), .int .i64 t393, .int .u64 t394, .int .i64 (wrap64 (t388)), .int .i64 (wrap64 (t390))] (0, 0) _ rfl (by (with_reducible repeat (first | refine blk_drewN ?_ _ | refine blk_drew ?_ | refine blk_alloc ?_ _)); refine blk_put (cs := #[.int .u64 t385, .bool ((rd l0 0) == 1), .int .i64 t393, .int .u64 t394, .int .i64 (wrap64 (t388)), .int .i64 0]) ?_ 5 _ rfl; (with_reducible repeat (first | refine blk_drewN ?_ _ | refine blk_drew ?_ | refine blk_alloc ?_ _)); refine blk_put (cs := #[.int .u64 t385, .bool ((rd l0 0) == 1), .int .i64 t393, .int .u64 t394, .int .i64 0, .int .i64 0]) ?_ 4 _ rfl; (with_reducible repeat (first | refine blk_drewN ?_ _ | refine blk_drew ?_ | refine blk_alloc ?_ _)); refine blk_put (cs := #[.int .u64 t385, .bool ((rd l0 0) == 1), .int .i64 t393, .int .u64 0, .int .i64 0, .int .i64 0]) ?_ 3 _ rfl; (with_reducible repeat (first | refine blk_drewN ?_ _ | refine blk_drew ?_ | refine blk_alloc ?_ _)); refine blk_put (cs := #[.int .u64 t385, .bool ((rd l0 0) == 1), .int .i64 0, .int .u64 0, .int .i64 0, .int .i64 0]) ?_ 2 _ rfl; (with_reducible repeat (first | refine blk_drewN ?_ _ | refine blk_drew ?_ | refine blk_alloc ?_ _)); refine blk_put (cs := #[.int .u64 t385, .bool false, .int .i64 0, .int .u64 0, .int .i64 0, .int .i64 0]) ?_ 1 _ rfl; (with_reducible repeat (first | refine blk_drewN ?_ _ | refine blk_drew ?_ | refine blk_alloc ?_ _)); refine blk_put (cs := #[.int .u64 0, .bool false, .int .i64 0, .int .u64 0, .int .i64 0, .int .i64 0]) ?_ 0 _ rfl; (with_reducible repeat (first | refine blk_drewN ?_ _ | refine blk_drew ?_ | refine blk_alloc ?_ _)); exact BK383.out) Try.underlying26 rfl (by kernel_rfl)) rfl ?_
            exact ⟨by first | rfl | (simp [errW_none, errW_some] <;> rfl) | (simp [*, errW_none, errW_some] <;> rfl), by repeat (first | (with_reducible first | exact HB.out | apply below_alloc | apply bn1_ | apply bd1_ | refine below_set ?_ GE383.out | refine below_set ?_ GE391.out) | exact HB.out)⟩
           ·replace c40 := Bool.eq_false_iff.mpr c40
            subst c40
            have H1 : (some (0, false, 0, 0, 0, 0, 3)) = some (r1, r2, r3, r4, r5, r6, r7) := by rw [if_neg (show ¬ (false = true) by decide)] at H; exact H
            clear H
            have H := H1
            clear H1
            simp only [Option.some.injEq, Prod.mk.injEq] at H
            obtain ⟨rfl, rfl, rfl, rfl, rfl, rfl, rfl⟩ := H
            go_enter Try.func16, Try.ntmps16
            try go_wp2_with (first | ((with_reducible refine gate_dst (N := 2) rfl ?_); refine box_event ?hg (N := 2) ?hd (cs := #[.int .u64 0, .bool false, .int .i64 0, .int .u64 0, .int .i64 0, .int .i64 0]) (t := 26) ?hr ?_; (case hd => rfl); (case hg => rfl); (case hr => first | (go_simp; done) | (go_simp; rfl)); intro gb383 hg w61 hbox hb; have n0_ := Aside0.mk (below_step (by repeat (first | (with_reducible first | exact HB.out | apply below_alloc | apply bn1_ | apply bd1_) | exact HB.out)) hb); have n1_ := Aside0.mk (hbox); have n2_ := Aside0.mk ((by rw [hg]; exact (below_size (by repeat (first | (with_reducible first | exact HB.out | apply below_alloc | apply bn1_ | apply bd1_) | exact HB.out))) : w.heap.size ≤ gb383)); have n3_ := Aside0.mk ((by rw [hg]; exact (below_size (by repeat (first | (with_reducible first | exact HB.out | apply below_alloc | apply bn1_ | apply bd1_) | exact HB.out))) : w.heap.size ≤ gb383)); clear HB; have HB := n0_; have BK383 := n1_; have GW383 := n2_; have GE383 := n3_; clear n0_ n1_ n2_ n3_; clear hb hbox hg))
            have n0_ := Aside0.mk (blk_drew BK383.out)
            have n1_ := Aside0.mk (below_drew1 HB.out)
            clear BK383 HB
            have BK383 := n0_
            have HB := n1_
            clear n0_ n1_
            obtain ⟨i063, hi063, _, hsz63, _⟩ := info_parts info5
            obtain ⟨A63, hcut63, hA63, hC63⟩ := print_mid_of (P := Try.prog) (Value.int .u8) 0 36 5 .i64 .i64 Try.underlying36 hi063 hsz63 A0 c0 l0 1 9 (by omega) (by first | omega | exact of_decide_eq_true (by first | (with_reducible assumption) | assumption)) (of_decide_eq_true (by first | (with_reducible assumption) | assumption)) HC0.out
            have HR384 := Aside0.mk (Kd.C_of_reads (h1 := fun _ => rfl) (hA63 _ (Kd.reads_of_C HR0.out)))
            have HC384 := Aside0.mk hC63
            clear hA63 hC63 hi063 hsz63
            have p386 : 0 ≤ (0 : Int) := (by omega)
            have q386 : 0 < (l0.length : Int) := of_decide_eq_true (by first | (with_reducible assumption) | assumption)
            obtain ⟨ad386, e386, hx386_0⟩ := Kd.at_int HR0.out 0 p386 q386
            have hw386_0 := hx386_0
            (try rw [show ((0 : Int)).toNat = 0 from rfl] at hw386_0)
            (try rw [show 0 * 1 = 0 from rfl] at hw386_0)
            (try rw [Addr.add_zero'] at hw386_0)
            cases e386
            have qi386 : (0 < l0.length) = True := eq_true (by omega)
            (try rw [show ((0 : Int)).toNat = 0 from rfl] at hx386_0)
            (try rw [Addr.add_zero'] at hx386_0)
            replace hx386_0 := (HB.out.cell (World.block_lt_of_cell? w _ hx386_0)).trans hx386_0
            replace p386 := eq_true p386
            replace q386 := eq_true q386
            obtain ⟨i064, hi064, _, hsz64, _⟩ := info_parts info5
            obtain ⟨A64, hcut64, hA64, hC64⟩ := print_mid_of (P := Try.prog) (Value.int .u8) 0 36 5 .i64 .i64 Try.underlying36 hi064 hsz64 (some ad386) c0 l0 25 33 (by omega) (by first | omega | exact of_decide_eq_true (by first | (with_reducible assumption) | assumption)) (of_decide_eq_true (by first | (with_reducible assumption) | assumption)) HC0.out
            have HR387 := Aside0.mk (Kd.C_of_reads (h1 := fun _ => rfl) (hA64 _ (Kd.reads_of_C HR0.out)))
            have HC387 := Aside0.mk hC64
            clear hA64 hC64 hi064 hsz64
            obtain ⟨i065, hi065, _, hsz65, _⟩ := info_parts info5
            obtain ⟨A65, hcut65, hA65, hC65⟩ := print_drop_of (P := Try.prog) (Value.int .u8) 0 36 5 .i64 Try.underlying36 hi065 hsz65 (some ad386) c0 l0 33 (by omega) (of_decide_eq_true (by first | (with_reducible assumption) | assumption)) HC0.out
            have HR389 := Aside0.mk (Kd.C_of_reads (h1 := fun _ => rfl) (hA65 _ (Kd.reads_of_C HR0.out)))
            have HC389 := Aside0.mk hC65
            clear hA65 hC65 hi065 hsz65
            refine start_ (n := 18) (S := fun w' => w'.cell? ad386 = some (.int .u8 (rd l0 0))) (ds := []) #[F1,F1,F1,F1,F1,F1,F1,F1,F1,F1,F1,F1,F1,F1,F1,F1,F1,F1] (by kernel_rfl) rfl rfl (((HB.out.cell (World.block_lt_of_cell? w _ hw386_0)).trans hw386_0)) (fun hHeld => ?_); refine with_tabW agg_Read.tab5 agg_Read.bits5 (fun HT_ HW_ => ?_)
            generalize w61.drew = w62 at BK383 HB HR384 HR387 HR389 hx386_0 hHeld ⊢
            refine pure_ (i := 0) (N := some 15) (v := ?_) (a' := ?_) #[T1,F1,F1,F1,F1,F1,F1,F1,F1,F1,F1,F1,F1,F1,F1,F1,F1,F1] rfl rfl (any_of HT_.out (by kernel_rfl)) (fun _ _ _ h => h) (Or.inl ⟨by rfl, ?_⟩) ?_ ?_
            rotate_left
            ·intro w'
             go_simp
             with_reducible rfl
            rotate_left
            ·simp only [Act.put, sa1_, sb1_, sc1_, i64_w, i32_w]
             rfl
            refine pure_ (i := 1) (N := some 16) (v := ?_) (a' := ?_) #[T1,T1,F1,F1,F1,F1,F1,F1,F1,F1,F1,F1,F1,F1,F1,F1,F1,F1] rfl rfl (any_of HT_.out (by kernel_rfl)) (fun _ _ _ h => h) (Or.inl ⟨by rfl, ?_⟩) ?_ ?_
            rotate_left
            ·intro w'
             go_simp
             with_reducible rfl
            rotate_left
            ·simp only [Act.put, sa1_, sb1_, sc1_, i64_w, i32_w]
             rfl
            refine pure_ (i := 3) (N := some 18) (v := ?_) (a' := ?_) #[T1,T1,F1,T1,F1,F1,F1,F1,F1,F1,F1,F1,F1,F1,F1,F1,F1,F1] rfl rfl (any_of HT_.out (by kernel_rfl)) (fun _ _ _ h => h) (Or.inl ⟨by rfl, ?_⟩) ?_ ?_
            rotate_left
            ·intro w'
             go_simp
             with_reducible rfl
            rotate_left
            ·simp only [Act.put, sa1_, sb1_, sc1_, i64_w, i32_w]
             rfl
            refine pure_ (i := 4) (N := some 19) (v := ?_) (a' := ?_) #[T1,T1,F1,T1,T1,F1,F1,F1,F1,F1,F1,F1,F1,F1,F1,F1,F1,F1] rfl rfl (any_of HT_.out (by kernel_rfl)) (fun _ _ _ h => h) (Or.inl ⟨by rfl, ?_⟩) ?_ ?_
            rotate_left
            ·intro w'
             go_simp
             with_reducible rfl
            rotate_left
            ·simp only [Act.put, sa1_, sb1_, sc1_, i64_w, i32_w]
             rfl
            refine pure_ (i := 7) (N := some 22) (v := ?_) (a' := ?_) #[T1,T1,F1,T1,T1,F1,F1,T1,F1,F1,F1,F1,F1,F1,F1,F1,F1,F1] rfl rfl (any_of HT_.out (by kernel_rfl)) (fun _ _ _ h => h) (Or.inl ⟨by rfl, ?_⟩) ?_ ?_
            rotate_left
            ·intro w'
             go_simp
             with_reducible rfl
            rotate_left
            ·simp only [Act.put, sa1_, sb1_, sc1_, i64_w, i32_w]
             rfl
            refine pure_ (i := 8) (N := some 23) (v := ?_) (a' := ?_) #[T1,T1,F1,T1,T1,F1,F1,T1,T1,F1,F1,F1,F1,F1,F1,F1,F1,F1] rfl rfl (any_of HT_.out (by kernel_rfl)) (fun _ _ _ h => h) (Or.inl ⟨by rfl, ?_⟩) ?_ ?_
            rotate_left
            ·intro w'
             go_simp
             with_reducible rfl
            rotate_left
            ·simp only [Act.put, sa1_, sb1_, sc1_, i64_w, i32_w]
             rfl
            refine pure_ (i := 11) (N := some 26) (v := ?_) (a' := ?_) #[T1,T1,F1,T1,T1,F1,F1,T1,T1,F1,F1,T1,F1,F1,F1,F1,F1,F1] rfl rfl (any_of HT_.out (by kernel_rfl)) (fun _ _ _ h => h) (Or.inl ⟨by rfl, ?_⟩) ?_ ?_
            rotate_left
            ·intro w'
             go_simp
             with_reducible rfl
            rotate_left
            ·simp only [Act.put, sa1_, sb1_, sc1_, i64_w, i32_w]
             rfl
            refine pure_ (i := 12) (N := some 27) (v := ?_) (a' := ?_) #[T1,T1,F1,T1,T1,F1,F1,T1,T1,F1,F1,T1,T1,F1,F1,F1,F1,F1] rfl rfl (any_of HT_.out (by kernel_rfl)) (fun _ _ _ h => h) (Or.inl ⟨by rfl, ?_⟩) ?_ ?_
            rotate_left
            ·intro w'
             go_simp
             with_reducible rfl
            rotate_left
            ·simp only [Act.put, sa1_, sb1_, sc1_, i64_w, i32_w]
             rfl
            refine take_ (i := 5) (N := some 20) (v := ?_) (a' := ?_) #[T1,T1,F1,T1,T1,T1,F1,T1,T1,F1,F1,T1,T1,F1,F1,F1,F1,F1] rfl rfl (take_ofW HT_.out HW_.out (by kernel_rfl)) (fun _ _ _ h => h) (Or.inl ⟨by rfl, ?_⟩) hHeld ?_ ?_
            rotate_left
            ·intro w' s0
             go_simp
             with_reducible rfl
            rotate_left
            ·simp only [Act.put, sa1_, sb1_, sc1_, i64_w, i32_w]
             rfl
            refine pure_ (i := 6) (N := some 21) (v := ?_) (a' := ?_) #[T1,T1,F1,T1,T1,T1,T1,T1,T1,F1,F1,T1,T1,F1,F1,F1,F1,F1] rfl rfl (any_of HT_.out (by kernel_rfl)) (fun _ _ _ h => h) (Or.inl ⟨by rfl, ?_⟩) ?_ ?_
            rotate_left
            ·intro w'
             go_simp
             with_reducible rfl
            rotate_left
            ·simp only [Act.put, sa1_, sb1_, sc1_, i64_w, i32_w]
             rfl
            refine join_ (σ := Nat) 1 #[T1,T1,T1,T1,T1,T1,T1,T1,T1,T1,T1,T1,T1,T1,T1,T1,T1,F1] (fun s_ => [(17, .int .u64 t385), (24, .int .u64 t388), (28, .int .u64 t390), (4, .pointer (some ⟨s_, 0, none⟩)), (25, .int .i64 (wrap64 (t388))), (29, .int .i64 (wrap64 (t390))), (30, .agg #[.int .u64 t385, .bool ((rd l0 0) == 1), .int .i64 0, .int .u64 0, .int .i64 (wrap64 (t388)), .int .i64 (wrap64 (t390))])]) (fun s_ w' => (w'.cell? ad386 = some (.int .u8 (rd l0 0))) ∧ (w'.heap[gb383]? = some (.cells #[.int .u64 0, .bool false, .int .i64 0, .int .u64 0, .int .i64 0, .int .i64 0] 26 (0, 0))) ∧ (w'.heap[s_]? = some (.cells #[.int .u64 0, .bool false, .int .i64 0, .int .u64 0, .int .i64 0, .int .i64 0] 26 (0, 0))) ∧ (w.heap.size ≤ s_) ∧ (w.heap.size ≤ s_) ∧ (gb383 ≠ s_) ∧ (s_ ≠ gb383) ∧ (Below w.heap.size w w')) ?_ ?_
            rotate_left
            ·intro hCont
             refine two_ (i := 2) (j := 16) (Ni := some 17) (Nj := some 4) #[T1,T1,T1,T1,T1,T1,T1,T1,T1,F1,F1,T1,T1,F1,F1,F1,F1,F1] #[T1,T1,F1,T1,T1,T1,T1,T1,T1,F1,F1,T1,T1,F1,F1,F1,T1,F1] rfl rfl rfl rfl (two_of HT_.out (by kernel_rfl)) (by decide) (by decide) (fun K hK => ?_) (fun K hK => ?_)
             ·skip
              refine goes_ Try.func30 (by kernel_rfl) rfl #[.slice A63 ((l0.take 9).drop 1).length (c0 - 1)] (by rfl) rfl rfl (by (try simp only [List.map_toArray, List.map_cons, List.map_nil]); first | done | (rw [show ((l0.take 9).drop 1).length = (9 - 1) from (by rw [List.length_drop, List.length_take]; have h_ : (9 : Int) ≤ (l0.length : Int) := of_decide_eq_true (by first | (with_reducible assumption) | assumption); omega)] <;> rfl) | rfl | (simp only [List.length_drop, List.length_take]; rfl)) ?_
              with_reducible refine (agg_number.calls k _ _ ((l0.take 9).drop 1) t385 _ ?side1 ?side2 A10.out).mono ?_
              (case side1 => repeat (first | exact (Kd.C_below HR384.out HB.out) | (with_reducible refine Kd.C_alloc ?_ _) | (with_reducible refine Kd.C_drewN ?_ _) | (with_reducible refine Kd.C_drew ?_)))
              (case side2 => exact HC384.out)
              rintro e w' ⟨rfl, ⟨nd, rfl⟩⟩
              refine ⟨_, rfl, ?_⟩
              refine hK.out _ _ (((HB.out.cell (World.block_lt_of_cell? w _ hw386_0)).trans hw386_0)) (fun hHeld => ?_)
              clear hK K
              refine norm_ (a' := ?_) ?_ ?_
              rotate_left
              ·show Act.put _ (some 17) _ = _
               simp only [Act.put, sa1_, sb1_, sc1_, i64_w, i32_w]
               rfl
              refine two_ (i := 9) (j := 16) (Ni := some 24) (Nj := some 4) #[T1,T1,T1,T1,T1,T1,T1,T1,T1,T1,F1,T1,T1,F1,F1,F1,F1,F1] #[T1,T1,T1,T1,T1,T1,T1,T1,T1,F1,F1,T1,T1,F1,F1,F1,T1,F1] rfl rfl rfl rfl (two_of HT_.out (by kernel_rfl)) (by decide) (by decide) (fun K hK => ?_) (fun K hK => ?_)
              ·skip
               refine goes_ Try.func30 (by kernel_rfl) rfl #[.slice A64 ((l0.take 33).drop 25).length (c0 - 25)] (by rfl) rfl rfl (by (try simp only [List.map_toArray, List.map_cons, List.map_nil]); first | done | (rw [show ((l0.take 33).drop 25).length = (33 - 25) from (by rw [List.length_drop, List.length_take]; have h_ : (33 : Int) ≤ (l0.length : Int) := of_decide_eq_true (by first | (with_reducible assumption) | assumption); omega)] <;> rfl) | rfl | (simp only [List.length_drop, List.length_take]; rfl)) ?_
               with_reducible refine (agg_number.calls k _ _ ((l0.take 33).drop 25) t388 _ ?side1 ?side2 A14.out).mono ?_
               (case side1 => repeat (first | exact (Kd.C_below HR387.out (by repeat (first | (with_reducible first | exact HB.out | apply below_alloc | apply bn1_ | apply bd1_ | refine below_set ?_ GE383.out) | exact HB.out))) | (with_reducible refine Kd.C_alloc ?_ _) | (with_reducible refine Kd.C_drewN ?_ _) | (with_reducible refine Kd.C_drew ?_)))
               (case side2 => exact HC387.out)
               rintro e w' ⟨rfl, ⟨nd, rfl⟩⟩
               refine ⟨_, rfl, ?_⟩
               refine hK.out _ _ (((HB.out.cell (World.block_lt_of_cell? w _ hw386_0)).trans hw386_0)) (fun hHeld => ?_)
               clear hK K
               refine norm_ (a' := ?_) ?_ ?_
               rotate_left
               ·show Act.put _ (some 24) _ = _
                simp only [Act.put, sa1_, sb1_, sc1_, i64_w, i32_w]
                rfl
               refine pure_ (i := 10) (N := some 25) (v := ?_) (a' := ?_) #[T1,T1,T1,T1,T1,T1,T1,T1,T1,T1,T1,T1,T1,F1,F1,F1,F1,F1] rfl rfl (any_of HT_.out (by kernel_rfl)) (fun _ _ _ h => h) (Or.inl ⟨by rfl, ?_⟩) ?_ ?_
               rotate_left
               ·intro w'
                go_simp
                with_reducible rfl
               rotate_left
               ·simp only [Act.put, sa1_, sb1_, sc1_, i64_w, i32_w]
                rfl
               refine two_ (i := 13) (j := 16) (Ni := some 28) (Nj := some 4) #[T1,T1,T1,T1,T1,T1,T1,T1,T1,T1,T1,T1,T1,T1,F1,F1,F1,F1] #[T1,T1,T1,T1,T1,T1,T1,T1,T1,T1,T1,T1,T1,F1,F1,F1,T1,F1] rfl rfl rfl rfl (two_of HT_.out (by kernel_rfl)) (by decide) (by decide) (fun K hK => ?_) (fun K hK => ?_)
               ·skip
                refine goes_ Try.func30 (by kernel_rfl) rfl #[.slice A65 (l0.drop 33).length (c0 - 33)] (by rfl) rfl rfl (by (try simp only [List.map_toArray, List.map_cons, List.map_nil]); first | done | (rw [show (l0.drop 33).length = (l0.length - 33) from List.length_drop] <;> rfl) | rfl | (simp only [List.length_drop, List.length_take]; rfl)) ?_
                with_reducible refine (agg_number.calls k _ _ (l0.drop 33) t390 _ ?side1 ?side2 A16.out).mono ?_
                (case side1 => repeat (first | exact (Kd.C_below HR389.out (by repeat (first | (with_reducible first | exact HB.out | apply below_alloc | apply bn1_ | apply bd1_ | refine below_set ?_ GE383.out) | exact HB.out))) | (with_reducible refine Kd.C_alloc ?_ _) | (with_reducible refine Kd.C_drewN ?_ _) | (with_reducible refine Kd.C_drew ?_)))
                (case side2 => exact HC389.out)
                rintro e w' ⟨rfl, ⟨nd, rfl⟩⟩
                refine ⟨_, rfl, ?_⟩
                refine hK.out _ _ (((HB.out.cell (World.block_lt_of_cell? w _ hw386_0)).trans hw386_0)) (fun hHeld => ?_)
                clear hK K
                refine norm_ (a' := ?_) ?_ ?_
                rotate_left
                ·show Act.put _ (some 28) _ = _
                 simp only [Act.put, sa1_, sb1_, sc1_, i64_w, i32_w]
                 rfl
                refine pure_ (i := 14) (N := some 29) (v := ?_) (a' := ?_) #[T1,T1,T1,T1,T1,T1,T1,T1,T1,T1,T1,T1,T1,T1,T1,F1,F1,F1] rfl rfl (any_of HT_.out (by kernel_rfl)) (fun _ _ _ h => h) (Or.inl ⟨by rfl, ?_⟩) ?_ ?_
                rotate_left
                ·intro w'
                 go_simp
                 with_reducible rfl
                rotate_left
                ·simp only [Act.put, sa1_, sb1_, sc1_, i64_w, i32_w]
                 rfl
                refine pure_ (i := 15) (N := some 30) (v := ?_) (a' := ?_) #[T1,T1,T1,T1,T1,T1,T1,T1,T1,T1,T1,T1,T1,T1,T1,T1,F1,F1] rfl rfl (any_of HT_.out (by kernel_rfl)) (fun _ _ _ h => h) (Or.inl ⟨by rfl, ?_⟩) ?_ ?_
                rotate_left
                ·intro w'
                 go_simp
                 with_reducible rfl
                rotate_left
                ·simp only [Act.put, sa1_, sb1_, sc1_, i64_w, i32_w]
                 rfl
                refine one_ (i := 16) (N := some 4) #[T1,T1,T1,T1,T1,T1,T1,T1,T1,T1,T1,T1,T1,T1,T1,T1,T1,F1] rfl rfl (one_of HT_.out (by kernel_rfl)) (by decide) (fun K hK => ?_)
                refine box_step ?hg (N := 4) ?hd (cs := #[.int .u64 0, .bool false, .int .i64 0, .int .u64 0, .int .i64 0, .int .i64 0]) (t := 26) ?hr ?_; (case hd => rfl); (case hg => rfl); (case hr => first | (go_simp; done) | (go_simp; rfl))
                intro gb391 hg w66 hbox hb
                have n0_ := Aside0.mk (blk_below (g := gb383) (o := .cells #[.int .u64 0, .bool false, .int .i64 0, .int .u64 0, .int .i64 0, .int .i64 0] 26 (0, 0)) (by (with_reducible repeat (first | refine blk_drewN ?_ _ | refine blk_drew ?_ | refine blk_alloc ?_ _)); exact BK383.out) hb)
                have n1_ := Aside0.mk (below_step (by repeat (first | (with_reducible first | exact HB.out | apply below_alloc | apply bn1_ | apply bd1_ | refine below_set ?_ GE383.out) | exact HB.out)) hb)
                have n2_ := Aside0.mk (hbox)
                have n3_ := Aside0.mk ((by rw [hg]; exact (below_size (by repeat (first | (with_reducible first | exact HB.out | apply below_alloc | apply bn1_ | apply bd1_ | refine below_set ?_ GE383.out) | exact HB.out))) : w.heap.size ≤ gb391))
                have n4_ := Aside0.mk ((by rw [hg]; exact (below_size (by repeat (first | (with_reducible first | exact HB.out | apply below_alloc | apply bn1_ | apply bd1_ | refine below_set ?_ GE383.out) | exact HB.out))) : w.heap.size ≤ gb391))
                have n5_ := Aside0.mk ((by rw [hg]; exact Nat.ne_of_lt (blk_lt (g := gb383) (o := .cells #[.int .u64 0, .bool false, .int .i64 0, .int .u64 0, .int .i64 0, .int .i64 0] 26 (0, 0)) (by (with_reducible repeat (first | refine blk_drewN ?_ _ | refine blk_drew ?_ | refine blk_alloc ?_ _)); exact BK383.out)) : gb383 ≠ gb391))
                have n6_ := Aside0.mk ((by rw [hg]; exact Nat.ne_of_gt (blk_lt (g := gb383) (o := .cells #[.int .u64 0, .bool false, .int .i64 0, .int .u64 0, .int .i64 0, .int .i64 0] 26 (0, 0)) (by (with_reducible repeat (first | refine blk_drewN ?_ _ | refine blk_drew ?_ | refine blk_alloc ?_ _)); exact BK383.out)) : gb391 ≠ gb383))
                clear BK383 HB
                have BK383 := n0_
                have HB := n1_
                have BK391 := n2_
                have GW391 := n3_
                have GE391 := n4_
                have NB383_391 := n5_
                have NB391_383 := n6_
                clear n0_ n1_ n2_ n3_ n4_ n5_ n6_
                clear hb hbox hg
                refine hK.out _ _ (((HB.out.cell (World.block_lt_of_cell? w _ hw386_0)).trans hw386_0)) (fun hHeld => ?_)
                clear hK K
                refine norm_ (a' := ?_) ?_ ?_
                rotate_left
                ·show Act.put _ (some 4) _ = _
                 simp only [Act.put, sa1_, sb1_, sc1_, i64_w, i32_w]
                 rfl
                exact norm_ (by simp only [putAll, Act.put, sa1_, sb1_, sc1_]) (hCont (gb391) _ ⟨hHeld, (by (with_reducible repeat (first | refine blk_drewN ?_ _ | refine blk_drew ?_ | refine blk_alloc ?_ _)); exact BK383.out), (by (with_reducible repeat (first | refine blk_drewN ?_ _ | refine blk_drew ?_ | refine blk_alloc ?_ _)); exact BK391.out), GW391.out, GE391.out, NB383_391.out, NB391_383.out, (by repeat (first | (with_reducible first | exact HB.out | apply below_alloc | apply bn1_ | apply bd1_ | refine below_set ?_ GE383.out | refine below_set ?_ GE391.out) | exact HB.out))⟩)
               ·skip
                refine box_step ?hg (N := 4) ?hd (cs := #[.int .u64 0, .bool false, .int .i64 0, .int .u64 0, .int .i64 0, .int .i64 0]) (t := 26) ?hr ?_; (case hd => rfl); (case hg => rfl); (case hr => first | (go_simp; done) | (go_simp; rfl))
                intro gb391 hg w66 hbox hb
                have n0_ := Aside0.mk (blk_below (g := gb383) (o := .cells #[.int .u64 0, .bool false, .int .i64 0, .int .u64 0, .int .i64 0, .int .i64 0] 26 (0, 0)) (by (with_reducible repeat (first | refine blk_drewN ?_ _ | refine blk_drew ?_ | refine blk_alloc ?_ _)); exact BK383.out) hb)
                have n1_ := Aside0.mk (below_step (by repeat (first | (with_reducible first | exact HB.out | apply below_alloc | apply bn1_ | apply bd1_ | refine below_set ?_ GE383.out) | exact HB.out)) hb)
                have n2_ := Aside0.mk (hbox)
                have n3_ := Aside0.mk ((by rw [hg]; exact (below_size (by repeat (first | (with_reducible first | exact HB.out | apply below_alloc | apply bn1_ | apply bd1_ | refine below_set ?_ GE383.out) | exact HB.out))) : w.heap.size ≤ gb391))
                have n4_ := Aside0.mk ((by rw [hg]; exact (below_size (by repeat (first | (with_reducible first | exact HB.out | apply below_alloc | apply bn1_ | apply bd1_ | refine below_set ?_ GE383.out) | exact HB.out))) : w.heap.size ≤ gb391))
                have n5_ := Aside0.mk ((by rw [hg]; exact Nat.ne_of_lt (blk_lt (g := gb383) (o := .cells #[.int .u64 0, .bool false, .int .i64 0, .int .u64 0, .int .i64 0, .int .i64 0] 26 (0, 0)) (by (with_reducible repeat (first | refine blk_drewN ?_ _ | refine blk_drew ?_ | refine blk_alloc ?_ _)); exact BK383.out)) : gb383 ≠ gb391))
                have n6_ := Aside0.mk ((by rw [hg]; exact Nat.ne_of_gt (blk_lt (g := gb383) (o := .cells #[.int .u64 0, .bool false, .int .i64 0, .int .u64 0, .int .i64 0, .int .i64 0] 26 (0, 0)) (by (with_reducible repeat (first | refine blk_drewN ?_ _ | refine blk_drew ?_ | refine blk_alloc ?_ _)); exact BK383.out)) : gb391 ≠ gb383))
                clear BK383 HB
                have BK383 := n0_
                have HB := n1_
                have BK391 := n2_
                have GW391 := n3_
                have GE391 := n4_
                have NB383_391 := n5_
                have NB391_383 := n6_
                clear n0_ n1_ n2_ n3_ n4_ n5_ n6_
                clear hb hbox hg
                refine hK.out _ _ (((HB.out.cell (World.block_lt_of_cell? w _ hw386_0)).trans hw386_0)) (fun hHeld => ?_)
                clear hK K
                refine norm_ (a' := ?_) ?_ ?_
                rotate_left
                ·show Act.put _ (some 4) _ = _
                 simp only [Act.put, sa1_, sb1_, sc1_, i64_w, i32_w]
                 rfl
                refine one_ (i := 13) (N := some 28) #[T1,T1,T1,T1,T1,T1,T1,T1,T1,T1,T1,T1,T1,T1,F1,F1,T1,F1] rfl rfl (one_of HT_.out (by kernel_rfl)) (by decide) (fun K hK => ?_)
                refine goes_ Try.func30 (by kernel_rfl) rfl #[.slice A65 (l0.drop 33).length (c0 - 33)] (by rfl) rfl rfl (by (try simp only [List.map_toArray, List.map_cons, List.map_nil]); first | done | (rw [show (l0.drop 33).length = (l0.length - 33) from List.length_drop] <;> rfl) | rfl | (simp only [List.length_drop, List.length_take]; rfl)) ?_
                with_reducible refine (agg_number.calls k _ _ (l0.drop 33) t390 _ ?side1 ?side2 A16.out).mono ?_
                (case side1 => repeat (first | exact (Kd.C_below HR389.out HB.out) | (with_reducible refine Kd.C_alloc ?_ _) | (with_reducible refine Kd.C_drewN ?_ _) | (with_reducible refine Kd.C_drew ?_)))
                (case side2 => exact HC389.out)
                rintro e w' ⟨rfl, ⟨nd, rfl⟩⟩
                refine ⟨_, rfl, ?_⟩
                refine hK.out _ _ (((HB.out.cell (World.block_lt_of_cell? w _ hw386_0)).trans hw386_0)) (fun hHeld => ?_)
                clear hK K
                refine norm_ (a' := ?_) ?_ ?_
                rotate_left
                ·show Act.put _ (some 28) _ = _
                 simp only [Act.put, sa1_, sb1_, sc1_, i64_w, i32_w]
                 rfl
                refine pure_ (i := 14) (N := some 29) (v := ?_) (a' := ?_) #[T1,T1,T1,T1,T1,T1,T1,T1,T1,T1,T1,T1,T1,T1,T1,F1,T1,F1] rfl rfl (any_of HT_.out (by kernel_rfl)) (fun _ _ _ h => h) (Or.inl ⟨by rfl, ?_⟩) ?_ ?_
                rotate_left
                ·intro w'
                 go_simp
                 with_reducible rfl
                rotate_left
                ·simp only [Act.put, sa1_, sb1_, sc1_, i64_w, i32_w]
                 rfl
                refine pure_ (i := 15) (N := some 30) (v := ?_) (a' := ?_) #[T1,T1,T1,T1,T1,T1,T1,T1,T1,T1,T1,T1,T1,T1,T1,T1,T1,F1] rfl rfl (any_of HT_.out (by kernel_rfl)) (fun _ _ _ h => h) (Or.inl ⟨by rfl, ?_⟩) ?_ ?_
                rotate_left
                ·intro w'
                 go_simp
                 with_reducible rfl
                rotate_left
                ·simp only [Act.put, sa1_, sb1_, sc1_, i64_w, i32_w]
                 rfl
                exact norm_ (by simp only [putAll, Act.put, sa1_, sb1_, sc1_]) (hCont (gb391) _ ⟨hHeld, (by (with_reducible repeat (first | refine blk_drewN ?_ _ | refine blk_drew ?_ | refine blk_alloc ?_ _)); exact BK383.out), (by (with_reducible repeat (first | refine blk_drewN ?_ _ | refine blk_drew ?_ | refine blk_alloc ?_ _)); exact BK391.out), GW391.out, GE391.out, NB383_391.out, NB391_383.out, (by repeat (first | (with_reducible first | exact HB.out | apply below_alloc | apply bn1_ | apply bd1_ | refine below_set ?_ GE383.out | refine below_set ?_ GE391.out) | exact HB.out))⟩)
              ·skip
               refine box_step ?hg (N := 4) ?hd (cs := #[.int .u64 0, .bool false, .int .i64 0, .int .u64 0, .int .i64 0, .int .i64 0]) (t := 26) ?hr ?_; (case hd => rfl); (case hg => rfl); (case hr => first | (go_simp; done) | (go_simp; rfl))
               intro gb391 hg w66 hbox hb
               have n0_ := Aside0.mk (blk_below (g := gb383) (o := .cells #[.int .u64 0, .bool false, .int .i64 0, .int .u64 0, .int .i64 0, .int .i64 0] 26 (0, 0)) (by (with_reducible repeat (first | refine blk_drewN ?_ _ | refine blk_drew ?_ | refine blk_alloc ?_ _)); exact BK383.out) hb)
               have n1_ := Aside0.mk (below_step (by repeat (first | (with_reducible first | exact HB.out | apply below_alloc | apply bn1_ | apply bd1_ | refine below_set ?_ GE383.out) | exact HB.out)) hb)
               have n2_ := Aside0.mk (hbox)
               have n3_ := Aside0.mk ((by rw [hg]; exact (below_size (by repeat (first | (with_reducible first | exact HB.out | apply below_alloc | apply bn1_ | apply bd1_ | refine below_set ?_ GE383.out) | exact HB.out))) : w.heap.size ≤ gb391))
               have n4_ := Aside0.mk ((by rw [hg]; exact (below_size (by repeat (first | (with_reducible first | exact HB.out | apply below_alloc | apply bn1_ | apply bd1_ | refine below_set ?_ GE383.out) | exact HB.out))) : w.heap.size ≤ gb391))
               have n5_ := Aside0.mk ((by rw [hg]; exact Nat.ne_of_lt (blk_lt (g := gb383) (o := .cells #[.int .u64 0, .bool false, .int .i64 0, .int .u64 0, .int .i64 0, .int .i64 0] 26 (0, 0)) (by (with_reducible repeat (first | refine blk_drewN ?_ _ | refine blk_drew ?_ | refine blk_alloc ?_ _)); exact BK383.out)) : gb383 ≠ gb391))
               have n6_ := Aside0.mk ((by rw [hg]; exact Nat.ne_of_gt (blk_lt (g := gb383) (o := .cells #[.int .u64 0, .bool false, .int .i64 0, .int .u64 0, .int .i64 0, .int .i64 0] 26 (0, 0)) (by (with_reducible repeat (first | refine blk_drewN ?_ _ | refine blk_drew ?_ | refine blk_alloc ?_ _)); exact BK383.out)) : gb391 ≠ gb383))
               clear BK383 HB
               have BK383 := n0_
               have HB := n1_
               have BK391 := n2_
               have GW391 := n3_
               have GE391 := n4_
               have NB383_391 := n5_
               have NB391_383 := n6_
               clear n0_ n1_ n2_ n3_ n4_ n5_ n6_
               clear hb hbox hg
               refine hK.out _ _ (((HB.out.cell (World.block_lt_of_cell? w _ hw386_0)).trans hw386_0)) (fun hHeld => ?_)
               clear hK K
               refine norm_ (a' := ?_) ?_ ?_
               rotate_left
               ·show Act.put _ (some 4) _ = _
                simp only [Act.put, sa1_, sb1_, sc1_, i64_w, i32_w]
                rfl
               refine one_ (i := 9) (N := some 24) #[T1,T1,T1,T1,T1,T1,T1,T1,T1,T1,F1,T1,T1,F1,F1,F1,T1,F1] rfl rfl (one_of HT_.out (by kernel_rfl)) (by decide) (fun K hK => ?_)
               refine goes_ Try.func30 (by kernel_rfl) rfl #[.slice A64 ((l0.take 33).drop 25).length (c0 - 25)] (by rfl) rfl rfl (by (try simp only [List.map_toArray, List.map_cons, List.map_nil]); first | done | (rw [show ((l0.take 33).drop 25).length = (33 - 25) from (by rw [List.length_drop, List.length_take]; have h_ : (33 : Int) ≤ (l0.length : Int) := of_decide_eq_true (by first | (with_reducible assumption) | assumption); omega)] <;> rfl) | rfl | (simp only [List.length_drop, List.length_take]; rfl)) ?_
               with_reducible refine (agg_number.calls k _ _ ((l0.take 33).drop 25) t388 _ ?side1 ?side2 A14.out).mono ?_
               (case side1 => repeat (first | exact (Kd.C_below HR387.out HB.out) | (with_reducible refine Kd.C_alloc ?_ _) | (with_reducible refine Kd.C_drewN ?_ _) | (with_reducible refine Kd.C_drew ?_)))
               (case side2 => exact HC387.out)
               rintro e w' ⟨rfl, ⟨nd, rfl⟩⟩
               refine ⟨_, rfl, ?_⟩
               refine hK.out _ _ (((HB.out.cell (World.block_lt_of_cell? w _ hw386_0)).trans hw386_0)) (fun hHeld => ?_)
               clear hK K
               refine norm_ (a' := ?_) ?_ ?_
               rotate_left
               ·show Act.put _ (some 24) _ = _
                simp only [Act.put, sa1_, sb1_, sc1_, i64_w, i32_w]
                rfl
               refine pure_ (i := 10) (N := some 25) (v := ?_) (a' := ?_) #[T1,T1,T1,T1,T1,T1,T1,T1,T1,T1,T1,T1,T1,F1,F1,F1,T1,F1] rfl rfl (any_of HT_.out (by kernel_rfl)) (fun _ _ _ h => h) (Or.inl ⟨by rfl, ?_⟩) ?_ ?_
               rotate_left
               ·intro w'
                go_simp
                with_reducible rfl
               rotate_left
               ·simp only [Act.put, sa1_, sb1_, sc1_, i64_w, i32_w]
                rfl
               refine one_ (i := 13) (N := some 28) #[T1,T1,T1,T1,T1,T1,T1,T1,T1,T1,T1,T1,T1,T1,F1,F1,T1,F1] rfl rfl (one_of HT_.out (by kernel_rfl)) (by decide) (fun K hK => ?_)
               refine goes_ Try.func30 (by kernel_rfl) rfl #[.slice A65 (l0.drop 33).length (c0 - 33)] (by rfl) rfl rfl (by (try simp only [List.map_toArray, List.map_cons, List.map_nil]); first | done | (rw [show (l0.drop 33).length = (l0.length - 33) from List.length_drop] <;> rfl) | rfl | (simp only [List.length_drop, List.length_take]; rfl)) ?_
               with_reducible refine (agg_number.calls k _ _ (l0.drop 33) t390 _ ?side1 ?side2 A16.out).mono ?_
               (case side1 => repeat (first | exact (Kd.C_below HR389.out (by repeat (first | (with_reducible first | exact HB.out | apply below_alloc | apply bn1_ | apply bd1_ | refine below_set ?_ GE383.out | refine below_set ?_ GE391.out) | exact HB.out))) | (with_reducible refine Kd.C_alloc ?_ _) | (with_reducible refine Kd.C_drewN ?_ _) | (with_reducible refine Kd.C_drew ?_)))
               (case side2 => exact HC389.out)
               rintro e w' ⟨rfl, ⟨nd, rfl⟩⟩
               refine ⟨_, rfl, ?_⟩
               refine hK.out _ _ (((HB.out.cell (World.block_lt_of_cell? w _ hw386_0)).trans hw386_0)) (fun hHeld => ?_)
               clear hK K
               refine norm_ (a' := ?_) ?_ ?_
               rotate_left
               ·show Act.put _ (some 28) _ = _
                simp only [Act.put, sa1_, sb1_, sc1_, i64_w, i32_w]
                rfl
               refine pure_ (i := 14) (N := some 29) (v := ?_) (a' := ?_) #[T1,T1,T1,T1,T1,T1,T1,T1,T1,T1,T1,T1,T1,T1,T1,F1,T1,F1] rfl rfl (any_of HT_.out (by kernel_rfl)) (fun _ _ _ h => h) (Or.inl ⟨by rfl, ?_⟩) ?_ ?_
               rotate_left
               ·intro w'
                go_simp
                with_reducible rfl
               rotate_left
               ·simp only [Act.put, sa1_, sb1_, sc1_, i64_w, i32_w]
                rfl
               refine pure_ (i := 15) (N := some 30) (v := ?_) (a' := ?_) #[T1,T1,T1,T1,T1,T1,T1,T1,T1,T1,T1,T1,T1,T1,T1,T1,T1,F1] rfl rfl (any_of HT_.out (by kernel_rfl)) (fun _ _ _ h => h) (Or.inl ⟨by rfl, ?_⟩) ?_ ?_
               rotate_left
               ·intro w'
                go_simp
                with_reducible rfl
               rotate_left
               ·simp only [Act.put, sa1_, sb1_, sc1_, i64_w, i32_w]
                rfl
               exact norm_ (by simp only [putAll, Act.put, sa1_, sb1_, sc1_]) (hCont (gb391) _ ⟨hHeld, (by (with_reducible repeat (first | refine blk_drewN ?_ _ | refine blk_drew ?_ | refine blk_alloc ?_ _)); exact BK383.out), (by (with_reducible repeat (first | refine blk_drewN ?_ _ | refine blk_drew ?_ | refine blk_alloc ?_ _)); exact BK391.out), GW391.out, GE391.out, NB383_391.out, NB391_383.out, (by repeat (first | (with_reducible first | exact HB.out | apply below_alloc | apply bn1_ | apply bd1_ | refine below_set ?_ GE383.out | refine below_set ?_ GE391.out) | exact HB.out))⟩)
             ·skip
              refine box_step ?hg (N := 4) ?hd (cs := #[.int .u64 0, .bool false, .int .i64 0, .int .u64 0, .int .i64 0, .int .i64 0]) (t := 26) ?hr ?_; (case hd => rfl); (case hg => rfl); (case hr => first | (go_simp; done) | (go_simp; rfl))
              intro gb391 hg w66 hbox hb
              have n0_ := Aside0.mk (blk_below (g := gb383) (o := .cells #[.int .u64 0, .bool false, .int .i64 0, .int .u64 0, .int .i64 0, .int .i64 0] 26 (0, 0)) (by (with_reducible repeat (first | refine blk_drewN ?_ _ | refine blk_drew ?_ | refine blk_alloc ?_ _)); exact BK383.out) hb)
              have n1_ := Aside0.mk (below_step (by repeat (first | (with_reducible first | exact HB.out | apply below_alloc | apply bn1_ | apply bd1_ | refine below_set ?_ GE383.out) | exact HB.out)) hb)
              have n2_ := Aside0.mk (hbox)
              have n3_ := Aside0.mk ((by rw [hg]; exact (below_size (by repeat (first | (with_reducible first | exact HB.out | apply below_alloc | apply bn1_ | apply bd1_ | refine below_set ?_ GE383.out) | exact HB.out))) : w.heap.size ≤ gb391))
              have n4_ := Aside0.mk ((by rw [hg]; exact (below_size (by repeat (first | (with_reducible first | exact HB.out | apply below_alloc | apply bn1_ | apply bd1_ | refine below_set ?_ GE383.out) | exact HB.out))) : w.heap.size ≤ gb391))
              have n5_ := Aside0.mk ((by rw [hg]; exact Nat.ne_of_lt (blk_lt (g := gb383) (o := .cells #[.int .u64 0, .bool false, .int .i64 0, .int .u64 0, .int .i64 0, .int .i64 0] 26 (0, 0)) (by (with_reducible repeat (first | refine blk_drewN ?_ _ | refine blk_drew ?_ | refine blk_alloc ?_ _)); exact BK383.out)) : gb383 ≠ gb391))
              have n6_ := Aside0.mk ((by rw [hg]; exact Nat.ne_of_gt (blk_lt (g := gb383) (o := .cells #[.int .u64 0, .bool false, .int .i64 0, .int .u64 0, .int .i64 0, .int .i64 0] 26 (0, 0)) (by (with_reducible repeat (first | refine blk_drewN ?_ _ | refine blk_drew ?_ | refine blk_alloc ?_ _)); exact BK383.out)) : gb391 ≠ gb383))
              clear BK383 HB
              have BK383 := n0_
              have HB := n1_
              have BK391 := n2_
              have GW391 := n3_
              have GE391 := n4_
              have NB383_391 := n5_
              have NB391_383 := n6_
              clear n0_ n1_ n2_ n3_ n4_ n5_ n6_
              clear hb hbox hg
              refine hK.out _ _ (((HB.out.cell (World.block_lt_of_cell? w _ hw386_0)).trans hw386_0)) (fun hHeld => ?_)
              clear hK K
              refine norm_ (a' := ?_) ?_ ?_
              rotate_left
              ·show Act.put _ (some 4) _ = _
               simp only [Act.put, sa1_, sb1_, sc1_, i64_w, i32_w]
               rfl
              refine one_ (i := 2) (N := some 17) #[T1,T1,T1,T1,T1,T1,T1,T1,T1,F1,F1,T1,T1,F1,F1,F1,T1,F1] rfl rfl (one_of HT_.out (by kernel_rfl)) (by decide) (fun K hK => ?_)
              refine goes_ Try.func30 (by kernel_rfl) rfl #[.slice A63 ((l0.take 9).drop 1).length (c0 - 1)] (by rfl) rfl rfl (by (try simp only [List.map_toArray, List.map_cons, List.map_nil]); first | done | (rw [show ((l0.take 9).drop 1).length = (9 - 1) from (by rw [List.length_drop, List.length_take]; have h_ : (9 : Int) ≤ (l0.length : Int) := of_decide_eq_true (by first | (with_reducible assumption) | assumption); omega)] <;> rfl) | rfl | (simp only [List.length_drop, List.length_take]; rfl)) ?_
              with_reducible refine (agg_number.calls k _ _ ((l0.take 9).drop 1) t385 _ ?side1 ?side2 A10.out).mono ?_
              (case side1 => repeat (first | exact (Kd.C_below HR384.out HB.out) | (with_reducible refine Kd.C_alloc ?_ _) | (with_reducible refine Kd.C_drewN ?_ _) | (with_reducible refine Kd.C_drew ?_)))
              (case side2 => exact HC384.out)
              rintro e w' ⟨rfl, ⟨nd, rfl⟩⟩
              refine ⟨_, rfl, ?_⟩
              refine hK.out _ _ (((HB.out.cell (World.block_lt_of_cell? w _ hw386_0)).trans hw386_0)) (fun hHeld => ?_)
              clear hK K
              refine norm_ (a' := ?_) ?_ ?_
              rotate_left
              ·show Act.put _ (some 17) _ = _
               simp only [Act.put, sa1_, sb1_, sc1_, i64_w, i32_w]
               rfl
              refine one_ (i := 9) (N := some 24) #[T1,T1,T1,T1,T1,T1,T1,T1,T1,T1,F1,T1,T1,F1,F1,F1,T1,F1] rfl rfl (one_of HT_.out (by kernel_rfl)) (by decide) (fun K hK => ?_)
              refine goes_ Try.func30 (by kernel_rfl) rfl #[.slice A64 ((l0.take 33).drop 25).length (c0 - 25)] (by rfl) rfl rfl (by (try simp only [List.map_toArray, List.map_cons, List.map_nil]); first | done | (rw [show ((l0.take 33).drop 25).length = (33 - 25) from (by rw [List.length_drop, List.length_take]; have h_ : (33 : Int) ≤ (l0.length : Int) := of_decide_eq_true (by first | (with_reducible assumption) | assumption); omega)] <;> rfl) | rfl | (simp only [List.length_drop, List.length_take]; rfl)) ?_
              with_reducible refine (agg_number.calls k _ _ ((l0.take 33).drop 25) t388 _ ?side1 ?side2 A14.out).mono ?_
              (case side1 => repeat (first | exact (Kd.C_below HR387.out (by repeat (first | (with_reducible first | exact HB.out | apply below_alloc | apply bn1_ | apply bd1_ | refine below_set ?_ GE383.out | refine below_set ?_ GE391.out) | exact HB.out))) | (with_reducible refine Kd.C_alloc ?_ _) | (with_reducible refine Kd.C_drewN ?_ _) | (with_reducible refine Kd.C_drew ?_)))
              (case side2 => exact HC387.out)
              rintro e w' ⟨rfl, ⟨nd, rfl⟩⟩
              refine ⟨_, rfl, ?_⟩
              refine hK.out _ _ (((HB.out.cell (World.block_lt_of_cell? w _ hw386_0)).trans hw386_0)) (fun hHeld => ?_)
              clear hK K
              refine norm_ (a' := ?_) ?_ ?_
              rotate_left
              ·show Act.put _ (some 24) _ = _
               simp only [Act.put, sa1_, sb1_, sc1_, i64_w, i32_w]
               rfl
              refine pure_ (i := 10) (N := some 25) (v := ?_) (a' := ?_) #[T1,T1,T1,T1,T1,T1,T1,T1,T1,T1,T1,T1,T1,F1,F1,F1,T1,F1] rfl rfl (any_of HT_.out (by kernel_rfl)) (fun _ _ _ h => h) (Or.inl ⟨by rfl, ?_⟩) ?_ ?_
              rotate_left
              ·intro w'
               go_simp
               with_reducible rfl
              rotate_left
              ·simp only [Act.put, sa1_, sb1_, sc1_, i64_w, i32_w]
               rfl
              refine one_ (i := 13) (N := some 28) #[T1,T1,T1,T1,T1,T1,T1,T1,T1,T1,T1,T1,T1,T1,F1,F1,T1,F1] rfl rfl (one_of HT_.out (by kernel_rfl)) (by decide) (fun K hK => ?_)
              refine goes_ Try.func30 (by kernel_rfl) rfl #[.slice A65 (l0.drop 33).length (c0 - 33)] (by rfl) rfl rfl (by (try simp only [List.map_toArray, List.map_cons, List.map_nil]); first | done | (rw [show (l0.drop 33).length = (l0.length - 33) from List.length_drop] <;> rfl) | rfl | (simp only [List.length_drop, List.length_take]; rfl)) ?_
              with_reducible refine (agg_number.calls k _ _ (l0.drop 33) t390 _ ?side1 ?side2 A16.out).mono ?_
              (case side1 => repeat (first | exact (Kd.C_below HR389.out (by repeat (first | (with_reducible first | exact HB.out | apply below_alloc | apply bn1_ | apply bd1_ | refine below_set ?_ GE383.out | refine below_set ?_ GE391.out) | exact HB.out))) | (with_reducible refine Kd.C_alloc ?_ _) | (with_reducible refine Kd.C_drewN ?_ _) | (with_reducible refine Kd.C_drew ?_)))
              (case side2 => exact HC389.out)
              rintro e w' ⟨rfl, ⟨nd, rfl⟩⟩
              refine ⟨_, rfl, ?_⟩
              refine hK.out _ _ (((HB.out.cell (World.block_lt_of_cell? w _ hw386_0)).trans hw386_0)) (fun hHeld => ?_)
              clear hK K
              refine norm_ (a' := ?_) ?_ ?_
              rotate_left
              ·show Act.put _ (some 28) _ = _
               simp only [Act.put, sa1_, sb1_, sc1_, i64_w, i32_w]
               rfl
              refine pure_ (i := 14) (N := some 29) (v := ?_) (a' := ?_) #[T1,T1,T1,T1,T1,T1,T1,T1,T1,T1,T1,T1,T1,T1,T1,F1,T1,F1] rfl rfl (any_of HT_.out (by kernel_rfl)) (fun _ _ _ h => h) (Or.inl ⟨by rfl, ?_⟩) ?_ ?_
              rotate_left
              ·intro w'
               go_simp
               with_reducible rfl
              rotate_left
              ·simp only [Act.put, sa1_, sb1_, sc1_, i64_w, i32_w]
               rfl
              refine pure_ (i := 15) (N := some 30) (v := ?_) (a' := ?_) #[T1,T1,T1,T1,T1,T1,T1,T1,T1,T1,T1,T1,T1,T1,T1,T1,T1,F1] rfl rfl (any_of HT_.out (by kernel_rfl)) (fun _ _ _ h => h) (Or.inl ⟨by rfl, ?_⟩) ?_ ?_
              rotate_left
              ·intro w'
               go_simp
               with_reducible rfl
              rotate_left
              ·simp only [Act.put, sa1_, sb1_, sc1_, i64_w, i32_w]
               rfl
              exact norm_ (by simp only [putAll, Act.put, sa1_, sb1_, sc1_]) (hCont (gb391) _ ⟨hHeld, (by (with_reducible repeat (first | refine blk_drewN ?_ _ | refine blk_drew ?_ | refine blk_alloc ?_ _)); exact BK383.out), (by (with_reducible repeat (first | refine blk_drewN ?_ _ | refine blk_drew ?_ | refine blk_alloc ?_ _)); exact BK391.out), GW391.out, GE391.out, NB383_391.out, NB391_383.out, (by repeat (first | (with_reducible first | exact HB.out | apply below_alloc | apply bn1_ | apply bd1_ | refine below_set ?_ GE383.out | refine below_set ?_ GE391.out) | exact HB.out))⟩)
            rintro gb391 w67 ⟨hS_, h0_, h1_, h2_, h3_, h4_, h5_, h6_⟩
            have n0_ : Aside0 (w67.heap[gb383]? = some (.cells #[.int .u64 0, .bool false, .int .i64 0, .int .u64 0, .int .i64 0, .int .i64 0] 26 (0, 0))) := ⟨h0_⟩
            have n1_ : Aside0 (w67.heap[gb391]? = some (.cells #[.int .u64 0, .bool false, .int .i64 0, .int .u64 0, .int .i64 0, .int .i64 0] 26 (0, 0))) := ⟨h1_⟩
            have n2_ : Aside0 (w.heap.size ≤ gb391) := ⟨h2_⟩
            have n3_ : Aside0 (w.heap.size ≤ gb391) := ⟨h3_⟩
            have n4_ : Aside0 (gb383 ≠ gb391) := ⟨h4_⟩
            have n5_ : Aside0 (gb391 ≠ gb383) := ⟨h5_⟩
            have n6_ : Aside0 (Below w.heap.size w w67) := ⟨h6_⟩
            clear BK383 HB h0_ h1_ h2_ h3_ h4_ h5_ h6_
            have BK383 := n0_
            have BK391 := n1_
            have GW391 := n2_
            have GE391 := n3_
            have NB383_391 := n4_
            have NB391_383 := n5_
            have HB := n6_
            clear n0_ n1_ n2_ n3_ n4_ n5_ n6_
            have hHeld : w67.cell? ad386 = some (.int .u8 (rd l0 0)) := hS_
            refine norm_ (a' := ?_) ?_ ?_
            rotate_left
            ·simp only [putAll, Act.put, sa1_, sb1_, sc1_]
             rfl
            refine one_ (i := 17) (N := none) #[T1,T1,T1,T1,T1,T1,T1,T1,T1,T1,T1,T1,T1,T1,T1,T1,T1,T1] rfl rfl (one_of HT_.out (by kernel_rfl)) (by decide) (fun K hK => ?_)
            have hs68 : w67.cell? ⟨gb391, 0, none⟩ = some (.int .u64 0) := (blk_cell BK391.out 0).trans rfl
            have hfs68 := blk_frozen BK391.out 0
            have hns68_0 := NB383_391.out
            have hms68_0 := NB391_383.out
            have hs69 : w67.cell? ⟨gb391, 1, none⟩ = some (.bool false) := (blk_cell BK391.out 1).trans rfl
            have hfs69 := blk_frozen BK391.out 1
            have hns69_0 := NB383_391.out
            have hms69_0 := NB391_383.out
            have hs70 : w67.cell? ⟨gb391, 2, none⟩ = some (.int .i64 0) := (blk_cell BK391.out 2).trans rfl
            have hfs70 := blk_frozen BK391.out 2
            have hns70_0 := NB383_391.out
            have hms70_0 := NB391_383.out
            have hs71 : w67.cell? ⟨gb391, 3, none⟩ = some (.int .u64 0) := (blk_cell BK391.out 3).trans rfl
            have hfs71 := blk_frozen BK391.out 3
            have hns71_0 := NB383_391.out
            have hms71_0 := NB391_383.out
            have hs72 : w67.cell? ⟨gb391, 4, none⟩ = some (.int .i64 0) := (blk_cell BK391.out 4).trans rfl
            have hfs72 := blk_frozen BK391.out 4
            have hns72_0 := NB383_391.out
            have hms72_0 := NB391_383.out
            have hs73 : w67.cell? ⟨gb391, 5, none⟩ = some (.int .i64 0) := (blk_cell BK391.out 5).trans rfl
            have hfs73 := blk_frozen BK391.out 5
            have hns73_0 := NB383_391.out
            have hms73_0 := NB391_383.out
            refine skip_ (w1 := ?_) (by rfl) rfl ?_ ?_
            rotate_left
            ·go_simp
             rfl
            refine hK.out _ _ (((cell_far (p := ⟨gb391, _, none⟩) (by first | exact Nat.ne_of_lt (Nat.lt_of_lt_of_le (by have := World.block_lt_of_cell? _ _ hw386_0; first | rwa [add_block] at this | exact this) GW391.out) | (rw [add_block]; exact Nat.ne_of_lt (Nat.lt_of_lt_of_le (by have := World.block_lt_of_cell? _ _ hw386_0; first | rwa [add_block] at this | exact this) GW391.out)) | (show (Addr.add _ _).block ≠ _; rw [add_block]; exact Nat.ne_of_lt (Nat.lt_of_lt_of_le (by have := World.block_lt_of_cell? _ _ hw386_0; first | rwa [add_block] at this | exact this) GW391.out)) | (dsimp only; exact Nat.ne_of_lt (Nat.lt_of_lt_of_le (by have := World.block_lt_of_cell? _ _ hw386_0; first | rwa [add_block] at this | exact this) GW391.out))) _).trans (((cell_far (p := ⟨gb391, _, none⟩) (by first | exact Nat.ne_of_lt (Nat.lt_of_lt_of_le (by have := World.block_lt_of_cell? _ _ hw386_0; first | rwa [add_block] at this | exact this) GW391.out) | (rw [add_block]; exact Nat.ne_of_lt (Nat.lt_of_lt_of_le (by have := World.block_lt_of_cell? _ _ hw386_0; first | rwa [add_block] at this | exact this) GW391.out)) | (show (Addr.add _ _).block ≠ _; rw [add_block]; exact Nat.ne_of_lt (Nat.lt_of_lt_of_le (by have := World.block_lt_of_cell? _ _ hw386_0; first | rwa [add_block] at this | exact this) GW391.out)) | (dsimp only; exact Nat.ne_of_lt (Nat.lt_of_lt_of_le (by have := World.block_lt_of_cell? _ _ hw386_0; first | rwa [add_block] at this | exact this) GW391.out))) _).trans (((cell_far (p := ⟨gb391, _, none⟩) (by first | exact Nat.ne_of_lt (Nat.lt_of_lt_of_le (by have := World.block_lt_of_cell? _ _ hw386_0; first | rwa [add_block] at this | exact this) GW391.out) | (rw [add_block]; exact Nat.ne_of_lt (Nat.lt_of_lt_of_le (by have := World.block_lt_of_cell? _ _ hw386_0; first | rwa [add_block] at this | exact this) GW391.out)) | (show (Addr.add _ _).block ≠ _; rw [add_block]; exact Nat.ne_of_lt (Nat.lt_of_lt_of_le (by have := World.block_lt_of_cell? _ _ hw386_0; first | rwa [add_block] at this | exact this) GW391.out)) | (dsimp only; exact Nat.ne_of_lt (Nat.lt_of_lt_of_le (by have := World.block_lt_of_cell? _ _ hw386_0; first | rwa [add_block] at this | exact this) GW391.out))) _).trans (((cell_far (p := ⟨gb391, _, none⟩) (by first | exact Nat.ne_of_lt (Nat.lt_of_lt_of_le (by have := World.block_lt_of_cell? _ _ hw386_0; first | rwa [add_block] at this | exact this) GW391.out) | (rw [add_block]; exact Nat.ne_of_lt (Nat.lt_of_lt_of_le (by have := World.block_lt_of_cell? _ _ hw386_0; first | rwa [add_block] at this | exact this) GW391.out)) | (show (Addr.add _ _).block ≠ _; rw [add_block]; exact Nat.ne_of_lt (Nat.lt_of_lt_of_le (by have := World.block_lt_of_cell? _ _ hw386_0; first | rwa [add_block] at this | exact this) GW391.out)) | (dsimp only; exact Nat.ne_of_lt (Nat.lt_of_lt_of_le (by have := World.block_lt_of_cell? _ _ hw386_0; first | rwa [add_block] at this | exact this) GW391.out))) _).trans (((cell_far (p := ⟨gb391, _, none⟩) (by first | exact Nat.ne_of_lt (Nat.lt_of_lt_of_le (by have := World.block_lt_of_cell? _ _ hw386_0; first | rwa [add_block] at this | exact this) GW391.out) | (rw [add_block]; exact Nat.ne_of_lt (Nat.lt_of_lt_of_le (by have := World.block_lt_of_cell? _ _ hw386_0; first | rwa [add_block] at this | exact this) GW391.out)) | (show (Addr.add _ _).block ≠ _; rw [add_block]; exact Nat.ne_of_lt (Nat.lt_of_lt_of_le (by have := World.block_lt_of_cell? _ _ hw386_0; first | rwa [add_block] at this | exact this) GW391.out)) | (dsimp only; exact Nat.ne_of_lt (Nat.lt_of_lt_of_le (by have := World.block_lt_of_cell? _ _ hw386_0; first | rwa [add_block] at this | exact this) GW391.out))) _).trans (((cell_far (p := ⟨gb391, _, none⟩) (by first | exact Nat.ne_of_lt (Nat.lt_of_lt_of_le (by have := World.block_lt_of_cell? _ _ hw386_0; first | rwa [add_block] at this | exact this) GW391.out) | (rw [add_block]; exact Nat.ne_of_lt (Nat.lt_of_lt_of_le (by have := World.block_lt_of_cell? _ _ hw386_0; first | rwa [add_block] at this | exact this) GW391.out)) | (show (Addr.add _ _).block ≠ _; rw [add_block]; exact Nat.ne_of_lt (Nat.lt_of_lt_of_le (by have := World.block_lt_of_cell? _ _ hw386_0; first | rwa [add_block] at this | exact this) GW391.out)) | (dsimp only; exact Nat.ne_of_lt (Nat.lt_of_lt_of_le (by have := World.block_lt_of_cell? _ _ hw386_0; first | rwa [add_block] at this | exact this) GW391.out))) _).trans (hHeld))))))))))))) (fun hHeld => ?_)
            clear hK K
            refine done_ (done_of HT_.out (by kernel_rfl)) ?_
            obtain ⟨i074, hi074, _, hsz74, _⟩ := info_parts info5
            obtain ⟨A74, hcut74, hA74, hC74⟩ := print_mid_of (P := Try.prog) (Value.int .u8) 0 36 5 .i64 .i64 Try.underlying36 hi074 hsz74 (some ad386) c0 l0 9 25 (by omega) (by first | omega | exact of_decide_eq_true (by first | (with_reducible assumption) | assumption)) (of_decide_eq_true (by first | (with_reducible assumption) | assumption)) HC0.out
            have HR392 := Aside0.mk (Kd.C_of_reads (h1 := fun _ => rfl) (hA74 _ (Kd.reads_of_C HR0.out)))
            have HC392 := Aside0.mk hC74
            clear hA74 hC74 hi074 hsz74
            try go_wp2_with (first | ((with_reducible refine gate_callee (f := 31) rfl ?_); refine goesL_ (some 34) rfl rfl Try.func31 (by kernel_rfl) rfl #[.slice A74 ((l0.take 25).drop 9).length (c0 - 9)] rfl (by (try simp only [List.map_toArray, List.map_cons, List.map_nil]); first | done | (rw [show ((l0.take 25).drop 9).length = (25 - 9) from (by rw [List.length_drop, List.length_take]; have h_ : (25 : Int) ≤ (l0.length : Int) := of_decide_eq_true (by first | (with_reducible assumption) | assumption); omega)] <;> rfl) | rfl | (simp only [List.length_drop, List.length_take]; rfl)) ?_; (with_reducible refine (wide_Read.calls _ _ ((l0.take 25).drop 9) t393 t394 t395 _ ?side1 ?side2 A19.out).mono ?_); (case side1 => exact Kd.C_below HR392.out (by repeat (first | (with_reducible first | exact HB.out | apply below_alloc | apply bn1_ | apply bd1_ | refine below_set ?_ GE383.out | refine below_set ?_ GE391.out) | exact HB.out))); (case side2 => exact HC392.out); rintro e w75 ⟨rfl, hb⟩; refine ⟨_, rfl, ?_⟩; have n0_ := Aside0.mk (blk_below (g := gb383) (o := .cells #[.int .u64 0, .bool false, .int .i64 0, .int .u64 0, .int .i64 0, .int .i64 0] 26 (0, 0)) (by (with_reducible repeat (first | refine blk_drewN ?_ _ | refine blk_drew ?_ | refine blk_alloc ?_ _)); refine blk_far ?_ NB383_391.out _; (with_reducible repeat (first | refine blk_drewN ?_ _ | refine blk_drew ?_ | refine blk_alloc ?_ _)); refine blk_far ?_ NB383_391.out _; (with_reducible repeat (first | refine blk_drewN ?_ _ | refine blk_drew ?_ | refine blk_alloc ?_ _)); refine blk_far ?_ NB383_391.out _; (with_reducible repeat (first | refine blk_drewN ?_ _ | refine blk_drew ?_ | refine blk_alloc ?_ _)); refine blk_far ?_ NB383_391.out _; (with_reducible repeat (first | refine blk_drewN ?_ _ | refine blk_drew ?_ | refine blk_alloc ?_ _)); refine blk_far ?_ NB383_391.out _; (with_reducible repeat (first | refine blk_drewN ?_ _ | refine blk_drew ?_ | refine blk_alloc ?_ _)); refine blk_far ?_ NB383_391.out _; (with_reducible repeat (first | refine blk_drewN ?_ _ | refine blk_drew ?_ | refine blk_alloc ?_ _)); exact BK383.out) hb); have n1_ := Aside0.mk (blk_below (g := gb391) (o := .cells #[.int .u64 t385, .bool ((rd l0 0) == 1), .int .i64 0, .int .u64 0, .int .i64 (wrap64 (t388)), .int .i64 (wrap64 (t390))] 26 (0, 0)) (by (with_reducible repeat (first | refine blk_drewN ?_ _ | refine blk_drew ?_ | refine blk_alloc ?_ _)); refine blk_put (cs := #[.int .u64 t385, .bool ((rd l0 0) == 1), .int .i64 0, .int .u64 0, .int .i64 (wrap64 (t388)), .int .i64 0]) ?_ 5 _ rfl; (with_reducible repeat (first | refine blk_drewN ?_ _ | refine blk_drew ?_ | refine blk_alloc ?_ _)); refine blk_put (cs := #[.int .u64 t385, .bool ((rd l0 0) == 1), .int .i64 0, .int .u64 0, .int .i64 0, .int .i64 0]) ?_ 4 _ rfl; (with_reducible repeat (first | refine blk_drewN ?_ _ | refine blk_drew ?_ | refine blk_alloc ?_ _)); refine blk_put (cs := #[.int .u64 t385, .bool ((rd l0 0) == 1), .int .i64 0, .int .u64 0, .int .i64 0, .int .i64 0]) ?_ 3 _ rfl; (with_reducible repeat (first | refine blk_drewN ?_ _ | refine blk_drew ?_ | refine blk_alloc ?_ _)); refine blk_put (cs := #[.int .u64 t385, .bool ((rd l0 0) == 1), .int .i64 0, .int .u64 0, .int .i64 0, .int .i64 0]) ?_ 2 _ rfl; (with_reducible repeat (first | refine blk_drewN ?_ _ | refine blk_drew ?_ | refine blk_alloc ?_ _)); refine blk_put (cs := #[.int .u64 t385, .bool false, .int .i64 0, .int .u64 0, .int .i64 0, .int .i64 0]) ?_ 1 _ rfl; (with_reducible repeat (first | refine blk_drewN ?_ _ | refine blk_drew ?_ | refine blk_alloc ?_ _)); refine blk_put (cs := #[.int .u64 0, .bool false, .int .i64 0, .int .u64 0, .int .i64 0, .int .i64 0]) ?_ 0 _ rfl; (with_reducible repeat (first | refine blk_drewN ?_ _ | refine blk_drew ?_ | refine blk_alloc ?_ _)); exact BK391.out) hb); have n2_ := Aside0.mk (below_step (by repeat (first | (with_reducible first | exact HB.out | apply below_alloc | apply bn1_ | apply bd1_ | refine below_set ?_ GE383.out | refine below_set ?_ GE391.out) | exact HB.out)) hb); clear BK383; clear BK391; clear HB; have BK383 := n0_; have BK391 := n1_; have HB := n2_; clear n0_ n1_ n2_; (try clear hb); (try clear hb2); (try clear hk); (try clear hi); have hnb76 := NB391_383.out; have hnc76 := NB383_391.out; have hcz77_0 : w75.cell? ⟨gb391, 0, none⟩ = some (.int .u64 t385) := (blk_cell BK391.out 0).trans rfl; have hcz77_1 : w75.cell? ⟨gb391, 1, none⟩ = some (.bool ((rd l0 0) == 1)) := (blk_cell BK391.out 1).trans rfl; have hcz77_2 : w75.cell? ⟨gb391, 2, none⟩ = some (.int .i64 0) := (blk_cell BK391.out 2).trans rfl; have hcz77_3 : w75.cell? ⟨gb391, 3, none⟩ = some (.int .u64 0) := (blk_cell BK391.out 3).trans rfl; have hcz77_4 : w75.cell? ⟨gb391, 4, none⟩ = some (.int .i64 (wrap64 (t388))) := (blk_cell BK391.out 4).trans rfl; have hcz77_5 : w75.cell? ⟨gb391, 5, none⟩ = some (.int .i64 (wrap64 (t390))) := (blk_cell BK391.out 5).trans rfl; have hfz77_0 := blk_frozen BK391.out 0; have hfz77_1 := blk_frozen BK391.out 1; have hfz77_2 := blk_frozen BK391.out 2; have hfz77_3 := blk_frozen BK391.out 3; have hfz77_4 := blk_frozen BK391.out 4; have hfz77_5 := blk_frozen BK391.out 5; have p396 : 0 ≤ (0 : Int) := (by omega); have q396 : 0 < (l0.length : Int) := of_decide_eq_true (by first | (with_reducible assumption) | assumption); obtain ⟨ad396, e396, hx396_0⟩ := Kd.at_int HR0.out 0 p396 q396; obtain rfl : ad386 = ad396 := (by injection e396); have qi396 : (0 < l0.length) = True := eq_true (by omega); (try rw [show ((0 : Int)).toNat = 0 from rfl] at hx396_0); (try rw [Addr.add_zero'] at hx396_0); have hn396_0 : ad386.block ≠ gb391 := Nat.ne_of_lt (Nat.lt_of_lt_of_le (by have := World.block_lt_of_cell? _ _ hx396_0; first | rwa [add_block] at this | exact this) GW391.out); have hn396_1 : ad386.block ≠ gb391 := Nat.ne_of_lt (Nat.lt_of_lt_of_le (by have := World.block_lt_of_cell? _ _ hx396_0; first | rwa [add_block] at this | exact this) GW391.out); replace hx396_0 := (HB.out.cell (World.block_lt_of_cell? w _ hx396_0)).trans hx396_0; replace hx396_0 := (cell_far (p := ⟨gb391, 2, none⟩) (by first | (rw [add_block]; exact hn396_0) | (show (Addr.add _ _).block ≠ _; rw [add_block]; exact hn396_0) | exact hn396_0) (.int .i64 t393)).trans hx396_0; replace hx396_0 := (cell_far (p := ⟨gb391, 3, none⟩) (by first | (rw [add_block]; exact hn396_1) | (show (Addr.add _ _).block ≠ _; rw [add_block]; exact hn396_1) | exact hn396_1) (.int .u64 t394)).trans hx396_0; clear hn396_0; clear hn396_1; replace p396 := eq_true p396; replace q396 := eq_true q396) | (go_at_call 9; (with_reducible refine (agg_Right.calls t385 ((rd l0 0) == 1) t393 t394 (wrap64 (t388)) (wrap64 (t390)) false _ A39.out).mono ?_); rintro e w78 ⟨rfl, hb⟩; have n0_ := Aside0.mk (blk_below (g := gb383) (o := .cells #[.int .u64 0, .bool false, .int .i64 0, .int .u64 0, .int .i64 0, .int .i64 0] 26 (0, 0)) (by (with_reducible repeat (first | refine blk_drewN ?_ _ | refine blk_drew ?_ | refine blk_alloc ?_ _)); refine blk_far ?_ NB383_391.out _; (with_reducible repeat (first | refine blk_drewN ?_ _ | refine blk_drew ?_ | refine blk_alloc ?_ _)); refine blk_far ?_ NB383_391.out _; (with_reducible repeat (first | refine blk_drewN ?_ _ | refine blk_drew ?_ | refine blk_alloc ?_ _)); exact BK383.out) hb); have n1_ := Aside0.mk (blk_below (g := gb391) (o := .cells #[.int .u64 t385, .bool ((rd l0 0) == 1), .int .i64 t393, .int .u64 t394, .int .i64 (wrap64 (t388)), .int .i64 (wrap64 (t390))] 26 (0, 0)) (by (with_reducible repeat (first | refine blk_drewN ?_ _ | refine blk_drew ?_ | refine blk_alloc ?_ _)); refine blk_put (cs := #[.int .u64 t385, .bool ((rd l0 0) == 1), .int .i64 t393, .int .u64 0, .int .i64 (wrap64 (t388)), .int .i64 (wrap64 (t390))]) ?_ 3 _ rfl; (with_reducible repeat (first | refine blk_drewN ?_ _ | refine blk_drew ?_ | refine blk_alloc ?_ _)); refine blk_put (cs := #[.int .u64 t385, .bool ((rd l0 0) == 1), .int .i64 0, .int .u64 0, .int .i64 (wrap64 (t388)), .int .i64 (wrap64 (t390))]) ?_ 2 _ rfl; (with_reducible repeat (first | refine blk_drewN ?_ _ | refine blk_drew ?_ | refine blk_alloc ?_ _)); exact BK391.out) hb); have n2_ := Aside0.mk (below_step (by repeat (first | (with_reducible first | exact HB.out | apply below_alloc | apply bn1_ | apply bd1_ | refine below_set ?_ GE383.out | refine below_set ?_ GE391.out) | exact HB.out)) hb); clear BK383; clear BK391; clear HB; have BK383 := n0_; have BK391 := n1_; have HB := n2_; clear n0_ n1_ n2_; (try clear hb); (try clear hb2); (try clear hk); (try clear hi); have hcz79_0 : w78.cell? ⟨gb383, 0, none⟩ = some (.int .u64 0) := (blk_cell BK383.out 0).trans rfl; have hcz79_1 : w78.cell? ⟨gb383, 1, none⟩ = some (.bool false) := (blk_cell BK383.out 1).trans rfl; have hcz79_2 : w78.cell? ⟨gb383, 2, none⟩ = some (.int .i64 0) := (blk_cell BK383.out 2).trans rfl; have hcz79_3 : w78.cell? ⟨gb383, 3, none⟩ = some (.int .u64 0) := (blk_cell BK383.out 3).trans rfl; have hcz79_4 : w78.cell? ⟨gb383, 4, none⟩ = some (.int .i64 0) := (blk_cell BK383.out 4).trans rfl; have hcz79_5 : w78.cell? ⟨gb383, 5, none⟩ = some (.int .i64 0) := (blk_cell BK383.out 5).trans rfl; have hfz79_0 := blk_frozen BK383.out 0; have hfz79_1 := blk_frozen BK383.out 1; have hfz79_2 := blk_frozen BK383.out 2; have hfz79_3 := blk_frozen BK383.out 3; have hfz79_4 := blk_frozen BK383.out 4; have hfz79_5 := blk_frozen BK383.out 5))
            refine bodyPost_ret (results_ct rfl _ _ gb383 26 #[.int .u64 0, .bool false, .int .i64 0, .int .u64 0, .int .i64 0, .int .i64 0] (0, 0) _ rfl (by (with_reducible repeat (first | refine blk_drewN ?_ _ | refine blk_drew ?_ | refine blk_alloc ?_ _)); refine blk_put (cs := #[.int .u64 0, .bool false, .int .i64 0, .int .u64 0, .int .i64 0, .int .i64 0]) ?_ 5 _ rfl; (with_reducible repeat (first | refine blk_drewN ?_ _ | refine blk_drew ?_ | refine blk_alloc ?_ _)); refine blk_put (cs := #[.int .u64 0, .bool false, .int .i64 0, .int .u64 0, .int .i64 0, .int .i64 0]) ?_ 4 _ rfl; (with_reducible repeat (first | refine blk_drewN ?_ _ | refine blk_drew ?_ | refine blk_alloc ?_ _)); refine blk_put (cs := #[.int .u64 0, .bool false, .int .i64 0, .int .u64 0, .int .i64 0, .int .i64 0]) ?_ 3 _ rfl; (with_reducible repeat (first | refine blk_drewN ?_ _ | refine blk_drew ?_ | refine blk_alloc ?_ _)); refine blk_put (cs := #[.int .u64 0, .bool false, .int .i64 0, .int .u64 0, .int .i64 0, .int .i64 0]) ?_ 2 _ rfl; (with_reducible repeat (first | refine blk_drewN ?_ _ | refine blk_drew ?_ | refine blk_alloc ?_ _)); refine blk_put (cs := #[.int .u64 0, .bool false, .int .i64 0, .int .u64 0, .int .i64 0, .int .i64 0]) ?_ 1 _ rfl; (with_reducible repeat (first | refine blk_drewN ?_ _ | refine blk_drew ?_ | refine blk_alloc ?_ _)); refine blk_put (cs := #[.int .u64 0, .bool false, .int .i64 0, .int .u64 0, .int .i64 0, .int .i64 0]) ?_ 0 _ rfl; (with_reducible repeat (first | refine blk_drewN ?_ _ | refine blk_drew ?_ | refine blk_alloc ?_ _)); exact BK383.out) Try.underlying26 rfl (by kernel_rfl)) rfl ?_
            exact ⟨by first | rfl | (simp [errW_none, errW_some] <;> rfl) | (simp [*, errW_none, errW_some] <;> rfl), by repeat (first | (with_reducible first | exact HB.out | apply below_alloc | apply bn1_ | apply bd1_ | refine below_set ?_ GE383.out | refine below_set ?_ GE391.out) | exact HB.out)⟩
         ·rw [if_neg c18] at H
          exact absurd H (by simp)
        ·rw [if_neg c17] at H
         exact absurd H (by simp)
       ·rw [if_neg c13] at H
        exact absurd H (by simp)
      ·rw [if_neg c12] at H
       exact absurd H (by simp)
     ·rw [if_neg c11] at H
      exact absurd H (by simp)
    ·rw [if_neg c9] at H
     exact absurd H (by simp)
   ·rw [if_neg c8] at H
    exact absurd H (by simp)

end Go.Proofs.Ytflmjiadahknkaa.P
