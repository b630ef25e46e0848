-- Written by a program of this session out of the translation.
import Derived.Test.YtflmjiadahknkaaPx0
import Derived.Test.YtflmjiadahknkaaPEq1
import Derived.Test.YtflmjiadahknkaaPaggRead
import Derived.Test.YtflmjiadahknkaaPaggRight
import Derived.Test.YtflmjiadahknkaaPaggWrite
import Derived.Test.YtflmjiadahknkaaPrickyardlaw02alive
namespace Go.Proofs.Ytflmjiadahknkaa.P
open Go.RowKit Go.Proofs.YtflmjiadahknkaaW.PrintWords Go.Proofs.YtflmjiadahknkaaW.PrintLast Go.Proofs.YtflmjiadahknkaaW.PrintMore
attribute [local go_sem] max2_int min2_int max_two min_two max_three min_three max_four min_four   -- for this text's walks alone
set_option linter.unusedVariables false
set_option linter.unusedSimpArgs false

attribute [local go_sem high] eqA26
/-! ### rickyardlaw02_AggBack: function 8 -/
def rickyardlaw02_AggBack.j0 : Nat → List Int → Int → Int → Bool → Int → Int → Int → Int → Option (Bool)
  | 0, _, _, _, _, _, _, _, _ => none
  | k + 1, x1, x6, x444000, x444001, x444002, x444003, x444004, x444005 => (agg_Read.f k x1).bind fun bt457 => ((agg_Write.f k bt457.1 bt457.2.1 bt457.2.2.1 bt457.2.2.2.1 bt457.2.2.2.2.1 bt457.2.2.2.2.2.1).bind fun bt465 => ((rickyardlaw02_alive.f k).bind fun t469 => (if t469 = true then ((agg_Right.f x444000 x444001 x444002 x444003 x444004 x444005).bind fun t470 => (if ((x6 == 0) == t470) = true then (if bt457.2.2.2.2.2.2 = 0 then (if bt465.2 = 0 then (some ((strOfNums bt465.1).toList == (strOfNums x1).toList)) else (some false)) else (some true)) else (some false))) else (some false))))
def rickyardlaw02_AggBack.f (k : Nat) (a0_0 : Int) (a0_1 : Bool) (a0_2 : Int) (a0_3 : Int) (a0_4 : Int) (a0_5 : Int) (l1 : List Int) : Option (Bool) := if (l1.length : Int) > 200 then ((rickyardlaw02_alive.f k).bind fun t444 => (some t444)) else ((agg_Write.f k a0_0 a0_1 a0_2 a0_3 a0_4 a0_5).bind fun bt445 => (if bt445.2 = 0 then ((agg_Read.f k bt445.1).bind fun bt449 => (if bt449.2.2.2.2.2.2 = 0 then (if (!(bt449.1 == a0_0) || (!(bt449.2.1 == a0_1) || ((!(bt449.2.2.1 == a0_2) || (!(bt449.2.2.2.1 == a0_3))) || (!(bt449.2.2.2.2.1 == a0_4) || (!(bt449.2.2.2.2.2.1 == a0_5)))))) = true then (some false) else (if (bt445.1.length : Int) = 41 then (rickyardlaw02_AggBack.j0 k l1 bt445.2 a0_0 a0_1 a0_2 a0_3 a0_4 a0_5) else (some false))) else (some false))) else (rickyardlaw02_AggBack.j0 k l1 bt445.2 a0_0 a0_1 a0_2 a0_3 a0_4 a0_5)))
theorem rickyardlaw02_AggBack.mono_l : ∀ k, (∀ y0 y1 y2 y3 y4 y5 y6 y7, LeO (rickyardlaw02_AggBack.j0 k y0 y1 y2 y3 y4 y5 y6 y7) (rickyardlaw02_AggBack.j0 (k + 1) y0 y1 y2 y3 y4 y5 y6 y7))
  | 0 => fun _ _ _ _ _ _ _ _ r h => by simp [rickyardlaw02_AggBack.j0] at h
  | k + 1 => by
    have ih0 := rickyardlaw02_AggBack.mono_l k
    · intro y0 y1 y2 y3 y4 y5 y6 y7
      unfold rickyardlaw02_AggBack.j0
      repeat' first
      | (with_reducible exact ih0 _ _ _ _ _ _ _ _)
      | (with_reducible exact agg_Read.mono _ _)
      | (with_reducible exact agg_Write.mono _ _ _ _ _ _ _)
      | (with_reducible exact rickyardlaw02_alive.mono _)
      | (with_reducible exact LeO.refl _)
      | (with_reducible exact LeO.none _)
      | (with_reducible refine LeO.ite ?_ ?_)
      | (with_reducible refine LeO.bind ?_ (fun _ => ?_))
      | exact ih0 _ _ _ _ _ _ _ _
      | exact agg_Read.mono _ _
      | exact agg_Write.mono _ _ _ _ _ _ _
      | exact rickyardlaw02_alive.mono _
      | exact LeO.none _
      | refine LeO.ite ?_ ?_
      | refine LeO.bind ?_ (fun _ => ?_)
theorem rickyardlaw02_AggBack.mono : ∀ a0 a1 a2 a3 a4 a5 a6 k, LeO (rickyardlaw02_AggBack.f k a0 a1 a2 a3 a4 a5 a6) (rickyardlaw02_AggBack.f (k + 1) a0 a1 a2 a3 a4 a5 a6) := by
  intro a0 a1 a2 a3 a4 a5 a6 k
  have ih0 := rickyardlaw02_AggBack.mono_l k
  unfold rickyardlaw02_AggBack.f
  repeat' first
      | (with_reducible exact ih0 _ _ _ _ _ _ _ _)
      | (with_reducible exact agg_Read.mono _ _)
      | (with_reducible exact agg_Write.mono _ _ _ _ _ _ _)
      | (with_reducible exact rickyardlaw02_alive.mono _)
      | (with_reducible exact LeO.refl _)
      | (with_reducible exact LeO.none _)
      | (with_reducible refine LeO.ite ?_ ?_)
      | (with_reducible refine LeO.bind ?_ (fun _ => ?_))
      | exact ih0 _ _ _ _ _ _ _ _
      | exact agg_Read.mono _ _
      | exact agg_Write.mono _ _ _ _ _ _ _
      | exact rickyardlaw02_alive.mono _
      | exact LeO.none _
      | refine LeO.ite ?_ ?_
      | refine LeO.bind ?_ (fun _ => ?_)
set_option maxHeartbeats 8000000 in
set_option maxRecDepth 100000 in
theorem rickyardlaw02_AggBack.calls (k : Nat) (a0_0 : Int) (a0_1 : Bool) (a0_2 : Int) (a0_3 : Int) (a0_4 : Int) (a0_5 : Int) (A1 : Option Addr) (c1 : Nat) (l1 : List Int) (r : Bool) (w : World) (hr1 : Kd.C (Kd.int .u8) w A1 l1.length l1) (hc1 : l1.length ≤ c1) (h : rickyardlaw02_AggBack.f k a0_0 a0_1 a0_2 a0_3 a0_4 a0_5 l1 = some r) (hr_ : r = true) :
    Calls Try.prog 8 #[.agg #[.int .u64 a0_0, .bool a0_1, .int .i64 a0_2, .int .u64 a0_3, .int .i64 a0_4, .int .i64 a0_5], .slice A1 l1.length c1] w fun e w' => e = .returned (.bool r) ∧ Below w.heap.size w w' := by
  have HR_ := Aside0.mk hr_
  clear hr_
  have hu26 := Try.underlying26
  have HR1 := Aside0.mk hr1
  have HC1 := Aside0.mk hc1
  clear hr1 hc1
  have HB := Aside0.mk (Below.refl w.heap.size w)
  have H : (if (l1.length : Int) > 200 then ((rickyardlaw02_alive.f k).bind fun t444 => (some t444)) else ((agg_Write.f k a0_0 a0_1 a0_2 a0_3 a0_4 a0_5).bind fun bt445 => (if bt445.2 = 0 then ((agg_Read.f k bt445.1).bind fun bt449 => (if bt449.2.2.2.2.2.2 = 0 then (if (!(bt449.1 == a0_0) || (!(bt449.2.1 == a0_1) || ((!(bt449.2.2.1 == a0_2) || (!(bt449.2.2.2.1 == a0_3))) || (!(bt449.2.2.2.2.1 == a0_4) || (!(bt449.2.2.2.2.2.1 == a0_5)))))) = true then (some false) else (if (bt445.1.length : Int) = 41 then (rickyardlaw02_AggBack.j0 k l1 bt445.2 a0_0 a0_1 a0_2 a0_3 a0_4 a0_5) else (some false))) else (some false))) else (rickyardlaw02_AggBack.j0 k l1 bt445.2 a0_0 a0_1 a0_2 a0_3 a0_4 a0_5)))) = some r := h
  clear h
  by_cases c3 : (l1.length : Int) > 200
  · rw [if_pos c3] at H
    have c3b0 : decide (200 < (l1.length : Int)) = true := decide_eq_true c3
    have c3b1 : decide (200 < l1.length) = true := decide_eq_true (by omega)
    clear c3
    replace H := Option.bind_eq_some_iff.mp H
    obtain ⟨t444, A40, H⟩ := H
    replace H : (some t444) = some r := H
    have A4 := Aside0.mk A40
    clear A40
    obtain rfl := Option.some.inj H
    go_enter Try.func8, Try.ntmps8
    go_wp2_with (first | ((with_reducible refine gate_dst (N := 2) rfl ?_); (try (refine gate_guard (by rfl) ?_; dsimp only)); refine box_event ?hg (N := 2) ?hd (cs := #[.int .u64 a0_0, .bool a0_1, .int .i64 a0_2, .int .u64 a0_3, .int .i64 a0_4, .int .i64 a0_5]) (t := 26) ?hr ?_; (case hd => rfl); (case hg => rfl); (case hr => first | (go_simp; done) | (go_simp; rfl)); intro gb443 hg w5 hbox hb; have n0_ := Aside0.mk (below_step (by repeat (first | (with_reducible first | exact HB.out | apply below_alloc | apply pw_below_drewN | apply below_drew1) | exact HB.out)) hb); have n1_ := Aside0.mk (hbox); have n2_ := Aside0.mk ((by rw [hg]; exact (below_size (by repeat (first | (with_reducible first | exact HB.out | apply below_alloc | apply pw_below_drewN | apply below_drew1) | exact HB.out))) : w.heap.size ≤ gb443)); have n3_ := Aside0.mk ((by rw [hg]; exact (below_size (by repeat (first | (with_reducible first | exact HB.out | apply below_alloc | apply pw_below_drewN | apply below_drew1) | exact HB.out))) : w.heap.size ≤ gb443)); clear HB; have HB := n0_; have BK443 := n1_; have GW443 := n2_; have GE443 := n3_; clear n0_ n1_ n2_ n3_; clear hb hbox hg) | ((with_reducible refine gate_callee (f := 10) rfl ?_); refine goesL_ (some 16) rfl rfl Try.func10 (by kernel_rfl) rfl #[] rfl (by (try simp only [List.map_toArray, List.map_cons, List.map_nil]); first | done | rfl | (simp only [List.length_drop, List.length_take]; rfl)) ?_; (with_reducible refine (rickyardlaw02_alive.calls k  t444 _ A4.out).mono ?_); rintro e w6 ⟨rfl, hb⟩; refine ⟨_, rfl, ?_⟩; have n0_ := Aside0.mk (blk_below (g := gb443) (o := .cells #[.int .u64 a0_0, .bool a0_1, .int .i64 a0_2, .int .u64 a0_3, .int .i64 a0_4, .int .i64 a0_5] 26 (0, 0)) (by (with_reducible repeat (first | refine blk_drewN ?_ _ | refine blk_drew ?_ | refine blk_alloc ?_ _)); exact BK443.out) hb); have n1_ := Aside0.mk (below_step (by repeat (first | (with_reducible first | exact HB.out | apply below_alloc | apply pw_below_drewN | apply below_drew1 | refine below_set ?_ GE443.out) | exact HB.out)) hb); clear BK443; clear HB; have BK443 := n0_; have HB := n1_; clear n0_ n1_; (try clear hb); (try clear hb2); (try clear hk); (try clear hi)))
    go_ret
    exact ⟨by first | rfl | (simp [errW_none, errW_some] <;> rfl) | (simp [*, errW_none, errW_some] <;> rfl), by repeat (first | (with_reducible first | exact HB.out | apply below_alloc | apply pw_below_drewN | apply below_drew1 | refine below_set ?_ GE443.out) | exact HB.out)⟩
  · rw [if_neg c3] at H
    have c3b0 : decide (200 < (l1.length : Int)) = false := decide_eq_false c3
    have c3b1 : decide (200 < l1.length) = false := decide_eq_false (by omega)
    clear c3
    replace H := Option.bind_eq_some_iff.mp H
    obtain ⟨⟨t445, t448⟩, A70, H⟩ := H
    replace H : (if t448 = 0 then ((agg_Read.f k t445).bind fun bt449 => (if bt449.2.2.2.2.2.2 = 0 then (if (!(bt449.1 == a0_0) || (!(bt449.2.1 == a0_1) || ((!(bt449.2.2.1 == a0_2) || (!(bt449.2.2.2.1 == a0_3))) || (!(bt449.2.2.2.2.1 == a0_4) || (!(bt449.2.2.2.2.2.1 == a0_5)))))) = true then (some false) else (if (t445.length : Int) = 41 then (rickyardlaw02_AggBack.j0 k l1 t448 a0_0 a0_1 a0_2 a0_3 a0_4 a0_5) else (some false))) else (some false))) else (rickyardlaw02_AggBack.j0 k l1 t448 a0_0 a0_1 a0_2 a0_3 a0_4 a0_5)) = some r := H
    have A7 := Aside0.mk A70
    clear A70
    have HC8 := Aside0.mk H
    clear H
    go_enter Try.func8, Try.ntmps8
    go_upto_if 23 with (first | ((with_reducible refine gate_dst (N := 2) rfl ?_); (try (refine gate_guard (by rfl) ?_; dsimp only)); refine box_event ?hg (N := 2) ?hd (cs := #[.int .u64 a0_0, .bool a0_1, .int .i64 a0_2, .int .u64 a0_3, .int .i64 a0_4, .int .i64 a0_5]) (t := 26) ?hr ?_; (case hd => rfl); (case hg => rfl); (case hr => first | (go_simp; done) | (go_simp; rfl)); intro gb443 hg w9 hbox hb; have n0_ := Aside0.mk (below_step (by repeat (first | (with_reducible first | exact HB.out | apply below_alloc | apply pw_below_drewN | apply below_drew1) | exact HB.out)) hb); have n1_ := Aside0.mk (hbox); have n2_ := Aside0.mk ((by rw [hg]; exact (below_size (by repeat (first | (with_reducible first | exact HB.out | apply below_alloc | apply pw_below_drewN | apply below_drew1) | exact HB.out))) : w.heap.size ≤ gb443)); have n3_ := Aside0.mk ((by rw [hg]; exact (below_size (by repeat (first | (with_reducible first | exact HB.out | apply below_alloc | apply pw_below_drewN | apply below_drew1) | exact HB.out))) : w.heap.size ≤ gb443)); clear HB; have HB := n0_; have BK443 := n1_; have GW443 := n2_; have GE443 := n3_; clear n0_ n1_ n2_ n3_; clear hb hbox hg; have hcz10_0 : w9.cell? ⟨gb443, 0, none⟩ = some (.int .u64 a0_0) := (blk_cell BK443.out 0).trans rfl; have hcz10_1 : w9.cell? ⟨gb443, 1, none⟩ = some (.bool a0_1) := (blk_cell BK443.out 1).trans rfl; have hcz10_2 : w9.cell? ⟨gb443, 2, none⟩ = some (.int .i64 a0_2) := (blk_cell BK443.out 2).trans rfl; have hcz10_3 : w9.cell? ⟨gb443, 3, none⟩ = some (.int .u64 a0_3) := (blk_cell BK443.out 3).trans rfl; have hcz10_4 : w9.cell? ⟨gb443, 4, none⟩ = some (.int .i64 a0_4) := (blk_cell BK443.out 4).trans rfl; have hcz10_5 : w9.cell? ⟨gb443, 5, none⟩ = some (.int .i64 a0_5) := (blk_cell BK443.out 5).trans rfl; have hfz10_0 := blk_frozen BK443.out 0; have hfz10_1 := blk_frozen BK443.out 1; have hfz10_2 := blk_frozen BK443.out 2; have hfz10_3 := blk_frozen BK443.out 3; have hfz10_4 := blk_frozen BK443.out 4; have hfz10_5 := blk_frozen BK443.out 5) | ((with_reducible refine gate_callee (f := 14) rfl ?_); refine goesL_ (some 19) rfl rfl Try.func14 (by kernel_rfl) rfl #[.agg #[.int .u64 a0_0, .bool a0_1, .int .i64 a0_2, .int .u64 a0_3, .int .i64 a0_4, .int .i64 a0_5]] rfl (by (try simp only [List.map_toArray, List.map_cons, List.map_nil]); first | done | rfl | (simp only [List.length_drop, List.length_take]; rfl)) ?_; (with_reducible refine (agg_Write.calls k a0_0 a0_1 a0_2 a0_3 a0_4 a0_5 t445 t448 _ A7.out).mono ?_); rintro e w11 ⟨v446, rfl, ho0, hb⟩; refine ⟨_, rfl, ?_⟩; have n0_ := Aside0.mk (Kd.R_lower ho0 (below_size (by repeat (first | (with_reducible first | exact HB.out | apply below_alloc | apply pw_below_drewN | apply below_drew1 | refine below_set ?_ GE443.out) | exact HB.out)))); have n1_ := Aside0.mk (blk_below (g := gb443) (o := .cells #[.int .u64 a0_0, .bool a0_1, .int .i64 a0_2, .int .u64 a0_3, .int .i64 a0_4, .int .i64 a0_5] 26 (0, 0)) (by (with_reducible repeat (first | refine blk_drewN ?_ _ | refine blk_drew ?_ | refine blk_alloc ?_ _)); exact BK443.out) hb); have n2_ := Aside0.mk (below_step (by repeat (first | (with_reducible first | exact HB.out | apply below_alloc | apply pw_below_drewN | apply below_drew1 | refine below_set ?_ GE443.out) | exact HB.out)) hb); clear BK443; clear HB; have HO447 := n0_; have BK443 := n1_; have HB := n2_; clear n0_ n1_ n2_; (try clear hb); (try clear hb2); (try clear hk); (try clear hi); (try clear ho0)))
    (try simp only [Act.put, List.setIfInBounds_toArray, List.set_cons_zero, List.set_cons_succ])
    go_cut [] (fun wc => ∃ (kq : Nat), Aside0 (rickyardlaw02_AggBack.j0 kq l1 t448 a0_0 a0_1 a0_2 a0_3 a0_4 a0_5 = some r) ∧ Aside0 (kq ≤ k) ∧ Aside0 (wc.heap[gb443]? = some (.cells #[.int .u64 a0_0, .bool a0_1, .int .i64 a0_2, .int .u64 a0_3, .int .i64 a0_4, .int .i64 a0_5] 26 (0, 0))) ∧ Aside0 (Below w.heap.size w wc))
    case first =>
      have H := HC8.out
      clear HC8
      by_cases c12 : t448 = 0
      · rw [if_pos c12] at H
        have c12b0 : (t448 == 0) = true := beq_iff_eq.mpr c12
        have c12b1 : (t448 != 0) = false := bne_eq_false_iff_eq.mpr c12
        clear c12
        (first | rw [c12b0] | (simp only [i64_w, i32_w]; rw [c12b0]) | skip)
        replace H := Option.bind_eq_some_iff.mp H
        obtain ⟨⟨t449, t450, t451, t452, t453, t454, t455⟩, A130, H⟩ := H
        replace H : (if t455 = 0 then (if (!(t449 == a0_0) || (!(t450 == a0_1) || ((!(t451 == a0_2) || (!(t452 == a0_3))) || (!(t453 == a0_4) || (!(t454 == a0_5)))))) = true then (some false) else (if (t445.length : Int) = 41 then (rickyardlaw02_AggBack.j0 k l1 t448 a0_0 a0_1 a0_2 a0_3 a0_4 a0_5) else (some false))) else (some false)) = some r := H
        have A13 := Aside0.mk A130
        clear A130
        by_cases c14 : t455 = 0
        · rw [if_pos c14] at H
          have c14b0 : (t455 == 0) = true := beq_iff_eq.mpr c14
          have c14b1 : (t455 != 0) = false := bne_eq_false_iff_eq.mpr c14
          clear c14
          by_cases c15 : (!(t449 == a0_0) || (!(t450 == a0_1) || ((!(t451 == a0_2) || (!(t452 == a0_3))) || (!(t453 == a0_4) || (!(t454 == a0_5)))))) = true
          · rw [if_pos c15] at H
            have c15b0 : (!(t449 == a0_0) || (!(t450 == a0_1) || ((!(t451 == a0_2) || (!(t452 == a0_3))) || (!(t453 == a0_4) || (!(t454 == a0_5)))))) = true := c15
            clear c15
            exact absurd ((Option.some.inj H).trans HR_.out) (by decide)
          · rw [if_neg c15] at H
            have c15b0 : (!(t449 == a0_0) || (!(t450 == a0_1) || ((!(t451 == a0_2) || (!(t452 == a0_3))) || (!(t453 == a0_4) || (!(t454 == a0_5)))))) = false := by simpa using c15
            clear c15
            by_cases c16 : (t445.length : Int) = 41
            · rw [if_pos c16] at H
              have c16b0 : ((t445.length : Int) == 41) = true := beq_iff_eq.mpr c16
              have c16b1 : ((t445.length : Int) != 41) = false := bne_eq_false_iff_eq.mpr c16
              clear c16
              have H' := Aside0.mk H
              clear H
              obtain ⟨Ao17, co17, eo17⟩ := Kd.R_slice HO447.out
              subst eo17
              go_wp2_with (first | ((with_reducible refine gate_callee (f := 16) rfl ?_); refine goesL_ (some 26) rfl rfl Try.func16 (by kernel_rfl) rfl #[.slice Ao17 t445.length co17] rfl (by (try simp only [List.map_toArray, List.map_cons, List.map_nil]); first | done | rfl | (simp only [List.length_drop, List.length_take]; rfl)) ?_; (with_reducible refine (agg_Read.calls k _ _ t445 t449 t450 t451 t452 t453 t454 t455 _ ?side1 ?side2 A13.out).mono ?_); (case side1 => repeat (first | exact (Kd.R_reads' HO447.out).2.2 | (with_reducible refine Kd.C_alloc ?_ _) | (with_reducible refine Kd.C_drewN ?_ _) | (with_reducible refine Kd.C_drew ?_))); (case side2 => exact (Kd.R_reads' HO447.out).2.1); rintro e w18 ⟨rfl, hb⟩; refine ⟨_, rfl, ?_⟩; have n0_ := Aside0.mk (Kd.R_below (by (with_reducible repeat (first | apply Kd.R_alloc | apply Kd.R_drewN | apply Kd.R_drew)); exact HO447.out) hb); have n1_ := Aside0.mk (blk_below (g := gb443) (o := .cells #[.int .u64 a0_0, .bool a0_1, .int .i64 a0_2, .int .u64 a0_3, .int .i64 a0_4, .int .i64 a0_5] 26 (0, 0)) (by (with_reducible repeat (first | refine blk_drewN ?_ _ | refine blk_drew ?_ | refine blk_alloc ?_ _)); exact BK443.out) hb); have n2_ := Aside0.mk (below_step (by repeat (first | (with_reducible first | exact HB.out | apply below_alloc | apply pw_below_drewN | apply below_drew1 | refine below_set ?_ GE443.out) | exact HB.out)) hb); clear HO447; clear BK443; clear HB; have HO447 := n0_; have BK443 := n1_; have HB := n2_; clear n0_ n1_ n2_; (try clear hb); (try clear hb2); (try clear hk); (try clear hi)) | ((with_reducible refine gate_dst (N := 7) rfl ?_); (try (refine gate_guard (by rfl) ?_; dsimp only)); refine box_event ?hg (N := 7) ?hd (cs := #[.int .u64 0, .bool false, .int .i64 0, .int .u64 0, .int .i64 0, .int .i64 0]) (t := 26) ?hr ?_; (case hd => rfl); (case hg => rfl); (case hr => first | (go_simp; done) | (go_simp; rfl)); intro gb456 hg w19 hbox hb; have n0_ := Aside0.mk (Kd.R_below (by (with_reducible repeat (first | apply Kd.R_alloc | apply Kd.R_drewN | apply Kd.R_drew)); exact HO447.out) hb); have n1_ := Aside0.mk (blk_below (g := gb443) (o := .cells #[.int .u64 a0_0, .bool a0_1, .int .i64 a0_2, .int .u64 a0_3, .int .i64 a0_4, .int .i64 a0_5] 26 (0, 0)) (by (with_reducible repeat (first | refine blk_drewN ?_ _ | refine blk_drew ?_ | refine blk_alloc ?_ _)); exact BK443.out) hb); have n2_ := Aside0.mk (below_step (by repeat (first | (with_reducible first | exact HB.out | apply below_alloc | apply pw_below_drewN | apply below_drew1 | refine below_set ?_ GE443.out) | exact HB.out)) hb); have n3_ := Aside0.mk (hbox); have n4_ := Aside0.mk ((by rw [hg]; exact (below_size (by repeat (first | (with_reducible first | exact HB.out | apply below_alloc | apply pw_below_drewN | apply below_drew1 | refine below_set ?_ GE443.out) | exact HB.out))) : w.heap.size ≤ gb456)); have n5_ := Aside0.mk ((by rw [hg]; exact (below_size (by repeat (first | (with_reducible first | exact HB.out | apply below_alloc | apply pw_below_drewN | apply below_drew1 | refine below_set ?_ GE443.out) | exact HB.out))) : w.heap.size ≤ gb456)); have n6_ := Aside0.mk ((by rw [hg]; exact Nat.ne_of_lt (blk_lt (g := gb443) (o := .cells #[.int .u64 a0_0, .bool a0_1, .int .i64 a0_2, .int .u64 a0_3, .int .i64 a0_4, .int .i64 a0_5] 26 (0, 0)) (by (with_reducible repeat (first | refine blk_drewN ?_ _ | refine blk_drew ?_ | refine blk_alloc ?_ _)); exact BK443.out)) : gb443 ≠ gb456)); have n7_ := Aside0.mk ((by rw [hg]; exact Nat.ne_of_gt (blk_lt (g := gb443) (o := .cells #[.int .u64 a0_0, .bool a0_1, .int .i64 a0_2, .int .u64 a0_3, .int .i64 a0_4, .int .i64 a0_5] 26 (0, 0)) (by (with_reducible repeat (first | refine blk_drewN ?_ _ | refine blk_drew ?_ | refine blk_alloc ?_ _)); exact BK443.out)) : gb456 ≠ gb443)); clear HO447; clear BK443; clear HB; have HO447 := n0_; have BK443 := n1_; have HB := n2_; have BK456 := n3_; have GW456 := n4_; have GE456 := n5_; have NB443_456 := n6_; have NB456_443 := n7_; clear n0_ n1_ n2_ n3_ n4_ n5_ n6_ n7_; clear hb hbox hg; have hnb20 := NB456_443.out; have hnc20 := NB443_456.out; have hcz21_0 : w19.cell? ⟨gb456, 0, none⟩ = some (.int .u64 0) := (blk_cell BK456.out 0).trans rfl; have hcz21_1 : w19.cell? ⟨gb456, 1, none⟩ = some (.bool false) := (blk_cell BK456.out 1).trans rfl; have hcz21_2 : w19.cell? ⟨gb456, 2, none⟩ = some (.int .i64 0) := (blk_cell BK456.out 2).trans rfl; have hcz21_3 : w19.cell? ⟨gb456, 3, none⟩ = some (.int .u64 0) := (blk_cell BK456.out 3).trans rfl; have hcz21_4 : w19.cell? ⟨gb456, 4, none⟩ = some (.int .i64 0) := (blk_cell BK456.out 4).trans rfl; have hcz21_5 : w19.cell? ⟨gb456, 5, none⟩ = some (.int .i64 0) := (blk_cell BK456.out 5).trans rfl; have hfz21_0 := blk_frozen BK456.out 0; have hfz21_1 := blk_frozen BK456.out 1; have hfz21_2 := blk_frozen BK456.out 2; have hfz21_3 := blk_frozen BK456.out 3; have hfz21_4 := blk_frozen BK456.out 4; have hfz21_5 := blk_frozen BK456.out 5; have hcz22_0 : w19.cell? ⟨gb443, 0, none⟩ = some (.int .u64 a0_0) := (blk_cell BK443.out 0).trans rfl; have hcz22_1 : w19.cell? ⟨gb443, 1, none⟩ = some (.bool a0_1) := (blk_cell BK443.out 1).trans rfl; have hcz22_2 : w19.cell? ⟨gb443, 2, none⟩ = some (.int .i64 a0_2) := (blk_cell BK443.out 2).trans rfl; have hcz22_3 : w19.cell? ⟨gb443, 3, none⟩ = some (.int .u64 a0_3) := (blk_cell BK443.out 3).trans rfl; have hcz22_4 : w19.cell? ⟨gb443, 4, none⟩ = some (.int .i64 a0_4) := (blk_cell BK443.out 4).trans rfl; have hcz22_5 : w19.cell? ⟨gb443, 5, none⟩ = some (.int .i64 a0_5) := (blk_cell BK443.out 5).trans rfl; have hfz22_0 := blk_frozen BK443.out 0; have hfz22_1 := blk_frozen BK443.out 1; have hfz22_2 := blk_frozen BK443.out 2; have hfz22_3 := blk_frozen BK443.out 3; have hfz22_4 := blk_frozen BK443.out 4; have hfz22_5 := blk_frozen BK443.out 5))
              go_meet
              case rel => exact ⟨_, H', ⟨by first | omega | exact Nat.le_refl _⟩, ⟨by (with_reducible repeat (first | refine blk_drewN ?_ _ | refine blk_drew ?_ | refine blk_alloc ?_ _)); refine blk_far ?_ NB443_456.out _; (with_reducible repeat (first | refine blk_drewN ?_ _ | refine blk_drew ?_ | refine blk_alloc ?_ _)); refine blk_far ?_ NB443_456.out _; (with_reducible repeat (first | refine blk_drewN ?_ _ | refine blk_drew ?_ | refine blk_alloc ?_ _)); refine blk_far ?_ NB443_456.out _; (with_reducible repeat (first | refine blk_drewN ?_ _ | refine blk_drew ?_ | refine blk_alloc ?_ _)); refine blk_far ?_ NB443_456.out _; (with_reducible repeat (first | refine blk_drewN ?_ _ | refine blk_drew ?_ | refine blk_alloc ?_ _)); refine blk_far ?_ NB443_456.out _; (with_reducible repeat (first | refine blk_drewN ?_ _ | refine blk_drew ?_ | refine blk_alloc ?_ _)); refine blk_far ?_ NB443_456.out _; (with_reducible repeat (first | refine blk_drewN ?_ _ | refine blk_drew ?_ | refine blk_alloc ?_ _)); exact BK443.out⟩, ⟨by repeat (first | (with_reducible first | exact HB.out | apply below_alloc | apply pw_below_drewN | apply below_drew1 | refine below_set ?_ GE443.out | refine below_set ?_ GE456.out) | exact HB.out)⟩⟩
            · rw [if_neg c16] at H
              have c16b0 : ((t445.length : Int) == 41) = false := beq_eq_false_iff_ne.mpr c16
              have c16b1 : ((t445.length : Int) != 41) = true := bne_iff_ne.mpr c16
              exact absurd ((Option.some.inj H).trans HR_.out) (by decide)
        · rw [if_neg c14] at H
          have c14b0 : (t455 == 0) = false := beq_eq_false_iff_ne.mpr c14
          have c14b1 : (t455 != 0) = true := bne_iff_ne.mpr c14
          exact absurd ((Option.some.inj H).trans HR_.out) (by decide)
      · rw [if_neg c12] at H
        have c12b0 : (t448 == 0) = false := beq_eq_false_iff_ne.mpr c12
        have c12b1 : (t448 != 0) = true := bne_iff_ne.mpr c12
        (first | rw [c12b0] | (simp only [i64_w, i32_w]; rw [c12b0]) | skip)
        have H' := Aside0.mk H
        clear H
        go_wp2
        go_meet
        case rel => exact ⟨_, H', ⟨by first | omega | exact Nat.le_refl _⟩, ⟨by (with_reducible repeat (first | refine blk_drewN ?_ _ | refine blk_drew ?_ | refine blk_alloc ?_ _)); exact BK443.out⟩, ⟨by repeat (first | (with_reducible first | exact HB.out | apply below_alloc | apply pw_below_drewN | apply below_drew1 | refine below_set ?_ GE443.out) | exact HB.out)⟩⟩
    case rest =>
      clear HC8
      try clear c1
      try clear c2
      try clear p2
      try clear c3
      try clear c3b0
      try clear c3b1
      try clear c8
      try clear c10
      try clear c12
      try clear c12b0
      try clear c12b1
      try clear c14
      try clear c14b0
      try clear c14b1
      try clear c15
      try clear c15b0
      try clear c16
      try clear c16b0
      try clear c16b1
      try clear c20
      try clear hcz10_0
      try clear hcz10_1
      try clear hcz10_2
      try clear hcz10_3
      try clear hcz10_4
      try clear hcz10_5
      try clear hcz21_0
      try clear hcz21_1
      try clear hcz21_2
      try clear hcz21_3
      try clear hcz21_4
      try clear hcz21_5
      try clear hcz22_0
      try clear hcz22_1
      try clear hcz22_2
      try clear hcz22_3
      try clear hcz22_4
      try clear hcz22_5
      try clear hfz10_0
      try clear hfz10_1
      try clear hfz10_2
      try clear hfz10_3
      try clear hfz10_4
      try clear hfz10_5
      try clear hfz21_0
      try clear hfz21_1
      try clear hfz21_2
      try clear hfz21_3
      try clear hfz21_4
      try clear hfz21_5
      try clear hfz22_0
      try clear hfz22_1
      try clear hfz22_2
      try clear hfz22_3
      try clear hfz22_4
      try clear hfz22_5
      obtain ⟨kq, HA, HJ7, BK443, HB⟩ := hcut
      cases kq with
      | zero => exact absurd HA.out (by simp [rickyardlaw02_AggBack.j0])
      | succ kj7 =>
        have H := HA.out
        clear HA
        simp only [rickyardlaw02_AggBack.j0] at H
        replace H := Option.bind_eq_some_iff.mp H
        obtain ⟨⟨t457, t458, t459, t460, t461, t462, t463⟩, A230, H⟩ := H
        replace H : ((agg_Write.f kj7 t457 t458 t459 t460 t461 t462).bind fun bt465 => ((rickyardlaw02_alive.f kj7).bind fun t469 => (if t469 = true then ((agg_Right.f a0_0 a0_1 a0_2 a0_3 a0_4 a0_5).bind fun t470 => (if ((t448 == 0) == t470) = true then (if t463 = 0 then (if bt465.2 = 0 then (some ((strOfNums bt465.1).toList == (strOfNums l1).toList)) else (some false)) else (some true)) else (some false))) else (some false)))) = some r := H
        have A23 := Aside0.mk A230
        clear A230
        replace H := Option.bind_eq_some_iff.mp H
        obtain ⟨⟨t465, t468⟩, A240, H⟩ := H
        replace H : ((rickyardlaw02_alive.f kj7).bind fun t469 => (if t469 = true then ((agg_Right.f a0_0 a0_1 a0_2 a0_3 a0_4 a0_5).bind fun t470 => (if ((t448 == 0) == t470) = true then (if t463 = 0 then (if t468 = 0 then (some ((strOfNums t465).toList == (strOfNums l1).toList)) else (some false)) else (some true)) else (some false))) else (some false))) = some r := H
        have A24 := Aside0.mk A240
        clear A240
        replace H := Option.bind_eq_some_iff.mp H
        obtain ⟨t469, A250, H⟩ := H
        replace H : (if t469 = true then ((agg_Right.f a0_0 a0_1 a0_2 a0_3 a0_4 a0_5).bind fun t470 => (if ((t448 == 0) == t470) = true then (if t463 = 0 then (if t468 = 0 then (some ((strOfNums t465).toList == (strOfNums l1).toList)) else (some false)) else (some true)) else (some false))) else (some false)) = some r := H
        have A25 := Aside0.mk A250
        clear A250
        by_cases c26 : t469 = true
        · subst c26
          have H1 : ((agg_Right.f a0_0 a0_1 a0_2 a0_3 a0_4 a0_5).bind fun t470 => (if ((t448 == 0) == t470) = true then (if t463 = 0 then (if t468 = 0 then (some ((strOfNums t465).toList == (strOfNums l1).toList)) else (some false)) else (some true)) else (some false))) = some r := by rw [if_pos rfl] at H; exact H
          clear H
          have H := H1
          clear H1
          replace H := Option.bind_eq_some_iff.mp H
          obtain ⟨t470, A270, H⟩ := H
          replace H : (if ((t448 == 0) == t470) = true then (if t463 = 0 then (if t468 = 0 then (some ((strOfNums t465).toList == (strOfNums l1).toList)) else (some false)) else (some true)) else (some false)) = some r := H
          have A27 := Aside0.mk A270
          clear A270
          by_cases c28 : ((t448 == 0) == t470) = true
          · rw [if_pos c28] at H
            have c28b0 : ((t448 == 0) == t470) = true := c28
            (try (have c28b1 : decide ((t448 == 0) = t470) = true := by simpa using c28))
            (try (have c28b2 : ((t448 == 0) == t470) = true := by simpa using c28))
            clear c28
            by_cases c29 : t463 = 0
            · rw [if_pos c29] at H
              have c29b0 : (t463 == 0) = true := beq_iff_eq.mpr c29
              have c29b1 : (t463 != 0) = false := bne_eq_false_iff_eq.mpr c29
              clear c29
              by_cases c30 : t468 = 0
              · rw [if_pos c30] at H
                have c30b0 : (t468 == 0) = true := beq_iff_eq.mpr c30
                have c30b1 : (t468 != 0) = false := bne_eq_false_iff_eq.mpr c30
                clear c30
                obtain rfl := Option.some.inj H
                go_wp2_with (first | ((with_reducible refine gate_callee (f := 16) rfl ?_); refine goesL_ (some 43) rfl rfl Try.func16 (by kernel_rfl) rfl #[.slice A1 l1.length c1] rfl (by (try simp only [List.map_toArray, List.map_cons, List.map_nil]); first | done | rfl | (simp only [List.length_drop, List.length_take]; rfl)) ?_; (with_reducible refine (agg_Read.calls kj7 _ _ l1 t457 t458 t459 t460 t461 t462 t463 _ ?side1 ?side2 A23.out).mono ?_); (case side1 => repeat (first | exact (Kd.C_below HR1.out HB.out) | (with_reducible refine Kd.C_alloc ?_ _) | (with_reducible refine Kd.C_drewN ?_ _) | (with_reducible refine Kd.C_drew ?_))); (case side2 => exact HC1.out); rintro e w31 ⟨rfl, hb⟩; refine ⟨_, rfl, ?_⟩; have n0_ := Aside0.mk (blk_below (g := gb443) (o := .cells #[.int .u64 a0_0, .bool a0_1, .int .i64 a0_2, .int .u64 a0_3, .int .i64 a0_4, .int .i64 a0_5] 26 (0, 0)) (by (with_reducible repeat (first | refine blk_drewN ?_ _ | refine blk_drew ?_ | refine blk_alloc ?_ _)); exact BK443.out) hb); have n1_ := Aside0.mk (below_step (by repeat (first | (with_reducible first | exact HB.out | apply below_alloc | apply pw_below_drewN | apply below_drew1 | refine below_set ?_ GE443.out) | exact HB.out)) hb); clear BK443; clear HB; have BK443 := n0_; have HB := n1_; clear n0_ n1_; (try clear hb); (try clear hb2); (try clear hk); (try clear hi)) | ((with_reducible refine gate_dst (N := 9) rfl ?_); (try (refine gate_guard (by rfl) ?_; dsimp only)); refine box_event ?hg (N := 9) ?hd (cs := #[.int .u64 0, .bool false, .int .i64 0, .int .u64 0, .int .i64 0, .int .i64 0]) (t := 26) ?hr ?_; (case hd => rfl); (case hg => rfl); (case hr => first | (go_simp; done) | (go_simp; rfl)); intro gb464 hg w32 hbox hb; have n0_ := Aside0.mk (blk_below (g := gb443) (o := .cells #[.int .u64 a0_0, .bool a0_1, .int .i64 a0_2, .int .u64 a0_3, .int .i64 a0_4, .int .i64 a0_5] 26 (0, 0)) (by (with_reducible repeat (first | refine blk_drewN ?_ _ | refine blk_drew ?_ | refine blk_alloc ?_ _)); exact BK443.out) hb); have n1_ := Aside0.mk (below_step (by repeat (first | (with_reducible first | exact HB.out | apply below_alloc | apply pw_below_drewN | apply below_drew1 | refine below_set ?_ GE443.out) | exact HB.out)) hb); have n2_ := Aside0.mk (hbox); have n3_ := Aside0.mk ((by rw [hg]; exact (below_size (by repeat (first | (with_reducible first | exact HB.out | apply below_alloc | apply pw_below_drewN | apply below_drew1 | refine below_set ?_ GE443.out) | exact HB.out))) : w.heap.size ≤ gb464)); have n4_ := Aside0.mk ((by rw [hg]; exact (below_size (by repeat (first | (with_reducible first | exact HB.out | apply below_alloc | apply pw_below_drewN | apply below_drew1 | refine below_set ?_ GE443.out) | exact HB.out))) : w.heap.size ≤ gb464)); have n5_ := Aside0.mk ((by rw [hg]; exact Nat.ne_of_lt (blk_lt (g := gb443) (o := .cells #[.int .u64 a0_0, .bool a0_1, .int .i64 a0_2, .int .u64 a0_3, .int .i64 a0_4, .int .i64 a0_5] 26 (0, 0)) (by (with_reducible repeat (first | refine blk_drewN ?_ _ | refine blk_drew ?_ | refine blk_alloc ?_ _)); exact BK443.out)) : gb443 ≠ gb464)); have n6_ := Aside0.mk ((by rw [hg]; exact Nat.ne_of_gt (blk_lt (g := gb443) (o := .cells #[.int .u64 a0_0, .bool a0_1, .int .i64 a0_2, .int .u64 a0_3, .int .i64 a0_4, .int .i64 a0_5] 26 (0, 0)) (by (with_reducible repeat (first | refine blk_drewN ?_ _ | refine blk_drew ?_ | refine blk_alloc ?_ _)); exact BK443.out)) : gb464 ≠ gb443)); clear BK443; clear HB; have BK443 := n0_; have HB := n1_; have BK464 := n2_; have GW464 := n3_; have GE464 := n4_; have NB443_464 := n5_; have NB464_443 := n6_; clear n0_ n1_ n2_ n3_ n4_ n5_ n6_; clear hb hbox hg; have hnb33 := NB464_443.out; have hnc33 := NB443_464.out; have hcz34_0 : w32.cell? ⟨gb464, 0, none⟩ = some (.int .u64 0) := (blk_cell BK464.out 0).trans rfl; have hcz34_1 : w32.cell? ⟨gb464, 1, none⟩ = some (.bool false) := (blk_cell BK464.out 1).trans rfl; have hcz34_2 : w32.cell? ⟨gb464, 2, none⟩ = some (.int .i64 0) := (blk_cell BK464.out 2).trans rfl; have hcz34_3 : w32.cell? ⟨gb464, 3, none⟩ = some (.int .u64 0) := (blk_cell BK464.out 3).trans rfl; have hcz34_4 : w32.cell? ⟨gb464, 4, none⟩ = some (.int .i64 0) := (blk_cell BK464.out 4).trans rfl; have hcz34_5 : w32.cell? ⟨gb464, 5, none⟩ = some (.int .i64 0) := (blk_cell BK464.out 5).trans rfl; have hfz34_0 := blk_frozen BK464.out 0; have hfz34_1 := blk_frozen BK464.out 1; have hfz34_2 := blk_frozen BK464.out 2; have hfz34_3 := blk_frozen BK464.out 3; have hfz34_4 := blk_frozen BK464.out 4; have hfz34_5 := blk_frozen BK464.out 5) | ((with_reducible refine gate_callee (f := 14) rfl ?_); refine goesL_ (some 48) rfl rfl Try.func14 (by kernel_rfl) rfl #[.agg #[.int .u64 t457, .bool t458, .int .i64 t459, .int .u64 t460, .int .i64 t461, .int .i64 t462]] rfl (by (try simp only [List.map_toArray, List.map_cons, List.map_nil]); first | done | rfl | (simp only [List.length_drop, List.length_take]; rfl)) ?_; (with_reducible refine (agg_Write.calls kj7 t457 t458 t459 t460 t461 t462 t465 t468 _ A24.out).mono ?_); rintro e w35 ⟨v466, rfl, ho0, hb⟩; refine ⟨_, rfl, ?_⟩; have n0_ := Aside0.mk (Kd.R_lower ho0 (below_size (by repeat (first | (with_reducible first | exact HB.out | apply below_alloc | apply pw_below_drewN | apply below_drew1 | refine below_set ?_ GE443.out | refine below_set ?_ GE464.out) | exact HB.out)))); have n1_ := Aside0.mk (blk_below (g := gb443) (o := .cells #[.int .u64 a0_0, .bool a0_1, .int .i64 a0_2, .int .u64 a0_3, .int .i64 a0_4, .int .i64 a0_5] 26 (0, 0)) (by (with_reducible repeat (first | refine blk_drewN ?_ _ | refine blk_drew ?_ | refine blk_alloc ?_ _)); refine blk_far ?_ NB443_464.out _; (with_reducible repeat (first | refine blk_drewN ?_ _ | refine blk_drew ?_ | refine blk_alloc ?_ _)); refine blk_far ?_ NB443_464.out _; (with_reducible repeat (first | refine blk_drewN ?_ _ | refine blk_drew ?_ | refine blk_alloc ?_ _)); refine blk_far ?_ NB443_464.out _; (with_reducible repeat (first | refine blk_drewN ?_ _ | refine blk_drew ?_ | refine blk_alloc ?_ _)); refine blk_far ?_ NB443_464.out _; (with_reducible repeat (first | refine blk_drewN ?_ _ | refine blk_drew ?_ | refine blk_alloc ?_ _)); refine blk_far ?_ NB443_464.out _; (with_reducible repeat (first | refine blk_drewN ?_ _ | refine blk_drew ?_ | refine blk_alloc ?_ _)); refine blk_far ?_ NB443_464.out _; (with_reducible repeat (first | refine blk_drewN ?_ _ | refine blk_drew ?_ | refine blk_alloc ?_ _)); exact BK443.out) hb); have n2_ := Aside0.mk (blk_below (g := gb464) (o := .cells #[.int .u64 t457, .bool t458, .int .i64 t459, .int .u64 t460, .int .i64 t461, .int .i64 t462] 26 (0, 0)) (by (with_reducible repeat (first | refine blk_drewN ?_ _ | refine blk_drew ?_ | refine blk_alloc ?_ _)); refine blk_put (cs := #[.int .u64 t457, .bool t458, .int .i64 t459, .int .u64 t460, .int .i64 t461, .int .i64 0]) ?_ 5 _ rfl; (with_reducible repeat (first | refine blk_drewN ?_ _ | refine blk_drew ?_ | refine blk_alloc ?_ _)); refine blk_put (cs := #[.int .u64 t457, .bool t458, .int .i64 t459, .int .u64 t460, .int .i64 0, .int .i64 0]) ?_ 4 _ rfl; (with_reducible repeat (first | refine blk_drewN ?_ _ | refine blk_drew ?_ | refine blk_alloc ?_ _)); refine blk_put (cs := #[.int .u64 t457, .bool t458, .int .i64 t459, .int .u64 0, .int .i64 0, .int .i64 0]) ?_ 3 _ rfl; (with_reducible repeat (first | refine blk_drewN ?_ _ | refine blk_drew ?_ | refine blk_alloc ?_ _)); refine blk_put (cs := #[.int .u64 t457, .bool t458, .int .i64 0, .int .u64 0, .int .i64 0, .int .i64 0]) ?_ 2 _ rfl; (with_reducible repeat (first | refine blk_drewN ?_ _ | refine blk_drew ?_ | refine blk_alloc ?_ _)); refine blk_put (cs := #[.int .u64 t457, .bool false, .int .i64 0, .int .u64 0, .int .i64 0, .int .i64 0]) ?_ 1 _ rfl; (with_reducible repeat (first | refine blk_drewN ?_ _ | refine blk_drew ?_ | refine blk_alloc ?_ _)); refine blk_put (cs := #[.int .u64 0, .bool false, .int .i64 0, .int .u64 0, .int .i64 0, .int .i64 0]) ?_ 0 _ rfl; (with_reducible repeat (first | refine blk_drewN ?_ _ | refine blk_drew ?_ | refine blk_alloc ?_ _)); exact BK464.out) hb); have n3_ := Aside0.mk (below_step (by repeat (first | (with_reducible first | exact HB.out | apply below_alloc | apply pw_below_drewN | apply below_drew1 | refine below_set ?_ GE443.out | refine below_set ?_ GE464.out) | exact HB.out)) hb); clear BK443; clear BK464; clear HB; have HO467 := n0_; have BK443 := n1_; have BK464 := n2_; have HB := n3_; clear n0_ n1_ n2_ n3_; (try clear hb); (try clear hb2); (try clear hk); (try clear hi); (try clear ho0)) | ((with_reducible refine gate_callee (f := 10) rfl ?_); refine goesL_ (some 51) rfl rfl Try.func10 (by kernel_rfl) rfl #[] rfl (by (try simp only [List.map_toArray, List.map_cons, List.map_nil]); first | done | rfl | (simp only [List.length_drop, List.length_take]; rfl)) ?_; (with_reducible refine (rickyardlaw02_alive.calls kj7  true _ A25.out).mono ?_); rintro e w36 ⟨rfl, hb⟩; refine ⟨_, rfl, ?_⟩; have n0_ := Aside0.mk (Kd.R_below (by (with_reducible repeat (first | apply Kd.R_alloc | apply Kd.R_drewN | apply Kd.R_drew)); exact HO467.out) hb); have n1_ := Aside0.mk (blk_below (g := gb443) (o := .cells #[.int .u64 a0_0, .bool a0_1, .int .i64 a0_2, .int .u64 a0_3, .int .i64 a0_4, .int .i64 a0_5] 26 (0, 0)) (by (with_reducible repeat (first | refine blk_drewN ?_ _ | refine blk_drew ?_ | refine blk_alloc ?_ _)); exact BK443.out) hb); have n2_ := Aside0.mk (blk_below (g := gb464) (o := .cells #[.int .u64 t457, .bool t458, .int .i64 t459, .int .u64 t460, .int .i64 t461, .int .i64 t462] 26 (0, 0)) (by (with_reducible repeat (first | refine blk_drewN ?_ _ | refine blk_drew ?_ | refine blk_alloc ?_ _)); exact BK464.out) hb); have n3_ := Aside0.mk (below_step (by repeat (first | (with_reducible first | exact HB.out | apply below_alloc | apply pw_below_drewN | apply below_drew1 | refine below_set ?_ GE443.out | refine below_set ?_ GE464.out) | exact HB.out)) hb); clear HO467; clear BK443; clear BK464; clear HB; have HO467 := n0_; have BK443 := n1_; have BK464 := n2_; have HB := n3_; clear n0_ n1_ n2_ n3_; (try clear hb); (try clear hb2); (try clear hk); (try clear hi); have hcz37_0 : w36.cell? ⟨gb443, 0, none⟩ = some (.int .u64 a0_0) := (blk_cell BK443.out 0).trans rfl; have hcz37_1 : w36.cell? ⟨gb443, 1, none⟩ = some (.bool a0_1) := (blk_cell BK443.out 1).trans rfl; have hcz37_2 : w36.cell? ⟨gb443, 2, none⟩ = some (.int .i64 a0_2) := (blk_cell BK443.out 2).trans rfl; have hcz37_3 : w36.cell? ⟨gb443, 3, none⟩ = some (.int .u64 a0_3) := (blk_cell BK443.out 3).trans rfl; have hcz37_4 : w36.cell? ⟨gb443, 4, none⟩ = some (.int .i64 a0_4) := (blk_cell BK443.out 4).trans rfl; have hcz37_5 : w36.cell? ⟨gb443, 5, none⟩ = some (.int .i64 a0_5) := (blk_cell BK443.out 5).trans rfl; have hfz37_0 := blk_frozen BK443.out 0; have hfz37_1 := blk_frozen BK443.out 1; have hfz37_2 := blk_frozen BK443.out 2; have hfz37_3 := blk_frozen BK443.out 3; have hfz37_4 := blk_frozen BK443.out 4; have hfz37_5 := blk_frozen BK443.out 5) | (go_at_call 9; (with_reducible refine (agg_Right.calls a0_0 a0_1 a0_2 a0_3 a0_4 a0_5 t470 _ A27.out).mono ?_); rintro e w38 ⟨rfl, hb⟩; have n0_ := Aside0.mk (Kd.R_below (by (with_reducible repeat (first | apply Kd.R_alloc | apply Kd.R_drewN | apply Kd.R_drew)); exact HO467.out) hb); have n1_ := Aside0.mk (blk_below (g := gb443) (o := .cells #[.int .u64 a0_0, .bool a0_1, .int .i64 a0_2, .int .u64 a0_3, .int .i64 a0_4, .int .i64 a0_5] 26 (0, 0)) (by (with_reducible repeat (first | refine blk_drewN ?_ _ | refine blk_drew ?_ | refine blk_alloc ?_ _)); exact BK443.out) hb); have n2_ := Aside0.mk (blk_below (g := gb464) (o := .cells #[.int .u64 t457, .bool t458, .int .i64 t459, .int .u64 t460, .int .i64 t461, .int .i64 t462] 26 (0, 0)) (by (with_reducible repeat (first | refine blk_drewN ?_ _ | refine blk_drew ?_ | refine blk_alloc ?_ _)); exact BK464.out) hb); have n3_ := Aside0.mk (below_step (by repeat (first | (with_reducible first | exact HB.out | apply below_alloc | apply pw_below_drewN | apply below_drew1 | refine below_set ?_ GE443.out | refine below_set ?_ GE464.out) | exact HB.out)) hb); clear HO467; clear BK443; clear BK464; clear HB; have HO467 := n0_; have BK443 := n1_; have BK464 := n2_; have HB := n3_; clear n0_ n1_ n2_ n3_; (try clear hb); (try clear hb2); (try clear hk); (try clear hi); have hcv39 := own_string (P := Try.prog) Try.underlying36 Try.underlying5 Try.underlying9 (Kd.own_of_R HO467.out); have hcv40 := Kd.C_string (P := Try.prog) (A := A1) (c := c1) Try.underlying36 Try.underlying5 Try.underlying9 (Kd.C_below HR1.out HB.out); have hcv40n := fun n_ : Nat => Kd.C_string (P := Try.prog) (A := A1) (c := c1) Try.underlying36 Try.underlying5 Try.underlying9 (Kd.C_drewN (Kd.C_below HR1.out HB.out) n_); (try simp only [World.drewN_drewN] at hcv40n)))
                go_ret
                exact ⟨by first | rfl | (simp [errW_none, errW_some] <;> rfl) | (simp [*, errW_none, errW_some] <;> rfl), by repeat (first | (with_reducible first | exact HB.out | apply below_alloc | apply pw_below_drewN | apply below_drew1 | refine below_set ?_ GE443.out | refine below_set ?_ GE464.out) | exact HB.out)⟩
              · rw [if_neg c30] at H
                have c30b0 : (t468 == 0) = false := beq_eq_false_iff_ne.mpr c30
                have c30b1 : (t468 != 0) = true := bne_iff_ne.mpr c30
                exact absurd ((Option.some.inj H).trans HR_.out) (by decide)
            · rw [if_neg c29] at H
              have c29b0 : (t463 == 0) = false := beq_eq_false_iff_ne.mpr c29
              have c29b1 : (t463 != 0) = true := bne_iff_ne.mpr c29
              obtain rfl := Option.some.inj H
              go_wp2_with (first | ((with_reducible refine gate_callee (f := 16) rfl ?_); refine goesL_ (some 43) rfl rfl Try.func16 (by kernel_rfl) rfl #[.slice A1 l1.length c1] rfl (by (try simp only [List.map_toArray, List.map_cons, List.map_nil]); first | done | rfl | (simp only [List.length_drop, List.length_take]; rfl)) ?_; (with_reducible refine (agg_Read.calls kj7 _ _ l1 t457 t458 t459 t460 t461 t462 t463 _ ?side1 ?side2 A23.out).mono ?_); (case side1 => repeat (first | exact (Kd.C_below HR1.out HB.out) | (with_reducible refine Kd.C_alloc ?_ _) | (with_reducible refine Kd.C_drewN ?_ _) | (with_reducible refine Kd.C_drew ?_))); (case side2 => exact HC1.out); rintro e w41 ⟨rfl, hb⟩; refine ⟨_, rfl, ?_⟩; have n0_ := Aside0.mk (blk_below (g := gb443) (o := .cells #[.int .u64 a0_0, .bool a0_1, .int .i64 a0_2, .int .u64 a0_3, .int .i64 a0_4, .int .i64 a0_5] 26 (0, 0)) (by (with_reducible repeat (first | refine blk_drewN ?_ _ | refine blk_drew ?_ | refine blk_alloc ?_ _)); exact BK443.out) hb); have n1_ := Aside0.mk (below_step (by repeat (first | (with_reducible first | exact HB.out | apply below_alloc | apply pw_below_drewN | apply below_drew1 | refine below_set ?_ GE443.out) | exact HB.out)) hb); clear BK443; clear HB; have BK443 := n0_; have HB := n1_; clear n0_ n1_; (try clear hb); (try clear hb2); (try clear hk); (try clear hi)) | ((with_reducible refine gate_dst (N := 9) rfl ?_); (try (refine gate_guard (by rfl) ?_; dsimp only)); refine box_event ?hg (N := 9) ?hd (cs := #[.int .u64 0, .bool false, .int .i64 0, .int .u64 0, .int .i64 0, .int .i64 0]) (t := 26) ?hr ?_; (case hd => rfl); (case hg => rfl); (case hr => first | (go_simp; done) | (go_simp; rfl)); intro gb464 hg w42 hbox hb; have n0_ := Aside0.mk (blk_below (g := gb443) (o := .cells #[.int .u64 a0_0, .bool a0_1, .int .i64 a0_2, .int .u64 a0_3, .int .i64 a0_4, .int .i64 a0_5] 26 (0, 0)) (by (with_reducible repeat (first | refine blk_drewN ?_ _ | refine blk_drew ?_ | refine blk_alloc ?_ _)); exact BK443.out) hb); have n1_ := Aside0.mk (below_step (by repeat (first | (with_reducible first | exact HB.out | apply below_alloc | apply pw_below_drewN | apply below_drew1 | refine below_set ?_ GE443.out) | exact HB.out)) hb); have n2_ := Aside0.mk (hbox); have n3_ := Aside0.mk ((by rw [hg]; exact (below_size (by repeat (first | (with_reducible first | exact HB.out | apply below_alloc | apply pw_below_drewN | apply below_drew1 | refine below_set ?_ GE443.out) | exact HB.out))) : w.heap.size ≤ gb464)); have n4_ := Aside0.mk ((by rw [hg]; exact (below_size (by repeat (first | (with_reducible first | exact HB.out | apply below_alloc | apply pw_below_drewN | apply below_drew1 | refine below_set ?_ GE443.out) | exact HB.out))) : w.heap.size ≤ gb464)); have n5_ := Aside0.mk ((by rw [hg]; exact Nat.ne_of_lt (blk_lt (g := gb443) (o := .cells #[.int .u64 a0_0, .bool a0_1, .int .i64 a0_2, .int .u64 a0_3, .int .i64 a0_4, .int .i64 a0_5] 26 (0, 0)) (by (with_reducible repeat (first | refine blk_drewN ?_ _ | refine blk_drew ?_ | refine blk_alloc ?_ _)); exact BK443.out)) : gb443 ≠ gb464)); have n6_ := Aside0.mk ((by rw [hg]; exact Nat.ne_of_gt (blk_lt (g := gb443) (o := .cells #[.int .u64 a0_0, .bool a0_1, .int .i64 a0_2, .int .u64 a0_3, .int .i64 a0_4, .int .i64 a0_5] 26 (0, 0)) (by (with_reducible repeat (first | refine blk_drewN ?_ _ | refine blk_drew ?_ | refine blk_alloc ?_ _)); exact BK443.out)) : gb464 ≠ gb443)); clear BK443; clear HB; have BK443 := n0_; have HB := n1_; have BK464 := n2_; have GW464 := n3_; have GE464 := n4_; have NB443_464 := n5_; have NB464_443 := n6_; clear n0_ n1_ n2_ n3_ n4_ n5_ n6_; clear hb hbox hg; have hnb43 := NB464_443.out; have hnc43 := NB443_464.out; have hcz44_0 : w42.cell? ⟨gb464, 0, none⟩ = some (.int .u64 0) := (blk_cell BK464.out 0).trans rfl; have hcz44_1 : w42.cell? ⟨gb464, 1, none⟩ = some (.bool false) := (blk_cell BK464.out 1).trans rfl; have hcz44_2 : w42.cell? ⟨gb464, 2, none⟩ = some (.int .i64 0) := (blk_cell BK464.out 2).trans rfl; have hcz44_3 : w42.cell? ⟨gb464, 3, none⟩ = some (.int .u64 0) := (blk_cell BK464.out 3).trans rfl; have hcz44_4 : w42.cell? ⟨gb464, 4, none⟩ = some (.int .i64 0) := (blk_cell BK464.out 4).trans rfl; have hcz44_5 : w42.cell? ⟨gb464, 5, none⟩ = some (.int .i64 0) := (blk_cell BK464.out 5).trans rfl; have hfz44_0 := blk_frozen BK464.out 0; have hfz44_1 := blk_frozen BK464.out 1; have hfz44_2 := blk_frozen BK464.out 2; have hfz44_3 := blk_frozen BK464.out 3; have hfz44_4 := blk_frozen BK464.out 4; have hfz44_5 := blk_frozen BK464.out 5) | ((with_reducible refine gate_callee (f := 14) rfl ?_); refine goesL_ (some 48) rfl rfl Try.func14 (by kernel_rfl) rfl #[.agg #[.int .u64 t457, .bool t458, .int .i64 t459, .int .u64 t460, .int .i64 t461, .int .i64 t462]] rfl (by (try simp only [List.map_toArray, List.map_cons, List.map_nil]); first | done | rfl | (simp only [List.length_drop, List.length_take]; rfl)) ?_; (with_reducible refine (agg_Write.calls kj7 t457 t458 t459 t460 t461 t462 t465 t468 _ A24.out).mono ?_); rintro e w45 ⟨v466, rfl, ho0, hb⟩; refine ⟨_, rfl, ?_⟩; have n0_ := Aside0.mk (Kd.R_lower ho0 (below_size (by repeat (first | (with_reducible first | exact HB.out | apply below_alloc | apply pw_below_drewN | apply below_drew1 | refine below_set ?_ GE443.out | refine below_set ?_ GE464.out) | exact HB.out)))); have n1_ := Aside0.mk (blk_below (g := gb443) (o := .cells #[.int .u64 a0_0, .bool a0_1, .int .i64 a0_2, .int .u64 a0_3, .int .i64 a0_4, .int .i64 a0_5] 26 (0, 0)) (by (with_reducible repeat (first | refine blk_drewN ?_ _ | refine blk_drew ?_ | refine blk_alloc ?_ _)); refine blk_far ?_ NB443_464.out _; (with_reducible repeat (first | refine blk_drewN ?_ _ | refine blk_drew ?_ | refine blk_alloc ?_ _)); refine blk_far ?_ NB443_464.out _; (with_reducible repeat (first | refine blk_drewN ?_ _ | refine blk_drew ?_ | refine blk_alloc ?_ _)); refine blk_far ?_ NB443_464.out _; (with_reducible repeat (first | refine blk_drewN ?_ _ | refine blk_drew ?_ | refine blk_alloc ?_ _)); refine blk_far ?_ NB443_464.out _; (with_reducible repeat (first | refine blk_drewN ?_ _ | refine blk_drew ?_ | refine blk_alloc ?_ _)); refine blk_far ?_ NB443_464.out _; (with_reducible repeat (first | refine blk_drewN ?_ _ | refine blk_drew ?_ | refine blk_alloc ?_ _)); refine blk_far ?_ NB443_464.out _; (with_reducible repeat (first | refine blk_drewN ?_ _ | refine blk_drew ?_ | refine blk_alloc ?_ _)); exact BK443.out) hb); have n2_ := Aside0.mk (blk_below (g := gb464) (o := .cells #[.int .u64 t457, .bool t458, .int .i64 t459, .int .u64 t460, .int .i64 t461, .int .i64 t462] 26 (0, 0)) (by (with_reducible repeat (first | refine blk_drewN ?_ _ | refine blk_drew ?_ | refine blk_alloc ?_ _)); refine blk_put (cs := #[.int .u64 t457, .bool t458, .int .i64 t459, .int .u64 t460, .int .i64 t461, .int .i64 0]) ?_ 5 _ rfl; (with_reducible repeat (first | refine blk_drewN ?_ _ | refine blk_drew ?_ | refine blk_alloc ?_ _)); refine blk_put (cs := #[.int .u64 t457, .bool t458, .int .i64 t459, .int .u64 t460, .int .i64 0, .int .i64 0]) ?_ 4 _ rfl; (with_reducible repeat (first | refine blk_drewN ?_ _ | refine blk_drew ?_ | refine blk_alloc ?_ _)); refine blk_put (cs := #[.int .u64 t457, .bool t458, .int .i64 t459, .int .u64 0, .int .i64 0, .int .i64 0]) ?_ 3 _ rfl; (with_reducible repeat (first | refine blk_drewN ?_ _ | refine blk_drew ?_ | refine blk_alloc ?_ _)); refine blk_put (cs := #[.int .u64 t457, .bool t458, .int .i64 0, .int .u64 0, .int .i64 0, .int .i64 0]) ?_ 2 _ rfl; (with_reducible repeat (first | refine blk_drewN ?_ _ | refine blk_drew ?_ | refine blk_alloc ?_ _)); refine blk_put (cs := #[.int .u64 t457, .bool false, .int .i64 0, .int .u64 0, .int .i64 0, .int .i64 0]) ?_ 1 _ rfl; (with_reducible repeat (first | refine blk_drewN ?_ _ | refine blk_drew ?_ | refine blk_alloc ?_ _)); refine blk_put (cs := #[.int .u64 0, .bool false, .int .i64 0, .int .u64 0, .int .i64 0, .int .i64 0]) ?_ 0 _ rfl; (with_reducible repeat (first | refine blk_drewN ?_ _ | refine blk_drew ?_ | refine blk_alloc ?_ _)); exact BK464.out) hb); have n3_ := Aside0.mk (below_step (by repeat (first | (with_reducible first | exact HB.out | apply below_alloc | apply pw_below_drewN | apply below_drew1 | refine below_set ?_ GE443.out | refine below_set ?_ GE464.out) | exact HB.out)) hb); clear BK443; clear BK464; clear HB; have HO467 := n0_; have BK443 := n1_; have BK464 := n2_; have HB := n3_; clear n0_ n1_ n2_ n3_; (try clear hb); (try clear hb2); (try clear hk); (try clear hi); (try clear ho0)) | ((with_reducible refine gate_callee (f := 10) rfl ?_); refine goesL_ (some 51) rfl rfl Try.func10 (by kernel_rfl) rfl #[] rfl (by (try simp only [List.map_toArray, List.map_cons, List.map_nil]); first | done | rfl | (simp only [List.length_drop, List.length_take]; rfl)) ?_; (with_reducible refine (rickyardlaw02_alive.calls kj7  true _ A25.out).mono ?_); rintro e w46 ⟨rfl, hb⟩; refine ⟨_, rfl, ?_⟩; have n0_ := Aside0.mk (Kd.R_below (by (with_reducible repeat (first | apply Kd.R_alloc | apply Kd.R_drewN | apply Kd.R_drew)); exact HO467.out) hb); have n1_ := Aside0.mk (blk_below (g := gb443) (o := .cells #[.int .u64 a0_0, .bool a0_1, .int .i64 a0_2, .int .u64 a0_3, .int .i64 a0_4, .int .i64 a0_5] 26 (0, 0)) (by (with_reducible repeat (first | refine blk_drewN ?_ _ | refine blk_drew ?_ | refine blk_alloc ?_ _)); exact BK443.out) hb); have n2_ := Aside0.mk (blk_below (g := gb464) (o := .cells #[.int .u64 t457, .bool t458, .int .i64 t459, .int .u64 t460, .int .i64 t461, .int .i64 t462] 26 (0, 0)) (by (with_reducible repeat (first | refine blk_drewN ?_ _ | refine blk_drew ?_ | refine blk_alloc ?_ _)); exact BK464.out) hb); have n3_ := Aside0.mk (below_step (by repeat (first | (with_reducible first | exact HB.out | apply below_alloc | apply pw_below_drewN | apply below_drew1 | refine below_set ?_ GE443.out | refine below_set ?_ GE464.out) | exact HB.out)) hb); clear HO467; clear BK443; clear BK464; clear HB; have HO467 := n0_; have BK443 := n1_; have BK464 := n2_; have HB := n3_; clear n0_ n1_ n2_ n3_; (try clear hb); (try clear hb2); (try clear hk); (try clear hi); have hcz47_0 : w46.cell? ⟨gb443, 0, none⟩ = some (.int .u64 a0_0) := (blk_cell BK443.out 0).trans rfl; have hcz47_1 : w46.cell? ⟨gb443, 1, none⟩ = some (.bool a0_1) := (blk_cell BK443.out 1).trans rfl; have hcz47_2 : w46.cell? ⟨gb443, 2, none⟩ = some (.int .i64 a0_2) := (blk_cell BK443.out 2).trans rfl; have hcz47_3 : w46.cell? ⟨gb443, 3, none⟩ = some (.int .u64 a0_3) := (blk_cell BK443.out 3).trans rfl; have hcz47_4 : w46.cell? ⟨gb443, 4, none⟩ = some (.int .i64 a0_4) := (blk_cell BK443.out 4).trans rfl; have hcz47_5 : w46.cell? ⟨gb443, 5, none⟩ = some (.int .i64 a0_5) := (blk_cell BK443.out 5).trans rfl; have hfz47_0 := blk_frozen BK443.out 0; have hfz47_1 := blk_frozen BK443.out 1; have hfz47_2 := blk_frozen BK443.out 2; have hfz47_3 := blk_frozen BK443.out 3; have hfz47_4 := blk_frozen BK443.out 4; have hfz47_5 := blk_frozen BK443.out 5) | (go_at_call 9; (with_reducible refine (agg_Right.calls a0_0 a0_1 a0_2 a0_3 a0_4 a0_5 t470 _ A27.out).mono ?_); rintro e w48 ⟨rfl, hb⟩; have n0_ := Aside0.mk (Kd.R_below (by (with_reducible repeat (first | apply Kd.R_alloc | apply Kd.R_drewN | apply Kd.R_drew)); exact HO467.out) hb); have n1_ := Aside0.mk (blk_below (g := gb443) (o := .cells #[.int .u64 a0_0, .bool a0_1, .int .i64 a0_2, .int .u64 a0_3, .int .i64 a0_4, .int .i64 a0_5] 26 (0, 0)) (by (with_reducible repeat (first | refine blk_drewN ?_ _ | refine blk_drew ?_ | refine blk_alloc ?_ _)); exact BK443.out) hb); have n2_ := Aside0.mk (blk_below (g := gb464) (o := .cells #[.int .u64 t457, .bool t458, .int .i64 t459, .int .u64 t460, .int .i64 t461, .int .i64 t462] 26 (0, 0)) (by (with_reducible repeat (first | refine blk_drewN ?_ _ | refine blk_drew ?_ | refine blk_alloc ?_ _)); exact BK464.out) hb); have n3_ := Aside0.mk (below_step (by repeat (first | (with_reducible first | exact HB.out | apply below_alloc | apply pw_below_drewN | apply below_drew1 | refine below_set ?_ GE443.out | refine below_set ?_ GE464.out) | exact HB.out)) hb); clear HO467; clear BK443; clear BK464; clear HB; have HO467 := n0_; have BK443 := n1_; have BK464 := n2_; have HB := n3_; clear n0_ n1_ n2_ n3_; (try clear hb); (try clear hb2); (try clear hk); (try clear hi)))
              go_ret
              exact ⟨by first | rfl | (simp [errW_none, errW_some] <;> rfl) | (simp [*, errW_none, errW_some] <;> rfl), by repeat (first | (with_reducible first | exact HB.out | apply below_alloc | apply pw_below_drewN | apply below_drew1 | refine below_set ?_ GE443.out | refine below_set ?_ GE464.out) | exact HB.out)⟩
          · rw [if_neg c28] at H
            have c28b0 : ((t448 == 0) == t470) = false := by simpa using c28
            (try (have c28b1 : decide ((t448 == 0) = t470) = false := by simpa using c28))
            (try (have c28b2 : ((t448 == 0) == t470) = false := by simpa using c28))
            (try (have c28b3 : ¬ ((t448 == 0) = t470) := by simpa using c28))
            clear c28
            exact absurd ((Option.some.inj H).trans HR_.out) (by decide)
        · replace c26 := Bool.eq_false_iff.mpr c26
          subst c26
          have H1 : (some false) = some r := by rw [if_neg (show ¬ (false = true) by decide)] at H; exact H
          clear H
          have H := H1
          clear H1
          exact absurd ((Option.some.inj H).trans HR_.out) (by decide)

end Go.Proofs.Ytflmjiadahknkaa.P
