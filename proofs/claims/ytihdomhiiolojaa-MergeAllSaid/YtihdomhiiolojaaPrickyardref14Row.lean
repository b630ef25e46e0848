-- Written by a program of this session out of the translation.
import Derived.Test.YtihdomhiiolojaaStrGe
import Derived.Test.YtihdomhiiolojaaPx0
import Derived.Test.YtihdomhiiolojaaPrickyardref02Right
namespace Go.Proofs.Ytihdomhiiolojaa.P
open Go.RowKit Go.Proofs.YtihdomhiiolojaaW.PrintWords Go.Proofs.YtihdomhiiolojaaW.PrintLast Go.Proofs.YtihdomhiiolojaaW.PrintMore
attribute [local go_sem] max2_int min2_int max_two min_two max_three min_three max_four min_four   -- for this text's walks alone
set_option linter.unusedVariables false
set_option linter.unusedSimpArgs false

/-! ### rickyardref14_Row: function 22 -/
mutual
def rickyardref14_Row.l0 : Nat → List (S41) → Int → Option (Int)
  | 0, _, _ => none
  | k + 1, x0, x3 => if x3 < (x0.length : Int) then (if 0 ≤ (wrap64 (x3 - 1)) then (if (wrap64 (x3 - 1)) < (x0.length : Int) then (if 0 ≤ x3 then (if ((Op.bytesLess ((strOfNums ((rd_T41 x0 (wrap64 (x3 - 1))).f0)).toList) ((strOfNums ((rd_T41 x0 x3).f0)).toList)) = true) then (rickyardref14_Row.l0 k x0 (wrap64 (x3 + 1))) else (some 50)) else (none)) else (none)) else (none)) else (rickyardref14_Row.l1 k x0 0)
def rickyardref14_Row.l1 : Nat → List (S41) → Int → Option (Int)
  | 0, _, _ => none
  | k + 1, x0, x4 => if x4 < (x0.length : Int) then (if 0 ≤ x4 then ((rickyardref02_Right.f ((rd_T41 x0 x4).f1.f0) ((rd_T41 x0 x4).f1.f1) ((rd_T41 x0 x4).f1.f2.f0) ((rd_T41 x0 x4).f1.f2.f1) ((rd_T41 x0 x4).f1.f3) ((rd_T41 x0 x4).f1.f4)).bind fun t125 => (if t125 = true then (rickyardref14_Row.l1 k x0 (wrap64 (x4 + 1))) else (some 3))) else (none)) else (some 0)
end
def rickyardref14_Row.f (k : Nat) (l0 : List (S41)) : Option (Int) := rickyardref14_Row.l0 k l0 1
theorem rickyardref14_Row.mono_l : ∀ k, (∀ y0 y1, LeO (rickyardref14_Row.l0 k y0 y1) (rickyardref14_Row.l0 (k + 1) y0 y1)) ∧ (∀ y0 y1, LeO (rickyardref14_Row.l1 k y0 y1) (rickyardref14_Row.l1 (k + 1) y0 y1))
  | 0 => ⟨fun _ _ r h => by simp [rickyardref14_Row.l0] at h, fun _ _ r h => by simp [rickyardref14_Row.l1] at h⟩
  | k + 1 => by
    obtain ⟨ih0, ih1⟩ := rickyardref14_Row.mono_l k
    refine ⟨?_, ?_⟩
    · intro y0 y1
      unfold rickyardref14_Row.l0
      repeat' first
      | (with_reducible exact ih0 _ _)
      | (with_reducible exact ih1 _ _)
      | (with_reducible exact LeO.refl _)
      | (with_reducible exact LeO.none _)
      | (with_reducible refine LeO.ite ?_ ?_)
      | (with_reducible refine LeO.bind ?_ (fun _ => ?_))
      | exact ih0 _ _
      | exact ih1 _ _
      | exact LeO.none _
      | refine LeO.ite ?_ ?_
      | refine LeO.bind ?_ (fun _ => ?_)
    · intro y0 y1
      unfold rickyardref14_Row.l1
      repeat' first
      | (with_reducible exact ih0 _ _)
      | (with_reducible exact ih1 _ _)
      | (with_reducible exact LeO.refl _)
      | (with_reducible exact LeO.none _)
      | (with_reducible refine LeO.ite ?_ ?_)
      | (with_reducible refine LeO.bind ?_ (fun _ => ?_))
      | exact ih0 _ _
      | exact ih1 _ _
      | exact LeO.none _
      | refine LeO.ite ?_ ?_
      | refine LeO.bind ?_ (fun _ => ?_)
theorem rickyardref14_Row.mono : ∀ a0 k, LeO (rickyardref14_Row.f k a0) (rickyardref14_Row.f (k + 1) a0) := by
  intro a0 k
  obtain ⟨ih0, ih1⟩ := rickyardref14_Row.mono_l k
  unfold rickyardref14_Row.f
  repeat' first
      | (with_reducible exact ih0 _ _)
      | (with_reducible exact ih1 _ _)
      | (with_reducible exact LeO.refl _)
      | (with_reducible exact LeO.none _)
      | (with_reducible refine LeO.ite ?_ ?_)
      | (with_reducible refine LeO.bind ?_ (fun _ => ?_))
      | exact ih0 _ _
      | exact ih1 _ _
      | exact LeO.none _
      | refine LeO.ite ?_ ?_
      | refine LeO.bind ?_ (fun _ => ?_)
set_option maxHeartbeats 8000000 in
set_option maxRecDepth 100000 in
theorem rickyardref14_Row.calls (k : Nat) (A0 : Option Addr) (c0 : Nat) (l0 : List (S41)) (r : Int) (w : World) (hr0 : Kd.C k41 w A0 l0.length l0) (hc0 : l0.length ≤ c0) (h : rickyardref14_Row.f k l0 = some r) :
    Calls Try.prog 22 #[.slice A0 l0.length c0] w fun e w' => e = .returned (.int .i64 r) ∧ Below w.heap.size w w' := by
  have hu39 := Try.underlying39
  have HR0 := Aside0.mk hr0
  have HC0 := Aside0.mk hc0
  clear hr0 hc0
  have HB := Aside0.mk (Below.refl w.heap.size w)
  have H : (rickyardref14_Row.l0 k l0 1) = some r := h
  clear h
  have H' := Aside0.mk H
  clear H
  go_enter Try.func22, Try.ntmps22
  go_wp2
  repeat (go_quiet (fail); try go_wp2)
  go_loopg [3] k (fun kq v3 w' => ∃ (x3_1 : Int), v3 = .int .i64 x3_1 ∧ Aside0 (rickyardref14_Row.l0 kq l0 x3_1 = some r) ∧ Aside0 (kq ≤ k) ∧ Aside0 (Below w.heap.size w w'))
  case atStart => exact ⟨(1), (by first | rfl | (simp; done) | (simp [*]; done)), H', ⟨Nat.le_refl _⟩, ⟨by repeat (first | (with_reducible first | exact HB.out | apply below_alloc | apply pw_below_drewN | apply below_drew1) | exact HB.out)⟩⟩
  case round =>
    clear H'
    obtain ⟨x3_1, rfl, HA, HK1, HB⟩ := hrel
    cases gk with
    | zero => exact absurd HA.out (by simp [rickyardref14_Row.l0])
    | succ k1 =>
      have H := HA.out
      clear HA
      simp only [rickyardref14_Row.l0] at H
      by_cases c2 : x3_1 < (l0.length : Int)
      · rw [if_pos c2] at H
        have c2b0 : decide (x3_1 < (l0.length : Int)) = true := decide_eq_true c2
        clear c2
        obtain ⟨ji3, hji3⟩ : ∃ j_ : Int, (wrap64 (x3_1 - 1)) = j_ := ⟨_, rfl⟩
        replace H : (if 0 ≤ (ji3) then (if (ji3) < (l0.length : Int) then (if 0 ≤ x3_1 then (if ((Op.bytesLess ((strOfNums ((rd_T41 l0 (ji3)).f0)).toList) ((strOfNums ((rd_T41 l0 x3_1).f0)).toList)) = true) then (rickyardref14_Row.l0 k1 l0 (wrap64 (x3_1 + 1))) else (some 50)) else (none)) else (none)) else (none)) = some r := by first | (rw [hji3] at H; exact H) | (simp only [hji3] at H ⊢; exact H)
        have hji3w : (IntKind.i64.wrap (x3_1 - 1)) = ji3 := (i64_w _).trans hji3
        by_cases c4 : 0 ≤ (ji3)
        · rw [if_pos c4] at H
          have c4b0 : decide (0 ≤ (ji3)) = true := decide_eq_true c4
          clear c4
          by_cases c5 : (ji3) < (l0.length : Int)
          · rw [if_pos c5] at H
            have c5b0 : decide ((ji3) < (l0.length : Int)) = true := decide_eq_true c5
            clear c5
            by_cases c6 : 0 ≤ x3_1
            · rw [if_pos c6] at H
              have c6b0 : decide (0 ≤ x3_1) = true := decide_eq_true c6
              clear c6
              by_cases c7 : ((Op.bytesLess ((strOfNums ((rd_T41 l0 (ji3)).f0)).toList) ((strOfNums ((rd_T41 l0 x3_1).f0)).toList)) = true)
              · rw [if_pos c7] at H
                have c7b0 : (Op.bytesLess ((strOfNums ((rd_T41 l0 (ji3)).f0)).toList) ((strOfNums ((rd_T41 l0 x3_1).f0)).toList)) = true := c7
                have hgeq1 := fun w_ => geq_run (P := Try.prog) 9 (strOfNums ((rd_T41 l0 (ji3)).f0)) (strOfNums ((rd_T41 l0 x3_1).f0)) w_
                clear c7
                have H' := Aside0.mk H
                clear H
                have p122 : 0 ≤ ((ji3) : Int) := of_decide_eq_true (by first | (with_reducible assumption) | assumption)
                have q122 : (ji3) < (l0.length : Int) := of_decide_eq_true (by first | (with_reducible assumption) | assumption)
                obtain ⟨ad122, A122_0, c122_0, e122, hx122_0, hx122_1, hx122_2, hx122_3, hx122_4, hx122_5, hx122_6, hl122_0, hi122_0⟩ := at_T41 HR0.out (ji3) p122 q122
                cases e122
                replace hx122_0 := (HB.out.cell (World.block_lt_of_cell? w _ hx122_0)).trans hx122_0
                replace hx122_1 := (HB.out.cell (World.block_lt_of_cell? w _ hx122_1)).trans hx122_1
                replace hx122_2 := (HB.out.cell (World.block_lt_of_cell? w _ hx122_2)).trans hx122_2
                replace hx122_3 := (HB.out.cell (World.block_lt_of_cell? w _ hx122_3)).trans hx122_3
                replace hx122_4 := (HB.out.cell (World.block_lt_of_cell? w _ hx122_4)).trans hx122_4
                replace hx122_5 := (HB.out.cell (World.block_lt_of_cell? w _ hx122_5)).trans hx122_5
                replace hx122_6 := (HB.out.cell (World.block_lt_of_cell? w _ hx122_6)).trans hx122_6
                have HR122_0 := Aside0.mk hi122_0
                have HC122_0 := Aside0.mk hl122_0
                clear hi122_0 hl122_0
                replace p122 := eq_true p122
                replace q122 := eq_true q122
                have hcv8 := Kd.C_string (P := Try.prog) (A := A122_0) (c := c122_0) Try.underlying34 Try.underlying5 Try.underlying9 (Kd.C_below HR122_0.out HB.out)
                have hcv8n := fun n_ : Nat => Kd.C_string (P := Try.prog) (A := A122_0) (c := c122_0) Try.underlying34 Try.underlying5 Try.underlying9 (Kd.C_drewN (Kd.C_below HR122_0.out HB.out) n_)
                (try simp only [World.drewN_drewN] at hcv8n)
                have p123 : 0 ≤ (x3_1 : Int) := of_decide_eq_true (by first | (with_reducible assumption) | assumption)
                have q123 : x3_1 < (l0.length : Int) := of_decide_eq_true (by first | (with_reducible assumption) | assumption)
                obtain ⟨ad123, A123_0, c123_0, e123, hx123_0, hx123_1, hx123_2, hx123_3, hx123_4, hx123_5, hx123_6, hl123_0, hi123_0⟩ := at_T41 HR0.out x3_1 p123 q123
                obtain rfl : ad122 = ad123 := (by injection e123)
                replace hx123_0 := (HB.out.cell (World.block_lt_of_cell? w _ hx123_0)).trans hx123_0
                replace hx123_1 := (HB.out.cell (World.block_lt_of_cell? w _ hx123_1)).trans hx123_1
                replace hx123_2 := (HB.out.cell (World.block_lt_of_cell? w _ hx123_2)).trans hx123_2
                replace hx123_3 := (HB.out.cell (World.block_lt_of_cell? w _ hx123_3)).trans hx123_3
                replace hx123_4 := (HB.out.cell (World.block_lt_of_cell? w _ hx123_4)).trans hx123_4
                replace hx123_5 := (HB.out.cell (World.block_lt_of_cell? w _ hx123_5)).trans hx123_5
                replace hx123_6 := (HB.out.cell (World.block_lt_of_cell? w _ hx123_6)).trans hx123_6
                have HR123_0 := Aside0.mk hi123_0
                have HC123_0 := Aside0.mk hl123_0
                clear hi123_0 hl123_0
                replace p123 := eq_true p123
                replace q123 := eq_true q123
                have hcv9 := Kd.C_string (P := Try.prog) (A := A123_0) (c := c123_0) Try.underlying34 Try.underlying5 Try.underlying9 (Kd.C_below HR123_0.out HB.out)
                have hcv9n := fun n_ : Nat => Kd.C_string (P := Try.prog) (A := A123_0) (c := c123_0) Try.underlying34 Try.underlying5 Try.underlying9 (Kd.C_drewN (Kd.C_below HR123_0.out HB.out) n_)
                (try simp only [World.drewN_drewN] at hcv9n)
                go_wp2
                repeat (go_quiet (fail); try go_wp2)
                go_roundg k1
                case measure => have := HK1.out; omega
                case rel => exact ⟨(wrap64 (x3_1 + 1)), (by first | rfl | (simp; done) | (simp [*]; done)), H', ⟨by have := HK1.out; omega⟩, ⟨by repeat (first | (with_reducible first | exact HB.out | apply below_alloc | apply pw_below_drewN | apply below_drew1) | exact HB.out)⟩⟩
              · rw [if_neg c7] at H
                have c7b0 : (Op.bytesLess ((strOfNums ((rd_T41 l0 (ji3)).f0)).toList) ((strOfNums ((rd_T41 l0 x3_1).f0)).toList)) = false := by simpa using c7
                have hgeq2 := fun w_ => geq_run (P := Try.prog) 9 (strOfNums ((rd_T41 l0 (ji3)).f0)) (strOfNums ((rd_T41 l0 x3_1).f0)) w_
                clear c7
                obtain rfl := Option.some.inj H
                have p122 : 0 ≤ ((ji3) : Int) := of_decide_eq_true (by first | (with_reducible assumption) | assumption)
                have q122 : (ji3) < (l0.length : Int) := of_decide_eq_true (by first | (with_reducible assumption) | assumption)
                obtain ⟨ad122, A122_0, c122_0, e122, hx122_0, hx122_1, hx122_2, hx122_3, hx122_4, hx122_5, hx122_6, hl122_0, hi122_0⟩ := at_T41 HR0.out (ji3) p122 q122
                cases e122
                replace hx122_0 := (HB.out.cell (World.block_lt_of_cell? w _ hx122_0)).trans hx122_0
                replace hx122_1 := (HB.out.cell (World.block_lt_of_cell? w _ hx122_1)).trans hx122_1
                replace hx122_2 := (HB.out.cell (World.block_lt_of_cell? w _ hx122_2)).trans hx122_2
                replace hx122_3 := (HB.out.cell (World.block_lt_of_cell? w _ hx122_3)).trans hx122_3
                replace hx122_4 := (HB.out.cell (World.block_lt_of_cell? w _ hx122_4)).trans hx122_4
                replace hx122_5 := (HB.out.cell (World.block_lt_of_cell? w _ hx122_5)).trans hx122_5
                replace hx122_6 := (HB.out.cell (World.block_lt_of_cell? w _ hx122_6)).trans hx122_6
                have HR122_0 := Aside0.mk hi122_0
                have HC122_0 := Aside0.mk hl122_0
                clear hi122_0 hl122_0
                replace p122 := eq_true p122
                replace q122 := eq_true q122
                have hcv10 := Kd.C_string (P := Try.prog) (A := A122_0) (c := c122_0) Try.underlying34 Try.underlying5 Try.underlying9 (Kd.C_below HR122_0.out HB.out)
                have hcv10n := fun n_ : Nat => Kd.C_string (P := Try.prog) (A := A122_0) (c := c122_0) Try.underlying34 Try.underlying5 Try.underlying9 (Kd.C_drewN (Kd.C_below HR122_0.out HB.out) n_)
                (try simp only [World.drewN_drewN] at hcv10n)
                have p123 : 0 ≤ (x3_1 : Int) := of_decide_eq_true (by first | (with_reducible assumption) | assumption)
                have q123 : x3_1 < (l0.length : Int) := of_decide_eq_true (by first | (with_reducible assumption) | assumption)
                obtain ⟨ad123, A123_0, c123_0, e123, hx123_0, hx123_1, hx123_2, hx123_3, hx123_4, hx123_5, hx123_6, hl123_0, hi123_0⟩ := at_T41 HR0.out x3_1 p123 q123
                obtain rfl : ad122 = ad123 := (by injection e123)
                replace hx123_0 := (HB.out.cell (World.block_lt_of_cell? w _ hx123_0)).trans hx123_0
                replace hx123_1 := (HB.out.cell (World.block_lt_of_cell? w _ hx123_1)).trans hx123_1
                replace hx123_2 := (HB.out.cell (World.block_lt_of_cell? w _ hx123_2)).trans hx123_2
                replace hx123_3 := (HB.out.cell (World.block_lt_of_cell? w _ hx123_3)).trans hx123_3
                replace hx123_4 := (HB.out.cell (World.block_lt_of_cell? w _ hx123_4)).trans hx123_4
                replace hx123_5 := (HB.out.cell (World.block_lt_of_cell? w _ hx123_5)).trans hx123_5
                replace hx123_6 := (HB.out.cell (World.block_lt_of_cell? w _ hx123_6)).trans hx123_6
                have HR123_0 := Aside0.mk hi123_0
                have HC123_0 := Aside0.mk hl123_0
                clear hi123_0 hl123_0
                replace p123 := eq_true p123
                replace q123 := eq_true q123
                have hcv11 := Kd.C_string (P := Try.prog) (A := A123_0) (c := c123_0) Try.underlying34 Try.underlying5 Try.underlying9 (Kd.C_below HR123_0.out HB.out)
                have hcv11n := fun n_ : Nat => Kd.C_string (P := Try.prog) (A := A123_0) (c := c123_0) Try.underlying34 Try.underlying5 Try.underlying9 (Kd.C_drewN (Kd.C_below HR123_0.out HB.out) n_)
                (try simp only [World.drewN_drewN] at hcv11n)
                go_wp2
                repeat (go_quiet (fail); try go_wp2)
                go_ret
                exact ⟨by first | rfl | (simp [errW_none, errW_some] <;> rfl) | (simp only [← hji3]; first | rfl | (simp [errW_none, errW_some] <;> rfl)) | (simp [*, errW_none, errW_some] <;> rfl), by repeat (first | (with_reducible first | exact HB.out | apply below_alloc | apply pw_below_drewN | apply below_drew1) | exact HB.out)⟩
            · rw [if_neg c6] at H
              exact absurd H (by simp)
          · rw [if_neg c5] at H
            exact absurd H (by simp)
        · rw [if_neg c4] at H
          exact absurd H (by simp)
      · rw [if_neg c2] at H
        have c2b0 : decide (x3_1 < (l0.length : Int)) = false := decide_eq_false c2
        clear c2
        have H' := Aside0.mk H
        clear H
        go_wp2
        repeat (go_quiet (fail); try go_wp2)
        go_loopg [4] k1 (fun kq v4 w' => ∃ (x4_2 : Int), v4 = .int .i64 x4_2 ∧ Aside0 (rickyardref14_Row.l1 kq l0 x4_2 = some r) ∧ Aside0 (kq ≤ k1) ∧ Aside0 (Below w.heap.size w w'))
        case atStart => exact ⟨(0), (by first | rfl | (simp; done) | (simp [*]; done)), H', ⟨Nat.le_refl _⟩, ⟨by repeat (first | (with_reducible first | exact HB.out | apply below_alloc | apply pw_below_drewN | apply below_drew1) | exact HB.out)⟩⟩
        case round =>
          clear H'
          try clear c1
          try clear p1
          try clear q1
          try clear hx1
          try clear hcv1
          try clear c2
          try clear c2b0
          try clear p2
          try clear c4
          try clear c4b0
          try clear c5
          try clear c5b0
          try clear c6
          try clear c6b0
          try clear p6
          try clear c7
          try clear c7b0
          try clear hcv8
          try clear hcv9
          try clear hcv10
          try clear hcv11
          try clear hx122_0
          try clear hx122_1
          try clear hx122_2
          try clear hx122_3
          try clear hx122_4
          try clear hx122_5
          try clear hx122_6
          try clear hx123_0
          try clear hx123_1
          try clear hx123_2
          try clear hx123_3
          try clear hx123_4
          try clear hx123_5
          try clear hx123_6
          try clear p122
          try clear p123
          try clear q122
          try clear q123
          obtain ⟨x4_2, rfl, HA, HK2, HB⟩ := hrel
          cases gk with
          | zero => exact absurd HA.out (by simp [rickyardref14_Row.l1])
          | succ k2 =>
            have H := HA.out
            clear HA
            simp only [rickyardref14_Row.l1] at H
            by_cases c12 : x4_2 < (l0.length : Int)
            · rw [if_pos c12] at H
              have c12b0 : decide (x4_2 < (l0.length : Int)) = true := decide_eq_true c12
              clear c12
              by_cases c13 : 0 ≤ x4_2
              · rw [if_pos c13] at H
                have c13b0 : decide (0 ≤ x4_2) = true := decide_eq_true c13
                clear c13
                replace H := Option.bind_eq_some_iff.mp H
                obtain ⟨t125, A140, H⟩ := H
                replace H : (if t125 = true then (rickyardref14_Row.l1 k2 l0 (wrap64 (x4_2 + 1))) else (some 3)) = some r := H
                have A14 := Aside0.mk A140
                clear A140
                by_cases c15 : t125 = true
                · subst c15
                  have H1 : (rickyardref14_Row.l1 k2 l0 (wrap64 (x4_2 + 1))) = some r := by rw [if_pos rfl] at H; exact H
                  clear H
                  have H := H1
                  clear H1
                  have H' := Aside0.mk H
                  clear H
                  have p124 : 0 ≤ (x4_2 : Int) := of_decide_eq_true (by first | (with_reducible assumption) | assumption)
                  have q124 : x4_2 < (l0.length : Int) := of_decide_eq_true (by first | (with_reducible assumption) | assumption)
                  obtain ⟨ad124, A124_0, c124_0, e124, hx124_0, hx124_1, hx124_2, hx124_3, hx124_4, hx124_5, hx124_6, hl124_0, hi124_0⟩ := at_T41 HR0.out x4_2 p124 q124
                  cases e124
                  replace hx124_0 := (HB.out.cell (World.block_lt_of_cell? w _ hx124_0)).trans hx124_0
                  replace hx124_1 := (HB.out.cell (World.block_lt_of_cell? w _ hx124_1)).trans hx124_1
                  replace hx124_2 := (HB.out.cell (World.block_lt_of_cell? w _ hx124_2)).trans hx124_2
                  replace hx124_3 := (HB.out.cell (World.block_lt_of_cell? w _ hx124_3)).trans hx124_3
                  replace hx124_4 := (HB.out.cell (World.block_lt_of_cell? w _ hx124_4)).trans hx124_4
                  replace hx124_5 := (HB.out.cell (World.block_lt_of_cell? w _ hx124_5)).trans hx124_5
                  replace hx124_6 := (HB.out.cell (World.block_lt_of_cell? w _ hx124_6)).trans hx124_6
                  have HR124_0 := Aside0.mk hi124_0
                  have HC124_0 := Aside0.mk hl124_0
                  clear hi124_0 hl124_0
                  replace p124 := eq_true p124
                  replace q124 := eq_true q124
                  go_wp2_with (first | (go_at_call 35; (with_reducible refine (rickyardref02_Right.calls ((rd_T41 l0 x4_2).f1.f0) ((rd_T41 l0 x4_2).f1.f1) ((rd_T41 l0 x4_2).f1.f2.f0) ((rd_T41 l0 x4_2).f1.f2.f1) ((rd_T41 l0 x4_2).f1.f3) ((rd_T41 l0 x4_2).f1.f4) true _ A14.out).mono ?_); rintro e w16 ⟨rfl, hb⟩; have n0_ := Aside0.mk (below_step (by repeat (first | (with_reducible first | exact HB.out | apply below_alloc | apply pw_below_drewN | apply below_drew1) | exact HB.out)) hb); clear HB; have HB := n0_; clear n0_; (try clear hb); (try clear hb2); (try clear hk); (try clear hi)))
                  repeat (go_quiet (first | (go_at_call 35; (with_reducible refine (rickyardref02_Right.calls ((rd_T41 l0 x4_2).f1.f0) ((rd_T41 l0 x4_2).f1.f1) ((rd_T41 l0 x4_2).f1.f2.f0) ((rd_T41 l0 x4_2).f1.f2.f1) ((rd_T41 l0 x4_2).f1.f3) ((rd_T41 l0 x4_2).f1.f4) true _ A14.out).mono ?_); rintro e w16 ⟨rfl, hb⟩; have n0_ := Aside0.mk (below_step (by repeat (first | (with_reducible first | exact HB.out | apply below_alloc | apply pw_below_drewN | apply below_drew1) | exact HB.out)) hb); clear HB; have HB := n0_; clear n0_; (try clear hb); (try clear hb2); (try clear hk); (try clear hi))); try go_wp2_with (first | (go_at_call 35; (with_reducible refine (rickyardref02_Right.calls ((rd_T41 l0 x4_2).f1.f0) ((rd_T41 l0 x4_2).f1.f1) ((rd_T41 l0 x4_2).f1.f2.f0) ((rd_T41 l0 x4_2).f1.f2.f1) ((rd_T41 l0 x4_2).f1.f3) ((rd_T41 l0 x4_2).f1.f4) true _ A14.out).mono ?_); rintro e w16 ⟨rfl, hb⟩; have n0_ := Aside0.mk (below_step (by repeat (first | (with_reducible first | exact HB.out | apply below_alloc | apply pw_below_drewN | apply below_drew1) | exact HB.out)) hb); clear HB; have HB := n0_; clear n0_; (try clear hb); (try clear hb2); (try clear hk); (try clear hi))))
                  go_roundg k2
                  case measure => have := HK1.out; have := HK2.out; omega
                  case rel => exact ⟨(wrap64 (x4_2 + 1)), (by first | rfl | (simp; done) | (simp [*]; done)), H', ⟨by have := HK1.out; have := HK2.out; omega⟩, ⟨by repeat (first | (with_reducible first | exact HB.out | apply below_alloc | apply pw_below_drewN | apply below_drew1) | exact HB.out)⟩⟩
                · replace c15 := Bool.eq_false_iff.mpr c15
                  subst c15
                  have H1 : (some 3) = some r := by rw [if_neg (show ¬ (false = true) by decide)] at H; exact H
                  clear H
                  have H := H1
                  clear H1
                  obtain rfl := Option.some.inj H
                  have p124 : 0 ≤ (x4_2 : Int) := of_decide_eq_true (by first | (with_reducible assumption) | assumption)
                  have q124 : x4_2 < (l0.length : Int) := of_decide_eq_true (by first | (with_reducible assumption) | assumption)
                  obtain ⟨ad124, A124_0, c124_0, e124, hx124_0, hx124_1, hx124_2, hx124_3, hx124_4, hx124_5, hx124_6, hl124_0, hi124_0⟩ := at_T41 HR0.out x4_2 p124 q124
                  cases e124
                  replace hx124_0 := (HB.out.cell (World.block_lt_of_cell? w _ hx124_0)).trans hx124_0
                  replace hx124_1 := (HB.out.cell (World.block_lt_of_cell? w _ hx124_1)).trans hx124_1
                  replace hx124_2 := (HB.out.cell (World.block_lt_of_cell? w _ hx124_2)).trans hx124_2
                  replace hx124_3 := (HB.out.cell (World.block_lt_of_cell? w _ hx124_3)).trans hx124_3
                  replace hx124_4 := (HB.out.cell (World.block_lt_of_cell? w _ hx124_4)).trans hx124_4
                  replace hx124_5 := (HB.out.cell (World.block_lt_of_cell? w _ hx124_5)).trans hx124_5
                  replace hx124_6 := (HB.out.cell (World.block_lt_of_cell? w _ hx124_6)).trans hx124_6
                  have HR124_0 := Aside0.mk hi124_0
                  have HC124_0 := Aside0.mk hl124_0
                  clear hi124_0 hl124_0
                  replace p124 := eq_true p124
                  replace q124 := eq_true q124
                  go_wp2_with (first | (go_at_call 35; (with_reducible refine (rickyardref02_Right.calls ((rd_T41 l0 x4_2).f1.f0) ((rd_T41 l0 x4_2).f1.f1) ((rd_T41 l0 x4_2).f1.f2.f0) ((rd_T41 l0 x4_2).f1.f2.f1) ((rd_T41 l0 x4_2).f1.f3) ((rd_T41 l0 x4_2).f1.f4) false _ A14.out).mono ?_); rintro e w17 ⟨rfl, hb⟩; have n0_ := Aside0.mk (below_step (by repeat (first | (with_reducible first | exact HB.out | apply below_alloc | apply pw_below_drewN | apply below_drew1) | exact HB.out)) hb); clear HB; have HB := n0_; clear n0_; (try clear hb); (try clear hb2); (try clear hk); (try clear hi)))
                  repeat (go_quiet (first | (go_at_call 35; (with_reducible refine (rickyardref02_Right.calls ((rd_T41 l0 x4_2).f1.f0) ((rd_T41 l0 x4_2).f1.f1) ((rd_T41 l0 x4_2).f1.f2.f0) ((rd_T41 l0 x4_2).f1.f2.f1) ((rd_T41 l0 x4_2).f1.f3) ((rd_T41 l0 x4_2).f1.f4) false _ A14.out).mono ?_); rintro e w17 ⟨rfl, hb⟩; have n0_ := Aside0.mk (below_step (by repeat (first | (with_reducible first | exact HB.out | apply below_alloc | apply pw_below_drewN | apply below_drew1) | exact HB.out)) hb); clear HB; have HB := n0_; clear n0_; (try clear hb); (try clear hb2); (try clear hk); (try clear hi))); try go_wp2_with (first | (go_at_call 35; (with_reducible refine (rickyardref02_Right.calls ((rd_T41 l0 x4_2).f1.f0) ((rd_T41 l0 x4_2).f1.f1) ((rd_T41 l0 x4_2).f1.f2.f0) ((rd_T41 l0 x4_2).f1.f2.f1) ((rd_T41 l0 x4_2).f1.f3) ((rd_T41 l0 x4_2).f1.f4) false _ A14.out).mono ?_); rintro e w17 ⟨rfl, hb⟩; have n0_ := Aside0.mk (below_step (by repeat (first | (with_reducible first | exact HB.out | apply below_alloc | apply pw_below_drewN | apply below_drew1) | exact HB.out)) hb); clear HB; have HB := n0_; clear n0_; (try clear hb); (try clear hb2); (try clear hk); (try clear hi))))
                  go_ret
                  exact ⟨by first | rfl | (simp [errW_none, errW_some] <;> rfl) | (simp [*, errW_none, errW_some] <;> rfl), by repeat (first | (with_reducible first | exact HB.out | apply below_alloc | apply pw_below_drewN | apply below_drew1) | exact HB.out)⟩
              · rw [if_neg c13] at H
                exact absurd H (by simp)
            · rw [if_neg c12] at H
              have c12b0 : decide (x4_2 < (l0.length : Int)) = false := decide_eq_false c12
              clear c12
              obtain rfl := Option.some.inj H
              go_wp2
              repeat (go_quiet (fail); try go_wp2)
              go_ret
              exact ⟨by first | rfl | (simp [errW_none, errW_some] <;> rfl) | (simp [*, errW_none, errW_some] <;> rfl), by repeat (first | (with_reducible first | exact HB.out | apply below_alloc | apply pw_below_drewN | apply below_drew1) | exact HB.out)⟩

end Go.Proofs.Ytihdomhiiolojaa.P
