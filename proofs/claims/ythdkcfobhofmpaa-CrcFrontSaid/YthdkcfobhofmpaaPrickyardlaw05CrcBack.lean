-- Written by a program of this session out of the translation.
import Derived.Test.YthdkcfobhofmpaaPx0
import Derived.Test.YthdkcfobhofmpaaPcrcFrame
import Derived.Test.YthdkcfobhofmpaaPrickyardref05Same
import Derived.Test.YthdkcfobhofmpaaEAlive05
import Derived.Test.YthdkcfobhofmpaaEAll
namespace Go.Proofs.Ythdkcfobhofmpaa.P
open Go.RowKit Go.Proofs.YthdkcfobhofmpaaW.PrintWords Go.Proofs.YthdkcfobhofmpaaW.PrintLast Go.Proofs.YthdkcfobhofmpaaW.PrintMore
attribute [local go_sem] max2_int min2_int max_two min_two max_three min_three max_four min_four   -- for this text's walks alone
set_option linter.unusedVariables false
set_option linter.unusedSimpArgs false

/-! ### rickyardlaw05_CrcBack: function 8 -/
mutual
def rickyardlaw05_CrcBack.l0 : Nat → List (List Int) → Int → List Int → List Int → Int → Option (Bool)
  | 0, _, _, _, _, _ => none
  | k + 1, x0, x1, x5, x6, x7 => if x7 < (x0.length : Int) then (if 0 ≤ x7 then (if ((rd_L2 x0 x7).length : Int) > 300 then ((rickyardlaw05_alive.f).bind fun t250 => (some t250)) else ((crc_Frame.f (rd_L2 x0 x7)).bind fun bt252 => (if bt252.2 = 0 then (if x5.length + bt252.1.length < 140737488355328 then ((some (x5 ++ bt252.1 : List Int)).bind fun y256 => (if x6.length < 17592186044416 then (rickyardlaw05_CrcBack.l0 k x0 x1 y256 (x6 ++ [(y256.length : Int)]) (wrap64 (x7 + 1))) else (none))) else (none)) else (some false)))) else (none)) else ((crc_All.f x5).bind fun bt262 => ((rickyardref05_Same.f k bt262.1 x0).bind fun t266 => (if t266 = true then (rickyardlaw05_CrcBack.j1 k x0 x1 x5 x6 (bt262.2 != (x5.length : Int))) else (rickyardlaw05_CrcBack.j1 k x0 x1 x5 x6 true))))
def rickyardlaw05_CrcBack.j1 : Nat → List (List Int) → Int → List Int → List Int → Bool → Option (Bool)
  | 0, _, _, _, _, _ => none
  | k + 1, x0, x1, x5, x6, x62 => if x62 = true then (some false) else (if x1 < 0 then (rickyardlaw05_CrcBack.j2 k x0 x1 x5 x6 true) else (rickyardlaw05_CrcBack.j2 k x0 x1 x5 x6 (decide (x1 > (x5.length : Int)))))
def rickyardlaw05_CrcBack.j2 : Nat → List (List Int) → Int → List Int → List Int → Bool → Option (Bool)
  | 0, _, _, _, _, _ => none
  | k + 1, x0, x1, x5, x6, x70 => if x70 = true then ((rickyardlaw05_alive.f).bind fun t267 => (some t267)) else (rickyardlaw05_CrcBack.l1 k x0 x1 x5 x6 0)
def rickyardlaw05_CrcBack.l1 : Nat → List (List Int) → Int → List Int → List Int → Int → Option (Bool)
  | 0, _, _, _, _, _ => none
  | k + 1, x0, x1, x5, x6, x12 => if x12 < (x6.length : Int) then (if 0 ≤ x12 then (if (rd x6 x12) ≤ x1 then (rickyardlaw05_CrcBack.l1 k x0 x1 x5 x6 (wrap64 (x12 + 1))) else (if 0 ≤ x1 then (if x1 ≤ (x5.length : Int) then ((crc_All.f (x5.take (x1 : Int).toNat)).bind fun bt273 => ((rickyardlaw05_alive.f).bind fun t277 => (if t277 = true then (if x12 ≤ (x0.length : Int) then ((rickyardref05_Same.f k bt273.1 (x0.take (x12 : Int).toNat)).bind fun t282 => (if t282 = true then (if x12 = 0 then (if bt273.2 = 0 then (some true) else (if x12 > 0 then (if 0 ≤ (wrap64 (x12 - 1)) then (if (wrap64 (x12 - 1)) < (x6.length : Int) then (some (bt273.2 == (rd x6 (wrap64 (x12 - 1))))) else (none)) else (none)) else (some false))) else (if x12 > 0 then (if 0 ≤ (wrap64 (x12 - 1)) then (if (wrap64 (x12 - 1)) < (x6.length : Int) then (some (bt273.2 == (rd x6 (wrap64 (x12 - 1))))) else (none)) else (none)) else (some false))) else (some false))) else (none)) else (some false)))) else (none)) else (none))) else (none)) else (if 0 ≤ x1 then (if x1 ≤ (x5.length : Int) then ((crc_All.f (x5.take (x1 : Int).toNat)).bind fun bt289 => ((rickyardlaw05_alive.f).bind fun t293 => (if t293 = true then (if 0 ≤ x12 then (if x12 ≤ (x0.length : Int) then ((rickyardref05_Same.f k bt289.1 (x0.take (x12 : Int).toNat)).bind fun t298 => (if t298 = true then (if x12 = 0 then (if bt289.2 = 0 then (some true) else (if x12 > 0 then (if 0 ≤ (wrap64 (x12 - 1)) then (if (wrap64 (x12 - 1)) < (x6.length : Int) then (some (bt289.2 == (rd x6 (wrap64 (x12 - 1))))) else (none)) else (none)) else (some false))) else (if x12 > 0 then (if 0 ≤ (wrap64 (x12 - 1)) then (if (wrap64 (x12 - 1)) < (x6.length : Int) then (some (bt289.2 == (rd x6 (wrap64 (x12 - 1))))) else (none)) else (none)) else (some false))) else (some false))) else (none)) else (none)) else (some false)))) else (none)) else (none))
end
def rickyardlaw05_CrcBack.f (k : Nat) (l0 : List (List Int)) (a1 : Int) : Option (Bool) := if (l0.length : Int) > 20 then ((rickyardlaw05_alive.f).bind fun t248 => (some t248)) else (rickyardlaw05_CrcBack.l0 k l0 a1 ([] : List Int) ([] : List Int) 0)
theorem rickyardlaw05_CrcBack.mono_l : ∀ k, (∀ y0 y1 y2 y3 y4, LeO (rickyardlaw05_CrcBack.l0 k y0 y1 y2 y3 y4) (rickyardlaw05_CrcBack.l0 (k + 1) y0 y1 y2 y3 y4)) ∧ (∀ y0 y1 y2 y3 y4, LeO (rickyardlaw05_CrcBack.j1 k y0 y1 y2 y3 y4) (rickyardlaw05_CrcBack.j1 (k + 1) y0 y1 y2 y3 y4)) ∧ (∀ y0 y1 y2 y3 y4, LeO (rickyardlaw05_CrcBack.j2 k y0 y1 y2 y3 y4) (rickyardlaw05_CrcBack.j2 (k + 1) y0 y1 y2 y3 y4)) ∧ (∀ y0 y1 y2 y3 y4, LeO (rickyardlaw05_CrcBack.l1 k y0 y1 y2 y3 y4) (rickyardlaw05_CrcBack.l1 (k + 1) y0 y1 y2 y3 y4))
  | 0 => ⟨fun _ _ _ _ _ r h => by simp [rickyardlaw05_CrcBack.l0] at h, fun _ _ _ _ _ r h => by simp [rickyardlaw05_CrcBack.j1] at h, fun _ _ _ _ _ r h => by simp [rickyardlaw05_CrcBack.j2] at h, fun _ _ _ _ _ r h => by simp [rickyardlaw05_CrcBack.l1] at h⟩
  | k + 1 => by
    obtain ⟨ih0, ih1, ih2, ih3⟩ := rickyardlaw05_CrcBack.mono_l k
    refine ⟨?_, ?_, ?_, ?_⟩
    · intro y0 y1 y2 y3 y4
      unfold rickyardlaw05_CrcBack.l0
      repeat' first
      | (with_reducible exact ih0 _ _ _ _ _)
      | (with_reducible exact ih1 _ _ _ _ _)
      | (with_reducible exact ih2 _ _ _ _ _)
      | (with_reducible exact ih3 _ _ _ _ _)
      | (with_reducible exact rickyardref05_Same.mono _ _ _)
      | (with_reducible exact LeO.refl _)
      | (with_reducible exact LeO.none _)
      | (with_reducible refine LeO.ite ?_ ?_)
      | (with_reducible refine LeO.bind ?_ (fun _ => ?_))
      | exact ih0 _ _ _ _ _
      | exact ih1 _ _ _ _ _
      | exact ih2 _ _ _ _ _
      | exact ih3 _ _ _ _ _
      | exact rickyardref05_Same.mono _ _ _
      | exact LeO.none _
      | refine LeO.ite ?_ ?_
      | refine LeO.bind ?_ (fun _ => ?_)
    · intro y0 y1 y2 y3 y4
      unfold rickyardlaw05_CrcBack.j1
      repeat' first
      | (with_reducible exact ih0 _ _ _ _ _)
      | (with_reducible exact ih1 _ _ _ _ _)
      | (with_reducible exact ih2 _ _ _ _ _)
      | (with_reducible exact ih3 _ _ _ _ _)
      | (with_reducible exact rickyardref05_Same.mono _ _ _)
      | (with_reducible exact LeO.refl _)
      | (with_reducible exact LeO.none _)
      | (with_reducible refine LeO.ite ?_ ?_)
      | (with_reducible refine LeO.bind ?_ (fun _ => ?_))
      | exact ih0 _ _ _ _ _
      | exact ih1 _ _ _ _ _
      | exact ih2 _ _ _ _ _
      | exact ih3 _ _ _ _ _
      | exact rickyardref05_Same.mono _ _ _
      | exact LeO.none _
      | refine LeO.ite ?_ ?_
      | refine LeO.bind ?_ (fun _ => ?_)
    · intro y0 y1 y2 y3 y4
      unfold rickyardlaw05_CrcBack.j2
      repeat' first
      | (with_reducible exact ih0 _ _ _ _ _)
      | (with_reducible exact ih1 _ _ _ _ _)
      | (with_reducible exact ih2 _ _ _ _ _)
      | (with_reducible exact ih3 _ _ _ _ _)
      | (with_reducible exact rickyardref05_Same.mono _ _ _)
      | (with_reducible exact LeO.refl _)
      | (with_reducible exact LeO.none _)
      | (with_reducible refine LeO.ite ?_ ?_)
      | (with_reducible refine LeO.bind ?_ (fun _ => ?_))
      | exact ih0 _ _ _ _ _
      | exact ih1 _ _ _ _ _
      | exact ih2 _ _ _ _ _
      | exact ih3 _ _ _ _ _
      | exact rickyardref05_Same.mono _ _ _
      | exact LeO.none _
      | refine LeO.ite ?_ ?_
      | refine LeO.bind ?_ (fun _ => ?_)
    · intro y0 y1 y2 y3 y4
      unfold rickyardlaw05_CrcBack.l1
      repeat' first
      | (with_reducible exact ih0 _ _ _ _ _)
      | (with_reducible exact ih1 _ _ _ _ _)
      | (with_reducible exact ih2 _ _ _ _ _)
      | (with_reducible exact ih3 _ _ _ _ _)
      | (with_reducible exact rickyardref05_Same.mono _ _ _)
      | (with_reducible exact LeO.refl _)
      | (with_reducible exact LeO.none _)
      | (with_reducible refine LeO.ite ?_ ?_)
      | (with_reducible refine LeO.bind ?_ (fun _ => ?_))
      | exact ih0 _ _ _ _ _
      | exact ih1 _ _ _ _ _
      | exact ih2 _ _ _ _ _
      | exact ih3 _ _ _ _ _
      | exact rickyardref05_Same.mono _ _ _
      | exact LeO.none _
      | refine LeO.ite ?_ ?_
      | refine LeO.bind ?_ (fun _ => ?_)
theorem rickyardlaw05_CrcBack.mono : ∀ a0 a1 k, LeO (rickyardlaw05_CrcBack.f k a0 a1) (rickyardlaw05_CrcBack.f (k + 1) a0 a1) := by
  intro a0 a1 k
  obtain ⟨ih0, ih1, ih2, ih3⟩ := rickyardlaw05_CrcBack.mono_l k
  unfold rickyardlaw05_CrcBack.f
  repeat' first
      | (with_reducible exact ih0 _ _ _ _ _)
      | (with_reducible exact ih1 _ _ _ _ _)
      | (with_reducible exact ih2 _ _ _ _ _)
      | (with_reducible exact ih3 _ _ _ _ _)
      | (with_reducible exact rickyardref05_Same.mono _ _ _)
      | (with_reducible exact LeO.refl _)
      | (with_reducible exact LeO.none _)
      | (with_reducible refine LeO.ite ?_ ?_)
      | (with_reducible refine LeO.bind ?_ (fun _ => ?_))
      | exact ih0 _ _ _ _ _
      | exact ih1 _ _ _ _ _
      | exact ih2 _ _ _ _ _
      | exact ih3 _ _ _ _ _
      | exact rickyardref05_Same.mono _ _ _
      | exact LeO.none _
      | refine LeO.ite ?_ ?_
      | refine LeO.bind ?_ (fun _ => ?_)
set_option maxHeartbeats 8000000 in
set_option maxRecDepth 100000 in
theorem rickyardlaw05_CrcBack.calls (k : Nat) (A0 : Option Addr) (c0 : Nat) (l0 : List (List Int)) (a1 : Int) (r : Bool) (w : World) (hr0 : Kd.C (Kd.slice 5 (Kd.int .u8)) w A0 l0.length l0) (hc0 : l0.length ≤ c0) (h : rickyardlaw05_CrcBack.f k l0 a1 = some r) (hr_ : r = true) :
    Calls Try.prog 8 #[.slice A0 l0.length c0, .int .i64 a1] w fun e w' => e = .returned (.bool r) ∧ Below w.heap.size w w' := by
  have HR_ := Aside0.mk hr_
  clear hr_
  have HR0 := Aside0.mk hr0
  have HC0 := Aside0.mk hc0
  clear hr0 hc0
  have HB := Aside0.mk (Below.refl w.heap.size w)
  have H : (if (l0.length : Int) > 20 then ((rickyardlaw05_alive.f).bind fun t248 => (some t248)) else (rickyardlaw05_CrcBack.l0 k l0 a1 ([] : List Int) ([] : List Int) 0)) = some r := h
  clear h
  by_cases c3 : (l0.length : Int) > 20
  · rw [if_pos c3] at H
    have c3b0 : decide (20 < (l0.length : Int)) = true := decide_eq_true c3
    have c3b1 : decide (20 < l0.length) = true := decide_eq_true (by omega)
    clear c3
    replace H := Option.bind_eq_some_iff.mp H
    obtain ⟨t248, A40, H⟩ := H
    replace H : (some t248) = some r := H
    have A4 := Aside0.mk A40
    clear A40
    obtain rfl := Option.some.inj H
    go_enter Try.func8, Try.ntmps8
    go_wp2_with (first | ((with_reducible refine gate_callee (f := 10) rfl ?_); refine goesL_ (some 16) rfl rfl Try.func10 (by kernel_rfl) rfl #[] rfl (by (try simp only [List.map_toArray, List.map_cons, List.map_nil]); first | done | rfl | (simp only [List.length_drop, List.length_take]; rfl)) ?_; (with_reducible refine (rickyardlaw05_alive.calls  t248 _ A4.out).mono ?_); rintro e w5 ⟨rfl, hb⟩; refine ⟨_, rfl, ?_⟩; have n0_ := Aside0.mk (below_step (by repeat (first | (with_reducible first | exact HB.out | apply below_alloc | apply pw_below_drewN | apply below_drew1) | exact HB.out)) hb); clear HB; have HB := n0_; clear n0_; (try clear hb); (try clear hb2); (try clear hk); (try clear hi)))
    go_ret
    exact ⟨by first | rfl | (simp [errW_none, errW_some] <;> rfl) | (simp [*, errW_none, errW_some] <;> rfl), by repeat (first | (with_reducible first | exact HB.out | apply below_alloc | apply pw_below_drewN | apply below_drew1) | exact HB.out)⟩
  · rw [if_neg c3] at H
    have c3b0 : decide (20 < (l0.length : Int)) = false := decide_eq_false c3
    have c3b1 : decide (20 < l0.length) = false := decide_eq_false (by omega)
    clear c3
    have H' := Aside0.mk H
    clear H
    go_enter Try.func8, Try.ntmps8
    go_wp2
    go_loopg [5, 6, 7] k (fun kq v5 v6 v7 w' => ∃ (x5_1 : List Int) (x6_1 : List Int) (x7_1 : Int), v7 = .int .i64 x7_1 ∧ Aside0 (rickyardlaw05_CrcBack.l0 kq l0 a1 x5_1 x6_1 x7_1 = some r) ∧ Aside0 (kq ≤ k) ∧ Aside0 (Kd.R (Kd.int .u8) 5 w' w.heap.size (fun _ => True) v5 x5_1) ∧ Aside0 (Kd.R (Kd.int .i64) 3 w' w.heap.size (fun _ => True) v6 x6_1) ∧ Aside0 (Below w.heap.size w w'))
    case atStart => exact ⟨(([] : List Int)), (([] : List Int)), (0), (by first | rfl | (simp; done) | (simp [*]; done)), H', ⟨Nat.le_refl _⟩, ⟨by first | exact Kd.R_nil _ _ _ _ _ | exact Kd.N_nil _ _ _ _ _ | exact Kd.V_nil _ _ _ _ _ | exact Kd.Q_nil _ _ _ _ _ | exact Kd.S_nil _ _ _ _ _⟩, ⟨by first | exact Kd.R_nil _ _ _ _ _ | exact Kd.N_nil _ _ _ _ _ | exact Kd.V_nil _ _ _ _ _ | exact Kd.Q_nil _ _ _ _ _ | exact Kd.S_nil _ _ _ _ _⟩, ⟨by repeat (first | (with_reducible first | exact HB.out | apply below_alloc | apply pw_below_drewN | apply below_drew1) | exact HB.out)⟩⟩
    case round =>
      clear H'
      try clear c1
      try clear p2
      try clear c3
      try clear c3b0
      try clear c3b1
      obtain ⟨x5_1, x6_1, x7_1, rfl, HA, HK1, HO_5, HO_6, HB⟩ := hrel
      cases gk with
      | zero => exact absurd HA.out (by simp [rickyardlaw05_CrcBack.l0])
      | succ k1 =>
        have H := HA.out
        clear HA
        simp only [rickyardlaw05_CrcBack.l0] at H
        by_cases c6 : x7_1 < (l0.length : Int)
        · rw [if_pos c6] at H
          have c6b0 : decide (x7_1 < (l0.length : Int)) = true := decide_eq_true c6
          clear c6
          by_cases c7 : 0 ≤ x7_1
          · rw [if_pos c7] at H
            have c7b0 : decide (0 ≤ x7_1) = true := decide_eq_true c7
            clear c7
            by_cases c8 : ((rd_L2 l0 x7_1).length : Int) > 300
            · rw [if_pos c8] at H
              have c8b0 : decide (300 < ((rd_L2 l0 x7_1).length : Int)) = true := decide_eq_true c8
              have c8b1 : decide (300 < (rd_L2 l0 x7_1).length) = true := decide_eq_true (by omega)
              clear c8
              replace H := Option.bind_eq_some_iff.mp H
              obtain ⟨t250, A90, H⟩ := H
              replace H : (some t250) = some r := H
              have A9 := Aside0.mk A90
              clear A90
              obtain rfl := Option.some.inj H
              have p249 : 0 ≤ (x7_1 : Int) := of_decide_eq_true (by first | (with_reducible assumption) | assumption)
              have q249 : x7_1 < (l0.length : Int) := of_decide_eq_true (by first | (with_reducible assumption) | assumption)
              obtain ⟨ad249, A249_0, c249_0, e249, hx249_0, hl249_0, hi249_0⟩ := at_L2 HR0.out x7_1 p249 q249
              cases e249
              replace hx249_0 := (HB.out.cell (World.block_lt_of_cell? w _ hx249_0)).trans hx249_0
              have HR249_0 := Aside0.mk hi249_0
              have HC249_0 := Aside0.mk hl249_0
              clear hi249_0 hl249_0
              replace p249 := eq_true p249
              replace q249 := eq_true q249
              go_wp2_with (first | ((with_reducible refine gate_callee (f := 10) rfl ?_); refine goesL_ (some 29) rfl rfl Try.func10 (by kernel_rfl) rfl #[] rfl (by (try simp only [List.map_toArray, List.map_cons, List.map_nil]); first | done | rfl | (simp only [List.length_drop, List.length_take]; rfl)) ?_; (with_reducible refine (rickyardlaw05_alive.calls  t250 _ A9.out).mono ?_); rintro e w10 ⟨rfl, hb⟩; refine ⟨_, rfl, ?_⟩; have n0_ := Aside0.mk (Kd.R_below (by (with_reducible repeat (first | apply Kd.R_alloc | apply Kd.R_drewN | apply Kd.R_drew)); exact HO_5.out) hb); have n1_ := Aside0.mk (Kd.R_below (by (with_reducible repeat (first | apply Kd.R_alloc | apply Kd.R_drewN | apply Kd.R_drew)); exact HO_6.out) hb); have n2_ := Aside0.mk (below_step (by repeat (first | (with_reducible first | exact HB.out | apply below_alloc | apply pw_below_drewN | apply below_drew1) | exact HB.out)) hb); clear HO_5; clear HO_6; clear HB; have HO_5 := n0_; have HO_6 := n1_; have HB := n2_; clear n0_ n1_ n2_; (try clear hb); (try clear hb2); (try clear hk); (try clear hi)))
              go_ret
              exact ⟨by first | rfl | (simp [errW_none, errW_some] <;> rfl) | (simp [*, errW_none, errW_some] <;> rfl), by repeat (first | (with_reducible first | exact HB.out | apply below_alloc | apply pw_below_drewN | apply below_drew1) | exact HB.out)⟩
            · rw [if_neg c8] at H
              have c8b0 : decide (300 < ((rd_L2 l0 x7_1).length : Int)) = false := decide_eq_false c8
              have c8b1 : decide (300 < (rd_L2 l0 x7_1).length) = false := decide_eq_false (by omega)
              clear c8
              replace H := Option.bind_eq_some_iff.mp H
              obtain ⟨⟨t252, t253⟩, A110, H⟩ := H
              replace H : (if t253 = 0 then (if x5_1.length + t252.length < 140737488355328 then ((some (x5_1 ++ t252 : List Int)).bind fun y256 => (if x6_1.length < 17592186044416 then (rickyardlaw05_CrcBack.l0 k1 l0 a1 y256 (x6_1 ++ [(y256.length : Int)]) (wrap64 (x7_1 + 1))) else (none))) else (none)) else (some false)) = some r := H
              have A11 := Aside0.mk A110
              clear A110
              by_cases c12 : t253 = 0
              · rw [if_pos c12] at H
                have c12b0 : (t253 == 0) = true := beq_iff_eq.mpr c12
                have c12b1 : (t253 != 0) = false := bne_eq_false_iff_eq.mpr c12
                clear c12
                by_cases c13 : x5_1.length + t252.length < 140737488355328
                · rw [if_pos c13] at H
                  have LMc13 := Aside0.mk c13
                  clear c13
                  obtain ⟨y256, hy256⟩ : ∃ y_ : List Int, y_ = (x5_1 ++ t252) := ⟨_, rfl⟩
                  replace H : (if x6_1.length < 17592186044416 then (rickyardlaw05_CrcBack.l0 k1 l0 a1 y256 (x6_1 ++ [(y256.length : Int)]) (wrap64 (x7_1 + 1))) else (none)) = some r := by first | (rw [hy256]; with_reducible exact H) | (have H2_ := (Option.bind_some _ _).symm.trans H; rw [hy256]; with_reducible exact H2_) | (have H2_ := (Option.bind_some _ _).symm.trans H; with_reducible exact H2_) | with_reducible exact H | (rw [hy256]; exact H) | exact H
                  have Ny256 := Aside0.mk hy256
                  clear hy256
                  by_cases c14 : x6_1.length < 17592186044416
                  · rw [if_pos c14] at H
                    have LMc14 := Aside0.mk c14
                    clear c14
                    obtain ⟨y259, hy259⟩ : ∃ y_ : List Int, y_ = (x6_1 ++ [(y256.length : Int)]) := ⟨_, rfl⟩
                    replace H : (rickyardlaw05_CrcBack.l0 k1 l0 a1 y256 y259 (wrap64 (x7_1 + 1))) = some r := by first | (rw [hy259]; with_reducible exact H) | (have H2_ := (Option.bind_some _ _).symm.trans H; rw [hy259]; with_reducible exact H2_) | (have H2_ := (Option.bind_some _ _).symm.trans H; with_reducible exact H2_) | with_reducible exact H | (rw [hy259]; exact H) | exact H
                    have Ny259 := Aside0.mk hy259
                    clear hy259
                    have H' := Aside0.mk H
                    clear H
                    have p249 : 0 ≤ (x7_1 : Int) := of_decide_eq_true (by first | (with_reducible assumption) | assumption)
                    have q249 : x7_1 < (l0.length : Int) := of_decide_eq_true (by first | (with_reducible assumption) | assumption)
                    obtain ⟨ad249, A249_0, c249_0, e249, hx249_0, hl249_0, hi249_0⟩ := at_L2 HR0.out x7_1 p249 q249
                    cases e249
                    replace hx249_0 := (HB.out.cell (World.block_lt_of_cell? w _ hx249_0)).trans hx249_0
                    have HR249_0 := Aside0.mk hi249_0
                    have HC249_0 := Aside0.mk hl249_0
                    clear hi249_0 hl249_0
                    replace p249 := eq_true p249
                    replace q249 := eq_true q249
                    have p251 : 0 ≤ (x7_1 : Int) := of_decide_eq_true (by first | (with_reducible assumption) | assumption)
                    have q251 : x7_1 < (l0.length : Int) := of_decide_eq_true (by first | (with_reducible assumption) | assumption)
                    obtain ⟨ad251, A251_0, c251_0, e251, hx251_0, hl251_0, hi251_0⟩ := at_L2 HR0.out x7_1 p251 q251
                    obtain rfl : ad249 = ad251 := (by injection e251)
                    replace hx251_0 := (HB.out.cell (World.block_lt_of_cell? w _ hx251_0)).trans hx251_0
                    have HR251_0 := Aside0.mk hi251_0
                    have HC251_0 := Aside0.mk hl251_0
                    clear hi251_0 hl251_0
                    replace p251 := eq_true p251
                    replace q251 := eq_true q251
                    have ea_ := Option.some.inj (hx249_0.symm.trans hx251_0)
                    injection ea_ with ea_ en_ ec_
                    subst ea_
                    subst ec_
                    clear en_
                    go_wp2_with (first | ((with_reducible refine gate_callee (f := 16) rfl ?_); refine goesL_ (some 35) rfl rfl Try.func16 (by kernel_rfl) rfl #[.slice A249_0 (rd_L2 l0 x7_1).length c249_0] rfl (by (try simp only [List.map_toArray, List.map_cons, List.map_nil]); first | done | rfl | (simp only [List.length_drop, List.length_take]; rfl)) ?_; (with_reducible refine (crc_Frame.calls _ _ (rd_L2 l0 x7_1) t252 t253 _ ?side1 ?side2 A11.out).mono ?_); (case side1 => repeat (first | exact (Kd.C_below HR251_0.out HB.out) | (with_reducible refine Kd.C_alloc ?_ _) | (with_reducible refine Kd.C_drewN ?_ _) | (with_reducible refine Kd.C_drew ?_))); (case side2 => exact HC251_0.out); rintro e w15 ⟨v254, rfl, ho0, hb⟩; refine ⟨_, rfl, ?_⟩; have n0_ := Aside0.mk (Kd.R_elder' (by (with_reducible repeat (first | apply Kd.R_alloc | apply Kd.R_drewN | apply Kd.R_drew)); exact HO_5.out) (Kd.R_base ho0) hb); have n1_ := Aside0.mk (Kd.R_below (by (with_reducible repeat (first | apply Kd.R_alloc | apply Kd.R_drewN | apply Kd.R_drew)); exact HO_6.out) hb); have n2_ := Aside0.mk (Kd.R_lower (Kd.R_new' ho0 (Kd.R_lt (by (with_reducible repeat (first | apply Kd.R_alloc | apply Kd.R_drewN | apply Kd.R_drew)); exact HO_5.out))) (below_size (by repeat (first | (with_reducible first | exact HB.out | apply below_alloc | apply pw_below_drewN | apply below_drew1) | exact HB.out)))); have n3_ := Aside0.mk (below_step (by repeat (first | (with_reducible first | exact HB.out | apply below_alloc | apply pw_below_drewN | apply below_drew1) | exact HB.out)) hb); clear HO_5; clear HO_6; clear HB; have HO_5 := n0_; have HO_6 := n1_; have HO255 := n2_; have HB := n3_; clear n0_ n1_ n2_ n3_; (try clear hb); (try clear hb2); (try clear hk); (try clear hi); (try clear ho0); obtain ⟨Ao17, co17, eo17⟩ := Kd.R_slice HO255.out; subst eo17) | ((with_reducible refine gate_builtin (b := .append) (xs := #[.tmp 40, .tmp 41]) rfl ?_); (try (refine gate_guard (by rfl) ?_; dsimp only)); at_builtin; refine Kd.R_append_rows (Kd.int .u8) (w0 := w) w.heap.size rfl (.tmp 40) (.tmp 41) 22 5 (.int .u8 0) 1 rfl Try.underlying22 info5 rfl (by decide) (by omega) u5 x5_1 t252 _ _ _ (fun k_ => some k_ ≠ (.slice Ao17 t252.length co17 : Value).ownBlock) (fun _ => False) rfl rfl ?aO ?aR (fun _ _ h => h) (fun _ h => h.elim) ?aF ?aB ?aS ?aL ?_; (case aR => repeat (first | exact (Kd.R_reads' HO255.out).2.2 | (with_reducible refine Kd.C_alloc ?_ _) | (with_reducible refine Kd.C_drewN ?_ _) | (with_reducible refine Kd.C_drew ?_))); (case aB => exact (by repeat (first | (with_reducible first | exact HB.out | apply below_alloc | apply pw_below_drewN | apply below_drew1) | exact HB.out))); (case aF => exact (fun k_ hk => Kd.fresh' (Kd.R_lt (by (with_reducible repeat (first | apply Kd.R_alloc | apply Kd.R_drewN | apply Kd.R_drew)); exact HO255.out)) k_ hk)); (case aO => exact (by (with_reducible repeat (first | apply Kd.R_alloc | apply Kd.R_drewN | apply Kd.R_drew)); exact Kd.R_mono HO_5.out (fun _ hk => hk.2))); (case aS => exact (below_size (by repeat (first | (with_reducible first | exact HB.out | apply below_alloc | apply pw_below_drewN | apply below_drew1) | exact HB.out)))); (case aL => have := LMc13.out; omega); intro v257 w16 ho hb hg hat; rw [← Ny256.out] at ho; have n0_ := Aside0.mk (Kd.R_over' (by (with_reducible repeat (first | apply Kd.R_alloc | apply Kd.R_drewN | apply Kd.R_drew)); exact HO_6.out) (Kd.R_typed (by (with_reducible repeat (first | apply Kd.R_alloc | apply Kd.R_drewN | apply Kd.R_drew)); exact HO_5.out)) (by decide) hg); have n1_ := Aside0.mk (Kd.R_after (ok := (fun _ => True)) (by (with_reducible repeat (first | apply Kd.R_alloc | apply Kd.R_drewN | apply Kd.R_drew)); exact HO255.out) hg hat); have n2_ := Aside0.mk (hb); have n3_ := Aside0.mk (ho); clear HO_6; clear HO255; clear HB; clear HO_5; have HO_6 := n0_; have HO255 := n1_; have HB := n2_; have HO258 := n3_; clear n0_ n1_ n2_ n3_; clear ho hb hg hat; obtain ⟨Ao18, co18, eo18⟩ := Kd.R_slice HO258.out; subst eo18) | ((with_reducible refine gate_builtin (b := .append) (xs := #[.tmp 43, .tmp 46]) rfl ?_); (try (refine gate_guard (by rfl) ?_; dsimp only)); at_builtin; refine Kd.R_append (Kd.int .i64) (w0 := w) w.heap.size rfl (.tmp 43) (.tmp 46) 42 3 (.int .i64 0) 8 rfl Try.underlying42 info3 rfl (by decide) (by omega) u6 x6_1 (y256.length : Int) [.int .i64 (y256.length : Int)] (fun _ => True) (fun _ => False) rfl rfl ?aP (fun _ hk => hk.elim) ?aF ?aO ?aB ?aS ?aL ?_; (case aP => exact rfl); (case aB => exact (by repeat (first | (with_reducible first | exact HB.out | apply below_alloc | apply pw_below_drewN | apply below_drew1) | exact HB.out))); (case aF => exact (fun _ _ => trivial)); (case aO => exact (by (with_reducible repeat (first | apply Kd.R_alloc | apply Kd.R_drewN | apply Kd.R_drew)); exact HO_6.out)); (case aS => exact (below_size (by repeat (first | (with_reducible first | exact HB.out | apply below_alloc | apply pw_below_drewN | apply below_drew1) | exact HB.out)))); (case aL => have := LMc14.out; omega); intro v260 w19 ho hb hg hat; rw [← Ny259.out] at ho; have n0_ := Aside0.mk (Kd.R_over' (by (with_reducible repeat (first | apply Kd.R_alloc | apply Kd.R_drewN | apply Kd.R_drew)); exact HO255.out) (Kd.R_typed (by (with_reducible repeat (first | apply Kd.R_alloc | apply Kd.R_drewN | apply Kd.R_drew)); exact HO_6.out)) (by decide) hg); have n1_ := Aside0.mk (Kd.R_over' (by (with_reducible repeat (first | apply Kd.R_alloc | apply Kd.R_drewN | apply Kd.R_drew)); exact HO258.out) (Kd.R_typed (by (with_reducible repeat (first | apply Kd.R_alloc | apply Kd.R_drewN | apply Kd.R_drew)); exact HO_6.out)) (by decide) hg); have n2_ := Aside0.mk (hb); have n3_ := Aside0.mk (ho); clear HO255; clear HO258; clear HB; clear HO_6; have HO255 := n0_; have HO258 := n1_; have HB := n2_; have HO261 := n3_; clear n0_ n1_ n2_ n3_; clear ho hb hg hat))
                    go_roundg k1
                    case measure => have := HK1.out; omega
                    case rel => exact ⟨(y256), (y259), (wrap64 (x7_1 + 1)), (by first | rfl | (simp; done) | (simp [*]; done)), H', ⟨by have := HK1.out; omega⟩, ⟨by (with_reducible repeat (first | apply Kd.R_alloc | apply Kd.R_drewN | apply Kd.R_drew)); exact Kd.R_mono HO258.out (fun _ hk => trivial)⟩, ⟨by (with_reducible repeat (first | apply Kd.R_alloc | apply Kd.R_drewN | apply Kd.R_drew)); exact HO261.out⟩, ⟨by repeat (first | (with_reducible first | exact HB.out | apply below_alloc | apply pw_below_drewN | apply below_drew1) | exact HB.out)⟩⟩
                  · rw [if_neg c14] at H
                    exact absurd H (by simp)
                · rw [if_neg c13] at H
                  exact absurd H (by simp)
              · rw [if_neg c12] at H
                have c12b0 : (t253 == 0) = false := beq_eq_false_iff_ne.mpr c12
                have c12b1 : (t253 != 0) = true := bne_iff_ne.mpr c12
                exact absurd ((Option.some.inj H).trans HR_.out) (by decide)
          · rw [if_neg c7] at H
            exact absurd H (by simp)
        · rw [if_neg c6] at H
          have c6b0 : decide (x7_1 < (l0.length : Int)) = false := decide_eq_false c6
          clear c6
          replace H := Option.bind_eq_some_iff.mp H
          obtain ⟨⟨t262, t263⟩, A200, H⟩ := H
          replace H : ((rickyardref05_Same.f k1 t262 l0).bind fun t266 => (if t266 = true then (rickyardlaw05_CrcBack.j1 k1 l0 a1 x5_1 x6_1 (t263 != (x5_1.length : Int))) else (rickyardlaw05_CrcBack.j1 k1 l0 a1 x5_1 x6_1 true))) = some r := H
          have A20 := Aside0.mk A200
          clear A200
          have HC21 := Aside0.mk H
          clear H
          obtain ⟨Ao22, co22, eo22⟩ := Kd.R_slice HO_5.out
          subst eo22
          go_upto_region 16 with (first | ((with_reducible refine gate_callee (f := 19) rfl ?_); refine goesL_ (some 50) rfl rfl Try.func19 (by kernel_rfl) rfl #[.slice Ao22 x5_1.length co22] rfl (by (try simp only [List.map_toArray, List.map_cons, List.map_nil]); first | done | rfl | (simp only [List.length_drop, List.length_take]; rfl)) ?_; (with_reducible refine (crc_All.calls _ _ x5_1 t262 t263 _ ?side1 ?side2 A20.out).mono ?_); (case side1 => repeat (first | exact (Kd.R_reads' HO_5.out).2.2 | (with_reducible refine Kd.C_alloc ?_ _) | (with_reducible refine Kd.C_drewN ?_ _) | (with_reducible refine Kd.C_drew ?_))); (case side2 => exact (Kd.R_reads' HO_5.out).2.1); rintro e w23 ⟨v264, rfl, ho0, hb⟩; refine ⟨_, rfl, ?_⟩; have n0_ := Aside0.mk (Kd.R_below (by (with_reducible repeat (first | apply Kd.R_alloc | apply Kd.R_drewN | apply Kd.R_drew)); exact HO_5.out) hb); have n1_ := Aside0.mk (Kd.R_below (by (with_reducible repeat (first | apply Kd.R_alloc | apply Kd.R_drewN | apply Kd.R_drew)); exact HO_6.out) hb); have n2_ := Aside0.mk (Kd.S_lower (Kd.S_new' ho0 (Kd.R_lt (by (with_reducible repeat (first | apply Kd.R_alloc | apply Kd.R_drewN | apply Kd.R_drew)); exact HO_5.out))) (below_size (by repeat (first | (with_reducible first | exact HB.out | apply below_alloc | apply pw_below_drewN | apply below_drew1) | exact HB.out)))); have n3_ := Aside0.mk (below_step (by repeat (first | (with_reducible first | exact HB.out | apply below_alloc | apply pw_below_drewN | apply below_drew1) | exact HB.out)) hb); clear HO_5; clear HO_6; clear HB; have HO_5 := n0_; have HO_6 := n1_; have HO265 := n2_; have HB := n3_; clear n0_ n1_ n2_ n3_; (try clear hb); (try clear hb2); (try clear hk); (try clear hi); (try clear ho0)))
          (try simp only [Act.put, List.setIfInBounds_toArray, List.set_cons_zero, List.set_cons_succ])
          go_cut [62] (fun v62 wc => ∃ (kq : Nat) (x62_20 : Bool), v62 = .bool x62_20 ∧ Aside0 (rickyardlaw05_CrcBack.j1 kq l0 a1 x5_1 x6_1 x62_20 = some r) ∧ Aside0 (kq ≤ k1) ∧ Aside0 (Kd.R (Kd.int .u8) 5 wc w.heap.size (fun _ => True) (.slice Ao22 x5_1.length co22) x5_1) ∧ Aside0 (Kd.R (Kd.int .i64) 3 wc w.heap.size (fun _ => True) u6 x6_1) ∧ Aside0 (Below w.heap.size w wc))
          case first =>
            have H := HC21.out
            clear HC21
            replace H := Option.bind_eq_some_iff.mp H
            obtain ⟨t266, A240, H⟩ := H
            replace H : (if t266 = true then (rickyardlaw05_CrcBack.j1 k1 l0 a1 x5_1 x6_1 (t263 != (x5_1.length : Int))) else (rickyardlaw05_CrcBack.j1 k1 l0 a1 x5_1 x6_1 true)) = some r := H
            have A24 := Aside0.mk A240
            clear A240
            by_cases c25 : t266 = true
            · subst c25
              have H1 : (rickyardlaw05_CrcBack.j1 k1 l0 a1 x5_1 x6_1 (t263 != (x5_1.length : Int))) = some r := by rw [if_pos rfl] at H; exact H
              clear H
              have H := H1
              clear H1
              have H' := Aside0.mk H
              clear H
              obtain ⟨Ao26, co26, eo26⟩ := Kd.S_slice HO265.out
              subst eo26
              go_wp2_with (first | ((with_reducible refine gate_callee (f := 22) rfl ?_); refine goesL_ (some 55) rfl rfl Try.func22 (by kernel_rfl) rfl #[.slice Ao26 t262.length co26, .slice A0 l0.length c0] rfl (by (try simp only [List.map_toArray, List.map_cons, List.map_nil]); first | done | rfl | (simp only [List.length_drop, List.length_take]; rfl)) ?_; (with_reducible refine (rickyardref05_Same.calls k1 _ _ t262 _ _ l0 true _ ?side1 ?side2 ?side3 ?side4 A24.out).mono ?_); (case side1 => repeat (first | exact (Kd.S_reads' HO265.out).2.2 | (with_reducible refine Kd.C_alloc ?_ _) | (with_reducible refine Kd.C_drewN ?_ _) | (with_reducible refine Kd.C_drew ?_))); (case side2 => exact (Kd.S_reads' HO265.out).2.1); (case side3 => repeat (first | exact (Kd.C_below HR0.out HB.out) | (with_reducible refine Kd.C_alloc ?_ _) | (with_reducible refine Kd.C_drewN ?_ _) | (with_reducible refine Kd.C_drew ?_))); (case side4 => exact HC0.out); rintro e w' ⟨rfl, ⟨nd, rfl⟩⟩; refine ⟨_, rfl, ?_⟩))
              go_meet
              case rel => exact ⟨_, ((t263 != (x5_1.length : Int))), (by first | rfl | (simp; done) | (simp [*]; done)), H', ⟨by have := HK1.out; first | omega | exact Nat.le_refl _⟩, ⟨by (with_reducible repeat (first | apply Kd.R_alloc | apply Kd.R_drewN | apply Kd.R_drew)); exact HO_5.out⟩, ⟨by (with_reducible repeat (first | apply Kd.R_alloc | apply Kd.R_drewN | apply Kd.R_drew)); exact HO_6.out⟩, ⟨by repeat (first | (with_reducible first | exact HB.out | apply below_alloc | apply pw_below_drewN | apply below_drew1) | exact HB.out)⟩⟩
            · replace c25 := Bool.eq_false_iff.mpr c25
              subst c25
              have H1 : (rickyardlaw05_CrcBack.j1 k1 l0 a1 x5_1 x6_1 true) = some r := by rw [if_neg (show ¬ (false = true) by decide)] at H; exact H
              clear H
              have H := H1
              clear H1
              have H' := Aside0.mk H
              clear H
              obtain ⟨Ao27, co27, eo27⟩ := Kd.S_slice HO265.out
              subst eo27
              go_wp2_with (first | ((with_reducible refine gate_callee (f := 22) rfl ?_); refine goesL_ (some 55) rfl rfl Try.func22 (by kernel_rfl) rfl #[.slice Ao27 t262.length co27, .slice A0 l0.length c0] rfl (by (try simp only [List.map_toArray, List.map_cons, List.map_nil]); first | done | rfl | (simp only [List.length_drop, List.length_take]; rfl)) ?_; (with_reducible refine (rickyardref05_Same.calls k1 _ _ t262 _ _ l0 false _ ?side1 ?side2 ?side3 ?side4 A24.out).mono ?_); (case side1 => repeat (first | exact (Kd.S_reads' HO265.out).2.2 | (with_reducible refine Kd.C_alloc ?_ _) | (with_reducible refine Kd.C_drewN ?_ _) | (with_reducible refine Kd.C_drew ?_))); (case side2 => exact (Kd.S_reads' HO265.out).2.1); (case side3 => repeat (first | exact (Kd.C_below HR0.out HB.out) | (with_reducible refine Kd.C_alloc ?_ _) | (with_reducible refine Kd.C_drewN ?_ _) | (with_reducible refine Kd.C_drew ?_))); (case side4 => exact HC0.out); rintro e w' ⟨rfl, ⟨nd, rfl⟩⟩; refine ⟨_, rfl, ?_⟩))
              go_meet
              case rel => exact ⟨_, (true), (by first | rfl | (simp; done) | (simp [*]; done)), H', ⟨by have := HK1.out; first | omega | exact Nat.le_refl _⟩, ⟨by (with_reducible repeat (first | apply Kd.R_alloc | apply Kd.R_drewN | apply Kd.R_drew)); exact HO_5.out⟩, ⟨by (with_reducible repeat (first | apply Kd.R_alloc | apply Kd.R_drewN | apply Kd.R_drew)); exact HO_6.out⟩, ⟨by repeat (first | (with_reducible first | exact HB.out | apply below_alloc | apply pw_below_drewN | apply below_drew1) | exact HB.out)⟩⟩
          case rest =>
            clear HC21
            try clear c1
            try clear c2
            try clear p2
            try clear q2
            try clear hx2
            try clear c3
            try clear c3b0
            try clear c3b1
            try clear c6
            try clear c6b0
            try clear p6
            try clear c7
            try clear c7b0
            try clear c8
            try clear c8b0
            try clear c8b1
            try clear c10
            try clear c12
            try clear c12b0
            try clear c12b1
            try clear c13
            try clear c14
            try clear c16
            try clear c19
            try clear c22
            try clear c24
            try clear p24
            try clear q24
            try clear hx24
            try clear c25
            try clear p25
            try clear q25
            try clear hx25
            try clear hx249_0
            try clear hx251_0
            try clear p2
            try clear p249
            try clear p251
            try clear q249
            try clear q251
            obtain ⟨kq, x62_20, rfl, HA, HJ20, HO_5, HO_6, HB⟩ := hcut
            cases kq with
            | zero => exact absurd HA.out (by simp [rickyardlaw05_CrcBack.j1])
            | succ kj20 =>
              have H := HA.out
              clear HA
              simp only [rickyardlaw05_CrcBack.j1] at H
              by_cases c28 : x62_20 = true
              · subst c28
                have H1 : (some false) = some r := by rw [if_pos rfl] at H; exact H
                clear H
                have H := H1
                clear H1
                exact absurd ((Option.some.inj H).trans HR_.out) (by decide)
              · replace c28 := Bool.eq_false_iff.mpr c28
                subst c28
                have H1 : (if a1 < 0 then (rickyardlaw05_CrcBack.j2 kj20 l0 a1 x5_1 x6_1 true) else (rickyardlaw05_CrcBack.j2 kj20 l0 a1 x5_1 x6_1 (decide (a1 > (x5_1.length : Int))))) = some r := by rw [if_neg (show ¬ (false = true) by decide)] at H; exact H
                clear H
                have H := H1
                clear H1
                have HC29 := Aside0.mk H
                clear H
                go_upto_region 18 with (fail)
                go_cut [70] (fun v70 wc => ∃ (kq : Nat) (x70_28 : Bool), v70 = .bool x70_28 ∧ Aside0 (rickyardlaw05_CrcBack.j2 kq l0 a1 x5_1 x6_1 x70_28 = some r) ∧ Aside0 (kq ≤ kj20) ∧ Aside0 (Kd.R (Kd.int .u8) 5 wc w.heap.size (fun _ => True) (.slice Ao22 x5_1.length co22) x5_1) ∧ Aside0 (Kd.R (Kd.int .i64) 3 wc w.heap.size (fun _ => True) u6 x6_1) ∧ Aside0 (Below w.heap.size w wc))
                case first =>
                  have H := HC29.out
                  clear HC29
                  by_cases c30 : a1 < 0
                  · rw [if_pos c30] at H
                    have c30b0 : decide (a1 < 0) = true := decide_eq_true c30
                    clear c30
                    (first | rw [c30b0] | (simp only [i64_w, i32_w]; rw [c30b0]) | skip)
                    have H' := Aside0.mk H
                    clear H
                    go_wp2
                    go_meet
                    case rel => exact ⟨_, (true), (by first | rfl | (simp; done) | (simp [*]; done)), H', ⟨by have := HK1.out; have := HJ20.out; first | omega | exact Nat.le_refl _⟩, ⟨by (with_reducible repeat (first | apply Kd.R_alloc | apply Kd.R_drewN | apply Kd.R_drew)); exact HO_5.out⟩, ⟨by (with_reducible repeat (first | apply Kd.R_alloc | apply Kd.R_drewN | apply Kd.R_drew)); exact HO_6.out⟩, ⟨by repeat (first | (with_reducible first | exact HB.out | apply below_alloc | apply pw_below_drewN | apply below_drew1) | exact HB.out)⟩⟩
                  · rw [if_neg c30] at H
                    have c30b0 : decide (a1 < 0) = false := decide_eq_false c30
                    clear c30
                    (first | rw [c30b0] | (simp only [i64_w, i32_w]; rw [c30b0]) | skip)
                    have H' := Aside0.mk H
                    clear H
                    go_wp2
                    go_meet
                    case rel => exact ⟨_, (decide (a1 > (x5_1.length : Int))), (by first | rfl | (simp; done) | (simp [*]; done)), H', ⟨by have := HK1.out; have := HJ20.out; first | omega | exact Nat.le_refl _⟩, ⟨by (with_reducible repeat (first | apply Kd.R_alloc | apply Kd.R_drewN | apply Kd.R_drew)); exact HO_5.out⟩, ⟨by (with_reducible repeat (first | apply Kd.R_alloc | apply Kd.R_drewN | apply Kd.R_drew)); exact HO_6.out⟩, ⟨by repeat (first | (with_reducible first | exact HB.out | apply below_alloc | apply pw_below_drewN | apply below_drew1) | exact HB.out)⟩⟩
                case rest =>
                  clear HC29
                  try clear c1
                  try clear c2
                  try clear p2
                  try clear q2
                  try clear hx2
                  try clear c3
                  try clear c3b0
                  try clear c3b1
                  try clear c6
                  try clear c6b0
                  try clear p6
                  try clear c7
                  try clear c7b0
                  try clear c8
                  try clear c8b0
                  try clear c8b1
                  try clear c10
                  try clear c12
                  try clear c12b0
                  try clear c12b1
                  try clear c13
                  try clear c14
                  try clear c16
                  try clear c19
                  try clear c22
                  try clear c24
                  try clear p24
                  try clear q24
                  try clear hx24
                  try clear c25
                  try clear p25
                  try clear q25
                  try clear hx25
                  try clear c28
                  try clear c30
                  try clear c30b0
                  try clear hx249_0
                  try clear hx251_0
                  try clear p2
                  try clear p24
                  try clear p249
                  try clear p25
                  try clear p251
                  try clear p6
                  try clear q2
                  try clear q24
                  try clear q249
                  try clear q25
                  try clear q251
                  obtain ⟨kq, x70_28, rfl, HA, HJ28, HO_5, HO_6, HB⟩ := hcut
                  cases kq with
                  | zero => exact absurd HA.out (by simp [rickyardlaw05_CrcBack.j2])
                  | succ kj28 =>
                    have H := HA.out
                    clear HA
                    simp only [rickyardlaw05_CrcBack.j2] at H
                    by_cases c31 : x70_28 = true
                    · subst c31
                      have H1 : ((rickyardlaw05_alive.f).bind fun t267 => (some t267)) = some r := by rw [if_pos rfl] at H; exact H
                      clear H
                      have H := H1
                      clear H1
                      replace H := Option.bind_eq_some_iff.mp H
                      obtain ⟨t267, A320, H⟩ := H
                      replace H : (some t267) = some r := H
                      have A32 := Aside0.mk A320
                      clear A320
                      obtain rfl := Option.some.inj H
                      go_wp2_with (first | ((with_reducible refine gate_callee (f := 10) rfl ?_); refine goesL_ (some 71) rfl rfl Try.func10 (by kernel_rfl) rfl #[] rfl (by (try simp only [List.map_toArray, List.map_cons, List.map_nil]); first | done | rfl | (simp only [List.length_drop, List.length_take]; rfl)) ?_; (with_reducible refine (rickyardlaw05_alive.calls  t267 _ A32.out).mono ?_); rintro e w33 ⟨rfl, hb⟩; refine ⟨_, rfl, ?_⟩; have n0_ := Aside0.mk (Kd.R_below (by (with_reducible repeat (first | apply Kd.R_alloc | apply Kd.R_drewN | apply Kd.R_drew)); exact HO_5.out) hb); have n1_ := Aside0.mk (Kd.R_below (by (with_reducible repeat (first | apply Kd.R_alloc | apply Kd.R_drewN | apply Kd.R_drew)); exact HO_6.out) hb); have n2_ := Aside0.mk (below_step (by repeat (first | (with_reducible first | exact HB.out | apply below_alloc | apply pw_below_drewN | apply below_drew1) | exact HB.out)) hb); clear HO_5; clear HO_6; clear HB; have HO_5 := n0_; have HO_6 := n1_; have HB := n2_; clear n0_ n1_ n2_; (try clear hb); (try clear hb2); (try clear hk); (try clear hi)))
                      go_ret
                      exact ⟨by first | rfl | (simp [errW_none, errW_some] <;> rfl) | (simp [*, errW_none, errW_some] <;> rfl), by repeat (first | (with_reducible first | exact HB.out | apply below_alloc | apply pw_below_drewN | apply below_drew1) | exact HB.out)⟩
                    · replace c31 := Bool.eq_false_iff.mpr c31
                      subst c31
                      have H1 : (rickyardlaw05_CrcBack.l1 kj28 l0 a1 x5_1 x6_1 0) = some r := by rw [if_neg (show ¬ (false = true) by decide)] at H; exact H
                      clear H
                      have H := H1
                      clear H1
                      have H' := Aside0.mk H
                      clear H
                      go_wp2
                      go_loopg [12] kj28 (fun kq v12 w' => ∃ (x12_4 : Int), v12 = .int .i64 x12_4 ∧ Aside0 (rickyardlaw05_CrcBack.l1 kq l0 a1 x5_1 x6_1 x12_4 = some r) ∧ Aside0 (kq ≤ kj28) ∧ Aside0 (Kd.R (Kd.int .u8) 5 w' w.heap.size (fun _ => True) (.slice Ao22 x5_1.length co22) x5_1) ∧ Aside0 (Kd.R (Kd.int .i64) 3 w' w.heap.size (fun _ => True) u6 x6_1) ∧ Aside0 (Below w.heap.size w w'))
                      case atStart => exact ⟨(0), (by first | rfl | (simp; done) | (simp [*]; done)), H', ⟨Nat.le_refl _⟩, ⟨by (with_reducible repeat (first | apply Kd.R_alloc | apply Kd.R_drewN | apply Kd.R_drew)); exact HO_5.out⟩, ⟨by (with_reducible repeat (first | apply Kd.R_alloc | apply Kd.R_drewN | apply Kd.R_drew)); exact HO_6.out⟩, ⟨by repeat (first | (with_reducible first | exact HB.out | apply below_alloc | apply pw_below_drewN | apply below_drew1) | exact HB.out)⟩⟩
                      case round =>
                        clear H'
                        try clear c1
                        try clear c2
                        try clear p2
                        try clear q2
                        try clear hx2
                        try clear c3
                        try clear c3b0
                        try clear c3b1
                        try clear c6
                        try clear c6b0
                        try clear p6
                        try clear c7
                        try clear c7b0
                        try clear c8
                        try clear c8b0
                        try clear c8b1
                        try clear c10
                        try clear c12
                        try clear c12b0
                        try clear c12b1
                        try clear c13
                        try clear c14
                        try clear c16
                        try clear c19
                        try clear c22
                        try clear c24
                        try clear p24
                        try clear q24
                        try clear hx24
                        try clear c25
                        try clear p25
                        try clear q25
                        try clear hx25
                        try clear c28
                        try clear c30
                        try clear c30b0
                        try clear c31
                        try clear hx249_0
                        try clear hx251_0
                        try clear p2
                        try clear p24
                        try clear p249
                        try clear p25
                        try clear p251
                        try clear p6
                        try clear q2
                        try clear q24
                        try clear q249
                        try clear q25
                        try clear q251
                        obtain ⟨x12_4, rfl, HA, HK4, HO_5, HO_6, HB⟩ := hrel
                        cases gk with
                        | zero => exact absurd HA.out (by simp [rickyardlaw05_CrcBack.l1])
                        | succ k4 =>
                          have H := HA.out
                          clear HA
                          simp only [rickyardlaw05_CrcBack.l1] at H
                          by_cases c34 : x12_4 < (x6_1.length : Int)
                          · rw [if_pos c34] at H
                            have c34b0 : decide (x12_4 < (x6_1.length : Int)) = true := decide_eq_true c34
                            clear c34
                            by_cases c35 : 0 ≤ x12_4
                            · rw [if_pos c35] at H
                              have c35b0 : decide (0 ≤ x12_4) = true := decide_eq_true c35
                              clear c35
                              by_cases c36 : (rd x6_1 x12_4) ≤ a1
                              · rw [if_pos c36] at H
                                have c36b0 : decide ((rd x6_1 x12_4) ≤ a1) = true := decide_eq_true c36
                                clear c36
                                have H' := Aside0.mk H
                                clear H
                                obtain ⟨Ao37, co37, eo37⟩ := Kd.R_slice HO_6.out
                                subst eo37
                                have p268 : 0 ≤ (x12_4 : Int) := of_decide_eq_true (by first | (with_reducible assumption) | assumption)
                                have q268 : x12_4 < (x6_1.length : Int) := of_decide_eq_true (by first | (with_reducible assumption) | assumption)
                                obtain ⟨ad268, e268, hx268_0⟩ := Kd.at_int (Kd.R_reads' HO_6.out).2.2 x12_4 p268 q268
                                cases e268
                                replace p268 := eq_true p268
                                replace q268 := eq_true q268
                                go_wp2
                                go_roundg k4
                                case measure => have := HK1.out; have := HJ20.out; have := HJ28.out; have := HK4.out; omega
                                case rel => exact ⟨(wrap64 (x12_4 + 1)), (by first | rfl | (simp; done) | (simp [*]; done)), H', ⟨by have := HK1.out; have := HJ20.out; have := HJ28.out; have := HK4.out; omega⟩, ⟨by (with_reducible repeat (first | apply Kd.R_alloc | apply Kd.R_drewN | apply Kd.R_drew)); exact HO_5.out⟩, ⟨by (with_reducible repeat (first | apply Kd.R_alloc | apply Kd.R_drewN | apply Kd.R_drew)); exact HO_6.out⟩, ⟨by repeat (first | (with_reducible first | exact HB.out | apply below_alloc | apply pw_below_drewN | apply below_drew1) | exact HB.out)⟩⟩
                              · rw [if_neg c36] at H
                                have c36b0 : decide ((rd x6_1 x12_4) ≤ a1) = false := decide_eq_false c36
                                clear c36
                                by_cases c38 : 0 ≤ a1
                                · rw [if_pos c38] at H
                                  have c38b0 := eq_true c38
                                  have c38b1 : decide (0 ≤ a1) = true := decide_eq_true c38
                                  clear c38
                                  by_cases c39 : a1 ≤ (x5_1.length : Int)
                                  · rw [if_pos c39] at H
                                    have c39b0 := eq_true c39
                                    have c39b1 : decide (a1 ≤ (x5_1.length : Int)) = true := decide_eq_true c39
                                    clear c39
                                    obtain ⟨y269, hy269⟩ : ∃ y_ : List Int, y_ = (x5_1.take (a1 : Int).toNat) := ⟨_, rfl⟩
                                    replace H : ((crc_All.f y269).bind fun bt273 => ((rickyardlaw05_alive.f).bind fun t277 => (if t277 = true then (if x12_4 ≤ (l0.length : Int) then ((rickyardref05_Same.f k4 bt273.1 (l0.take (x12_4 : Int).toNat)).bind fun t282 => (if t282 = true then (if x12_4 = 0 then (if bt273.2 = 0 then (some true) else (if x12_4 > 0 then (if 0 ≤ (wrap64 (x12_4 - 1)) then (if (wrap64 (x12_4 - 1)) < (x6_1.length : Int) then (some (bt273.2 == (rd x6_1 (wrap64 (x12_4 - 1))))) else (none)) else (none)) else (some false))) else (if x12_4 > 0 then (if 0 ≤ (wrap64 (x12_4 - 1)) then (if (wrap64 (x12_4 - 1)) < (x6_1.length : Int) then (some (bt273.2 == (rd x6_1 (wrap64 (x12_4 - 1))))) else (none)) else (none)) else (some false))) else (some false))) else (none)) else (some false)))) = some r := by first | (rw [hy269]; with_reducible exact H) | (have H2_ := (Option.bind_some _ _).symm.trans H; rw [hy269]; with_reducible exact H2_) | (have H2_ := (Option.bind_some _ _).symm.trans H; with_reducible exact H2_) | with_reducible exact H | (rw [hy269]; exact H) | exact H
                                    have Ny269 := Aside0.mk hy269
                                    clear hy269
                                    replace H := Option.bind_eq_some_iff.mp H
                                    obtain ⟨⟨t273, t274⟩, A400, H⟩ := H
                                    replace H : ((rickyardlaw05_alive.f).bind fun t277 => (if t277 = true then (if x12_4 ≤ (l0.length : Int) then ((rickyardref05_Same.f k4 t273 (l0.take (x12_4 : Int).toNat)).bind fun t282 => (if t282 = true then (if x12_4 = 0 then (if t274 = 0 then (some true) else (if x12_4 > 0 then (if 0 ≤ (wrap64 (x12_4 - 1)) then (if (wrap64 (x12_4 - 1)) < (x6_1.length : Int) then (some (t274 == (rd x6_1 (wrap64 (x12_4 - 1))))) else (none)) else (none)) else (some false))) else (if x12_4 > 0 then (if 0 ≤ (wrap64 (x12_4 - 1)) then (if (wrap64 (x12_4 - 1)) < (x6_1.length : Int) then (some (t274 == (rd x6_1 (wrap64 (x12_4 - 1))))) else (none)) else (none)) else (some false))) else (some false))) else (none)) else (some false))) = some r := H
                                    have A40 := Aside0.mk A400
                                    clear A400
                                    replace H := Option.bind_eq_some_iff.mp H
                                    obtain ⟨t277, A410, H⟩ := H
                                    replace H : (if t277 = true then (if x12_4 ≤ (l0.length : Int) then ((rickyardref05_Same.f k4 t273 (l0.take (x12_4 : Int).toNat)).bind fun t282 => (if t282 = true then (if x12_4 = 0 then (if t274 = 0 then (some true) else (if x12_4 > 0 then (if 0 ≤ (wrap64 (x12_4 - 1)) then (if (wrap64 (x12_4 - 1)) < (x6_1.length : Int) then (some (t274 == (rd x6_1 (wrap64 (x12_4 - 1))))) else (none)) else (none)) else (some false))) else (if x12_4 > 0 then (if 0 ≤ (wrap64 (x12_4 - 1)) then (if (wrap64 (x12_4 - 1)) < (x6_1.length : Int) then (some (t274 == (rd x6_1 (wrap64 (x12_4 - 1))))) else (none)) else (none)) else (some false))) else (some false))) else (none)) else (some false)) = some r := H
                                    have A41 := Aside0.mk A410
                                    clear A410
                                    by_cases c42 : t277 = true
                                    · subst c42
                                      have H1 : (if x12_4 ≤ (l0.length : Int) then ((rickyardref05_Same.f k4 t273 (l0.take (x12_4 : Int).toNat)).bind fun t282 => (if t282 = true then (if x12_4 = 0 then (if t274 = 0 then (some true) else (if x12_4 > 0 then (if 0 ≤ (wrap64 (x12_4 - 1)) then (if (wrap64 (x12_4 - 1)) < (x6_1.length : Int) then (some (t274 == (rd x6_1 (wrap64 (x12_4 - 1))))) else (none)) else (none)) else (some false))) else (if x12_4 > 0 then (if 0 ≤ (wrap64 (x12_4 - 1)) then (if (wrap64 (x12_4 - 1)) < (x6_1.length : Int) then (some (t274 == (rd x6_1 (wrap64 (x12_4 - 1))))) else (none)) else (none)) else (some false))) else (some false))) else (none)) = some r := by rw [if_pos rfl] at H; exact H
                                      clear H
                                      have H := H1
                                      clear H1
                                      have c43b0 := eq_true (of_decide_eq_true (by first | (with_reducible assumption) | assumption) : 0 ≤ x12_4)
                                      by_cases c44 : x12_4 ≤ (l0.length : Int)
                                      · rw [if_pos c44] at H
                                        have c44b0 := eq_true c44
                                        have c44b1 : decide (x12_4 ≤ (l0.length : Int)) = true := decide_eq_true c44
                                        clear c44
                                        obtain ⟨y278, hy278⟩ : ∃ y_ : List (List Int), y_ = (l0.take (x12_4 : Int).toNat) := ⟨_, rfl⟩
                                        replace H : ((rickyardref05_Same.f k4 t273 y278).bind fun t282 => (if t282 = true then (if x12_4 = 0 then (if t274 = 0 then (some true) else (if x12_4 > 0 then (if 0 ≤ (wrap64 (x12_4 - 1)) then (if (wrap64 (x12_4 - 1)) < (x6_1.length : Int) then (some (t274 == (rd x6_1 (wrap64 (x12_4 - 1))))) else (none)) else (none)) else (some false))) else (if x12_4 > 0 then (if 0 ≤ (wrap64 (x12_4 - 1)) then (if (wrap64 (x12_4 - 1)) < (x6_1.length : Int) then (some (t274 == (rd x6_1 (wrap64 (x12_4 - 1))))) else (none)) else (none)) else (some false))) else (some false))) = some r := by first | (rw [hy278]; with_reducible exact H) | (have H2_ := (Option.bind_some _ _).symm.trans H; rw [hy278]; with_reducible exact H2_) | (have H2_ := (Option.bind_some _ _).symm.trans H; with_reducible exact H2_) | with_reducible exact H | (rw [hy278]; exact H) | exact H
                                        have Ny278 := Aside0.mk hy278
                                        clear hy278
                                        replace H := Option.bind_eq_some_iff.mp H
                                        obtain ⟨t282, A450, H⟩ := H
                                        replace H : (if t282 = true then (if x12_4 = 0 then (if t274 = 0 then (some true) else (if x12_4 > 0 then (if 0 ≤ (wrap64 (x12_4 - 1)) then (if (wrap64 (x12_4 - 1)) < (x6_1.length : Int) then (some (t274 == (rd x6_1 (wrap64 (x12_4 - 1))))) else (none)) else (none)) else (some false))) else (if x12_4 > 0 then (if 0 ≤ (wrap64 (x12_4 - 1)) then (if (wrap64 (x12_4 - 1)) < (x6_1.length : Int) then (some (t274 == (rd x6_1 (wrap64 (x12_4 - 1))))) else (none)) else (none)) else (some false))) else (some false)) = some r := H
                                        have A45 := Aside0.mk A450
                                        clear A450
                                        by_cases c46 : t282 = true
                                        · subst c46
                                          have H1 : (if x12_4 = 0 then (if t274 = 0 then (some true) else (if x12_4 > 0 then (if 0 ≤ (wrap64 (x12_4 - 1)) then (if (wrap64 (x12_4 - 1)) < (x6_1.length : Int) then (some (t274 == (rd x6_1 (wrap64 (x12_4 - 1))))) else (none)) else (none)) else (some false))) else (if x12_4 > 0 then (if 0 ≤ (wrap64 (x12_4 - 1)) then (if (wrap64 (x12_4 - 1)) < (x6_1.length : Int) then (some (t274 == (rd x6_1 (wrap64 (x12_4 - 1))))) else (none)) else (none)) else (some false))) = some r := by rw [if_pos rfl] at H; exact H
                                          clear H
                                          have H := H1
                                          clear H1
                                          by_cases c47 : x12_4 = 0
                                          · rw [if_pos c47] at H
                                            have c47b0 : (x12_4 == 0) = true := beq_iff_eq.mpr c47
                                            have c47b1 : (x12_4 != 0) = false := bne_eq_false_iff_eq.mpr c47
                                            clear c47
                                            by_cases c48 : t274 = 0
                                            · rw [if_pos c48] at H
                                              have c48b0 : (t274 == 0) = true := beq_iff_eq.mpr c48
                                              have c48b1 : (t274 != 0) = false := bne_eq_false_iff_eq.mpr c48
                                              clear c48
                                              obtain rfl := Option.some.inj H
                                              obtain ⟨Ao49, co49, eo49⟩ := Kd.R_slice HO_6.out
                                              subst eo49
                                              have p268 : 0 ≤ (x12_4 : Int) := of_decide_eq_true (by first | (with_reducible assumption) | assumption)
                                              have q268 : x12_4 < (x6_1.length : Int) := of_decide_eq_true (by first | (with_reducible assumption) | assumption)
                                              obtain ⟨ad268, e268, hx268_0⟩ := Kd.at_int (Kd.R_reads' HO_6.out).2.2 x12_4 p268 q268
                                              cases e268
                                              replace p268 := eq_true p268
                                              replace q268 := eq_true q268
                                              have q50 : (a1 : Int) ≤ ((x5_1.length : Int) : Int) := of_decide_eq_true (by first | (with_reducible assumption) | assumption)
                                              obtain ⟨i050, hi050, _, hsz50, _⟩ := info_parts info5
                                              have hroom50 : x5_1.length ≤ co22 := (Kd.R_reads' HO_5.out).2.1
                                              have hC50 : Kd.C (Kd.int .u8) _ Ao22 x5_1.length x5_1 := (Kd.R_reads' HO_5.out).2.2
                                              have hcut50 := cut_to (P := Try.prog) 22 5 .i64 Try.underlying22 hi050 Ao22 x5_1.length co22 a1 (of_decide_eq_true (by first | (with_reducible assumption) | assumption)) q50 hroom50
                                              have hr50 := Kd.C_take (m := (a1 : Int).toNat) hC50 (by omega)
                                              have hy50 : y269.length = (a1 : Int).toNat := (by rw [Ny269.out, List.length_take]; omega)
                                              rw [← Ny269.out] at hr50
                                              rw [← hy50] at hcut50
                                              have HR272 := Aside0.mk hr50
                                              have HC272 := Aside0.mk (show y269.length ≤ co22 from by omega)
                                              clear hr50 hC50 hroom50 hi050 hsz50
                                              have KY50 := Aside0.mk hy50
                                              clear hy50
                                              have KL50 := Aside0.mk (show (a1 : Int).toNat ≤ x5_1.length from by omega)
                                              replace q50 := eq_true q50
                                              go_wp2_with (first | ((with_reducible refine gate_callee (f := 19) rfl ?_); refine goesL_ (some 90) rfl rfl Try.func19 (by kernel_rfl) rfl #[.slice Ao22 y269.length co22] rfl (by (try simp only [List.map_toArray, List.map_cons, List.map_nil]); first | done | rfl | (simp only [List.length_drop, List.length_take]; rfl)) ?_; (with_reducible refine (crc_All.calls _ _ y269 t273 t274 _ ?side1 ?side2 A40.out).mono ?_); (case side1 => repeat (first | exact (by repeat (first | (with_reducible exact HR272.out) | (with_reducible refine Kd.C_alloc ?_ _) | (with_reducible refine Kd.C_drewN ?_ _) | (with_reducible refine Kd.C_drew ?_) | exact HR272.out)) | (with_reducible refine Kd.C_alloc ?_ _) | (with_reducible refine Kd.C_drewN ?_ _) | (with_reducible refine Kd.C_drew ?_))); (case side2 => exact HC272.out); rintro e w51 ⟨v275, rfl, ho0, hb⟩; refine ⟨_, rfl, ?_⟩; have n0_ := Aside0.mk (Kd.R_below (by (with_reducible repeat (first | apply Kd.R_alloc | apply Kd.R_drewN | apply Kd.R_drew)); exact HO_5.out) hb); have n1_ := Aside0.mk (Kd.R_below (by (with_reducible repeat (first | apply Kd.R_alloc | apply Kd.R_drewN | apply Kd.R_drew)); exact HO_6.out) hb); have n2_ := Aside0.mk (Kd.S_lower (Kd.S_new' ho0 (Kd.R_lt (by (with_reducible repeat (first | apply Kd.R_alloc | apply Kd.R_drewN | apply Kd.R_drew)); exact HO_5.out))) (below_size (by repeat (first | (with_reducible first | exact HB.out | apply below_alloc | apply pw_below_drewN | apply below_drew1) | exact HB.out)))); have n3_ := Aside0.mk (Kd.C_below (by repeat (first | (with_reducible exact HR272.out) | (with_reducible refine Kd.C_alloc ?_ _) | (with_reducible refine Kd.C_drewN ?_ _) | (with_reducible refine Kd.C_drew ?_) | exact HR272.out)) hb); have n4_ := Aside0.mk (below_step (by repeat (first | (with_reducible first | exact HB.out | apply below_alloc | apply pw_below_drewN | apply below_drew1) | exact HB.out)) hb); clear HO_5; clear HO_6; clear HR272; clear HB; have HO_5 := n0_; have HO_6 := n1_; have HO276 := n2_; have HR272 := n3_; have HB := n4_; clear n0_ n1_ n2_ n3_ n4_; (try clear hb); (try clear hb2); (try clear hk); (try clear hi); (try clear ho0)) | ((with_reducible refine gate_callee (f := 10) rfl ?_); refine goesL_ (some 93) rfl rfl Try.func10 (by kernel_rfl) rfl #[] rfl (by (try simp only [List.map_toArray, List.map_cons, List.map_nil]); first | done | rfl | (simp only [List.length_drop, List.length_take]; rfl)) ?_; (with_reducible refine (rickyardlaw05_alive.calls  true _ A41.out).mono ?_); rintro e w52 ⟨rfl, hb⟩; refine ⟨_, rfl, ?_⟩; have n0_ := Aside0.mk (Kd.R_below (by (with_reducible repeat (first | apply Kd.R_alloc | apply Kd.R_drewN | apply Kd.R_drew)); exact HO_5.out) hb); have n1_ := Aside0.mk (Kd.R_below (by (with_reducible repeat (first | apply Kd.R_alloc | apply Kd.R_drewN | apply Kd.R_drew)); exact HO_6.out) hb); have n2_ := Aside0.mk (Kd.S_below (by (with_reducible repeat (first | apply Kd.S_alloc | apply Kd.S_drewN | apply Kd.S_drew)); exact HO276.out) hb); have n3_ := Aside0.mk (Kd.C_below (by repeat (first | (with_reducible exact HR272.out) | (with_reducible refine Kd.C_alloc ?_ _) | (with_reducible refine Kd.C_drewN ?_ _) | (with_reducible refine Kd.C_drew ?_) | exact HR272.out)) hb); have n4_ := Aside0.mk (below_step (by repeat (first | (with_reducible first | exact HB.out | apply below_alloc | apply pw_below_drewN | apply below_drew1) | exact HB.out)) hb); clear HO_5; clear HO_6; clear HO276; clear HR272; clear HB; have HO_5 := n0_; have HO_6 := n1_; have HO276 := n2_; have HR272 := n3_; have HB := n4_; clear n0_ n1_ n2_ n3_ n4_; (try clear hb); (try clear hb2); (try clear hk); (try clear hi); have q53 : (x12_4 : Int) ≤ ((l0.length : Int) : Int) := of_decide_eq_true (by first | (with_reducible assumption) | assumption); obtain ⟨i053, hi053, _, hsz53, _⟩ := info_parts info22; have hroom53 : l0.length ≤ c0 := HC0.out; have hC53 : Kd.C (Kd.slice 5 (Kd.int .u8)) _ A0 l0.length l0 := HR0.out; have hcut53 := cut_to (P := Try.prog) 38 22 .i64 Try.underlying38 hi053 A0 l0.length c0 x12_4 (of_decide_eq_true (by first | (with_reducible assumption) | assumption)) q53 hroom53; have hr53 := Kd.C_take (m := (x12_4 : Int).toNat) hC53 (by omega); have hy53 : y278.length = (x12_4 : Int).toNat := (by rw [Ny278.out, List.length_take]; omega); rw [← Ny278.out] at hr53; rw [← hy53] at hcut53; have HR281 := Aside0.mk hr53; have HC281 := Aside0.mk (show y278.length ≤ c0 from by omega); clear hr53 hC53 hroom53 hi053 hsz53; have KY53 := Aside0.mk hy53; clear hy53; replace q53 := eq_true q53; obtain ⟨Ao54, co54, eo54⟩ := Kd.S_slice HO276.out; subst eo54) | (go_at_call 22; (with_reducible refine (rickyardref05_Same.calls k4 _ _ t273 _ _ y278 true _ ?side1 ?side2 ?side3 ?side4 A45.out).mono ?_); (case side1 => repeat (first | exact (Kd.S_reads' HO276.out).2.2 | (with_reducible refine Kd.C_alloc ?_ _) | (with_reducible refine Kd.C_drewN ?_ _) | (with_reducible refine Kd.C_drew ?_))); (case side2 => exact (Kd.S_reads' HO276.out).2.1); (case side3 => repeat (first | exact (Kd.C_below HR281.out HB.out) | (with_reducible refine Kd.C_alloc ?_ _) | (with_reducible refine Kd.C_drewN ?_ _) | (with_reducible refine Kd.C_drew ?_))); (case side4 => exact HC281.out); rintro e w' ⟨rfl, ⟨nd, rfl⟩⟩))
                                              go_ret
                                              exact ⟨by first | rfl | (simp [errW_none, errW_some] <;> rfl) | (simp [*, errW_none, errW_some] <;> rfl), by repeat (first | (with_reducible first | exact HB.out | apply below_alloc | apply pw_below_drewN | apply below_drew1) | exact HB.out)⟩
                                            · rw [if_neg c48] at H
                                              have c48b0 : (t274 == 0) = false := beq_eq_false_iff_ne.mpr c48
                                              have c48b1 : (t274 != 0) = true := bne_iff_ne.mpr c48
                                              by_cases c55 : x12_4 > 0
                                              · rw [if_pos c55] at H
                                                have c55b0 : decide (0 < x12_4) = true := decide_eq_true c55
                                                clear c55
                                                obtain ⟨ji56, hji56⟩ : ∃ j_ : Int, (wrap64 (x12_4 - 1)) = j_ := ⟨_, rfl⟩
                                                replace H : (if 0 ≤ (ji56) then (if (ji56) < (x6_1.length : Int) then (some (t274 == (rd x6_1 (ji56)))) else (none)) else (none)) = some r := by first | (rw [hji56] at H; exact H) | (simp only [hji56] at H ⊢; exact H)
                                                (try rw [hji56] at A40)
                                                (try rw [hji56] at A41)
                                                (try rw [hji56] at A45)
                                                have hji56w : (IntKind.i64.wrap (x12_4 - 1)) = ji56 := (i64_w _).trans hji56
                                                by_cases c57 : 0 ≤ (ji56)
                                                · rw [if_pos c57] at H
                                                  have c57b0 : decide (0 ≤ (ji56)) = true := decide_eq_true c57
                                                  clear c57
                                                  by_cases c58 : (ji56) < (x6_1.length : Int)
                                                  · rw [if_pos c58] at H
                                                    have c58b0 : decide ((ji56) < (x6_1.length : Int)) = true := decide_eq_true c58
                                                    clear c58
                                                    obtain rfl := Option.some.inj H
                                                    obtain ⟨Ao59, co59, eo59⟩ := Kd.R_slice HO_6.out
                                                    subst eo59
                                                    have p268 : 0 ≤ (x12_4 : Int) := of_decide_eq_true (by first | (with_reducible assumption) | assumption)
                                                    have q268 : x12_4 < (x6_1.length : Int) := of_decide_eq_true (by first | (with_reducible assumption) | assumption)
                                                    obtain ⟨ad268, e268, hx268_0⟩ := Kd.at_int (Kd.R_reads' HO_6.out).2.2 x12_4 p268 q268
                                                    cases e268
                                                    replace p268 := eq_true p268
                                                    replace q268 := eq_true q268
                                                    have q60 : (a1 : Int) ≤ ((x5_1.length : Int) : Int) := of_decide_eq_true (by first | (with_reducible assumption) | assumption)
                                                    obtain ⟨i060, hi060, _, hsz60, _⟩ := info_parts info5
                                                    have hroom60 : x5_1.length ≤ co22 := (Kd.R_reads' HO_5.out).2.1
                                                    have hC60 : Kd.C (Kd.int .u8) _ Ao22 x5_1.length x5_1 := (Kd.R_reads' HO_5.out).2.2
                                                    have hcut60 := cut_to (P := Try.prog) 22 5 .i64 Try.underlying22 hi060 Ao22 x5_1.length co22 a1 (of_decide_eq_true (by first | (with_reducible assumption) | assumption)) q60 hroom60
                                                    have hr60 := Kd.C_take (m := (a1 : Int).toNat) hC60 (by omega)
                                                    have hy60 : y269.length = (a1 : Int).toNat := (by rw [Ny269.out, List.length_take]; omega)
                                                    rw [← Ny269.out] at hr60
                                                    rw [← hy60] at hcut60
                                                    have HR272 := Aside0.mk hr60
                                                    have HC272 := Aside0.mk (show y269.length ≤ co22 from by omega)
                                                    clear hr60 hC60 hroom60 hi060 hsz60
                                                    have KY60 := Aside0.mk hy60
                                                    clear hy60
                                                    have KL60 := Aside0.mk (show (a1 : Int).toNat ≤ x5_1.length from by omega)
                                                    replace q60 := eq_true q60
                                                    go_wp2_with (first | ((with_reducible refine gate_callee (f := 19) rfl ?_); refine goesL_ (some 90) rfl rfl Try.func19 (by kernel_rfl) rfl #[.slice Ao22 y269.length co22] rfl (by (try simp only [List.map_toArray, List.map_cons, List.map_nil]); first | done | rfl | (simp only [List.length_drop, List.length_take]; rfl)) ?_; (with_reducible refine (crc_All.calls _ _ y269 t273 t274 _ ?side1 ?side2 A40.out).mono ?_); (case side1 => repeat (first | exact (by repeat (first | (with_reducible exact HR272.out) | (with_reducible refine Kd.C_alloc ?_ _) | (with_reducible refine Kd.C_drewN ?_ _) | (with_reducible refine Kd.C_drew ?_) | exact HR272.out)) | (with_reducible refine Kd.C_alloc ?_ _) | (with_reducible refine Kd.C_drewN ?_ _) | (with_reducible refine Kd.C_drew ?_))); (case side2 => exact HC272.out); rintro e w61 ⟨v275, rfl, ho0, hb⟩; refine ⟨_, rfl, ?_⟩; have n0_ := Aside0.mk (Kd.R_below (by (with_reducible repeat (first | apply Kd.R_alloc | apply Kd.R_drewN | apply Kd.R_drew)); exact HO_5.out) hb); have n1_ := Aside0.mk (Kd.R_below (by (with_reducible repeat (first | apply Kd.R_alloc | apply Kd.R_drewN | apply Kd.R_drew)); exact HO_6.out) hb); have n2_ := Aside0.mk (Kd.S_lower (Kd.S_new' ho0 (Kd.R_lt (by (with_reducible repeat (first | apply Kd.R_alloc | apply Kd.R_drewN | apply Kd.R_drew)); exact HO_5.out))) (below_size (by repeat (first | (with_reducible first | exact HB.out | apply below_alloc | apply pw_below_drewN | apply below_drew1) | exact HB.out)))); have n3_ := Aside0.mk (Kd.C_below (by repeat (first | (with_reducible exact HR272.out) | (with_reducible refine Kd.C_alloc ?_ _) | (with_reducible refine Kd.C_drewN ?_ _) | (with_reducible refine Kd.C_drew ?_) | exact HR272.out)) hb); have n4_ := Aside0.mk (below_step (by repeat (first | (with_reducible first | exact HB.out | apply below_alloc | apply pw_below_drewN | apply below_drew1) | exact HB.out)) hb); clear HO_5; clear HO_6; clear HR272; clear HB; have HO_5 := n0_; have HO_6 := n1_; have HO276 := n2_; have HR272 := n3_; have HB := n4_; clear n0_ n1_ n2_ n3_ n4_; (try clear hb); (try clear hb2); (try clear hk); (try clear hi); (try clear ho0)) | ((with_reducible refine gate_callee (f := 10) rfl ?_); refine goesL_ (some 93) rfl rfl Try.func10 (by kernel_rfl) rfl #[] rfl (by (try simp only [List.map_toArray, List.map_cons, List.map_nil]); first | done | rfl | (simp only [List.length_drop, List.length_take]; rfl)) ?_; (with_reducible refine (rickyardlaw05_alive.calls  true _ A41.out).mono ?_); rintro e w62 ⟨rfl, hb⟩; refine ⟨_, rfl, ?_⟩; have n0_ := Aside0.mk (Kd.R_below (by (with_reducible repeat (first | apply Kd.R_alloc | apply Kd.R_drewN | apply Kd.R_drew)); exact HO_5.out) hb); have n1_ := Aside0.mk (Kd.R_below (by (with_reducible repeat (first | apply Kd.R_alloc | apply Kd.R_drewN | apply Kd.R_drew)); exact HO_6.out) hb); have n2_ := Aside0.mk (Kd.S_below (by (with_reducible repeat (first | apply Kd.S_alloc | apply Kd.S_drewN | apply Kd.S_drew)); exact HO276.out) hb); have n3_ := Aside0.mk (Kd.C_below (by repeat (first | (with_reducible exact HR272.out) | (with_reducible refine Kd.C_alloc ?_ _) | (with_reducible refine Kd.C_drewN ?_ _) | (with_reducible refine Kd.C_drew ?_) | exact HR272.out)) hb); have n4_ := Aside0.mk (below_step (by repeat (first | (with_reducible first | exact HB.out | apply below_alloc | apply pw_below_drewN | apply below_drew1) | exact HB.out)) hb); clear HO_5; clear HO_6; clear HO276; clear HR272; clear HB; have HO_5 := n0_; have HO_6 := n1_; have HO276 := n2_; have HR272 := n3_; have HB := n4_; clear n0_ n1_ n2_ n3_ n4_; (try clear hb); (try clear hb2); (try clear hk); (try clear hi); have q63 : (x12_4 : Int) ≤ ((l0.length : Int) : Int) := of_decide_eq_true (by first | (with_reducible assumption) | assumption); obtain ⟨i063, hi063, _, hsz63, _⟩ := info_parts info22; have hroom63 : l0.length ≤ c0 := HC0.out; have hC63 : Kd.C (Kd.slice 5 (Kd.int .u8)) _ A0 l0.length l0 := HR0.out; have hcut63 := cut_to (P := Try.prog) 38 22 .i64 Try.underlying38 hi063 A0 l0.length c0 x12_4 (of_decide_eq_true (by first | (with_reducible assumption) | assumption)) q63 hroom63; have hr63 := Kd.C_take (m := (x12_4 : Int).toNat) hC63 (by omega); have hy63 : y278.length = (x12_4 : Int).toNat := (by rw [Ny278.out, List.length_take]; omega); rw [← Ny278.out] at hr63; rw [← hy63] at hcut63; have HR281 := Aside0.mk hr63; have HC281 := Aside0.mk (show y278.length ≤ c0 from by omega); clear hr63 hC63 hroom63 hi063 hsz63; have KY63 := Aside0.mk hy63; clear hy63; replace q63 := eq_true q63; obtain ⟨Ao64, co64, eo64⟩ := Kd.S_slice HO276.out; subst eo64) | (go_at_call 22; (with_reducible refine (rickyardref05_Same.calls k4 _ _ t273 _ _ y278 true _ ?side1 ?side2 ?side3 ?side4 A45.out).mono ?_); (case side1 => repeat (first | exact (Kd.S_reads' HO276.out).2.2 | (with_reducible refine Kd.C_alloc ?_ _) | (with_reducible refine Kd.C_drewN ?_ _) | (with_reducible refine Kd.C_drew ?_))); (case side2 => exact (Kd.S_reads' HO276.out).2.1); (case side3 => repeat (first | exact (Kd.C_below HR281.out HB.out) | (with_reducible refine Kd.C_alloc ?_ _) | (with_reducible refine Kd.C_drewN ?_ _) | (with_reducible refine Kd.C_drew ?_))); (case side4 => exact HC281.out); rintro e w' ⟨rfl, ⟨nd, rfl⟩⟩; have p283 : 0 ≤ ((ji56) : Int) := of_decide_eq_true (by first | (with_reducible assumption) | assumption); have q283 : (ji56) < (x6_1.length : Int) := of_decide_eq_true (by first | (with_reducible assumption) | assumption); obtain ⟨ad283, e283, hx283_0⟩ := Kd.at_int (Kd.R_reads' HO_6.out).2.2 (ji56) p283 q283; obtain rfl : ad268 = ad283 := (by injection e283); replace p283 := eq_true p283; replace q283 := eq_true q283))
                                                    go_ret
                                                    exact ⟨by first | rfl | (simp [errW_none, errW_some] <;> rfl) | (simp only [← hji56]; first | rfl | (simp [errW_none, errW_some] <;> rfl)) | (simp [*, errW_none, errW_some] <;> rfl), by repeat (first | (with_reducible first | exact HB.out | apply below_alloc | apply pw_below_drewN | apply below_drew1) | exact HB.out)⟩
                                                  · rw [if_neg c58] at H
                                                    exact absurd H (by simp)
                                                · rw [if_neg c57] at H
                                                  exact absurd H (by simp)
                                              · rw [if_neg c55] at H
                                                have c55b0 : decide (0 < x12_4) = false := decide_eq_false c55
                                                clear c55
                                                exact absurd ((Option.some.inj H).trans HR_.out) (by decide)
                                          · rw [if_neg c47] at H
                                            have c47b0 : (x12_4 == 0) = false := beq_eq_false_iff_ne.mpr c47
                                            have c47b1 : (x12_4 != 0) = true := bne_iff_ne.mpr c47
                                            by_cases c65 : x12_4 > 0
                                            · rw [if_pos c65] at H
                                              have c65b0 : decide (0 < x12_4) = true := decide_eq_true c65
                                              clear c65
                                              obtain ⟨ji66, hji66⟩ : ∃ j_ : Int, (wrap64 (x12_4 - 1)) = j_ := ⟨_, rfl⟩
                                              replace H : (if 0 ≤ (ji66) then (if (ji66) < (x6_1.length : Int) then (some (t274 == (rd x6_1 (ji66)))) else (none)) else (none)) = some r := by first | (rw [hji66] at H; exact H) | (simp only [hji66] at H ⊢; exact H)
                                              (try rw [hji66] at A40)
                                              (try rw [hji66] at A41)
                                              (try rw [hji66] at A45)
                                              have hji66w : (IntKind.i64.wrap (x12_4 - 1)) = ji66 := (i64_w _).trans hji66
                                              by_cases c67 : 0 ≤ (ji66)
                                              · rw [if_pos c67] at H
                                                have c67b0 : decide (0 ≤ (ji66)) = true := decide_eq_true c67
                                                clear c67
                                                by_cases c68 : (ji66) < (x6_1.length : Int)
                                                · rw [if_pos c68] at H
                                                  have c68b0 : decide ((ji66) < (x6_1.length : Int)) = true := decide_eq_true c68
                                                  clear c68
                                                  obtain rfl := Option.some.inj H
                                                  obtain ⟨Ao69, co69, eo69⟩ := Kd.R_slice HO_6.out
                                                  subst eo69
                                                  have p268 : 0 ≤ (x12_4 : Int) := of_decide_eq_true (by first | (with_reducible assumption) | assumption)
                                                  have q268 : x12_4 < (x6_1.length : Int) := of_decide_eq_true (by first | (with_reducible assumption) | assumption)
                                                  obtain ⟨ad268, e268, hx268_0⟩ := Kd.at_int (Kd.R_reads' HO_6.out).2.2 x12_4 p268 q268
                                                  cases e268
                                                  replace p268 := eq_true p268
                                                  replace q268 := eq_true q268
                                                  have q70 : (a1 : Int) ≤ ((x5_1.length : Int) : Int) := of_decide_eq_true (by first | (with_reducible assumption) | assumption)
                                                  obtain ⟨i070, hi070, _, hsz70, _⟩ := info_parts info5
                                                  have hroom70 : x5_1.length ≤ co22 := (Kd.R_reads' HO_5.out).2.1
                                                  have hC70 : Kd.C (Kd.int .u8) _ Ao22 x5_1.length x5_1 := (Kd.R_reads' HO_5.out).2.2
                                                  have hcut70 := cut_to (P := Try.prog) 22 5 .i64 Try.underlying22 hi070 Ao22 x5_1.length co22 a1 (of_decide_eq_true (by first | (with_reducible assumption) | assumption)) q70 hroom70
                                                  have hr70 := Kd.C_take (m := (a1 : Int).toNat) hC70 (by omega)
                                                  have hy70 : y269.length = (a1 : Int).toNat := (by rw [Ny269.out, List.length_take]; omega)
                                                  rw [← Ny269.out] at hr70
                                                  rw [← hy70] at hcut70
                                                  have HR272 := Aside0.mk hr70
                                                  have HC272 := Aside0.mk (show y269.length ≤ co22 from by omega)
                                                  clear hr70 hC70 hroom70 hi070 hsz70
                                                  have KY70 := Aside0.mk hy70
                                                  clear hy70
                                                  have KL70 := Aside0.mk (show (a1 : Int).toNat ≤ x5_1.length from by omega)
                                                  replace q70 := eq_true q70
                                                  go_wp2_with (first | ((with_reducible refine gate_callee (f := 19) rfl ?_); refine goesL_ (some 90) rfl rfl Try.func19 (by kernel_rfl) rfl #[.slice Ao22 y269.length co22] rfl (by (try simp only [List.map_toArray, List.map_cons, List.map_nil]); first | done | rfl | (simp only [List.length_drop, List.length_take]; rfl)) ?_; (with_reducible refine (crc_All.calls _ _ y269 t273 t274 _ ?side1 ?side2 A40.out).mono ?_); (case side1 => repeat (first | exact (by repeat (first | (with_reducible exact HR272.out) | (with_reducible refine Kd.C_alloc ?_ _) | (with_reducible refine Kd.C_drewN ?_ _) | (with_reducible refine Kd.C_drew ?_) | exact HR272.out)) | (with_reducible refine Kd.C_alloc ?_ _) | (with_reducible refine Kd.C_drewN ?_ _) | (with_reducible refine Kd.C_drew ?_))); (case side2 => exact HC272.out); rintro e w71 ⟨v275, rfl, ho0, hb⟩; refine ⟨_, rfl, ?_⟩; have n0_ := Aside0.mk (Kd.R_below (by (with_reducible repeat (first | apply Kd.R_alloc | apply Kd.R_drewN | apply Kd.R_drew)); exact HO_5.out) hb); have n1_ := Aside0.mk (Kd.R_below (by (with_reducible repeat (first | apply Kd.R_alloc | apply Kd.R_drewN | apply Kd.R_drew)); exact HO_6.out) hb); have n2_ := Aside0.mk (Kd.S_lower (Kd.S_new' ho0 (Kd.R_lt (by (with_reducible repeat (first | apply Kd.R_alloc | apply Kd.R_drewN | apply Kd.R_drew)); exact HO_5.out))) (below_size (by repeat (first | (with_reducible first | exact HB.out | apply below_alloc | apply pw_below_drewN | apply below_drew1) | exact HB.out)))); have n3_ := Aside0.mk (Kd.C_below (by repeat (first | (with_reducible exact HR272.out) | (with_reducible refine Kd.C_alloc ?_ _) | (with_reducible refine Kd.C_drewN ?_ _) | (with_reducible refine Kd.C_drew ?_) | exact HR272.out)) hb); have n4_ := Aside0.mk (below_step (by repeat (first | (with_reducible first | exact HB.out | apply below_alloc | apply pw_below_drewN | apply below_drew1) | exact HB.out)) hb); clear HO_5; clear HO_6; clear HR272; clear HB; have HO_5 := n0_; have HO_6 := n1_; have HO276 := n2_; have HR272 := n3_; have HB := n4_; clear n0_ n1_ n2_ n3_ n4_; (try clear hb); (try clear hb2); (try clear hk); (try clear hi); (try clear ho0)) | ((with_reducible refine gate_callee (f := 10) rfl ?_); refine goesL_ (some 93) rfl rfl Try.func10 (by kernel_rfl) rfl #[] rfl (by (try simp only [List.map_toArray, List.map_cons, List.map_nil]); first | done | rfl | (simp only [List.length_drop, List.length_take]; rfl)) ?_; (with_reducible refine (rickyardlaw05_alive.calls  true _ A41.out).mono ?_); rintro e w72 ⟨rfl, hb⟩; refine ⟨_, rfl, ?_⟩; have n0_ := Aside0.mk (Kd.R_below (by (with_reducible repeat (first | apply Kd.R_alloc | apply Kd.R_drewN | apply Kd.R_drew)); exact HO_5.out) hb); have n1_ := Aside0.mk (Kd.R_below (by (with_reducible repeat (first | apply Kd.R_alloc | apply Kd.R_drewN | apply Kd.R_drew)); exact HO_6.out) hb); have n2_ := Aside0.mk (Kd.S_below (by (with_reducible repeat (first | apply Kd.S_alloc | apply Kd.S_drewN | apply Kd.S_drew)); exact HO276.out) hb); have n3_ := Aside0.mk (Kd.C_below (by repeat (first | (with_reducible exact HR272.out) | (with_reducible refine Kd.C_alloc ?_ _) | (with_reducible refine Kd.C_drewN ?_ _) | (with_reducible refine Kd.C_drew ?_) | exact HR272.out)) hb); have n4_ := Aside0.mk (below_step (by repeat (first | (with_reducible first | exact HB.out | apply below_alloc | apply pw_below_drewN | apply below_drew1) | exact HB.out)) hb); clear HO_5; clear HO_6; clear HO276; clear HR272; clear HB; have HO_5 := n0_; have HO_6 := n1_; have HO276 := n2_; have HR272 := n3_; have HB := n4_; clear n0_ n1_ n2_ n3_ n4_; (try clear hb); (try clear hb2); (try clear hk); (try clear hi); have q73 : (x12_4 : Int) ≤ ((l0.length : Int) : Int) := of_decide_eq_true (by first | (with_reducible assumption) | assumption); obtain ⟨i073, hi073, _, hsz73, _⟩ := info_parts info22; have hroom73 : l0.length ≤ c0 := HC0.out; have hC73 : Kd.C (Kd.slice 5 (Kd.int .u8)) _ A0 l0.length l0 := HR0.out; have hcut73 := cut_to (P := Try.prog) 38 22 .i64 Try.underlying38 hi073 A0 l0.length c0 x12_4 (of_decide_eq_true (by first | (with_reducible assumption) | assumption)) q73 hroom73; have hr73 := Kd.C_take (m := (x12_4 : Int).toNat) hC73 (by omega); have hy73 : y278.length = (x12_4 : Int).toNat := (by rw [Ny278.out, List.length_take]; omega); rw [← Ny278.out] at hr73; rw [← hy73] at hcut73; have HR281 := Aside0.mk hr73; have HC281 := Aside0.mk (show y278.length ≤ c0 from by omega); clear hr73 hC73 hroom73 hi073 hsz73; have KY73 := Aside0.mk hy73; clear hy73; replace q73 := eq_true q73; obtain ⟨Ao74, co74, eo74⟩ := Kd.S_slice HO276.out; subst eo74) | (go_at_call 22; (with_reducible refine (rickyardref05_Same.calls k4 _ _ t273 _ _ y278 true _ ?side1 ?side2 ?side3 ?side4 A45.out).mono ?_); (case side1 => repeat (first | exact (Kd.S_reads' HO276.out).2.2 | (with_reducible refine Kd.C_alloc ?_ _) | (with_reducible refine Kd.C_drewN ?_ _) | (with_reducible refine Kd.C_drew ?_))); (case side2 => exact (Kd.S_reads' HO276.out).2.1); (case side3 => repeat (first | exact (Kd.C_below HR281.out HB.out) | (with_reducible refine Kd.C_alloc ?_ _) | (with_reducible refine Kd.C_drewN ?_ _) | (with_reducible refine Kd.C_drew ?_))); (case side4 => exact HC281.out); rintro e w' ⟨rfl, ⟨nd, rfl⟩⟩; have p284 : 0 ≤ ((ji66) : Int) := of_decide_eq_true (by first | (with_reducible assumption) | assumption); have q284 : (ji66) < (x6_1.length : Int) := of_decide_eq_true (by first | (with_reducible assumption) | assumption); obtain ⟨ad284, e284, hx284_0⟩ := Kd.at_int (Kd.R_reads' HO_6.out).2.2 (ji66) p284 q284; obtain rfl : ad268 = ad284 := (by injection e284); replace p284 := eq_true p284; replace q284 := eq_true q284))
                                                  go_ret
                                                  exact ⟨by first | rfl | (simp [errW_none, errW_some] <;> rfl) | (simp only [← hji66]; first | rfl | (simp [errW_none, errW_some] <;> rfl)) | (simp [*, errW_none, errW_some] <;> rfl), by repeat (first | (with_reducible first | exact HB.out | apply below_alloc | apply pw_below_drewN | apply below_drew1) | exact HB.out)⟩
                                                · rw [if_neg c68] at H
                                                  exact absurd H (by simp)
                                              · rw [if_neg c67] at H
                                                exact absurd H (by simp)
                                            · rw [if_neg c65] at H
                                              have c65b0 : decide (0 < x12_4) = false := decide_eq_false c65
                                              clear c65
                                              exact absurd ((Option.some.inj H).trans HR_.out) (by decide)
                                        · replace c46 := Bool.eq_false_iff.mpr c46
                                          subst c46
                                          have H1 : (some false) = some r := by rw [if_neg (show ¬ (false = true) by decide)] at H; exact H
                                          clear H
                                          have H := H1
                                          clear H1
                                          exact absurd ((Option.some.inj H).trans HR_.out) (by decide)
                                      · rw [if_neg c44] at H
                                        exact absurd H (by simp)
                                    · replace c42 := Bool.eq_false_iff.mpr c42
                                      subst c42
                                      have H1 : (some false) = some r := by rw [if_neg (show ¬ (false = true) by decide)] at H; exact H
                                      clear H
                                      have H := H1
                                      clear H1
                                      exact absurd ((Option.some.inj H).trans HR_.out) (by decide)
                                  · rw [if_neg c39] at H
                                    exact absurd H (by simp)
                                · rw [if_neg c38] at H
                                  exact absurd H (by simp)
                            · rw [if_neg c35] at H
                              exact absurd H (by simp)
                          · rw [if_neg c34] at H
                            have c34b0 : decide (x12_4 < (x6_1.length : Int)) = false := decide_eq_false c34
                            clear c34
                            by_cases c75 : 0 ≤ a1
                            · rw [if_pos c75] at H
                              have c75b0 := eq_true c75
                              have c75b1 : decide (0 ≤ a1) = true := decide_eq_true c75
                              clear c75
                              by_cases c76 : a1 ≤ (x5_1.length : Int)
                              · rw [if_pos c76] at H
                                have c76b0 := eq_true c76
                                have c76b1 : decide (a1 ≤ (x5_1.length : Int)) = true := decide_eq_true c76
                                clear c76
                                obtain ⟨y285, hy285⟩ : ∃ y_ : List Int, y_ = (x5_1.take (a1 : Int).toNat) := ⟨_, rfl⟩
                                replace H : ((crc_All.f y285).bind fun bt289 => ((rickyardlaw05_alive.f).bind fun t293 => (if t293 = true then (if 0 ≤ x12_4 then (if x12_4 ≤ (l0.length : Int) then ((rickyardref05_Same.f k4 bt289.1 (l0.take (x12_4 : Int).toNat)).bind fun t298 => (if t298 = true then (if x12_4 = 0 then (if bt289.2 = 0 then (some true) else (if x12_4 > 0 then (if 0 ≤ (wrap64 (x12_4 - 1)) then (if (wrap64 (x12_4 - 1)) < (x6_1.length : Int) then (some (bt289.2 == (rd x6_1 (wrap64 (x12_4 - 1))))) else (none)) else (none)) else (some false))) else (if x12_4 > 0 then (if 0 ≤ (wrap64 (x12_4 - 1)) then (if (wrap64 (x12_4 - 1)) < (x6_1.length : Int) then (some (bt289.2 == (rd x6_1 (wrap64 (x12_4 - 1))))) else (none)) else (none)) else (some false))) else (some false))) else (none)) else (none)) else (some false)))) = some r := by first | (rw [hy285]; with_reducible exact H) | (have H2_ := (Option.bind_some _ _).symm.trans H; rw [hy285]; with_reducible exact H2_) | (have H2_ := (Option.bind_some _ _).symm.trans H; with_reducible exact H2_) | with_reducible exact H | (rw [hy285]; exact H) | exact H
                                have Ny285 := Aside0.mk hy285
                                clear hy285
                                replace H := Option.bind_eq_some_iff.mp H
                                obtain ⟨⟨t289, t290⟩, A770, H⟩ := H
                                replace H : ((rickyardlaw05_alive.f).bind fun t293 => (if t293 = true then (if 0 ≤ x12_4 then (if x12_4 ≤ (l0.length : Int) then ((rickyardref05_Same.f k4 t289 (l0.take (x12_4 : Int).toNat)).bind fun t298 => (if t298 = true then (if x12_4 = 0 then (if t290 = 0 then (some true) else (if x12_4 > 0 then (if 0 ≤ (wrap64 (x12_4 - 1)) then (if (wrap64 (x12_4 - 1)) < (x6_1.length : Int) then (some (t290 == (rd x6_1 (wrap64 (x12_4 - 1))))) else (none)) else (none)) else (some false))) else (if x12_4 > 0 then (if 0 ≤ (wrap64 (x12_4 - 1)) then (if (wrap64 (x12_4 - 1)) < (x6_1.length : Int) then (some (t290 == (rd x6_1 (wrap64 (x12_4 - 1))))) else (none)) else (none)) else (some false))) else (some false))) else (none)) else (none)) else (some false))) = some r := H
                                have A77 := Aside0.mk A770
                                clear A770
                                replace H := Option.bind_eq_some_iff.mp H
                                obtain ⟨t293, A780, H⟩ := H
                                replace H : (if t293 = true then (if 0 ≤ x12_4 then (if x12_4 ≤ (l0.length : Int) then ((rickyardref05_Same.f k4 t289 (l0.take (x12_4 : Int).toNat)).bind fun t298 => (if t298 = true then (if x12_4 = 0 then (if t290 = 0 then (some true) else (if x12_4 > 0 then (if 0 ≤ (wrap64 (x12_4 - 1)) then (if (wrap64 (x12_4 - 1)) < (x6_1.length : Int) then (some (t290 == (rd x6_1 (wrap64 (x12_4 - 1))))) else (none)) else (none)) else (some false))) else (if x12_4 > 0 then (if 0 ≤ (wrap64 (x12_4 - 1)) then (if (wrap64 (x12_4 - 1)) < (x6_1.length : Int) then (some (t290 == (rd x6_1 (wrap64 (x12_4 - 1))))) else (none)) else (none)) else (some false))) else (some false))) else (none)) else (none)) else (some false)) = some r := H
                                have A78 := Aside0.mk A780
                                clear A780
                                by_cases c79 : t293 = true
                                · subst c79
                                  have H1 : (if 0 ≤ x12_4 then (if x12_4 ≤ (l0.length : Int) then ((rickyardref05_Same.f k4 t289 (l0.take (x12_4 : Int).toNat)).bind fun t298 => (if t298 = true then (if x12_4 = 0 then (if t290 = 0 then (some true) else (if x12_4 > 0 then (if 0 ≤ (wrap64 (x12_4 - 1)) then (if (wrap64 (x12_4 - 1)) < (x6_1.length : Int) then (some (t290 == (rd x6_1 (wrap64 (x12_4 - 1))))) else (none)) else (none)) else (some false))) else (if x12_4 > 0 then (if 0 ≤ (wrap64 (x12_4 - 1)) then (if (wrap64 (x12_4 - 1)) < (x6_1.length : Int) then (some (t290 == (rd x6_1 (wrap64 (x12_4 - 1))))) else (none)) else (none)) else (some false))) else (some false))) else (none)) else (none)) = some r := by rw [if_pos rfl] at H; exact H
                                  clear H
                                  have H := H1
                                  clear H1
                                  by_cases c80 : 0 ≤ x12_4
                                  · rw [if_pos c80] at H
                                    have c80b0 := eq_true c80
                                    have c80b1 : decide (0 ≤ x12_4) = true := decide_eq_true c80
                                    clear c80
                                    by_cases c81 : x12_4 ≤ (l0.length : Int)
                                    · rw [if_pos c81] at H
                                      have c81b0 := eq_true c81
                                      have c81b1 : decide (x12_4 ≤ (l0.length : Int)) = true := decide_eq_true c81
                                      clear c81
                                      obtain ⟨y294, hy294⟩ : ∃ y_ : List (List Int), y_ = (l0.take (x12_4 : Int).toNat) := ⟨_, rfl⟩
                                      replace H : ((rickyardref05_Same.f k4 t289 y294).bind fun t298 => (if t298 = true then (if x12_4 = 0 then (if t290 = 0 then (some true) else (if x12_4 > 0 then (if 0 ≤ (wrap64 (x12_4 - 1)) then (if (wrap64 (x12_4 - 1)) < (x6_1.length : Int) then (some (t290 == (rd x6_1 (wrap64 (x12_4 - 1))))) else (none)) else (none)) else (some false))) else (if x12_4 > 0 then (if 0 ≤ (wrap64 (x12_4 - 1)) then (if (wrap64 (x12_4 - 1)) < (x6_1.length : Int) then (some (t290 == (rd x6_1 (wrap64 (x12_4 - 1))))) else (none)) else (none)) else (some false))) else (some false))) = some r := by first | (rw [hy294]; with_reducible exact H) | (have H2_ := (Option.bind_some _ _).symm.trans H; rw [hy294]; with_reducible exact H2_) | (have H2_ := (Option.bind_some _ _).symm.trans H; with_reducible exact H2_) | with_reducible exact H | (rw [hy294]; exact H) | exact H
                                      have Ny294 := Aside0.mk hy294
                                      clear hy294
                                      replace H := Option.bind_eq_some_iff.mp H
                                      obtain ⟨t298, A820, H⟩ := H
                                      replace H : (if t298 = true then (if x12_4 = 0 then (if t290 = 0 then (some true) else (if x12_4 > 0 then (if 0 ≤ (wrap64 (x12_4 - 1)) then (if (wrap64 (x12_4 - 1)) < (x6_1.length : Int) then (some (t290 == (rd x6_1 (wrap64 (x12_4 - 1))))) else (none)) else (none)) else (some false))) else (if x12_4 > 0 then (if 0 ≤ (wrap64 (x12_4 - 1)) then (if (wrap64 (x12_4 - 1)) < (x6_1.length : Int) then (some (t290 == (rd x6_1 (wrap64 (x12_4 - 1))))) else (none)) else (none)) else (some false))) else (some false)) = some r := H
                                      have A82 := Aside0.mk A820
                                      clear A820
                                      by_cases c83 : t298 = true
                                      · subst c83
                                        have H1 : (if x12_4 = 0 then (if t290 = 0 then (some true) else (if x12_4 > 0 then (if 0 ≤ (wrap64 (x12_4 - 1)) then (if (wrap64 (x12_4 - 1)) < (x6_1.length : Int) then (some (t290 == (rd x6_1 (wrap64 (x12_4 - 1))))) else (none)) else (none)) else (some false))) else (if x12_4 > 0 then (if 0 ≤ (wrap64 (x12_4 - 1)) then (if (wrap64 (x12_4 - 1)) < (x6_1.length : Int) then (some (t290 == (rd x6_1 (wrap64 (x12_4 - 1))))) else (none)) else (none)) else (some false))) = some r := by rw [if_pos rfl] at H; exact H
                                        clear H
                                        have H := H1
                                        clear H1
                                        by_cases c84 : x12_4 = 0
                                        · rw [if_pos c84] at H
                                          have c84b0 : (x12_4 == 0) = true := beq_iff_eq.mpr c84
                                          have c84b1 : (x12_4 != 0) = false := bne_eq_false_iff_eq.mpr c84
                                          clear c84
                                          by_cases c85 : t290 = 0
                                          · rw [if_pos c85] at H
                                            have c85b0 : (t290 == 0) = true := beq_iff_eq.mpr c85
                                            have c85b1 : (t290 != 0) = false := bne_eq_false_iff_eq.mpr c85
                                            clear c85
                                            obtain rfl := Option.some.inj H
                                            obtain ⟨Ao86, co86, eo86⟩ := Kd.R_slice HO_6.out
                                            subst eo86
                                            have q87 : (a1 : Int) ≤ ((x5_1.length : Int) : Int) := of_decide_eq_true (by first | (with_reducible assumption) | assumption)
                                            obtain ⟨i087, hi087, _, hsz87, _⟩ := info_parts info5
                                            have hroom87 : x5_1.length ≤ co22 := (Kd.R_reads' HO_5.out).2.1
                                            have hC87 : Kd.C (Kd.int .u8) _ Ao22 x5_1.length x5_1 := (Kd.R_reads' HO_5.out).2.2
                                            have hcut87 := cut_to (P := Try.prog) 22 5 .i64 Try.underlying22 hi087 Ao22 x5_1.length co22 a1 (of_decide_eq_true (by first | (with_reducible assumption) | assumption)) q87 hroom87
                                            have hr87 := Kd.C_take (m := (a1 : Int).toNat) hC87 (by omega)
                                            have hy87 : y285.length = (a1 : Int).toNat := (by rw [Ny285.out, List.length_take]; omega)
                                            rw [← Ny285.out] at hr87
                                            rw [← hy87] at hcut87
                                            have HR288 := Aside0.mk hr87
                                            have HC288 := Aside0.mk (show y285.length ≤ co22 from by omega)
                                            clear hr87 hC87 hroom87 hi087 hsz87
                                            have KY87 := Aside0.mk hy87
                                            clear hy87
                                            have KL87 := Aside0.mk (show (a1 : Int).toNat ≤ x5_1.length from by omega)
                                            replace q87 := eq_true q87
                                            go_wp2_with (first | ((with_reducible refine gate_callee (f := 19) rfl ?_); refine goesL_ (some 90) rfl rfl Try.func19 (by kernel_rfl) rfl #[.slice Ao22 y285.length co22] rfl (by (try simp only [List.map_toArray, List.map_cons, List.map_nil]); first | done | rfl | (simp only [List.length_drop, List.length_take]; rfl)) ?_; (with_reducible refine (crc_All.calls _ _ y285 t289 t290 _ ?side1 ?side2 A77.out).mono ?_); (case side1 => repeat (first | exact (by repeat (first | (with_reducible exact HR288.out) | (with_reducible refine Kd.C_alloc ?_ _) | (with_reducible refine Kd.C_drewN ?_ _) | (with_reducible refine Kd.C_drew ?_) | exact HR288.out)) | (with_reducible refine Kd.C_alloc ?_ _) | (with_reducible refine Kd.C_drewN ?_ _) | (with_reducible refine Kd.C_drew ?_))); (case side2 => exact HC288.out); rintro e w88 ⟨v291, rfl, ho0, hb⟩; refine ⟨_, rfl, ?_⟩; have n0_ := Aside0.mk (Kd.R_below (by (with_reducible repeat (first | apply Kd.R_alloc | apply Kd.R_drewN | apply Kd.R_drew)); exact HO_5.out) hb); have n1_ := Aside0.mk (Kd.R_below (by (with_reducible repeat (first | apply Kd.R_alloc | apply Kd.R_drewN | apply Kd.R_drew)); exact HO_6.out) hb); have n2_ := Aside0.mk (Kd.S_lower (Kd.S_new' ho0 (Kd.R_lt (by (with_reducible repeat (first | apply Kd.R_alloc | apply Kd.R_drewN | apply Kd.R_drew)); exact HO_5.out))) (below_size (by repeat (first | (with_reducible first | exact HB.out | apply below_alloc | apply pw_below_drewN | apply below_drew1) | exact HB.out)))); have n3_ := Aside0.mk (Kd.C_below (by repeat (first | (with_reducible exact HR288.out) | (with_reducible refine Kd.C_alloc ?_ _) | (with_reducible refine Kd.C_drewN ?_ _) | (with_reducible refine Kd.C_drew ?_) | exact HR288.out)) hb); have n4_ := Aside0.mk (below_step (by repeat (first | (with_reducible first | exact HB.out | apply below_alloc | apply pw_below_drewN | apply below_drew1) | exact HB.out)) hb); clear HO_5; clear HO_6; clear HR288; clear HB; have HO_5 := n0_; have HO_6 := n1_; have HO292 := n2_; have HR288 := n3_; have HB := n4_; clear n0_ n1_ n2_ n3_ n4_; (try clear hb); (try clear hb2); (try clear hk); (try clear hi); (try clear ho0)) | ((with_reducible refine gate_callee (f := 10) rfl ?_); refine goesL_ (some 93) rfl rfl Try.func10 (by kernel_rfl) rfl #[] rfl (by (try simp only [List.map_toArray, List.map_cons, List.map_nil]); first | done | rfl | (simp only [List.length_drop, List.length_take]; rfl)) ?_; (with_reducible refine (rickyardlaw05_alive.calls  true _ A78.out).mono ?_); rintro e w89 ⟨rfl, hb⟩; refine ⟨_, rfl, ?_⟩; have n0_ := Aside0.mk (Kd.R_below (by (with_reducible repeat (first | apply Kd.R_alloc | apply Kd.R_drewN | apply Kd.R_drew)); exact HO_5.out) hb); have n1_ := Aside0.mk (Kd.R_below (by (with_reducible repeat (first | apply Kd.R_alloc | apply Kd.R_drewN | apply Kd.R_drew)); exact HO_6.out) hb); have n2_ := Aside0.mk (Kd.S_below (by (with_reducible repeat (first | apply Kd.S_alloc | apply Kd.S_drewN | apply Kd.S_drew)); exact HO292.out) hb); have n3_ := Aside0.mk (Kd.C_below (by repeat (first | (with_reducible exact HR288.out) | (with_reducible refine Kd.C_alloc ?_ _) | (with_reducible refine Kd.C_drewN ?_ _) | (with_reducible refine Kd.C_drew ?_) | exact HR288.out)) hb); have n4_ := Aside0.mk (below_step (by repeat (first | (with_reducible first | exact HB.out | apply below_alloc | apply pw_below_drewN | apply below_drew1) | exact HB.out)) hb); clear HO_5; clear HO_6; clear HO292; clear HR288; clear HB; have HO_5 := n0_; have HO_6 := n1_; have HO292 := n2_; have HR288 := n3_; have HB := n4_; clear n0_ n1_ n2_ n3_ n4_; (try clear hb); (try clear hb2); (try clear hk); (try clear hi); have q90 : (x12_4 : Int) ≤ ((l0.length : Int) : Int) := of_decide_eq_true (by first | (with_reducible assumption) | assumption); obtain ⟨i090, hi090, _, hsz90, _⟩ := info_parts info22; have hroom90 : l0.length ≤ c0 := HC0.out; have hC90 : Kd.C (Kd.slice 5 (Kd.int .u8)) _ A0 l0.length l0 := HR0.out; have hcut90 := cut_to (P := Try.prog) 38 22 .i64 Try.underlying38 hi090 A0 l0.length c0 x12_4 (of_decide_eq_true (by first | (with_reducible assumption) | assumption)) q90 hroom90; have hr90 := Kd.C_take (m := (x12_4 : Int).toNat) hC90 (by omega); have hy90 : y294.length = (x12_4 : Int).toNat := (by rw [Ny294.out, List.length_take]; omega); rw [← Ny294.out] at hr90; rw [← hy90] at hcut90; have HR297 := Aside0.mk hr90; have HC297 := Aside0.mk (show y294.length ≤ c0 from by omega); clear hr90 hC90 hroom90 hi090 hsz90; have KY90 := Aside0.mk hy90; clear hy90; replace q90 := eq_true q90; obtain ⟨Ao91, co91, eo91⟩ := Kd.S_slice HO292.out; subst eo91) | (go_at_call 22; (with_reducible refine (rickyardref05_Same.calls k4 _ _ t289 _ _ y294 true _ ?side1 ?side2 ?side3 ?side4 A82.out).mono ?_); (case side1 => repeat (first | exact (Kd.S_reads' HO292.out).2.2 | (with_reducible refine Kd.C_alloc ?_ _) | (with_reducible refine Kd.C_drewN ?_ _) | (with_reducible refine Kd.C_drew ?_))); (case side2 => exact (Kd.S_reads' HO292.out).2.1); (case side3 => repeat (first | exact (Kd.C_below HR297.out HB.out) | (with_reducible refine Kd.C_alloc ?_ _) | (with_reducible refine Kd.C_drewN ?_ _) | (with_reducible refine Kd.C_drew ?_))); (case side4 => exact HC297.out); rintro e w' ⟨rfl, ⟨nd, rfl⟩⟩))
                                            go_ret
                                            exact ⟨by first | rfl | (simp [errW_none, errW_some] <;> rfl) | (simp [*, errW_none, errW_some] <;> rfl), by repeat (first | (with_reducible first | exact HB.out | apply below_alloc | apply pw_below_drewN | apply below_drew1) | exact HB.out)⟩
                                          · rw [if_neg c85] at H
                                            have c85b0 : (t290 == 0) = false := beq_eq_false_iff_ne.mpr c85
                                            have c85b1 : (t290 != 0) = true := bne_iff_ne.mpr c85
                                            by_cases c92 : x12_4 > 0
                                            · rw [if_pos c92] at H
                                              have c92b0 : decide (0 < x12_4) = true := decide_eq_true c92
                                              clear c92
                                              obtain ⟨ji93, hji93⟩ : ∃ j_ : Int, (wrap64 (x12_4 - 1)) = j_ := ⟨_, rfl⟩
                                              replace H : (if 0 ≤ (ji93) then (if (ji93) < (x6_1.length : Int) then (some (t290 == (rd x6_1 (ji93)))) else (none)) else (none)) = some r := by first | (rw [hji93] at H; exact H) | (simp only [hji93] at H ⊢; exact H)
                                              (try rw [hji93] at A77)
                                              (try rw [hji93] at A78)
                                              (try rw [hji93] at A82)
                                              have hji93w : (IntKind.i64.wrap (x12_4 - 1)) = ji93 := (i64_w _).trans hji93
                                              by_cases c94 : 0 ≤ (ji93)
                                              · rw [if_pos c94] at H
                                                have c94b0 : decide (0 ≤ (ji93)) = true := decide_eq_true c94
                                                clear c94
                                                by_cases c95 : (ji93) < (x6_1.length : Int)
                                                · rw [if_pos c95] at H
                                                  have c95b0 : decide ((ji93) < (x6_1.length : Int)) = true := decide_eq_true c95
                                                  clear c95
                                                  obtain rfl := Option.some.inj H
                                                  obtain ⟨Ao96, co96, eo96⟩ := Kd.R_slice HO_6.out
                                                  subst eo96
                                                  have q97 : (a1 : Int) ≤ ((x5_1.length : Int) : Int) := of_decide_eq_true (by first | (with_reducible assumption) | assumption)
                                                  obtain ⟨i097, hi097, _, hsz97, _⟩ := info_parts info5
                                                  have hroom97 : x5_1.length ≤ co22 := (Kd.R_reads' HO_5.out).2.1
                                                  have hC97 : Kd.C (Kd.int .u8) _ Ao22 x5_1.length x5_1 := (Kd.R_reads' HO_5.out).2.2
                                                  have hcut97 := cut_to (P := Try.prog) 22 5 .i64 Try.underlying22 hi097 Ao22 x5_1.length co22 a1 (of_decide_eq_true (by first | (with_reducible assumption) | assumption)) q97 hroom97
                                                  have hr97 := Kd.C_take (m := (a1 : Int).toNat) hC97 (by omega)
                                                  have hy97 : y285.length = (a1 : Int).toNat := (by rw [Ny285.out, List.length_take]; omega)
                                                  rw [← Ny285.out] at hr97
                                                  rw [← hy97] at hcut97
                                                  have HR288 := Aside0.mk hr97
                                                  have HC288 := Aside0.mk (show y285.length ≤ co22 from by omega)
                                                  clear hr97 hC97 hroom97 hi097 hsz97
                                                  have KY97 := Aside0.mk hy97
                                                  clear hy97
                                                  have KL97 := Aside0.mk (show (a1 : Int).toNat ≤ x5_1.length from by omega)
                                                  replace q97 := eq_true q97
                                                  go_wp2_with (first | ((with_reducible refine gate_callee (f := 19) rfl ?_); refine goesL_ (some 90) rfl rfl Try.func19 (by kernel_rfl) rfl #[.slice Ao22 y285.length co22] rfl (by (try simp only [List.map_toArray, List.map_cons, List.map_nil]); first | done | rfl | (simp only [List.length_drop, List.length_take]; rfl)) ?_; (with_reducible refine (crc_All.calls _ _ y285 t289 t290 _ ?side1 ?side2 A77.out).mono ?_); (case side1 => repeat (first | exact (by repeat (first | (with_reducible exact HR288.out) | (with_reducible refine Kd.C_alloc ?_ _) | (with_reducible refine Kd.C_drewN ?_ _) | (with_reducible refine Kd.C_drew ?_) | exact HR288.out)) | (with_reducible refine Kd.C_alloc ?_ _) | (with_reducible refine Kd.C_drewN ?_ _) | (with_reducible refine Kd.C_drew ?_))); (case side2 => exact HC288.out); rintro e w98 ⟨v291, rfl, ho0, hb⟩; refine ⟨_, rfl, ?_⟩; have n0_ := Aside0.mk (Kd.R_below (by (with_reducible repeat (first | apply Kd.R_alloc | apply Kd.R_drewN | apply Kd.R_drew)); exact HO_5.out) hb); have n1_ := Aside0.mk (Kd.R_below (by (with_reducible repeat (first | apply Kd.R_alloc | apply Kd.R_drewN | apply Kd.R_drew)); exact HO_6.out) hb); have n2_ := Aside0.mk (Kd.S_lower (Kd.S_new' ho0 (Kd.R_lt (by (with_reducible repeat (first | apply Kd.R_alloc | apply Kd.R_drewN | apply Kd.R_drew)); exact HO_5.out))) (below_size (by repeat (first | (with_reducible first | exact HB.out | apply below_alloc | apply pw_below_drewN | apply below_drew1) | exact HB.out)))); have n3_ := Aside0.mk (Kd.C_below (by repeat (first | (with_reducible exact HR288.out) | (with_reducible refine Kd.C_alloc ?_ _) | (with_reducible refine Kd.C_drewN ?_ _) | (with_reducible refine Kd.C_drew ?_) | exact HR288.out)) hb); have n4_ := Aside0.mk (below_step (by repeat (first | (with_reducible first | exact HB.out | apply below_alloc | apply pw_below_drewN | apply below_drew1) | exact HB.out)) hb); clear HO_5; clear HO_6; clear HR288; clear HB; have HO_5 := n0_; have HO_6 := n1_; have HO292 := n2_; have HR288 := n3_; have HB := n4_; clear n0_ n1_ n2_ n3_ n4_; (try clear hb); (try clear hb2); (try clear hk); (try clear hi); (try clear ho0)) | ((with_reducible refine gate_callee (f := 10) rfl ?_); refine goesL_ (some 93) rfl rfl Try.func10 (by kernel_rfl) rfl #[] rfl (by (try simp only [List.map_toArray, List.map_cons, List.map_nil]); first | done | rfl | (simp only [List.length_drop, List.length_take]; rfl)) ?_; (with_reducible refine (rickyardlaw05_alive.calls  true _ A78.out).mono ?_); rintro e w99 ⟨rfl, hb⟩; refine ⟨_, rfl, ?_⟩; have n0_ := Aside0.mk (Kd.R_below (by (with_reducible repeat (first | apply Kd.R_alloc | apply Kd.R_drewN | apply Kd.R_drew)); exact HO_5.out) hb); have n1_ := Aside0.mk (Kd.R_below (by (with_reducible repeat (first | apply Kd.R_alloc | apply Kd.R_drewN | apply Kd.R_drew)); exact HO_6.out) hb); have n2_ := Aside0.mk (Kd.S_below (by (with_reducible repeat (first | apply Kd.S_alloc | apply Kd.S_drewN | apply Kd.S_drew)); exact HO292.out) hb); have n3_ := Aside0.mk (Kd.C_below (by repeat (first | (with_reducible exact HR288.out) | (with_reducible refine Kd.C_alloc ?_ _) | (with_reducible refine Kd.C_drewN ?_ _) | (with_reducible refine Kd.C_drew ?_) | exact HR288.out)) hb); have n4_ := Aside0.mk (below_step (by repeat (first | (with_reducible first | exact HB.out | apply below_alloc | apply pw_below_drewN | apply below_drew1) | exact HB.out)) hb); clear HO_5; clear HO_6; clear HO292; clear HR288; clear HB; have HO_5 := n0_; have HO_6 := n1_; have HO292 := n2_; have HR288 := n3_; have HB := n4_; clear n0_ n1_ n2_ n3_ n4_; (try clear hb); (try clear hb2); (try clear hk); (try clear hi); have q100 : (x12_4 : Int) ≤ ((l0.length : Int) : Int) := of_decide_eq_true (by first | (with_reducible assumption) | assumption); obtain ⟨i0100, hi0100, _, hsz100, _⟩ := info_parts info22; have hroom100 : l0.length ≤ c0 := HC0.out; have hC100 : Kd.C (Kd.slice 5 (Kd.int .u8)) _ A0 l0.length l0 := HR0.out; have hcut100 := cut_to (P := Try.prog) 38 22 .i64 Try.underlying38 hi0100 A0 l0.length c0 x12_4 (of_decide_eq_true (by first | (with_reducible assumption) | assumption)) q100 hroom100; have hr100 := Kd.C_take (m := (x12_4 : Int).toNat) hC100 (by omega); have hy100 : y294.length = (x12_4 : Int).toNat := (by rw [Ny294.out, List.length_take]; omega); rw [← Ny294.out] at hr100; rw [← hy100] at hcut100; have HR297 := Aside0.mk hr100; have HC297 := Aside0.mk (show y294.length ≤ c0 from by omega); clear hr100 hC100 hroom100 hi0100 hsz100; have KY100 := Aside0.mk hy100; clear hy100; replace q100 := eq_true q100; obtain ⟨Ao101, co101, eo101⟩ := Kd.S_slice HO292.out; subst eo101) | (go_at_call 22; (with_reducible refine (rickyardref05_Same.calls k4 _ _ t289 _ _ y294 true _ ?side1 ?side2 ?side3 ?side4 A82.out).mono ?_); (case side1 => repeat (first | exact (Kd.S_reads' HO292.out).2.2 | (with_reducible refine Kd.C_alloc ?_ _) | (with_reducible refine Kd.C_drewN ?_ _) | (with_reducible refine Kd.C_drew ?_))); (case side2 => exact (Kd.S_reads' HO292.out).2.1); (case side3 => repeat (first | exact (Kd.C_below HR297.out HB.out) | (with_reducible refine Kd.C_alloc ?_ _) | (with_reducible refine Kd.C_drewN ?_ _) | (with_reducible refine Kd.C_drew ?_))); (case side4 => exact HC297.out); rintro e w' ⟨rfl, ⟨nd, rfl⟩⟩; have p299 : 0 ≤ ((ji93) : Int) := of_decide_eq_true (by first | (with_reducible assumption) | assumption); have q299 : (ji93) < (x6_1.length : Int) := of_decide_eq_true (by first | (with_reducible assumption) | assumption); obtain ⟨ad299, e299, hx299_0⟩ := Kd.at_int (Kd.R_reads' HO_6.out).2.2 (ji93) p299 q299; cases e299; replace p299 := eq_true p299; replace q299 := eq_true q299))
                                                  go_ret
                                                  exact ⟨by first | rfl | (simp [errW_none, errW_some] <;> rfl) | (simp only [← hji93]; first | rfl | (simp [errW_none, errW_some] <;> rfl)) | (simp [*, errW_none, errW_some] <;> rfl), by repeat (first | (with_reducible first | exact HB.out | apply below_alloc | apply pw_below_drewN | apply below_drew1) | exact HB.out)⟩
                                                · rw [if_neg c95] at H
                                                  exact absurd H (by simp)
                                              · rw [if_neg c94] at H
                                                exact absurd H (by simp)
                                            · rw [if_neg c92] at H
                                              have c92b0 : decide (0 < x12_4) = false := decide_eq_false c92
                                              clear c92
                                              exact absurd ((Option.some.inj H).trans HR_.out) (by decide)
                                        · rw [if_neg c84] at H
                                          have c84b0 : (x12_4 == 0) = false := beq_eq_false_iff_ne.mpr c84
                                          have c84b1 : (x12_4 != 0) = true := bne_iff_ne.mpr c84
                                          by_cases c102 : x12_4 > 0
                                          · rw [if_pos c102] at H
                                            have c102b0 : decide (0 < x12_4) = true := decide_eq_true c102
                                            clear c102
                                            obtain ⟨ji103, hji103⟩ : ∃ j_ : Int, (wrap64 (x12_4 - 1)) = j_ := ⟨_, rfl⟩
                                            replace H : (if 0 ≤ (ji103) then (if (ji103) < (x6_1.length : Int) then (some (t290 == (rd x6_1 (ji103)))) else (none)) else (none)) = some r := by first | (rw [hji103] at H; exact H) | (simp only [hji103] at H ⊢; exact H)
                                            (try rw [hji103] at A77)
                                            (try rw [hji103] at A78)
                                            (try rw [hji103] at A82)
                                            have hji103w : (IntKind.i64.wrap (x12_4 - 1)) = ji103 := (i64_w _).trans hji103
                                            by_cases c104 : 0 ≤ (ji103)
                                            · rw [if_pos c104] at H
                                              have c104b0 : decide (0 ≤ (ji103)) = true := decide_eq_true c104
                                              clear c104
                                              by_cases c105 : (ji103) < (x6_1.length : Int)
                                              · rw [if_pos c105] at H
                                                have c105b0 : decide ((ji103) < (x6_1.length : Int)) = true := decide_eq_true c105
                                                clear c105
                                                obtain rfl := Option.some.inj H
                                                obtain ⟨Ao106, co106, eo106⟩ := Kd.R_slice HO_6.out
                                                subst eo106
                                                have q107 : (a1 : Int) ≤ ((x5_1.length : Int) : Int) := of_decide_eq_true (by first | (with_reducible assumption) | assumption)
                                                obtain ⟨i0107, hi0107, _, hsz107, _⟩ := info_parts info5
                                                have hroom107 : x5_1.length ≤ co22 := (Kd.R_reads' HO_5.out).2.1
                                                have hC107 : Kd.C (Kd.int .u8) _ Ao22 x5_1.length x5_1 := (Kd.R_reads' HO_5.out).2.2
                                                have hcut107 := cut_to (P := Try.prog) 22 5 .i64 Try.underlying22 hi0107 Ao22 x5_1.length co22 a1 (of_decide_eq_true (by first | (with_reducible assumption) | assumption)) q107 hroom107
                                                have hr107 := Kd.C_take (m := (a1 : Int).toNat) hC107 (by omega)
                                                have hy107 : y285.length = (a1 : Int).toNat := (by rw [Ny285.out, List.length_take]; omega)
                                                rw [← Ny285.out] at hr107
                                                rw [← hy107] at hcut107
                                                have HR288 := Aside0.mk hr107
                                                have HC288 := Aside0.mk (show y285.length ≤ co22 from by omega)
                                                clear hr107 hC107 hroom107 hi0107 hsz107
                                                have KY107 := Aside0.mk hy107
                                                clear hy107
                                                have KL107 := Aside0.mk (show (a1 : Int).toNat ≤ x5_1.length from by omega)
                                                replace q107 := eq_true q107
                                                go_wp2_with (first | ((with_reducible refine gate_callee (f := 19) rfl ?_); refine goesL_ (some 90) rfl rfl Try.func19 (by kernel_rfl) rfl #[.slice Ao22 y285.length co22] rfl (by (try simp only [List.map_toArray, List.map_cons, List.map_nil]); first | done | rfl | (simp only [List.length_drop, List.length_take]; rfl)) ?_; (with_reducible refine (crc_All.calls _ _ y285 t289 t290 _ ?side1 ?side2 A77.out).mono ?_); (case side1 => repeat (first | exact (by repeat (first | (with_reducible exact HR288.out) | (with_reducible refine Kd.C_alloc ?_ _) | (with_reducible refine Kd.C_drewN ?_ _) | (with_reducible refine Kd.C_drew ?_) | exact HR288.out)) | (with_reducible refine Kd.C_alloc ?_ _) | (with_reducible refine Kd.C_drewN ?_ _) | (with_reducible refine Kd.C_drew ?_))); (case side2 => exact HC288.out); rintro e w108 ⟨v291, rfl, ho0, hb⟩; refine ⟨_, rfl, ?_⟩; have n0_ := Aside0.mk (Kd.R_below (by (with_reducible repeat (first | apply Kd.R_alloc | apply Kd.R_drewN | apply Kd.R_drew)); exact HO_5.out) hb); have n1_ := Aside0.mk (Kd.R_below (by (with_reducible repeat (first | apply Kd.R_alloc | apply Kd.R_drewN | apply Kd.R_drew)); exact HO_6.out) hb); have n2_ := Aside0.mk (Kd.S_lower (Kd.S_new' ho0 (Kd.R_lt (by (with_reducible repeat (first | apply Kd.R_alloc | apply Kd.R_drewN | apply Kd.R_drew)); exact HO_5.out))) (below_size (by repeat (first | (with_reducible first | exact HB.out | apply below_alloc | apply pw_below_drewN | apply below_drew1) | exact HB.out)))); have n3_ := Aside0.mk (Kd.C_below (by repeat (first | (with_reducible exact HR288.out) | (with_reducible refine Kd.C_alloc ?_ _) | (with_reducible refine Kd.C_drewN ?_ _) | (with_reducible refine Kd.C_drew ?_) | exact HR288.out)) hb); have n4_ := Aside0.mk (below_step (by repeat (first | (with_reducible first | exact HB.out | apply below_alloc | apply pw_below_drewN | apply below_drew1) | exact HB.out)) hb); clear HO_5; clear HO_6; clear HR288; clear HB; have HO_5 := n0_; have HO_6 := n1_; have HO292 := n2_; have HR288 := n3_; have HB := n4_; clear n0_ n1_ n2_ n3_ n4_; (try clear hb); (try clear hb2); (try clear hk); (try clear hi); (try clear ho0)) | ((with_reducible refine gate_callee (f := 10) rfl ?_); refine goesL_ (some 93) rfl rfl Try.func10 (by kernel_rfl) rfl #[] rfl (by (try simp only [List.map_toArray, List.map_cons, List.map_nil]); first | done | rfl | (simp only [List.length_drop, List.length_take]; rfl)) ?_; (with_reducible refine (rickyardlaw05_alive.calls  true _ A78.out).mono ?_); rintro e w109 ⟨rfl, hb⟩; refine ⟨_, rfl, ?_⟩; have n0_ := Aside0.mk (Kd.R_below (by (with_reducible repeat (first | apply Kd.R_alloc | apply Kd.R_drewN | apply Kd.R_drew)); exact HO_5.out) hb); have n1_ := Aside0.mk (Kd.R_below (by (with_reducible repeat (first | apply Kd.R_alloc | apply Kd.R_drewN | apply Kd.R_drew)); exact HO_6.out) hb); have n2_ := Aside0.mk (Kd.S_below (by (with_reducible repeat (first | apply Kd.S_alloc | apply Kd.S_drewN | apply Kd.S_drew)); exact HO292.out) hb); have n3_ := Aside0.mk (Kd.C_below (by repeat (first | (with_reducible exact HR288.out) | (with_reducible refine Kd.C_alloc ?_ _) | (with_reducible refine Kd.C_drewN ?_ _) | (with_reducible refine Kd.C_drew ?_) | exact HR288.out)) hb); have n4_ := Aside0.mk (below_step (by repeat (first | (with_reducible first | exact HB.out | apply below_alloc | apply pw_below_drewN | apply below_drew1) | exact HB.out)) hb); clear HO_5; clear HO_6; clear HO292; clear HR288; clear HB; have HO_5 := n0_; have HO_6 := n1_; have HO292 := n2_; have HR288 := n3_; have HB := n4_; clear n0_ n1_ n2_ n3_ n4_; (try clear hb); (try clear hb2); (try clear hk); (try clear hi); have q110 : (x12_4 : Int) ≤ ((l0.length : Int) : Int) := of_decide_eq_true (by first | (with_reducible assumption) | assumption); obtain ⟨i0110, hi0110, _, hsz110, _⟩ := info_parts info22; have hroom110 : l0.length ≤ c0 := HC0.out; have hC110 : Kd.C (Kd.slice 5 (Kd.int .u8)) _ A0 l0.length l0 := HR0.out; have hcut110 := cut_to (P := Try.prog) 38 22 .i64 Try.underlying38 hi0110 A0 l0.length c0 x12_4 (of_decide_eq_true (by first | (with_reducible assumption) | assumption)) q110 hroom110; have hr110 := Kd.C_take (m := (x12_4 : Int).toNat) hC110 (by omega); have hy110 : y294.length = (x12_4 : Int).toNat := (by rw [Ny294.out, List.length_take]; omega); rw [← Ny294.out] at hr110; rw [← hy110] at hcut110; have HR297 := Aside0.mk hr110; have HC297 := Aside0.mk (show y294.length ≤ c0 from by omega); clear hr110 hC110 hroom110 hi0110 hsz110; have KY110 := Aside0.mk hy110; clear hy110; replace q110 := eq_true q110; obtain ⟨Ao111, co111, eo111⟩ := Kd.S_slice HO292.out; subst eo111) | (go_at_call 22; (with_reducible refine (rickyardref05_Same.calls k4 _ _ t289 _ _ y294 true _ ?side1 ?side2 ?side3 ?side4 A82.out).mono ?_); (case side1 => repeat (first | exact (Kd.S_reads' HO292.out).2.2 | (with_reducible refine Kd.C_alloc ?_ _) | (with_reducible refine Kd.C_drewN ?_ _) | (with_reducible refine Kd.C_drew ?_))); (case side2 => exact (Kd.S_reads' HO292.out).2.1); (case side3 => repeat (first | exact (Kd.C_below HR297.out HB.out) | (with_reducible refine Kd.C_alloc ?_ _) | (with_reducible refine Kd.C_drewN ?_ _) | (with_reducible refine Kd.C_drew ?_))); (case side4 => exact HC297.out); rintro e w' ⟨rfl, ⟨nd, rfl⟩⟩; have p300 : 0 ≤ ((ji103) : Int) := of_decide_eq_true (by first | (with_reducible assumption) | assumption); have q300 : (ji103) < (x6_1.length : Int) := of_decide_eq_true (by first | (with_reducible assumption) | assumption); obtain ⟨ad300, e300, hx300_0⟩ := Kd.at_int (Kd.R_reads' HO_6.out).2.2 (ji103) p300 q300; cases e300; replace p300 := eq_true p300; replace q300 := eq_true q300))
                                                go_ret
                                                exact ⟨by first | rfl | (simp [errW_none, errW_some] <;> rfl) | (simp only [← hji103]; first | rfl | (simp [errW_none, errW_some] <;> rfl)) | (simp [*, errW_none, errW_some] <;> rfl), by repeat (first | (with_reducible first | exact HB.out | apply below_alloc | apply pw_below_drewN | apply below_drew1) | exact HB.out)⟩
                                              · rw [if_neg c105] at H
                                                exact absurd H (by simp)
                                            · rw [if_neg c104] at H
                                              exact absurd H (by simp)
                                          · rw [if_neg c102] at H
                                            have c102b0 : decide (0 < x12_4) = false := decide_eq_false c102
                                            clear c102
                                            exact absurd ((Option.some.inj H).trans HR_.out) (by decide)
                                      · replace c83 := Bool.eq_false_iff.mpr c83
                                        subst c83
                                        have H1 : (some false) = some r := by rw [if_neg (show ¬ (false = true) by decide)] at H; exact H
                                        clear H
                                        have H := H1
                                        clear H1
                                        exact absurd ((Option.some.inj H).trans HR_.out) (by decide)
                                    · rw [if_neg c81] at H
                                      exact absurd H (by simp)
                                  · rw [if_neg c80] at H
                                    exact absurd H (by simp)
                                · replace c79 := Bool.eq_false_iff.mpr c79
                                  subst c79
                                  have H1 : (some false) = some r := by rw [if_neg (show ¬ (false = true) by decide)] at H; exact H
                                  clear H
                                  have H := H1
                                  clear H1
                                  exact absurd ((Option.some.inj H).trans HR_.out) (by decide)
                              · rw [if_neg c76] at H
                                exact absurd H (by simp)
                            · rw [if_neg c75] at H
                              exact absurd H (by simp)

end Go.Proofs.Ythdkcfobhofmpaa.P
