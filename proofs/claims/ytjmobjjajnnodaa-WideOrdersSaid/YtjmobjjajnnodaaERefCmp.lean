/- The reference's comparison of two numbers: digit by digit, the first one turned. Guard: the low halves are within 64 digits. -/
import Derived.Test.YtjmobjjajnnodaaERef01B
import Derived.Deep.QuietTactic
import Derived.BigQuiet
namespace Go.Proofs.Ytjmobjjajnnodaa.P
open Go.RowKit Go.Proofs.YtjmobjjajnnodaaW.PrintWords Go.Proofs.YtjmobjjajnnodaaW.PrintLast Go.Proofs.YtjmobjjajnnodaaW.PrintMore
set_option linter.unusedVariables false
set_option linter.unusedSimpArgs false

/-- The last digit turned. -/
def tu (f : Nat → Nat) (j : Nat) : Nat := if j = 15 then (f 15 + 128) % 256 else f j
/-- Digits held against each other, from the greatest one on. -/
def cmpD (f g : Nat → Nat) : Nat → Int
  | 0 => 0
  | i + 1 => if f i < g i then -1 else if g i < f i then 1 else cmpD f g i
theorem tu_lt {f : Nat → Nat} (h : ∀ j, f j < 256) (j : Nat) : tu f j < 256 := by
  unfold tu; have := h j; split <;> omega
def refCmp (x y : Nat) : Int := cmpD (tu (dg x)) (tu (dg y)) 16
def rickyardref01_Cmp.f (a0 a1 b0 b1 : Int) : Option Int := if 0 ≤ a1 ∧ a1 < 18446744073709551616 ∧ 0 ≤ b1 ∧ b1 < 18446744073709551616 then some (refCmp (big a0 a1) (big b0 b1)) else none

set_option maxHeartbeats 4000000 in
set_option maxRecDepth 100000 in
theorem rickyardref01_Cmp.calls (a0 a1 b0 b1 r : Int) (w : World) (h : rickyardref01_Cmp.f a0 a1 b0 b1 = some r) :
    Calls Try.prog 14 #[.agg #[.int .i64 a0, .int .u64 a1], .agg #[.int .i64 b0, .int .u64 b1]] w fun e w' => e = .returned (.int .i64 r) ∧ Below w.heap.size w w' := by
  unfold rickyardref01_Cmp.f at h
  by_cases hc : 0 ≤ a1 ∧ a1 < 18446744073709551616 ∧ 0 ≤ b1 ∧ b1 < 18446744073709551616
  case neg => rw [if_neg hc] at h; cases h
  rw [if_pos hc] at h
  obtain rfl := Option.some.inj h
  obtain ⟨c1, c2, c3, c4⟩ := hc
  have cA := fun W => digits_calls a0 a1 W c1 c2
  have cB := fun W => digits_calls b0 b1 W c3 c4
  obtain ⟨x, hx⟩ : ∃ x, big a0 a1 = x := ⟨_, rfl⟩
  obtain ⟨y, hy⟩ : ∃ y, big b0 b1 = y := ⟨_, rfl⟩
  rw [hx] at cA ⊢
  rw [hy] at cB ⊢
  have hu := Try.underlying24
  have hu2 := Try.underlying48
  have HB0 := Aside0.mk (Below.refl w.heap.size w)
  have CA := Aside0.mk cA
  have CB := Aside0.mk cB
  clear hx hy cA cB c1 c2 c3 c4
  go_enter Try.func14, Try.ntmps14
  go_upto_region 1 with (fail)
  obtain ⟨W1, hW1⟩ : ∃ W1, (w.alloc (.cells #[.int .i64 a0, .int .u64 a1] 24)).alloc (.cells #[.int .i64 b0, .int .u64 b1] 24) = W1 := ⟨_, rfl⟩
  rw [hW1]
  have B0 : W1.heap[w.heap.size]? = some (.cells #[.int .i64 a0, .int .u64 a1] 24 (0, 0)) := by rw [← hW1]; exact blk_alloc (blk_new _ _) _
  have B1 : W1.heap[w.heap.size + 1]? = some (.cells #[.int .i64 b0, .int .u64 b1] 24 (0, 0)) := by rw [← hW1]; exact blk_new1 _ _ _
  have hb1 : Below w.heap.size w W1 := by rw [← hW1]; exact below_alloc (below_alloc HB0.out _) _
  clear hW1
  refine wp_region_dag (by kernel_rfl) [0, 1, 2, 3, 4, 5] (fun i => match i with | 1 => [0] | 3 => [2] | _ => []) #[true, true, true, true, true, true, false, false] 2
    (fun i v W lo hi => match i with
      | 0 => v = .agg #[.int .i64 a0, .int .u64 a1] | 1 => v = .agg (cells16 (dg x)).toArray | 2 => v = .agg #[.int .i64 b0, .int .u64 b1] | 3 => v = .agg (cells16 (dg y)).toArray
      | _ => v = .pointer (some ⟨lo, 0, none⟩) ∧ lo < hi ∧ W.heap[lo]? = some (.cells (cells16 (fun _ => 0)).toArray 48 (0, 0)))
    (by kernel_rfl) rfl (by decide) (by decide) rfl ?mono ?step ?fin
  case mono =>
    intro i hi v W W' lo hi' hl hF hb
    simp only [List.mem_cons, List.not_mem_nil, or_false] at hi
    rcases hi with rfl | rfl | rfl | rfl | rfl | rfl
    · exact hF
    · exact hF
    · exact hF
    · exact hF
    · exact ⟨hF.1, hF.2.1, (hb.block _ (by have := hF.2.1; omega)).trans hF.2.2⟩
    · exact ⟨hF.1, hF.2.1, (hb.block _ (by have := hF.2.1; omega)).trans hF.2.2⟩
  case step =>
    intro i hi b W hb hfr hpre
    simp only [List.mem_cons, List.not_mem_nil, or_false] at hi
    rcases hi with rfl | rfl | rfl | rfl | rfl | rfl
    · refine wpOp_of rfl rfl (wp_load_row 24 (.tmp 2) rfl w.heap.size ?_ 24 #[.int .i64 a0, .int .u64 a1] (0, 0) _ ((hb.block _ (blk_lt B0)).trans B0) hu rfl (by kernel_rfl) ?_)
      · exact hfr 2 (by decide)
      · exact ⟨_, rfl, Below.refl _ _, (fun h => by cases h), rfl⟩
    · obtain ⟨_, _, h0⟩ := hpre 0 (by simp)
      refine dag_call rfl rfl Try.func31 (by kernel_rfl) rfl rfl rfl (args := #[.agg #[.int .i64 a0, .int .u64 a1]]) (by have h1_ : b.eval (.tmp 8) = .agg #[.int .i64 a0, .int .u64 a1] := h0; simp only [List.map_toArray, List.map_cons, List.map_nil, h1_]) ?_
      refine (CA.out W).mono ?_
      rintro e W' ⟨rfl, hb'⟩
      exact ⟨_, rfl, _, rfl, hb', fun h => (by cases h), rfl⟩
    · refine wpOp_of rfl rfl (wp_load_row 24 (.tmp 3) rfl (w.heap.size + 1) ?_ 24 #[.int .i64 b0, .int .u64 b1] (0, 0) _ ((hb.block _ (blk_lt B1)).trans B1) hu rfl (by kernel_rfl) ?_)
      · exact hfr 3 (by decide)
      · exact ⟨_, rfl, Below.refl _ _, (fun h => by cases h), rfl⟩
    · obtain ⟨_, _, h0⟩ := hpre 2 (by simp)
      refine dag_call rfl rfl Try.func31 (by kernel_rfl) rfl rfl rfl (args := #[.agg #[.int .i64 b0, .int .u64 b1]]) (by have h1_ : b.eval (.tmp 10) = .agg #[.int .i64 b0, .int .u64 b1] := h0; simp only [List.map_toArray, List.map_cons, List.map_nil, h1_]) ?_
      refine (CB.out W).mono ?_
      rintro e W' ⟨rfl, hb'⟩
      exact ⟨_, rfl, _, rfl, hb', fun h => (by cases h), rfl⟩
    · refine wpOp_of rfl rfl ?_
      generalize hK : (fun (a' : Act) (W' : World) => _) = K
      go_simp
      rw [← hK]
      exact ⟨.pointer (some ⟨W.heap.size, 0, none⟩), rfl, (Below.refl _ _).alloc (Nat.le_refl _) _, (fun h => by cases h), rfl, by simp, blk_new _ _⟩
    · refine wpOp_of rfl rfl ?_
      generalize hK : (fun (a' : Act) (W' : World) => _) = K
      go_simp
      rw [← hK]
      exact ⟨.pointer (some ⟨W.heap.size, 0, none⟩), rfl, (Below.refl _ _).alloc (Nat.le_refl _) _, (fun h => by cases h), rfl, by simp, blk_new _ _⟩
  case fin =>
    intro vals lo hi W hb hF hap
    obtain ⟨e4, l4, z4⟩ := (hF 4 (by simp)).1
    obtain ⟨e5, l5, z5⟩ := (hF 5 (by simp)).1
    have e1 : vals 1 = _ := (hF 1 (by simp)).1
    have e3 : vals 3 = _ := (hF 3 (by simp)).1
    have g4 := (hF 4 (by simp)).2.1
    have g5 := (hF 5 (by simp)).2.1
    have hne := hap 4 (by simp) 5 (by simp) (by decide)
    have hne' : lo 4 ≠ lo 5 := by omega
    have hg4 : w.heap.size + 1 < lo 4 := by have := blk_lt B1; omega
    have hg5 : w.heap.size + 1 < lo 5 := by have := blk_lt B1; omega
    have hbw := hb1.trans (hb.mono hb1.size)
    clear hF hap hne g4 g5 hb hb1 B0 B1 l4 l5 CA CB
    simp only [putsS]
    rw [e1, e3, e4, e5]
    generalize vals 0 = v0
    generalize vals 2 = v2
    obtain ⟨p, hp⟩ : ∃ p, lo 4 = p := ⟨_, rfl⟩
    obtain ⟨q, hq⟩ : ∃ q, lo 5 = q := ⟨_, rfl⟩
    rw [hp] at z4 hne' hg4 ⊢
    rw [hq] at z5 hne' hg5 ⊢
    clear hp hq e1 e3 e4 e5
    change wpAny _ _ _ _ _ _ { tmps := #[.agg #[.int .i64 a0, .int .u64 a1], .agg #[.int .i64 b0, .int .u64 b1], .pointer (some ⟨w.heap.size, 0, none⟩), .pointer (some ⟨w.heap.size + 1, 0, none⟩), .int .i64 0, .pointer (some ⟨p, 0, none⟩), .pointer (some ⟨q, 0, none⟩), undef, v0, .agg (cells16 (dg x)).toArray, v2, .agg (cells16 (dg y)).toArray, undef, undef, undef, undef, undef, undef, undef, undef, undef, undef, undef, undef, undef, undef, undef, undef, undef, undef, undef, undef, undef, undef, undef, undef, undef, undef, undef, undef], defers := [] } _
    refine wpAny_ready (rs := [6]) (by kernel_rfl) (by simp) ?_
    refine AllReady.cons rfl (fun K hK => ?_) ?_
    rotate_left 1
    focus exact AllReady.nil
    refine wanted_of rfl ?_
    refine wp_store_row 48 (.tmp 5) (.tmp 9) rfl p (cells16 (dg x)).toArray rfl rfl 48 _ z4 (by rw [List.size_toArray, cells16_len]; kernel_rfl) (by rw [List.size_toArray, List.size_toArray, cells16_len, cells16_len]) (cells16_one _) ?_
    refine hK _ _ ?_
    clear hK K
    refine wpAny_ready (rs := [7]) (by kernel_rfl) (by simp) ?_
    refine AllReady.cons rfl (fun K hK => ?_) ?_
    rotate_left 1
    focus exact AllReady.nil
    refine wanted_of rfl ?_
    refine wp_store_row 48 (.tmp 6) (.tmp 11) rfl q (cells16 (dg y)).toArray rfl rfl 48 _ ((setRow_other W p q _ hne'.symm).trans z5) (by rw [List.size_toArray, cells16_len]; kernel_rfl) (by rw [List.size_toArray, List.size_toArray, cells16_len, cells16_len]) (cells16_one _) ?_
    refine hK _ _ ?_
    clear hK K
    refine wpAny_done (by kernel_rfl) ?_ _
    obtain ⟨V, hV⟩ : ∃ V, (W.setRow p (cells16 (dg x)).toArray).setRow q (cells16 (dg y)).toArray = V := ⟨_, rfl⟩
    have hp1 := (setRow_other (W.setRow p (cells16 (dg x)).toArray) q p (cells16 (dg y)).toArray hne').trans (setRow_heap W p _ (cells16 (dg x)).toArray _ _ z4)
    have hq1 := setRow_heap (W.setRow p (cells16 (dg x)).toArray) q _ (cells16 (dg y)).toArray _ _ ((setRow_other W p q (cells16 (dg x)).toArray hne'.symm).trans z5)
    have hbv := below_setRow (below_setRow hbw (show w.heap.size ≤ p by omega) (cells16 (dg x)).toArray) (show w.heap.size ≤ q by omega) (cells16 (dg y)).toArray
    simp only [Act.put]
    rw [hV] at hp1 hq1 hbv ⊢
    clear hV z4 z5 hbw
    have HP := Aside0.mk hp1
    have HQ := Aside0.mk hq1
    have HB := Aside0.mk hbv
    have HN := Aside0.mk hne'
    have HG := Aside0.mk (And.intro hg4 hg5)
    clear hp1 hq1 hbv hne' hg4 hg5
    obtain ⟨d1, hd1⟩ : ∃ d : Int, d = (dg x 15 : Int) := ⟨_, rfl⟩
    obtain ⟨d2, hd2⟩ : ∃ d : Int, d = (dg y 15 : Int) := ⟨_, rfl⟩
    obtain ⟨t1, ht1⟩ : ∃ d : Int, d = (((dg x 15 + 128) % 256 : Nat) : Int) := ⟨_, rfl⟩
    obtain ⟨t2, ht2⟩ : ∃ d : Int, d = (((dg y 15 + 128) % 256 : Nat) : Int) := ⟨_, rfl⟩
    obtain ⟨s1, hs1⟩ : ∃ d : Int, d = d1 + 128 := ⟨_, rfl⟩
    obtain ⟨s2, hs2⟩ : ∃ d : Int, d = d2 + 128 := ⟨_, rfl⟩
    have b1 := dg_lt x 15
    have b2 := dg_lt y 15
    have w1 : wrap64 (d1 + 128) = s1 := by unfold wrap64; omega
    have w1b : IntKind.i64.wrap (d1 + 128) = s1 := by rw [IntKind.wrap_i64]; omega
    have w2 : wrap64 (d2 + 128) = s2 := by unfold wrap64; omega
    have w2b : IntKind.i64.wrap (d2 + 128) = s2 := by rw [IntKind.wrap_i64]; omega
    have w3 : s1.tmod 256 = t1 := by rw [Int.tmod_eq_emod_of_nonneg (by omega)]; omega
    have w4 : s2.tmod 256 = t2 := by rw [Int.tmod_eq_emod_of_nonneg (by omega)]; omega
    have w5 : wrap64 t1 = t1 := by unfold wrap64; omega
    have w6 : wrap64 t2 = t2 := by unfold wrap64; omega
    have HT1 := Aside0.mk ht1
    have HT2 := Aside0.mk ht2
    have hcz_0 : V.drew.cell? ⟨p, 15, none⟩ = some (.int .i64 d1) := by rw [hd1]; exact (blk_cell (blk_drew HP.out) 15).trans (cells16_at _ (by decide))
    have hcz_1 : V.drew.cell? ⟨q, 15, none⟩ = some (.int .i64 d2) := by rw [hd2]; exact (blk_cell (blk_drew HQ.out) 15).trans (cells16_at _ (by decide))
    have hfz_0 := blk_frozen (blk_drew HP.out) 15
    have hfz_1 := blk_frozen (blk_drew HQ.out) 15
    have hcz_2 : V.cell? ⟨p, 15, none⟩ = some (.int .i64 d1) := by rw [hd1]; exact (blk_cell HP.out 15).trans (cells16_at _ (by decide))
    have hcz_3 : V.cell? ⟨q, 15, none⟩ = some (.int .i64 d2) := by rw [hd2]; exact (blk_cell HQ.out 15).trans (cells16_at _ (by decide))
    have hfz_2 := blk_frozen HP.out 15
    have hfz_3 := blk_frozen HQ.out 15
    have hne1 := HN.out
    have hne2 : q ≠ p := fun e => HN.out e.symm
    clear hd1 hd2 ht1 ht2 hs1 hs2 b1 b2
    go_wp2
    go_region
    obtain ⟨U, hU⟩ : ∃ U, ((V.setCell ⟨p, 15, none⟩ (.int .i64 t1)).setCell ⟨q, 15, none⟩ (.int .i64 t2)).drew = U := ⟨_, rfl⟩
    have k1 : U.heap[p]? = some (.cells (cells16 (tu (dg x))).toArray 48 (0, 0)) := by
      rw [← hU]
      refine blk_drew (blk_far (p := ⟨q, 15, none⟩) ?_ hne1 _)
      rw [HT1.out]
      have e := blk_set HP.out 15 (.int .i64 (((dg x 15 + 128) % 256 : Nat) : Int))
      rw [cells16_set] at e
      exact e
    have k2 : U.heap[q]? = some (.cells (cells16 (tu (dg y))).toArray 48 (0, 0)) := by
      rw [← hU]
      refine blk_drew ?_
      rw [HT2.out]
      have e := blk_set (blk_far HQ.out (p := ⟨p, 15, none⟩) hne2 (.int .i64 t1)) 15 (.int .i64 (((dg y 15 + 128) % 256 : Nat) : Int))
      rw [cells16_set] at e
      exact e
    have k3 : Below w.heap.size w U := by
      rw [← hU]
      exact (below_set (below_set HB.out (by have := HG.out.1; omega)) (by have := HG.out.2; omega)).drew
    rw [hU]
    have K1 := Aside0.mk k1
    have K2 := Aside0.mk k2
    have K3 := Aside0.mk k3
    obtain ⟨fx, hfx⟩ : ∃ f, tu (dg x) = f := ⟨_, rfl⟩
    obtain ⟨fy, hfy⟩ : ∃ f, tu (dg y) = f := ⟨_, rfl⟩
    have HF := Aside0.mk (show refCmp x y = cmpD fx fy 16 by rw [refCmp, hfx, hfy])
    have HL1 := Aside0.mk (show ∀ j, fx j < 256 by rw [← hfx]; exact tu_lt (dg_lt x))
    have HL2 := Aside0.mk (show ∀ j, fy j < 256 by rw [← hfy]; exact tu_lt (dg_lt y))
    rw [hfx] at K1
    rw [hfy] at K2
    clear hU k1 k2 k3 hfx hfy w1 w1b w2 w2b w3 w4 w5 w6 hcz_0 hcz_1 hcz_2 hcz_3 hfz_0 hfz_1 hfz_2 hfz_3 hne1 hne2 HT1 HT2 HP HQ HB
    go_wp2
    go_loopg [7] 16 (fun kq v7 w' => ∃ (i : Nat) (iv : Int), v7 = .int .i64 iv ∧ Aside0 (iv = (i : Int) - 1 ∧ i ≤ 16 ∧ kq = i ∧ cmpD fx fy 16 = cmpD fx fy i) ∧ Aside0 (w'.heap[p]? = some (.cells (cells16 fx).toArray 48 (0, 0))) ∧ Aside0 (w'.heap[q]? = some (.cells (cells16 fy).toArray 48 (0, 0))) ∧ Aside0 (Below w.heap.size w w'))
    case atStart => exact ⟨16, 15, rfl, ⟨rfl, by decide, rfl, rfl⟩, K1, K2, K3⟩
    case round =>
      obtain ⟨i, iv, rfl, HI, BP, BQ, HB⟩ := hrel
      rcases i with _ | i
      · have d0 : decide (0 ≤ iv) = false := decide_eq_false (by have := HI.out.1; omega)
        go_wp2
        go_ret
        exact ⟨by rw [HF.out, HI.out.2.2.2]; rfl, HB.out⟩
      · obtain ⟨d1, hd1⟩ : ∃ d : Int, d = (fx i : Int) := ⟨_, rfl⟩
        obtain ⟨d2, hd2⟩ : ∃ d : Int, d = (fy i : Int) := ⟨_, rfl⟩
        have hI := HI.out
        have h16 : i < 16 := by omega
        have d0 : decide (0 ≤ iv) = true := decide_eq_true (by omega)
        have c2 : (0 ≤ iv) = True := eq_true (by omega)
        have c3 : (iv < 16) = True := eq_true (by omega)
        have c4 : iv.toNat = i := by omega
        have w7 : wrap64 (iv - 1) = (i : Int) - 1 := by unfold wrap64; omega
        have hcz_0 : wr.cell? ⟨p, i, none⟩ = some (.int .i64 d1) := by rw [hd1]; exact (blk_cell BP.out i).trans (cells16_at _ h16)
        have hcz_1 : wr.cell? ⟨q, i, none⟩ = some (.int .i64 d2) := by rw [hd2]; exact (blk_cell BQ.out i).trans (cells16_at _ h16)
        have D1 := Aside0.mk hd1
        have D2 := Aside0.mk hd2
        clear hI hd1 hd2 h16
        rcases Int.lt_trichotomy d1 d2 with hlt | heq | hgt
        · have e1 : decide (d1 < d2) = true := decide_eq_true hlt
          have HX := Aside0.mk hlt
          clear hlt
          go_wp2
          go_quiet (fail)
          go_wp2
          go_ret
          refine ⟨?_, pw_below_drewN HB.out _⟩
          rw [HF.out, HI.out.2.2.2, cmpD, if_pos (by have := HX.out; have := D1.out; have := D2.out; omega)]
          rfl
        · have e1 : decide (d1 < d2) = false := decide_eq_false (by omega)
          have e2 : decide (d2 < d1) = false := decide_eq_false (by omega)
          have HX := Aside0.mk heq
          clear heq
          go_wp2
          go_quiet (fail)
          go_wp2
          go_quiet (fail)
          go_wp2
          go_roundg i
          case measure => have := HI.out.2.2.1; omega
          case rel =>
            refine ⟨i, _, by rw [w7], ⟨rfl, by have := HI.out.2.1; omega, rfl, ?_⟩, ⟨by (with_reducible repeat (first | refine blk_drewN ?_ _ | refine blk_drew ?_)); exact BP.out⟩, ⟨by (with_reducible repeat (first | refine blk_drewN ?_ _ | refine blk_drew ?_)); exact BQ.out⟩, ⟨by repeat (first | exact HB.out | apply pw_below_drewN | apply below_drew1)⟩⟩
            rw [HI.out.2.2.2, cmpD, if_neg (by have := HX.out; have := D1.out; have := D2.out; omega), if_neg (by have := HX.out; have := D1.out; have := D2.out; omega)]
        · have e1 : decide (d1 < d2) = false := decide_eq_false (by omega)
          have e2 : decide (d2 < d1) = true := decide_eq_true hgt
          have HX := Aside0.mk hgt
          clear hgt
          go_wp2
          go_quiet (fail)
          go_wp2
          go_quiet (fail)
          go_wp2
          go_ret
          refine ⟨?_, by repeat (first | exact HB.out | apply pw_below_drewN | apply below_drew1)⟩
          rw [HF.out, HI.out.2.2.2, cmpD, if_neg (by have := HX.out; have := D1.out; have := D2.out; omega), if_pos (by have := HX.out; have := D1.out; have := D2.out; omega)]
          rfl

end Go.Proofs.Ytjmobjjajnnodaa.P
