/- MergeKnows' function comes to true. No conditions. -/
import Derived.Test.YtihdomhiiolojaaMgAlone
namespace Go.Proofs.Ytihdomhiiolojaa.Pure
open Go.RowKit Go.Proofs.Ytihdomhiiolojaa.P Go.Proofs.YtihdomhiiolojaaW.PrintWords Go.Proofs.YtihdomhiiolojaaW.PrintLast
set_option linter.unusedVariables false
set_option linter.unusedSimpArgs false

/-- What is known of a key of some entries. -/
def knA (k : List Int) (l : List En) : Ag := (gk k l).foldl mgA ag0
def knB (k : List Int) (l : List En) : Bool := decide (gk k l ≠ [])
theorem knA_nil (k : List Int) : knA k [] = ag0 := rfl
theorem knB_nil (k : List Int) : knB k [] = false := rfl
theorem kn_hit {k : List Int} {x : En} (l : List En) (h : x.f0 = k) : knA k (l ++ [x]) = mgA (knA k l) x.f1 ∧ knB k (l ++ [x]) = true := by
  have e : gk k (l ++ [x]) = gk k l ++ [x.f1] := by rw [gk_append, gk_cons, if_pos h, gk_nil]
  unfold knA knB
  rw [e, List.foldl_append]
  exact ⟨rfl, decide_eq_true (by simp)⟩
theorem kn_miss {k : List Int} {x : En} (l : List En) (h : x.f0 ≠ k) : knA k (l ++ [x]) = knA k l ∧ knB k (l ++ [x]) = knB k l := by
  have e : gk k (l ++ [x]) = gk k l := by rw [gk_append, gk_cons, if_neg h, gk_nil, List.append_nil]
  unfold knA knB
  rw [e]
  exact ⟨rfl, rfl⟩
theorem knA_good {k : List Int} {l : List En} (h : ∀ x ∈ l, GoodA x.f1) : GoodA (knA k l) := good_fold good_zero (gk_good h)
/-- The row that comes tells the same. -/
theorem kn_all {k : List Int} {l : List (List En)} (h1 : RowsR l) : knB k (allM l) = knB k l.flatten ∧ ∀ x ∈ allM l, x.f0 = k → x.f1 = knA k l.flatten := by
  obtain ⟨r1, r2, r3⟩ := allM_spec h1
  constructor
  · have h := r3 k
    rw [fold1_eq, fold1_eq] at h
    unfold knB
    by_cases ha : gk k (allM l) = []
    · by_cases hb : gk k l.flatten = []
      · rw [ha, hb]
      · rw [if_pos ha, if_neg hb] at h; cases h
    · by_cases hb : gk k l.flatten = []
      · rw [if_neg ha, if_pos hb] at h; cases h
      · rw [decide_eq_true ha, decide_eq_true hb]
  · intro x hx he
    have h := r3 k
    rw [← he, gk_mem r1 hx, fold1_eq (gk x.f0 l.flatten)] at h
    split at h
    · cases h
    · have e : x.f1 = (gk x.f0 l.flatten).foldl mgA ag0 := Option.some.inj h
      rw [← he]; exact e
end Go.Proofs.Ytihdomhiiolojaa.Pure
namespace Go.Proofs.Ytihdomhiiolojaa.P
open Go.RowKit Go.Proofs.YtihdomhiiolojaaW.PrintWords Go.Proofs.YtihdomhiiolojaaW.PrintLast Go.Proofs.YtihdomhiiolojaaW.PrintMore Go.Proofs.Ytihdomhiiolojaa.Pure
set_option linter.unusedVariables false
set_option linter.unusedSimpArgs false
attribute [local go_sem high] eqA39
abbrev agO (a : Ag) : Obj := .cells #[.int .u64 a.f0, .bool a.f1, .int .i64 a.f2.f0, .int .u64 a.f2.f1, .int .i64 a.f3, .int .i64 a.f4] 39
abbrev stK (W : World) (g : Nat) (z : Ag) : World := (((((W.setCell ⟨g, 0, none⟩ (.int .u64 z.f0)).setCell ⟨g, 0 + 1, none⟩ (.bool z.f1)).setCell ⟨g, 0 + 2, none⟩ (.int .i64 z.f2.f0)).setCell ⟨g, 0 + 3, none⟩ (.int .u64 z.f2.f1)).setCell ⟨g, 0 + 4, none⟩ (.int .i64 z.f3)).setCell ⟨g, 0 + 5, none⟩ (.int .i64 z.f4)
theorem stK_blk {W : World} {g : Nat} {a z : Ag} (h : W.heap[g]? = some (agO a)) : (stK W g z).heap[g]? = some (agO z) :=
  (blk_set (blk_set (blk_set (blk_set (blk_set (blk_set h 0 _) 1 _) 2 _) 3 _) 4 _) 5 _).trans rfl
theorem stK_below {n : Nat} {w0 W : World} {g : Nat} {z : Ag} (h : Below n w0 W) (hg : n ≤ g) : Below n w0 (stK W g z) :=
  (((((h.setCell (p := ⟨g, 0, none⟩) hg _).setCell (p := ⟨g, 0 + 1, none⟩) hg _).setCell (p := ⟨g, 0 + 2, none⟩) hg _).setCell (p := ⟨g, 0 + 3, none⟩) hg _).setCell (p := ⟨g, 0 + 4, none⟩) hg _).setCell (p := ⟨g, 0 + 5, none⟩) hg _
theorem agO_cells {W : World} {g : Nat} {a : Ag} (h : W.heap[g]? = some (agO a)) : W.cell? ⟨g, 0, none⟩ = some (.int .u64 a.f0) ∧ W.cell? ⟨g, 1, none⟩ = some (.bool a.f1) ∧ W.cell? ⟨g, 2, none⟩ = some (.int .i64 a.f2.f0) ∧ W.cell? ⟨g, 3, none⟩ = some (.int .u64 a.f2.f1) ∧ W.cell? ⟨g, 4, none⟩ = some (.int .i64 a.f3) ∧ W.cell? ⟨g, 5, none⟩ = some (.int .i64 a.f4) :=
  ⟨(blk_cell h 0).trans rfl, (blk_cell h 1).trans rfl, (blk_cell h 2).trans rfl, (blk_cell h 3).trans rfl, (blk_cell h 4).trans rfl, (blk_cell h 5).trans rfl⟩
theorem flat_take (l : List (List En)) {i : Nat} {r : List En} (h : l[i]? = some r) : (l.take (i + 1)).flatten = (l.take i).flatten ++ r := by
  rw [List.take_add_one, h, List.flatten_append]
  simp
set_option maxHeartbeats 4000000 in
set_option maxRecDepth 100000 in
theorem MergeKnows_walk (A0 : Option Addr) (c0 : Nat) (l0 : List (List En)) (A1 : Option Addr) (c1 : Nat) (key : List Int) (w : World) (hr0 : Kd.C (Kd.slice 41 k41) w A0 l0.length l0) (hc0 : l0.length ≤ c0) (hb : OkRows l0) (hr1 : Kd.C (Kd.int .u8) w A1 key.length key) (hc1 : key.length ≤ c1) (hb1 : ∀ x ∈ key, 0 ≤ x ∧ x < 256) :
    Calls Try.prog 9 #[.slice A0 l0.length c0, .slice A1 key.length c1] w fun e w' => e = .returned (.bool true) ∧ Below w.heap.size w w' := by
  obtain ⟨b, ⟨k, hg⟩, hsm⟩ := great_f l0
  have HGR := Aside0.mk (rickyardlaw14_Great.calls k A0 c0 l0 b w hr0 hc0 hg)
  have HR := Aside0.mk hr0
  have HC0 := Aside0.mk hc0
  have HR1 := Aside0.mk hr1
  have HB1K := Aside0.mk hb1
  clear hg hr0 hc0 hr1 hb1
  cases b with
  | true =>
    clear hsm
    go_enter Try.func9, Try.ntmps9
    go_wp2_with (first
      | (go_at_call 10; refine (HGR.out).mono ?_; rintro e w1 ⟨rfl, hd⟩; have HB1 := Aside0.mk hd.below; clear hd)
      | (go_at_call 11; refine (rickyardlaw14_alive.calls true _ rfl).mono ?_; rintro e w2 ⟨rfl, hb⟩; have HB2 := Aside0.mk (below_step HB1.out hb); clear hb))
    refine bodyPost_ret (results_tmp rfl _ _ _) rfl ?_
    exact ⟨rfl, HB2.out⟩
  | false =>
    have hs := hsm rfl
    by_cases hk3 : 300 < key.length
    · have d2 : decide ((300 : Int) < (key.length : Int)) = true := decide_eq_true (by omega)
      have d2b : decide (300 < key.length) = true := decide_eq_true hk3
      clear hsm hs hk3
      go_enter Try.func9, Try.ntmps9
      go_wp2_with (first
        | (go_at_call 10; refine (HGR.out).mono ?_; rintro e w1 ⟨rfl, hd⟩; have HB1 := Aside0.mk hd.below; clear hd)
        | (go_at_call 11; refine (rickyardlaw14_alive.calls true _ rfl).mono ?_; rintro e w2 ⟨rfl, hb⟩; have HB2 := Aside0.mk (below_step HB1.out hb); clear hb))
      refine bodyPost_ret (results_tmp rfl _ _ _) rfl ?_
      exact ⟨rfl, HB2.out⟩
    have d2 : decide ((300 : Int) < (key.length : Int)) = false := decide_eq_false (by omega)
    have d2b : decide (300 < key.length) = false := decide_eq_false hk3
    rcases all_f hs hb with ⟨er, h0, _, h1⟩ | ⟨h1, h2, h3, h4⟩
    · have e1 : (er == 0) = false := beq_eq_false_iff_ne.2 h0
      have HA := Aside0.mk (fun W (hW : Below w.heap.size w W) => merge_All.calls A0 c0 l0 [] er W (Kd.C_below HR.out hW) HC0.out h1)
      clear hsm hs h1 h0 hb hk3
      go_enter Try.func9, Try.ntmps9
      go_wp2_with (first
        | (go_at_call 10; refine (HGR.out).mono ?_; rintro e w1 ⟨rfl, hd⟩; have HB1 := Aside0.mk hd.below; clear hd)
        | (go_at_call 16; refine (HA.out _ HB1.out).mono ?_; rintro e w2 ⟨v2, rfl, ho, hb⟩; obtain ⟨A2, c2, rfl⟩ := Kd.S_slice ho; have HB2 := Aside0.mk (below_step HB1.out hb); clear hb ho)
        | (go_at_call 11; refine (rickyardlaw14_alive.calls true _ rfl).mono ?_; rintro e w3 ⟨rfl, hb⟩; have HB3 := Aside0.mk (below_step HB2.out hb); clear hb))
      refine bodyPost_ret (results_tmp rfl _ _ _) rfl ?_
      exact ⟨rfl, HB3.out⟩
    · have HA := Aside0.mk (fun W (hW : Below w.heap.size w W) => merge_All.calls A0 c0 l0 (allM l0) 0 W (Kd.C_below HR.out hW) HC0.out h3)
      have hkn := kn_all (k := key) h1
      have HBY := Aside0.mk (allM_spec h1).2.1
      obtain ⟨m, hm⟩ : ∃ m, allM l0 = m := ⟨_, rfl⟩
      rw [hm] at HA h4 hkn HBY
      have HKN := Aside0.mk hkn
      have HM := Aside0.mk h4
      have HS := Aside0.mk hs
      have HGD := Aside0.mk h2
      have HOK := Aside0.mk hb
      clear hsm hs h1 h2 h3 hb h4 hm hkn hk3
      go_enter Try.func9, Try.ntmps9
      go_upto_region 6 with (first
        | (go_at_call 10; refine (HGR.out).mono ?_; rintro e w1 ⟨rfl, hd⟩; have HB1 := Aside0.mk hd.below; clear hd)
        | (go_at_call 16; refine (HA.out _ HB1.out).mono ?_; rintro e w2 ⟨v2, rfl, ho, hb⟩; obtain ⟨A2, c2, rfl⟩ := Kd.S_slice ho; have HB2 := Aside0.mk (below_step HB1.out hb); have HO2 := Aside0.mk ho; clear hb ho))
      go_wp2
      obtain ⟨g, hgs⟩ : ∃ g, w2.heap.size = g := ⟨_, rfl⟩
      have HG := Aside0.mk hgs
      have HG2 := Aside0.mk (show w.heap.size ≤ g by have := HB2.out.size; omega)
      have hw7 := blk_new w2 (agO ag0)
      rw [hgs] at hw7 ⊢
      have HB7 := Aside0.mk (show Below g w2 (w2.alloc (agO ag0)) by rw [← hgs]; exact below_alloc (Below.refl _ _) _)
      have HW7 := Aside0.mk hw7
      clear hw7 hgs
      go_loopg [8, 9] (l0.length) (fun kq v8 v9 w' => ∃ (i : Nat) (kn : Ag), v9 = .int .i64 (i : Int) ∧ v8 = .bool (knB key (l0.take i).flatten) ∧ Aside0 (i ≤ l0.length ∧ kq = l0.length - i) ∧ Aside0 (kn = knA key (l0.take i).flatten) ∧ Aside0 (w'.heap[g]? = some (agO kn)) ∧ Aside0 (Below g w2 w'))
      case atStart => exact ⟨0, ag0, rfl, rfl, ⟨Nat.zero_le _, rfl⟩, ⟨rfl⟩, HW7, HB7⟩
      case round =>
        obtain ⟨i, kn, rfl, rfl, HI, HKA, HBG, HB⟩ := hrel
        clear HW7 HB7
        have HBW := Aside0.mk (HB2.out.trans (HB.out.mono HG2.out))
        by_cases hi : i < l0.length
        · have d3 : decide ((i : Int) < (l0.length : Int)) = true := decide_eq_true (by omega)
          have d3b : decide (i < l0.length) = true := decide_eq_true hi
          obtain ⟨r, hr⟩ : ∃ r, l0[i]? = some r := ⟨_, List.getElem?_eq_getElem hi⟩
          obtain ⟨ad, B, c, hA, hcw, hl0, hCw⟩ := at_row HR.out hr
          subst hA
          have HCR := Aside0.mk (fun W' (hb : Below w.heap.size w W') => cell_bl' hcw hb)
          have HCE := Aside0.mk (fun W' (hb : Below w.heap.size w W') => Kd.C_below hCw hb)
          have HRR := Aside0.mk hr
          have HII := Aside0.mk hi
          have HRL := Aside0.mk (show r.length ≤ 60 from (HS.out.2 r (List.mem_of_getElem? hr)).1)
          have hw1 : wrap64 ((i : Int) + 1) = ((i + 1 : Nat) : Int) := w64_up (by have := HS.out.1; omega)
          have i1 : (0 ≤ (i : Int)) = True := eq_true (Int.natCast_nonneg _)
          have i2 : ((i : Int) < (l0.length : Int)) = True := eq_true (Int.ofNat_lt.2 hi)
          have i3 : (i < l0.length) = True := eq_true hi
          clear hr hcw hl0 hCw hi
          go_wp2
          go_loopg [8, 10] (r.length) (fun kq v8 v10 w' => ∃ (j : Nat) (kn : Ag), v10 = .int .i64 (j : Int) ∧ v8 = .bool (knB key ((l0.take i).flatten ++ r.take j)) ∧ Aside0 (j ≤ r.length ∧ kq = r.length - j) ∧ Aside0 (kn = knA key ((l0.take i).flatten ++ r.take j)) ∧ Aside0 (w'.heap[g]? = some (agO kn)) ∧ Aside0 (Below g w2 w'))
          case atStart => exact ⟨0, kn, rfl, by rw [List.take_zero, List.append_nil], ⟨Nat.zero_le _, rfl⟩, ⟨by rw [List.take_zero, List.append_nil]; exact HKA.out⟩, HBG, HB⟩
          case round =>
            obtain ⟨j, kn2, rfl, rfl, HJ, HKA2, HBG2, HBB⟩ := hrel
            have HBW2 := Aside0.mk (HB2.out.trans (HBB.out.mono HG2.out))
            have hcr := HCR.out wr HBW2.out
            by_cases hj : j < r.length
            · have d4 : decide ((j : Int) < (r.length : Int)) = true := decide_eq_true (by omega)
              have d4b : decide (j < r.length) = true := decide_eq_true hj
              have hw2 : wrap64 ((j : Int) + 1) = ((j + 1 : Nat) : Int) := w64_up (by have := HRL.out; omega)
              have j1 : (0 ≤ (j : Int)) = True := eq_true (Int.natCast_nonneg _)
              have j2 : ((j : Int) < (r.length : Int)) = True := eq_true (Int.ofNat_lt.2 hj)
              have j3 : (j < r.length) = True := eq_true hj
              obtain ⟨x, hx⟩ : ∃ x, r[j]? = some x := ⟨_, List.getElem?_eq_getElem hj⟩
              have hxm : x ∈ r := List.mem_of_getElem? hx
              have hrm : r ∈ l0 := List.mem_of_getElem? HRR.out
              obtain ⟨ae, Bx, dx, hB, k0, k1, k2, k3, k4, k5, k6, hlx, hCx⟩ := at_en (HCE.out wr HBW2.out) hx
              subst hB
              have HOX := Aside0.mk (HOK.out r hrm x hxm)
              have HGX := Aside0.mk (HGD.out r hrm x hxm)
              have hcv1 := fun n_ : Nat => Kd.C_string (P := Try.prog) (A := Bx) (c := dx) Try.underlying34 Try.underlying5 Try.underlying9 (Kd.C_drewN hCx n_)
              have hcv2 := fun n_ : Nat => Kd.C_string (P := Try.prog) (A := A1) (c := c1) Try.underlying34 Try.underlying5 Try.underlying9 (Kd.C_drewN (Kd.C_below HR1.out HBW2.out) n_)
              have hst := str_beq x.f0 key
              have HXX := Aside0.mk hx
              have HJJ := Aside0.mk hj
              have HTK := Aside0.mk (show r.take (j + 1) = r.take j ++ [x] by rw [List.take_add_one, hx]; rfl)
              by_cases he : x.f0 = key
              · have h0 : cmpI x.f0 key = 0 := by rw [he]; exact cmpI_self _
                rw [decide_eq_true h0] at hst
                have HE := Aside0.mk he
                clear hx hxm hrm hj he h0 hlx hCx
                go_wp2
                go_quiet (fail)
                go_wp2
                obtain ⟨W5, hW5⟩ : ∃ W5, wr.drewN nq = W5 := ⟨_, rfl⟩
                have b5 : Below wr.heap.size wr W5 := by rw [← hW5]; exact pw_below_drewN (Below.refl _ _) _
                have hbg5 := (b5.block g (blk_lt HBG2.out)).trans HBG2.out
                obtain ⟨q0, q1, q2, q3, q4, q5⟩ := agO_cells hbg5
                have HSN := Aside0.mk (show W5.cell? ⟨g, 0, none⟩ = some (.int .u64 kn2.f0) ∧ W5.cell? ⟨g, 1, none⟩ = some (.bool kn2.f1) ∧ W5.cell? ⟨g, 2, none⟩ = some (.int .i64 kn2.f2.f0) ∧ W5.cell? ⟨g, 3, none⟩ = some (.int .u64 kn2.f2.f1) ∧ W5.cell? ⟨g, 4, none⟩ = some (.int .i64 kn2.f3) ∧ W5.cell? ⟨g, 5, none⟩ = some (.int .i64 kn2.f4) ∧ W5.cell? (ad.add i) = some (.slice (some ae) r.length c) ∧ W5.cell? ⟨(ae.add (j * 7)).block, (ae.add (j * 7)).off + 1, none⟩ = some (.int .u64 x.f1.f0) ∧ W5.cell? ⟨(ae.add (j * 7)).block, (ae.add (j * 7)).off + 2, none⟩ = some (.bool x.f1.f1) ∧ W5.cell? ⟨(ae.add (j * 7)).block, (ae.add (j * 7)).off + 3, none⟩ = some (.int .i64 x.f1.f2.f0) ∧ W5.cell? ⟨(ae.add (j * 7)).block, (ae.add (j * 7)).off + 4, none⟩ = some (.int .u64 x.f1.f2.f1) ∧ W5.cell? ⟨(ae.add (j * 7)).block, (ae.add (j * 7)).off + 5, none⟩ = some (.int .i64 x.f1.f3) ∧ W5.cell? ⟨(ae.add (j * 7)).block, (ae.add (j * 7)).off + 6, none⟩ = some (.int .i64 x.f1.f4) from ⟨q0, q1, q2, q3, q4, q5, cell_bl' hcr b5, cell_bl' k1 b5, cell_bl' k2 b5, cell_bl' k3 b5, cell_bl' k4 b5, cell_bl' k5 b5, cell_bl' k6 b5⟩)
                have HBG5 := Aside0.mk hbg5
                have HB5 := Aside0.mk (HBB.out.trans (b5.mono (Nat.le_of_lt (blk_lt HBG2.out))))
                have HKG := Aside0.mk (show GoodA kn2 by rw [HKA2.out]; exact knA_good (fun y hy => by
                  rcases List.mem_append.1 hy with hy | hy
                  · obtain ⟨q, hq, hy⟩ := List.mem_flatten.1 hy
                    exact HGD.out q (List.mem_of_mem_take hq) y hy
                  · exact HGD.out r (List.mem_of_getElem? HRR.out) y (List.mem_of_mem_take hy)))
                obtain ⟨r1, r2, r3, r4, r5, r6, hmg, hma, _⟩ := mgA_some (a := kn2) (b := x.f1) HKG.out.1.2.2.1 HGX.out.1.2.2.1
                have HMG := Aside0.mk (fun W => agg_Merge.calls _ _ _ _ _ _ _ _ _ _ _ _ r1 r2 r3 r4 r5 r6 W hmg)
                have HMA := Aside0.mk hma
                have hht := kn_hit ((l0.take i).flatten ++ r.take j) HE.out
                rw [List.append_assoc, ← HTK.out] at hht
                have HHT := Aside0.mk hht
                rw [hW5]
                clear hW5 b5 hbg5 q0 q1 q2 q3 q4 q5 k0 k1 k2 k3 k4 k5 k6 hcr hmg hma hht hcv1 hcv2 hst
                have HS0 := Aside0.mk (show W5.drew.cell? ⟨g, 0, none⟩ = some (.int .u64 kn2.f0) ∧ W5.drew.cell? ⟨g, 1, none⟩ = some (.bool kn2.f1) ∧ W5.drew.cell? ⟨g, 2, none⟩ = some (.int .i64 kn2.f2.f0) ∧ W5.drew.cell? ⟨g, 3, none⟩ = some (.int .u64 kn2.f2.f1) ∧ W5.drew.cell? ⟨g, 4, none⟩ = some (.int .i64 kn2.f3) ∧ W5.drew.cell? ⟨g, 5, none⟩ = some (.int .i64 kn2.f4) ∧ W5.drew.cell? (ad.add i) = some (.slice (some ae) r.length c) ∧ W5.drew.cell? ⟨(ae.add (j * 7)).block, (ae.add (j * 7)).off + 1, none⟩ = some (.int .u64 x.f1.f0) ∧ W5.drew.cell? ⟨(ae.add (j * 7)).block, (ae.add (j * 7)).off + 2, none⟩ = some (.bool x.f1.f1) ∧ W5.drew.cell? ⟨(ae.add (j * 7)).block, (ae.add (j * 7)).off + 3, none⟩ = some (.int .i64 x.f1.f2.f0) ∧ W5.drew.cell? ⟨(ae.add (j * 7)).block, (ae.add (j * 7)).off + 4, none⟩ = some (.int .u64 x.f1.f2.f1) ∧ W5.drew.cell? ⟨(ae.add (j * 7)).block, (ae.add (j * 7)).off + 5, none⟩ = some (.int .i64 x.f1.f3) ∧ W5.drew.cell? ⟨(ae.add (j * 7)).block, (ae.add (j * 7)).off + 6, none⟩ = some (.int .i64 x.f1.f4) from HSN.out)
                refine wp_region_last_drew (ds := [10]) (S := fun W' => W'.cell? ⟨g, 0, none⟩ = some (.int .u64 kn2.f0) ∧ W'.cell? ⟨g, 1, none⟩ = some (.bool kn2.f1) ∧ W'.cell? ⟨g, 2, none⟩ = some (.int .i64 kn2.f2.f0) ∧ W'.cell? ⟨g, 3, none⟩ = some (.int .u64 kn2.f2.f1) ∧ W'.cell? ⟨g, 4, none⟩ = some (.int .i64 kn2.f3) ∧ W'.cell? ⟨g, 5, none⟩ = some (.int .i64 kn2.f4) ∧ W'.cell? (ad.add i) = some (.slice (some ae) r.length c) ∧ W'.cell? ⟨(ae.add (j * 7)).block, (ae.add (j * 7)).off + 1, none⟩ = some (.int .u64 x.f1.f0) ∧ W'.cell? ⟨(ae.add (j * 7)).block, (ae.add (j * 7)).off + 2, none⟩ = some (.bool x.f1.f1) ∧ W'.cell? ⟨(ae.add (j * 7)).block, (ae.add (j * 7)).off + 3, none⟩ = some (.int .i64 x.f1.f2.f0) ∧ W'.cell? ⟨(ae.add (j * 7)).block, (ae.add (j * 7)).off + 4, none⟩ = some (.int .u64 x.f1.f2.f1) ∧ W'.cell? ⟨(ae.add (j * 7)).block, (ae.add (j * 7)).off + 5, none⟩ = some (.int .i64 x.f1.f3) ∧ W'.cell? ⟨(ae.add (j * 7)).block, (ae.add (j * 7)).off + 6, none⟩ = some (.int .i64 x.f1.f4)) (by kernel_rfl) ?_ (fun hS0 => ?_);
                focus exact HS0.out
                (refine wpAnyLast_take (i := 0) (v := ?_) rfl (by kernel_rfl) (by kernel_rfl) (by kernel_rfl) (by kernel_rfl) (by kernel_rfl) (fun _ _ _ h => h) (Or.inl ⟨by rfl, ?_⟩) (by assumption) ?_; rotate_left 1; focus (intro ww hSw; (try dsimp only at hSw); go_simp; try with_reducible rfl)); try simp only [Act.put, List.setIfInBounds_toArray, List.set_cons_zero, List.set_cons_succ]
                (refine wpAnyLast_take (i := 1) (v := ?_) rfl (by kernel_rfl) (by kernel_rfl) (by kernel_rfl) (by kernel_rfl) (by kernel_rfl) (fun _ _ _ h => h) (Or.inl ⟨by rfl, ?_⟩) (by assumption) ?_; rotate_left 1; focus (intro ww hSw; (try dsimp only at hSw); go_simp; try with_reducible rfl)); try simp only [Act.put, List.setIfInBounds_toArray, List.set_cons_zero, List.set_cons_succ]
                (refine wpAnyLast_take (i := 2) (v := ?_) rfl (by kernel_rfl) (by kernel_rfl) (by kernel_rfl) (by kernel_rfl) (by kernel_rfl) (fun _ _ _ h => h) (Or.inl ⟨by rfl, ?_⟩) (by assumption) ?_; rotate_left 1; focus (intro ww hSw; (try dsimp only at hSw); go_simp; try with_reducible rfl)); try simp only [Act.put, List.setIfInBounds_toArray, List.set_cons_zero, List.set_cons_succ]
                (refine wpAnyLast_take (i := 3) (v := ?_) rfl (by kernel_rfl) (by kernel_rfl) (by kernel_rfl) (by kernel_rfl) (by kernel_rfl) (fun _ _ _ h => h) (Or.inl ⟨by rfl, ?_⟩) (by assumption) ?_; rotate_left 1; focus (intro ww hSw; (try dsimp only at hSw); go_simp; try with_reducible rfl)); try simp only [Act.put, List.setIfInBounds_toArray, List.set_cons_zero, List.set_cons_succ]
                (refine wpAnyLast_take (i := 4) (v := ?_) rfl (by kernel_rfl) (by kernel_rfl) (by kernel_rfl) (by kernel_rfl) (by kernel_rfl) (fun _ _ _ h => h) (Or.inl ⟨by rfl, ?_⟩) (by assumption) ?_; rotate_left 1; focus (intro ww hSw; (try dsimp only at hSw); go_simp; try with_reducible rfl)); try simp only [Act.put, List.setIfInBounds_toArray, List.set_cons_zero, List.set_cons_succ]
                (refine wpAnyLast_take (i := 5) (v := ?_) rfl (by kernel_rfl) (by kernel_rfl) (by kernel_rfl) (by kernel_rfl) (by kernel_rfl) (fun _ _ _ h => h) (Or.inl ⟨by rfl, ?_⟩) (by assumption) ?_; rotate_left 1; focus (intro ww hSw; (try dsimp only at hSw); go_simp; try with_reducible rfl)); try simp only [Act.put, List.setIfInBounds_toArray, List.set_cons_zero, List.set_cons_succ]
                (refine wpAnyLast_take (i := 6) (v := ?_) rfl (by kernel_rfl) (by kernel_rfl) (by kernel_rfl) (by kernel_rfl) (by kernel_rfl) (fun _ _ _ h => h) (Or.inl ⟨by rfl, ?_⟩) (by assumption) ?_; rotate_left 1; focus (intro ww hSw; (try dsimp only at hSw); go_simp; try with_reducible rfl)); try simp only [Act.put, List.setIfInBounds_toArray, List.set_cons_zero, List.set_cons_succ]
                (refine wpAnyLast_take (i := 7) (v := ?_) rfl (by kernel_rfl) (by kernel_rfl) (by kernel_rfl) (by kernel_rfl) (by kernel_rfl) (fun _ _ _ h => h) (Or.inl ⟨by rfl, ?_⟩) (by assumption) ?_; rotate_left 1; focus (intro ww hSw; (try dsimp only at hSw); go_simp; try with_reducible rfl)); try simp only [Act.put, List.setIfInBounds_toArray, List.set_cons_zero, List.set_cons_succ]
                (refine wpAnyLast_take (i := 8) (v := ?_) rfl (by kernel_rfl) (by kernel_rfl) (by kernel_rfl) (by kernel_rfl) (by kernel_rfl) (fun _ _ _ h => h) (Or.inl ⟨by rfl, ?_⟩) (by assumption) ?_; rotate_left 1; focus (intro ww hSw; (try dsimp only at hSw); go_simp; try with_reducible rfl)); try simp only [Act.put, List.setIfInBounds_toArray, List.set_cons_zero, List.set_cons_succ]
                refine wpAnyLast_ready (rs := [9]) (by kernel_rfl) (by simp) (AllReadyL.cons rfl (by decide) (fun K hK => ?_) AllReadyL.nil)
                go_simp
                refine (HMG.out _).mono ?_
                rintro e w10 ⟨rfl, hb⟩
                have HB10 := Aside0.mk (show Below W5.heap.size W5 w10 from (below_drew (Below.refl _ _)).trans hb)
                have hbg10 := (HB10.out.block g (blk_lt HBG5.out)).trans HBG5.out
                have HS9 := Aside0.mk (show w10.cell? ⟨g, 0, none⟩ = some (.int .u64 kn2.f0) ∧ w10.cell? ⟨g, 1, none⟩ = some (.bool kn2.f1) ∧ w10.cell? ⟨g, 2, none⟩ = some (.int .i64 kn2.f2.f0) ∧ w10.cell? ⟨g, 3, none⟩ = some (.int .u64 kn2.f2.f1) ∧ w10.cell? ⟨g, 4, none⟩ = some (.int .i64 kn2.f3) ∧ w10.cell? ⟨g, 5, none⟩ = some (.int .i64 kn2.f4) ∧ w10.cell? (ad.add i) = some (.slice (some ae) r.length c) ∧ w10.cell? ⟨(ae.add (j * 7)).block, (ae.add (j * 7)).off + 1, none⟩ = some (.int .u64 x.f1.f0) ∧ w10.cell? ⟨(ae.add (j * 7)).block, (ae.add (j * 7)).off + 2, none⟩ = some (.bool x.f1.f1) ∧ w10.cell? ⟨(ae.add (j * 7)).block, (ae.add (j * 7)).off + 3, none⟩ = some (.int .i64 x.f1.f2.f0) ∧ w10.cell? ⟨(ae.add (j * 7)).block, (ae.add (j * 7)).off + 4, none⟩ = some (.int .u64 x.f1.f2.f1) ∧ w10.cell? ⟨(ae.add (j * 7)).block, (ae.add (j * 7)).off + 5, none⟩ = some (.int .i64 x.f1.f3) ∧ w10.cell? ⟨(ae.add (j * 7)).block, (ae.add (j * 7)).off + 6, none⟩ = some (.int .i64 x.f1.f4) from by
                  obtain ⟨h1, h2, h3, h4, h5, h6, h7, h8, h9, h10, h11, h12, h13⟩ := HSN.out
                  exact ⟨cell_bl' h1 HB10.out, cell_bl' h2 HB10.out, cell_bl' h3 HB10.out, cell_bl' h4 HB10.out, cell_bl' h5 HB10.out, cell_bl' h6 HB10.out, cell_bl' h7 HB10.out, cell_bl' h8 HB10.out, cell_bl' h9 HB10.out, cell_bl' h10 HB10.out, cell_bl' h11 HB10.out, cell_bl' h12 HB10.out, cell_bl' h13 HB10.out⟩)
                have HBG10 := Aside0.mk hbg10
                refine hK _ _ HS9.out (fun hS1 => ?_)
                clear hK K hb
                obtain ⟨q0, q1, q2, q3, q4, q5⟩ := agO_cells hbg10
                have f0 := fun n => blk_frozen hbg10 n
                clear hbg10
                refine wpAnyLast_ready (rs := [10]) (by kernel_rfl) (by simp) (AllReadyL.cons_last rfl (by decide) (fun K hK => ?_) AllReadyL.nil)
                (go_simp; refine hK _ _ ?_; clear hK K)
                refine wpAnyLast_done (by kernel_rfl) ?_ _;
                clear q0 q1 q2 q3 q4 q5 f0
                have hz := HMA.out
                have e1 : r1 = (mgA kn2 x.f1).f0 := by rw [hz]
                have e2 : r2 = (mgA kn2 x.f1).f1 := by rw [hz]
                have e3 : r3 = (mgA kn2 x.f1).f2.f0 := by rw [hz]
                have e4 : r4 = (mgA kn2 x.f1).f2.f1 := by rw [hz]
                have e5 : r5 = (mgA kn2 x.f1).f3 := by rw [hz]
                have e6 : r6 = (mgA kn2 x.f1).f4 := by rw [hz]
                obtain ⟨z, hzz⟩ : ∃ z, mgA kn2 x.f1 = z := ⟨_, rfl⟩
                rw [hzz] at e1 e2 e3 e4 e5 e6
                have HZZ := Aside0.mk hzz
                subst e1 e2 e3 e4 e5 e6
                clear hz hzz HMG HMA
                have HW11 := Aside0.mk (stK_blk (z := z) HBG10.out)
                have HB11 := Aside0.mk (stK_below (z := z) (HB5.out.trans (HB10.out.mono (Nat.le_of_lt (blk_lt HBG5.out)))) (Nat.le_refl g))
                obtain ⟨W11, hW11⟩ : ∃ W11, stK w10 g z = W11 := ⟨_, rfl⟩
                change Exit.then _ _ Exit.normal _ (stK w10 g z)
                rw [hW11] at HW11 HB11 ⊢
                clear hW11
                go_wp2
                go_roundg (r.length - (j + 1))
                case measure => have := HJ.out; have := HJJ.out; omega
                case rel => exact ⟨j + 1, z, by first | rfl | rw [hw2], by rw [HHT.out.2], ⟨HJJ.out, rfl⟩, ⟨by rw [HHT.out.1, ← HKA2.out]; exact HZZ.out.symm⟩, HW11, HB11⟩
              · have h0 : cmpI x.f0 key ≠ 0 := fun h => he ((cmpI_zero HOX.out.1 HB1K.out).1 h)
                rw [decide_eq_false h0] at hst
                have hms := kn_miss ((l0.take i).flatten ++ r.take j) he
                rw [List.append_assoc, ← HTK.out] at hms
                have HMS := Aside0.mk hms
                clear hx hxm hrm hj he h0 hlx hCx hms
                go_wp2
                go_quiet (fail)
                go_wp2
                go_roundg (r.length - (j + 1))
                case measure => have := HJ.out; have := HJJ.out; omega
                case rel => exact ⟨j + 1, kn2, by first | rfl | rw [hw2], by rw [HMS.out.2], ⟨HJJ.out, rfl⟩, ⟨by rw [HMS.out.1]; exact HKA2.out⟩, ⟨(pw_below_drewN (Below.refl _ _) _).block g (blk_lt HBG2.out) |>.trans HBG2.out⟩, ⟨pw_below_drewN HBB.out _⟩⟩
            · have d4 : decide ((j : Int) < (r.length : Int)) = false := decide_eq_false (by omega)
              have d4b : decide (j < r.length) = false := decide_eq_false hj
              obtain rfl : j = r.length := by have := HJ.out; omega
              have hft : (l0.take i).flatten ++ r.take r.length = (l0.take (i + 1)).flatten := by rw [List.take_length, flat_take l0 HRR.out]
              rw [hft] at HKA2 ⊢
              clear hj hft
              go_wp2
              go_roundg (l0.length - (i + 1))
              case measure => have := HI.out; have := HII.out; omega
              case rel => exact ⟨i + 1, kn2, by first | rfl | rw [hw1], rfl, ⟨HII.out, rfl⟩, HKA2, HBG2, HBB⟩
        · have d3 : decide ((i : Int) < (l0.length : Int)) = false := decide_eq_false (by omega)
          have d3b : decide (i < l0.length) = false := decide_eq_false hi
          obtain rfl : i = l0.length := by have := HI.out; omega
          rw [List.take_length] at HKA ⊢
          clear hi
          go_wp2
          go_loopg [11, 12] (m.length) (fun kq v11 v12 w' => ∃ (i : Nat), v12 = .int .i64 (i : Int) ∧ v11 = .bool (knB key (m.take i)) ∧ Aside0 (i ≤ m.length ∧ kq = m.length - i) ∧ Aside0 (w'.heap[g]? = some (agO kn)) ∧ Aside0 (Below g w2 w'))
          case atStart => exact ⟨0, rfl, rfl, ⟨Nat.zero_le _, rfl⟩, HBG, HB⟩
          case round =>
            obtain ⟨i, rfl, rfl, HI2, HBG9, HB9⟩ := hrel
            have hbg := HBG9.out
            have HBW9 := Aside0.mk (HB2.out.trans (HB9.out.mono HG2.out))
            by_cases hi : i < m.length
            · have d4 : decide ((i : Int) < (m.length : Int)) = true := decide_eq_true (by omega)
              have d4b : decide (i < m.length) = true := decide_eq_true hi
              have hw2 : wrap64 ((i : Int) + 1) = ((i + 1 : Nat) : Int) := w64_up (by have := HM.out; omega)
              have j1 : (0 ≤ (i : Int)) = True := eq_true (Int.natCast_nonneg _)
              have j2 : ((i : Int) < (m.length : Int)) = True := eq_true (Int.ofNat_lt.2 hi)
              have j3 : (i < m.length) = True := eq_true hi
              obtain ⟨x, hx⟩ : ∃ x, m[i]? = some x := ⟨_, List.getElem?_eq_getElem hi⟩
              have hxm : x ∈ m := List.mem_of_getElem? hx
              have hCM := Kd.C_below (Kd.S_reads' HO2.out).2.2 (show Below w2.heap.size w2 wr by rw [HG.out]; exact HB9.out)
              obtain ⟨ae, Bx, dx, hB, k0, k1, k2, k3, k4, k5, k6, hlx, hCx⟩ := at_en hCM hx
              subst hB
              have hcv1 := fun n_ : Nat => Kd.C_string (P := Try.prog) (A := Bx) (c := dx) Try.underlying34 Try.underlying5 Try.underlying9 (Kd.C_drewN hCx n_)
              have hcv2 := fun n_ : Nat => Kd.C_string (P := Try.prog) (A := A1) (c := c1) Try.underlying34 Try.underlying5 Try.underlying9 (Kd.C_drewN (Kd.C_below HR1.out HBW9.out) n_)
              have hst := str_beq x.f0 key
              have HII := Aside0.mk hi
              have HTK := Aside0.mk (show m.take (i + 1) = m.take i ++ [x] by rw [List.take_add_one, hx]; rfl)
              by_cases he : x.f0 = key
              · have h0 : cmpI x.f0 key = 0 := by rw [he]; exact cmpI_self _
                rw [decide_eq_true h0] at hst
                have hxk : x.f1 = kn := by rw [HKA.out]; exact HKN.out.2 x hxm he
                rw [hxk] at k1 k2 k3 k4 k5 k6
                obtain ⟨q0, q1, q2, q3, q4, q5⟩ := agO_cells hbg
                have HHT := Aside0.mk (show true = knB key (m.take (i + 1)) by rw [HTK.out, (kn_hit (m.take i) he).2])
                clear hx hxm hi he h0 hlx hCx hCM hxk hbg
                go_wp2
                go_quiet (fail)
                go_wp2
                go_quiet (fail)
                go_wp2
                go_roundg (m.length - (i + 1))
                case measure => have := HI2.out; have := HII.out; omega
                case rel => exact ⟨i + 1, by first | rfl | rw [hw2], by rw [← HHT.out], ⟨HII.out, rfl⟩, ⟨((pw_below_drewN (Below.refl _ _) _).block g (blk_lt HBG9.out)).trans HBG9.out⟩, ⟨pw_below_drewN HB9.out _⟩⟩
              · have h0 : cmpI x.f0 key ≠ 0 := fun h => he ((cmpI_zero (HBY.out x hxm) HB1K.out).1 h)
                rw [decide_eq_false h0] at hst
                have HMS := Aside0.mk (show knB key (m.take (i + 1)) = knB key (m.take i) by rw [HTK.out, (kn_miss (m.take i) he).2])
                clear hx hxm hi he h0 hlx hCx hCM hbg
                go_wp2
                go_quiet (fail)
                go_wp2
                go_roundg (m.length - (i + 1))
                case measure => have := HI2.out; have := HII.out; omega
                case rel => exact ⟨i + 1, by first | rfl | rw [hw2], by rw [HMS.out], ⟨HII.out, rfl⟩, ⟨((pw_below_drewN (Below.refl _ _) _).block g (blk_lt HBG9.out)).trans HBG9.out⟩, ⟨pw_below_drewN HB9.out _⟩⟩
            · have d4 : decide ((i : Int) < (m.length : Int)) = false := decide_eq_false (by omega)
              have d4b : decide (i < m.length) = false := decide_eq_false hi
              obtain rfl : i = m.length := by have := HI2.out; omega
              have HBE := HBW9
              rw [List.take_length, HKN.out.1]
              clear hi hbg
              go_wp2_with (first
                | (go_at_call 11; refine (rickyardlaw14_alive.calls true _ rfl).mono ?_; rintro e w7 ⟨rfl, hb⟩; have HB11 := Aside0.mk (below_step HBE.out hb); clear hb))
              refine bodyPost_ret (results_tmp rfl _ _ _) rfl ?_
              exact ⟨rfl, HB11.out⟩
end Go.Proofs.Ytihdomhiiolojaa.P
