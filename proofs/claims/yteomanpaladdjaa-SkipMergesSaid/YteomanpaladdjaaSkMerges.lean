/- SkipMerges: the walk. No conditions. -/
import Derived.Test.YteomanpaladdjaaSkTowers
namespace Go.Proofs.Yteomanpaladdjaa.P
open Go.RowKit Go.Proofs.Yteomanpaladdjaa.Pure Go.Proofs.YteomanpaladdjaaW.PrintWords Go.Proofs.YteomanpaladdjaaW.PrintLast Go.Proofs.YteomanpaladdjaaW.PrintMore
set_option linter.unusedVariables false
set_option linter.unusedSimpArgs false
/-- What is known of a key of some entries. -/
def knA (k : List Int) (l : List En) : Ag := (gk k l).foldl mgA ag0
def knB (k : List Int) (l : List En) : Bool := decide (gk k l ≠ [])
theorem knA_nil (k : List Int) : knA k [] = ag0 := rfl
theorem knB_nil (k : List Int) : knB k [] = false := rfl
theorem kn_hit {k : List Int} {x : En} (l : List En) (h : x.f0 = k) : knA k (l ++ [x]) = mgA (knA k l) x.f1 ∧ knB k (l ++ [x]) = true := by
  have e : gk k (l ++ [x]) = gk k l ++ [x.f1] := by rw [gk_append, gk_cons, if_pos h, gk_nil]
  unfold knA knB
  rw [e, List.foldl_append]
  exact ⟨rfl, decide_eq_true (by simp)⟩
theorem kn_miss {k : List Int} {x : En} (l : List En) (h : x.f0 ≠ k) : knA k (l ++ [x]) = knA k l ∧ knB k (l ++ [x]) = knB k l := by
  have e : gk k (l ++ [x]) = gk k l := by rw [gk_append, gk_cons, if_neg h, gk_nil, List.append_nil]
  unfold knA knB
  rw [e]
  exact ⟨rfl, rfl⟩
theorem knA_good {k : List Int} {l : List En} (h : ∀ x ∈ l, GoodA x.f1) : GoodA (knA k l) := good_fold good_zero (gk_good h)
theorem fromE_cons {k : List Int} {y : En} {es : List En} : fromE k (y :: es) = if cmpI y.f0 k < 0 then fromE k es else y :: fromE k es := by
  unfold fromE
  rw [List.filter_cons]
  by_cases h : cmpI y.f0 k < 0
  · rw [if_pos h, decide_eq_true h, if_neg (by decide)]
  · rw [if_neg h, decide_eq_false h, if_pos (by decide)]
/-- What Get tells is what is known. -/
theorem get_kn {k : List Int} (hk : ∀ b ∈ k, 0 ≤ b ∧ b < 256) : ∀ {es : List En}, Rises es → (∀ y ∈ es, Byt y) → gA (fromE k es) k = knA k es ∧ gB (fromE k es) k = knB k es
  | [], _, _ => ⟨rfl, rfl⟩
  | y :: es, hr, hb => by
    have hr2 := List.pairwise_cons.1 hr
    have hby := hb y (List.mem_cons_self ..)
    rw [fromE_cons]
    by_cases h : cmpI y.f0 k < 0
    · have hne : y.f0 ≠ k := fun e => by rw [e, cmpI_self] at h; omega
      have ih := get_kn hk hr2.2 (fun z hz => hb z (List.mem_cons_of_mem _ hz))
      rw [if_pos h]
      unfold knA knB at ih ⊢
      rw [gk_cons, if_neg hne]
      exact ih
    · rw [if_neg h]
      by_cases h0 : cmpI y.f0 k = 0
      · have he : y.f0 = k := (cmpI_zero hby hk).1 h0
        have hno : gk k es = [] := gk_none (fun z hz e => by
          have := hr2.1 z hz
          rw [he, e, cmpI_self] at this
          omega)
        unfold knA knB gA gB
        rw [gk_cons, if_pos he, hno]
        simp only []
        rw [if_pos h0, decide_eq_true h0]
        exact ⟨(mg_zero y.f1).symm, rfl⟩
      · have hno : gk k (y :: es) = [] := gk_none (fun z hz e => by
          rcases List.mem_cons.1 hz with rfl | hz
          · rw [e, cmpI_self] at h0; exact h0 rfl
          · have h1 := hr2.1 z hz
            rw [e] at h1
            omega)
        unfold knA knB gA gB
        rw [hno]
        simp only []
        rw [if_neg h0, decide_eq_false h0]
        exact ⟨rfl, rfl⟩
theorem kn_fold {k : List Int} {l m : List En} (h : fold1 (gk k l) = fold1 (gk k m)) : knA k l = knA k m ∧ knB k l = knB k m := by
  rw [fold1_eq, fold1_eq] at h
  unfold knA knB
  by_cases ha : gk k l = []
  · by_cases hb : gk k m = []
    · rw [ha, hb]; exact ⟨rfl, rfl⟩
    · rw [if_pos ha, if_neg hb] at h; cases h
  · by_cases hb : gk k m = []
    · rw [if_neg ha, if_pos hb] at h; cases h
    · rw [if_neg ha, if_neg hb] at h
      exact ⟨Option.some.inj h, by rw [decide_eq_true ha, decide_eq_true hb]⟩
theorem kn_put {l : List En} {hs : List Int} {es : List En} (h : putAll l hs 0 = some es) (hl : l.length ≤ 100) (hok : ∀ x ∈ l, Byt x ∧ OkAg x.f1) (k : List Int) : knA k es = knA k l ∧ knB k es = knB k l := by
  have hf := put_all_fok h
  rw [put_all_ok hf hl] at h
  obtain rfl := Option.some.inj h
  have hp := seg_perm l 0
  have hbs : ∀ x ∈ segE l 0 0 l.length, Byt x := fun x hx => (hok x (hp.mem_iff.1 hx)).1
  obtain ⟨_, _, g1⟩ := refL_spec (segE l 0 0 l.length) [] List.Pairwise.nil (fun y hy => by cases hy) hbs
  refine kn_fold ?_
  rw [g1, gk_nil, List.nil_append]
  refine fold1_perm ((hp.filter _).map _) (gk_good (fun x hx => ?_))
  have := hp.mem_iff.1 hx
  exact good_of (hok x this).2 (hf x this)
theorem knB_mem {k : List Int} {l : List En} {x : En} (hx : x ∈ l) (h : x.f0 = k) : knB k l = true := by
  unfold knB
  rw [decide_eq_true]
  intro e
  have : x.f1 ∈ gk k l := by
    unfold gk
    exact List.mem_map.2 ⟨x, List.mem_filter.2 ⟨hx, decide_eq_true h⟩, rfl⟩
  rw [e] at this
  cases this
attribute [local go_sem high] eqA36
abbrev agO (a : Ag) : Obj := .cells #[.int .u64 a.f0, .bool a.f1, .int .i64 a.f2.f0, .int .u64 a.f2.f1, .int .i64 a.f3, .int .i64 a.f4] 36
abbrev stK (W : World) (g : Nat) (z : Ag) : World := (((((W.setCell ⟨g, 0, none⟩ (.int .u64 z.f0)).setCell ⟨g, 0 + 1, none⟩ (.bool z.f1)).setCell ⟨g, 0 + 2, none⟩ (.int .i64 z.f2.f0)).setCell ⟨g, 0 + 3, none⟩ (.int .u64 z.f2.f1)).setCell ⟨g, 0 + 4, none⟩ (.int .i64 z.f3)).setCell ⟨g, 0 + 5, none⟩ (.int .i64 z.f4)
theorem stK_blk {W : World} {g : Nat} {a z : Ag} (h : W.heap[g]? = some (agO a)) : (stK W g z).heap[g]? = some (agO z) :=
  (blk_set (blk_set (blk_set (blk_set (blk_set (blk_set h 0 _) 1 _) 2 _) 3 _) 4 _) 5 _).trans rfl
theorem stK_below {n : Nat} {w0 W : World} {g : Nat} {z : Ag} (h : Below n w0 W) (hg : n ≤ g) : Below n w0 (stK W g z) :=
  (((((h.setCell (p := ⟨g, 0, none⟩) hg _).setCell (p := ⟨g, 0 + 1, none⟩) hg _).setCell (p := ⟨g, 0 + 2, none⟩) hg _).setCell (p := ⟨g, 0 + 3, none⟩) hg _).setCell (p := ⟨g, 0 + 4, none⟩) hg _).setCell (p := ⟨g, 0 + 5, none⟩) hg _
theorem agO_cells {W : World} {g : Nat} {a : Ag} (h : W.heap[g]? = some (agO a)) : W.cell? ⟨g, 0, none⟩ = some (.int .u64 a.f0) ∧ W.cell? ⟨g, 1, none⟩ = some (.bool a.f1) ∧ W.cell? ⟨g, 2, none⟩ = some (.int .i64 a.f2.f0) ∧ W.cell? ⟨g, 3, none⟩ = some (.int .u64 a.f2.f1) ∧ W.cell? ⟨g, 4, none⟩ = some (.int .i64 a.f3) ∧ W.cell? ⟨g, 5, none⟩ = some (.int .i64 a.f4) :=
  ⟨(blk_cell h 0).trans rfl, (blk_cell h 1).trans rfl, (blk_cell h 2).trans rfl, (blk_cell h 3).trans rfl, (blk_cell h 4).trans rfl, (blk_cell h 5).trans rfl⟩
theorem below_step {w A B : World} (h : Below w.heap.size w A) (h2 : Below A.heap.size A B) : Below w.heap.size w B := h.trans (h2.mono h.size)
abbrev SnM (W : World) (g : Nat) (ad : Addr) (kn y : Ag) : Prop := W.cell? ⟨g, 0, none⟩ = some (.int .u64 kn.f0) ∧ W.cell? ⟨g, 1, none⟩ = some (.bool kn.f1) ∧ W.cell? ⟨g, 2, none⟩ = some (.int .i64 kn.f2.f0) ∧ W.cell? ⟨g, 3, none⟩ = some (.int .u64 kn.f2.f1) ∧ W.cell? ⟨g, 4, none⟩ = some (.int .i64 kn.f3) ∧ W.cell? ⟨g, 5, none⟩ = some (.int .i64 kn.f4) ∧ W.cell? ⟨ad.block, ad.off + 1, none⟩ = some (.int .u64 y.f0) ∧ W.cell? ⟨ad.block, ad.off + 2, none⟩ = some (.bool y.f1) ∧ W.cell? ⟨ad.block, ad.off + 3, none⟩ = some (.int .i64 y.f2.f0) ∧ W.cell? ⟨ad.block, ad.off + 4, none⟩ = some (.int .u64 y.f2.f1) ∧ W.cell? ⟨ad.block, ad.off + 5, none⟩ = some (.int .i64 y.f3) ∧ W.cell? ⟨ad.block, ad.off + 6, none⟩ = some (.int .i64 y.f4)
theorem SnM.below {W W' : World} {g : Nat} {ad : Addr} {kn y : Ag} (h : SnM W g ad kn y) (hb : Below W.heap.size W W') : SnM W' g ad kn y := by
  obtain ⟨h1, h2, h3, h4, h5, h6, h7, h8, h9, h10, h11, h12⟩ := h
  exact ⟨cell_bl' h1 hb, cell_bl' h2 hb, cell_bl' h3 hb, cell_bl' h4 hb, cell_bl' h5 hb, cell_bl' h6 hb, cell_bl' h7 hb, cell_bl' h8 hb, cell_bl' h9 hb, cell_bl' h10 hb, cell_bl' h11 hb, cell_bl' h12 hb⟩
set_option maxHeartbeats 4000000 in
set_option maxRecDepth 100000 in
theorem SkipMerges_walk (A0 : Option Addr) (c0 : Nat) (l : List En) (A1 : Option Addr) (c1 : Nat) (hs : List Int) (A2 : Option Addr) (c2 : Nat) (other : List Int) (w : World) (hr : Kd.C k38 w A0 l.length l) (hok : ∀ x ∈ l, Byt x ∧ OkAg x.f1) (hh : Kd.C (Kd.int .u8) w A1 hs.length hs) (ho : Kd.C (Kd.int .u8) w A2 other.length other) (hoc : other.length ≤ c2) (hob : ∀ x ∈ other, 0 ≤ x ∧ x < 256) :
    Calls Try.prog 5 #[.slice A0 l.length c0, .slice A1 hs.length c1, .slice A2 other.length c2] w fun e w' => e = .returned (.bool true) ∧ Below w.heap.size w w' := by
  have HAL := Aside0.mk alive_calls
  by_cases hl : 100 < l.length
  · have d1 : decide ((100 : Int) < (l.length : Int)) = true := decide_eq_true (by omega)
    have d1b : decide (100 < l.length) = true := decide_eq_true hl
    clear hl hr hok hh ho hoc hob
    go_enter Try.func5, Try.ntmps5
    go_wp2_with (first | (go_at_call 9; refine (HAL.out _).mono ?_; rintro e w1 ⟨rfl, hb⟩; have HB1 := Aside0.mk hb; clear hb))
    go_ret
    exact ⟨rfl, HB1.out⟩
  have d1 : decide ((100 : Int) < (l.length : Int)) = false := decide_eq_false (by omega)
  have d1b : decide (100 < l.length) = false := decide_eq_false hl
  by_cases hko : 1000 < other.length
  · have d2 : decide ((1000 : Int) < (other.length : Int)) = true := decide_eq_true (by omega)
    have d2b : decide (1000 < other.length) = true := decide_eq_true hko
    clear hl hr hok hh ho hoc hob hko
    go_enter Try.func5, Try.ntmps5
    go_wp2_with (first | (go_at_call 9; refine (HAL.out _).mono ?_; rintro e w1 ⟨rfl, hb⟩; have HB1 := Aside0.mk hb; clear hb))
    go_ret
    exact ⟨rfl, HB1.out⟩
  have d2 : decide ((1000 : Int) < (other.length : Int)) = false := decide_eq_false (by omega)
  have d2b : decide (1000 < other.length) = false := decide_eq_false hko
  have HL := Aside0.mk (show l.length ≤ 100 by omega)
  have HP := Aside0.mk (put_calls A0 c0 l A1 c1 hs 0 w hr hh HL.out (by omega) hok)
  have HR := Aside0.mk hr
  have HO := Aside0.mk (And.intro ho hoc)
  have HOB := Aside0.mk hob
  have HOK := Aside0.mk hok
  obtain ⟨n, hn⟩ : ∃ n, l.length = n := ⟨_, rfl⟩
  have HNN := Aside0.mk hn
  cases hpa : putAll l hs 0 with
  | none =>
    rw [hpa] at HP
    clear hpa hl hr hok hh ho hoc hob hko hn
    go_enter Try.func5, Try.ntmps5
    go_wp2_with (first
      | (go_at_call 10; refine (HP.out).mono ?_; rintro e w1 ⟨hb, rfl⟩; have HB0 := Aside0.mk hb; clear hb)
      | (go_at_call 9; refine (HAL.out _).mono ?_; rintro e w3 ⟨rfl, hb⟩; have HB1 := Aside0.mk (below_step HB0.out hb); clear hb))
    go_ret
    exact ⟨rfl, HB1.out⟩
  | some es =>
    have HK := Aside0.mk (fun k => kn_put hpa HL.out hok k)
    have HGD := Aside0.mk (show ∀ x ∈ l, GoodA x.f1 from fun x hx => good_of (hok x hx).2 (put_all_fok hpa x hx))
    have HFK := Aside0.mk (show ∀ x ∈ l, x.f0.length ≤ 256 from fun x hx => (put_all_fok hpa x hx).2.1)
    rw [hpa] at HP
    rw [hn] at HP ⊢
    rw [hn] at d1 d1b
    clear hpa hl hr hok hh ho hoc hob hko hn
    go_enter Try.func5, Try.ntmps5
    go_wp2_with (first
      | (go_at_call 10; refine (HP.out).mono ?_; rintro e w1 ⟨hb, g, ok1, rfl, hs1, hg1⟩; have HB1 := Aside0.mk hb; have HS1 := Aside0.mk (And.intro hs1 hg1); clear hb hs1 hg1))
    have HGET := Aside0.mk (show ∀ W, Below w1.heap.size w1 W → ∀ (A : Option Addr) (c : Nat) (key : List Int), Kd.C (Kd.int .u8) W A key.length key → key.length ≤ c → (∀ x ∈ key, 0 ≤ x ∧ x < 256) → Calls Try.prog 16 #[.pointer (some ⟨g, 0, none⟩), .slice A key.length c] W fun e w' => e = .returned (.tuple #[agV (knA key l), .bool (knB key l)]) ∧ Below W.heap.size W w' from fun W hW A c key hC hc hb => by
      have h := Get_S (HS1.out.1.below hW) HS1.out.2 A c key hC hc
      rw [(get_kn hb HS1.out.2.rises HS1.out.2.byt).1, (get_kn hb HS1.out.2.rises HS1.out.2.byt).2, (HK.out key).1, (HK.out key).2] at h
      exact h)
    go_loopg [8, 9] (n + 1) (fun kq v8 v9 w' => ∃ (i : Nat), v9 = .int .i64 (i : Int) ∧ v8 = .bool (knB other (l.take i)) ∧ Aside0 (i ≤ n ∧ kq = n + 1 - i) ∧ Aside0 (Below w1.heap.size w1 w'))
    case atStart => exact ⟨0, rfl, rfl, ⟨Nat.zero_le _, rfl⟩, ⟨Below.refl _ _⟩⟩
    case round =>
      obtain ⟨i, rfl, rfl, HI, HB⟩ := hrel
      have HBW := Aside0.mk (below_step HB1.out HB.out)
      by_cases hi : i < n
      · have d3 : decide ((i : Int) < (n : Int)) = true := decide_eq_true (by omega)
        have d3b : decide (i < n) = true := decide_eq_true hi
        have i1 : (0 ≤ (i : Int)) = True := eq_true (by omega)
        have i2 : ((i : Int) < (n : Int)) = True := eq_true (by omega)
        have i3 : (i < n) = True := eq_true hi
        obtain ⟨x0, hx0⟩ : ∃ x, l[i]? = some x := ⟨_, List.getElem?_eq_getElem (by have := HNN.out; omega)⟩
        have HX0 := Aside0.mk hx0
        have HIL := Aside0.mk hi
        clear hi hx0
        go_upto_region 11 with (fail)
        obtain ⟨b, hbs⟩ : ∃ b, wr.heap.size = b := ⟨_, rfl⟩
        obtain ⟨V, hV⟩ : ∃ V, wr.alloc (agO ag0) = V := ⟨_, rfl⟩
        have HVB := Aside0.mk (show Below w1.heap.size w1 V by rw [← hV]; exact below_alloc HB.out _)
        have HVG := Aside0.mk (show V.heap[b]? = some (agO ag0) by rw [← hV, ← hbs]; exact blk_new wr _)
        have HBS := Aside0.mk (show w1.heap.size ≤ b by rw [← hbs]; exact HB.out.size)
        rw [hbs, hV]
        clear hbs hV HB HBW
        go_wp2
        go_loopg [11] (n + 1) (fun kq v11 w' => ∃ (k : Nat) (kn : Ag), v11 = .int .i64 (k : Int) ∧ Aside0 (k ≤ n ∧ kq = n + 1 - k ∧ kn = knA x0.f0 (l.take k)) ∧ Aside0 (w'.heap[b]? = some (agO kn)) ∧ Aside0 (Below w1.heap.size w1 w'))
        case atStart => exact ⟨0, ag0, rfl, ⟨Nat.zero_le _, rfl, rfl⟩, HVG, HVB⟩
        case round =>
          clear HVG HVB
          obtain ⟨k, kn, rfl, HJ, HBG, HB⟩ := hrel
          have HBW := Aside0.mk (below_step HB1.out HB.out)
          obtain ⟨ad0, Bi, di, hAi, m0, m1, m2, m3, m4, m5, m6, hli, hCi⟩ := at_en (Kd.C_below HR.out HBW.out) HX0.out
          subst hAi
          have HCI := Aside0.mk (And.intro hli hCi)
          by_cases hk : k < n
          · have d4 : decide ((k : Int) < (n : Int)) = true := decide_eq_true (by omega)
            have d4b : decide (k < n) = true := decide_eq_true hk
            have j1 : (0 ≤ (k : Int)) = True := eq_true (by omega)
            have j2 : ((k : Int) < (n : Int)) = True := eq_true (by omega)
            have j3 : (k < n) = True := eq_true hk
            have hw2 : wrap64 ((k : Int) + 1) = ((k + 1 : Nat) : Int) := w64_up (by have := HNN.out; have := HL.out; omega)
            have HW2 := Aside0.mk hw2
            obtain ⟨x, hx⟩ : ∃ x, l[k]? = some x := ⟨_, List.getElem?_eq_getElem (by have := HNN.out; omega)⟩
            obtain ⟨ae, Bx, dx, hB, k0, k1, k2, k3, k4, k5, k6, hlx, hCx⟩ := at_en (Kd.C_below HR.out HBW.out) hx
            obtain rfl : ad0 = ae := Option.some.inj hB
            have hcv1 := fun n_ : Nat => Kd.C_string (P := Try.prog) (A := Bx) (c := dx) Try.underlying23 Try.underlying5 Try.underlying9 (Kd.C_drewN hCx n_)
            have hcv2 := fun n_ : Nat => Kd.C_string (P := Try.prog) (A := Bi) (c := di) Try.underlying23 Try.underlying5 Try.underlying9 (Kd.C_drewN hCi n_)
            have hst := str_beq x.f0 x0.f0
            have HXK := Aside0.mk hx
            have HKL := Aside0.mk hk
            have HTK := Aside0.mk (show l.take (k + 1) = l.take k ++ [x] by rw [List.take_add_one, hx]; rfl)
            have HBY := Aside0.mk (And.intro (HOK.out x (List.mem_of_getElem? hx)) (HOK.out x0 (List.mem_of_getElem? HX0.out)))
            by_cases he : x.f0 = x0.f0
            · have h0 : cmpI x.f0 x0.f0 = 0 := by rw [he]; exact cmpI_self _
              rw [decide_eq_true h0] at hst
              have HE := Aside0.mk he
              clear hx hk he h0 hli hCi hlx hCx hB m1 m2 m3 m4 m5 m6 hw2
              go_wp2
              go_quiet (fail)
              go_wp2
              obtain ⟨W5, hW5⟩ : ∃ W5, wr.drewN nq = W5 := ⟨_, rfl⟩
              have b5 : Below wr.heap.size wr W5 := by rw [← hW5]; exact pw_below_drewN (Below.refl _ _) _
              have hbg5 := (b5.block b (blk_lt HBG.out)).trans HBG.out
              obtain ⟨q0, q1, q2, q3, q4, q5⟩ := agO_cells hbg5
              have HSN := Aside0.mk (show SnM W5 b (ad0.add (k * 7)) kn x.f1 from ⟨q0, q1, q2, q3, q4, q5, cell_bl' k1 b5, cell_bl' k2 b5, cell_bl' k3 b5, cell_bl' k4 b5, cell_bl' k5 b5, cell_bl' k6 b5⟩)
              have HBG5 := Aside0.mk hbg5
              have HB5 := Aside0.mk (below_step HB.out b5)
              have HKG := Aside0.mk (show GoodA kn by rw [HJ.out.2.2]; exact knA_good (fun y hy => HGD.out y (List.mem_of_mem_take hy)))
              have HGX := Aside0.mk (HGD.out x (List.mem_of_getElem? HXK.out))
              obtain ⟨r1, r2, r3, r4, r5, r6, hmg, hma, _⟩ := mgA_some (a := kn) (b := x.f1) HKG.out.1.2.2.1 HGX.out.1.2.2.1
              have HMG := Aside0.mk (fun W => agg_Merge.calls _ _ _ _ _ _ _ _ _ _ _ _ r1 r2 r3 r4 r5 r6 W hmg)
              have HMA := Aside0.mk hma
              have hht := kn_hit (l.take k) HE.out
              rw [← HTK.out] at hht
              have HHT := Aside0.mk hht
              rw [hW5]
              clear hW5 b5 hbg5 q0 q1 q2 q3 q4 q5 k0 k1 k2 k3 k4 k5 k6 m0 hmg hma hht hcv1 hcv2 hst
              have HS0 := Aside0.mk (show SnM W5.drew b (ad0.add (k * 7)) kn x.f1 from HSN.out)
              refine wp_region_last_drew (ds := [7]) (S := fun W' => W'.cell? ⟨b, 0, none⟩ = some (.int .u64 kn.f0) ∧ W'.cell? ⟨b, 1, none⟩ = some (.bool kn.f1) ∧ W'.cell? ⟨b, 2, none⟩ = some (.int .i64 kn.f2.f0) ∧ W'.cell? ⟨b, 3, none⟩ = some (.int .u64 kn.f2.f1) ∧ W'.cell? ⟨b, 4, none⟩ = some (.int .i64 kn.f3) ∧ W'.cell? ⟨b, 5, none⟩ = some (.int .i64 kn.f4) ∧ W'.cell? ⟨(ad0.add (k * 7)).block, (ad0.add (k * 7)).off + 1, none⟩ = some (.int .u64 x.f1.f0) ∧ W'.cell? ⟨(ad0.add (k * 7)).block, (ad0.add (k * 7)).off + 2, none⟩ = some (.bool x.f1.f1) ∧ W'.cell? ⟨(ad0.add (k * 7)).block, (ad0.add (k * 7)).off + 3, none⟩ = some (.int .i64 x.f1.f2.f0) ∧ W'.cell? ⟨(ad0.add (k * 7)).block, (ad0.add (k * 7)).off + 4, none⟩ = some (.int .u64 x.f1.f2.f1) ∧ W'.cell? ⟨(ad0.add (k * 7)).block, (ad0.add (k * 7)).off + 5, none⟩ = some (.int .i64 x.f1.f3) ∧ W'.cell? ⟨(ad0.add (k * 7)).block, (ad0.add (k * 7)).off + 6, none⟩ = some (.int .i64 x.f1.f4)) (by kernel_rfl) ?_ (fun hS0 => ?_);
              focus exact HS0.out
              (refine wpAnyLast_take (i := 0) (v := ?_) rfl (by kernel_rfl) (by kernel_rfl) (by kernel_rfl) (by kernel_rfl) (by kernel_rfl) (fun _ _ _ h => h) (Or.inl ⟨by rfl, ?_⟩) (by assumption) ?_; rotate_left 1; focus (intro ww hSw; (try dsimp only at hSw); go_simp; try with_reducible rfl)); try simp only [Act.put, List.setIfInBounds_toArray, List.set_cons_zero, List.set_cons_succ]
              (refine wpAnyLast_take (i := 1) (v := ?_) rfl (by kernel_rfl) (by kernel_rfl) (by kernel_rfl) (by kernel_rfl) (by kernel_rfl) (fun _ _ _ h => h) (Or.inl ⟨by rfl, ?_⟩) (by assumption) ?_; rotate_left 1; focus (intro ww hSw; (try dsimp only at hSw); go_simp; try with_reducible rfl)); try simp only [Act.put, List.setIfInBounds_toArray, List.set_cons_zero, List.set_cons_succ]
              (refine wpAnyLast_take (i := 2) (v := ?_) rfl (by kernel_rfl) (by kernel_rfl) (by kernel_rfl) (by kernel_rfl) (by kernel_rfl) (fun _ _ _ h => h) (Or.inl ⟨by rfl, ?_⟩) (by assumption) ?_; rotate_left 1; focus (intro ww hSw; (try dsimp only at hSw); go_simp; try with_reducible rfl)); try simp only [Act.put, List.setIfInBounds_toArray, List.set_cons_zero, List.set_cons_succ]
              (refine wpAnyLast_take (i := 3) (v := ?_) rfl (by kernel_rfl) (by kernel_rfl) (by kernel_rfl) (by kernel_rfl) (by kernel_rfl) (fun _ _ _ h => h) (Or.inl ⟨by rfl, ?_⟩) (by assumption) ?_; rotate_left 1; focus (intro ww hSw; (try dsimp only at hSw); go_simp; try with_reducible rfl)); try simp only [Act.put, List.setIfInBounds_toArray, List.set_cons_zero, List.set_cons_succ]
              (refine wpAnyLast_take (i := 4) (v := ?_) rfl (by kernel_rfl) (by kernel_rfl) (by kernel_rfl) (by kernel_rfl) (by kernel_rfl) (fun _ _ _ h => h) (Or.inl ⟨by rfl, ?_⟩) (by assumption) ?_; rotate_left 1; focus (intro ww hSw; (try dsimp only at hSw); go_simp; try with_reducible rfl)); try simp only [Act.put, List.setIfInBounds_toArray, List.set_cons_zero, List.set_cons_succ]
              (refine wpAnyLast_take (i := 5) (v := ?_) rfl (by kernel_rfl) (by kernel_rfl) (by kernel_rfl) (by kernel_rfl) (by kernel_rfl) (fun _ _ _ h => h) (Or.inl ⟨by rfl, ?_⟩) (by assumption) ?_; rotate_left 1; focus (intro ww hSw; (try dsimp only at hSw); go_simp; try with_reducible rfl)); try simp only [Act.put, List.setIfInBounds_toArray, List.set_cons_zero, List.set_cons_succ]
              refine wpAnyLast_ready (rs := [6]) (by kernel_rfl) (by simp) (AllReadyL.cons rfl (by decide) (fun K hK => ?_) AllReadyL.nil)
              go_simp
              refine (HMG.out _).mono ?_
              rintro e w10 ⟨rfl, hb⟩
              have HB10 := Aside0.mk (show Below W5.heap.size W5 w10 from (below_drew (Below.refl _ _)).trans hb)
              have hbg10 := (HB10.out.block b (blk_lt HBG5.out)).trans HBG5.out
              have HBG10 := Aside0.mk hbg10
              have HS9 := Aside0.mk (SnM.below HSN.out HB10.out)
              refine hK _ _ HS9.out (fun hS1 => ?_)
              clear hK K hb
              obtain ⟨q0, q1, q2, q3, q4, q5⟩ := agO_cells hbg10
              have f0 := fun n => blk_frozen hbg10 n
              clear hbg10
              refine wpAnyLast_ready (rs := [7]) (by kernel_rfl) (by simp) (AllReadyL.cons_last rfl (by decide) (fun K hK => ?_) AllReadyL.nil)
              (go_simp; refine hK _ _ ?_; clear hK K)
              refine wpAnyLast_done (by kernel_rfl) ?_ _;
              clear q0 q1 q2 q3 q4 q5 f0
              have hz := HMA.out
              have e1 : r1 = (mgA kn x.f1).f0 := by rw [hz]
              have e2 : r2 = (mgA kn x.f1).f1 := by rw [hz]
              have e3 : r3 = (mgA kn x.f1).f2.f0 := by rw [hz]
              have e4 : r4 = (mgA kn x.f1).f2.f1 := by rw [hz]
              have e5 : r5 = (mgA kn x.f1).f3 := by rw [hz]
              have e6 : r6 = (mgA kn x.f1).f4 := by rw [hz]
              obtain ⟨z, hzz⟩ : ∃ z, mgA kn x.f1 = z := ⟨_, rfl⟩
              rw [hzz] at e1 e2 e3 e4 e5 e6
              have HZZ := Aside0.mk hzz
              subst e1 e2 e3 e4 e5 e6
              clear hz hzz HMG HMA
              have HW11 := Aside0.mk (stK_blk (z := z) HBG10.out)
              have HB11 := Aside0.mk (stK_below (z := z) (below_step HB5.out HB10.out) HBS.out)
              obtain ⟨W11, hW11⟩ : ∃ W11, stK w10 b z = W11 := ⟨_, rfl⟩
              first | change Exit.then _ _ Exit.normal _ (stK w10 b z) | change Exit.inBlock 3 _ Exit.normal _ (stK w10 b z)
              rw [hW11] at HW11 HB11 ⊢
              clear hW11
              go_wp2
              go_roundg (n + 1 - (k + 1))
              case measure => have := HJ.out.2.1; have := HKL.out; omega
              case rel => exact ⟨k + 1, z, by first | rfl | rw [HW2.out], ⟨HKL.out, rfl, by rw [HHT.out.1, ← HJ.out.2.2]; exact HZZ.out.symm⟩, HW11, HB11⟩
            · have h0 : cmpI x.f0 x0.f0 ≠ 0 := fun h => he ((cmpI_zero HBY.out.1.1 HBY.out.2.1).1 h)
              rw [decide_eq_false h0] at hst
              have hms := kn_miss (l.take k) he
              rw [← HTK.out] at hms
              have HMS := Aside0.mk hms
              clear hx hk he h0 hli hCi hlx hCx hB m1 m2 m3 m4 m5 m6 hms hw2
              go_wp2
              go_quiet (fail)
              go_wp2
              go_roundg (n + 1 - (k + 1))
              case measure => have := HJ.out.2.1; have := HKL.out; omega
              case rel => exact ⟨k + 1, kn, by first | rfl | rw [HW2.out], ⟨HKL.out, rfl, by rw [HMS.out.1]; exact HJ.out.2.2⟩, ⟨((pw_below_drewN (Below.refl _ _) _).block b (blk_lt HBG.out)).trans HBG.out⟩, ⟨pw_below_drewN HB.out _⟩⟩
          · have d4 : decide ((k : Int) < (n : Int)) = false := decide_eq_false (by omega)
            have d4b : decide (k < n) = false := decide_eq_false hk
            have HKN := Aside0.mk (show kn = knA x0.f0 l by have h_ := HJ.out; rw [List.take_of_length_le (by have := HNN.out; omega)] at h_; exact h_.2.2)
            clear hk hli hCi m1 m2 m3 m4 m5 m6
            obtain ⟨kb, hkb⟩ : ∃ a, kn = a := ⟨_, rfl⟩
            have HGO := Aside0.mk (HGET.out _ HB.out Bi di x0.f0 HCI.out.2 HCI.out.1 (HOK.out x0 (List.mem_of_getElem? HX0.out)).1)
            rw [← HKN.out, knB_mem (List.mem_of_getElem? HX0.out) rfl] at HGO
            clear hkb
            have hbg := HBG.out
            go_upto_region 17 with (first | (go_at_call 16; refine (HGO.out).mono ?_; rintro e w5 ⟨rfl, hb⟩; have HB5 := Aside0.mk hb; clear hb))
            obtain ⟨b2, hb2⟩ : ∃ k, w5.heap.size = k := ⟨_, rfl⟩
            obtain ⟨V5, hV5⟩ : ∃ V, w5.alloc (agO kn) = V := ⟨_, rfl⟩
            have v5 : Below wr.heap.size wr V5 := by rw [← hV5]; exact below_alloc HB5.out _
            have hv1 : V5.heap[b2]? = some (agO kn) := by rw [← hV5, ← hb2]; exact blk_new w5 _
            have hv2 : V5.heap[b]? = some (agO kn) := blk_below HBG.out v5
            have HV5 := Aside0.mk (below_step HB.out v5)
            have HV6 := Aside0.mk (below_step HBW.out v5)
            have m0 := cell_bl' m0 v5
            have hCi := Kd.C_below HCI.out.2 v5
            rw [hb2, hV5]
            obtain ⟨q0, q1, q2, q3, q4, q5⟩ := agO_cells hv1
            obtain ⟨p0, p1, p2, p3, p4, p5⟩ := agO_cells hv2
            have hcv1 := fun n_ : Nat => Kd.C_string (P := Try.prog) (A := Bi) (c := di) Try.underlying23 Try.underlying5 Try.underlying9 (Kd.C_drewN hCi n_)
            have hcv2 := fun n_ : Nat => Kd.C_string (P := Try.prog) (A := A2) (c := c2) Try.underlying23 Try.underlying5 Try.underlying9 (Kd.C_drewN (Kd.C_below HO.out.1 HV6.out) n_)
            have hst := str_beq x0.f0 other
            have hw1 : wrap64 ((i : Int) + 1) = ((i + 1 : Nat) : Int) := w64_up (by have := HNN.out; have := HL.out; have := HIL.out; omega)
            have HW1 := Aside0.mk hw1
            have HTI := Aside0.mk (show l.take (i + 1) = l.take i ++ [x0] by rw [List.take_add_one, HX0.out]; rfl)
            have HKS := Aside0.mk (show knB other (l.take (i + 1)) = (knB other (l.take i) || decide (cmpI x0.f0 other = 0)) by
              rw [HTI.out]
              by_cases he : x0.f0 = other
              · rw [(kn_hit (l.take i) he).2, he, cmpI_self]; simp
              · rw [(kn_miss (l.take i) he).2, decide_eq_false (fun h => he ((cmpI_zero (HOK.out x0 (List.mem_of_getElem? HX0.out)).1 HOB.out).1 h)), Bool.or_false])
            obtain ⟨tb, htb⟩ : ∃ t, knB other (l.take i) = t := ⟨_, rfl⟩
            obtain ⟨eb, heb⟩ : ∃ t, decide (cmpI x0.f0 other = 0) = t := ⟨_, rfl⟩
            rw [htb, heb] at HKS
            rw [heb] at hst
            rw [htb]
            clear hV5 hb2 v5 hv1 hv2 htb heb hCi hbg
            cases tb with
            | true =>
              go_wp2
              go_quiet (fail)
              go_wp2
              go_roundg (n + 1 - (i + 1))
              case measure => have := HI.out.2; have := HIL.out; omega
              case rel => exact ⟨i + 1, by first | rfl | rw [HW1.out], by rw [HKS.out]; rfl, ⟨HIL.out, rfl⟩, ⟨pw_below_drewN HV5.out _⟩⟩
            | false =>
              go_wp2
              go_quiet (fail)
              go_wp2
              go_roundg (n + 1 - (i + 1))
              case measure => have := HI.out.2; have := HIL.out; omega
              case rel => exact ⟨i + 1, by first | rfl | rw [HW1.out], by rw [HKS.out]; rfl, ⟨HIL.out, rfl⟩, ⟨pw_below_drewN HV5.out _⟩⟩
      · have d3 : decide ((i : Int) < (n : Int)) = false := decide_eq_false (by omega)
        have d3b : decide (i < n) = false := decide_eq_false hi
        have HE := Aside0.mk (show l.take i = l by rw [List.take_of_length_le (by have := HI.out; have := HNN.out; omega)])
        have HGO := Aside0.mk (HGET.out _ HB.out A2 c2 other (Kd.C_below HO.out.1 HBW.out) HO.out.2 HOB.out)
        rw [HE.out]
        clear hi
        obtain ⟨kb, hkb⟩ : ∃ b, knB other l = b := ⟨_, rfl⟩
        rw [hkb] at HGO ⊢
        clear hkb
        go_wp2_with (first
          | (go_at_call 16; refine (HGO.out).mono ?_; rintro e w5 ⟨rfl, hb⟩; have HB5 := Aside0.mk (below_step HBW.out hb); clear hb)
          | (go_at_call 9; refine (HAL.out _).mono ?_; rintro e w6 ⟨rfl, hb⟩; have HB6 := Aside0.mk (below_step (below_alloc HB5.out _) hb); clear hb))
        go_ret
        exact ⟨rfl, HB6.out⟩
theorem SkipMerges_row (A0 : Option Addr) (c0 : Nat) (l : List En) (A1 : Option Addr) (c1 : Nat) (hs : List Int) (A2 : Option Addr) (c2 : Nat) (other : List Int) (w : World) (hr : Kd.C k38 w A0 l.length l) (_ : l.length ≤ c0) (hok : ∀ x ∈ l, OkEn x) (hh : Kd.C (Kd.int .u8) w A1 hs.length hs) (_ : hs.length ≤ c1) (_ : ∀ x ∈ hs, 0 ≤ x ∧ x < 256) (ho : Kd.C (Kd.int .u8) w A2 other.length other) (hoc : other.length ≤ c2) (hob : ∀ x ∈ other, 0 ≤ x ∧ x < 256) :
    Calls Try.prog 5 #[.slice A0 l.length c0, .slice A1 hs.length c1, .slice A2 other.length c2] w fun e w' => e = .returned (.bool true) ∧ Below w.heap.size w w' :=
  SkipMerges_walk A0 c0 l A1 c1 hs A2 c2 other w hr hok hh ho hoc hob
end Go.Proofs.Yteomanpaladdjaa.P
