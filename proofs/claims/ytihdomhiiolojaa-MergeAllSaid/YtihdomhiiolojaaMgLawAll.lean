/- MergeAll's function comes to true. No conditions. -/
import Derived.Test.YtihdomhiiolojaaMgFlip
import Derived.Test.YtihdomhiiolojaaMgRefAll
namespace Go.Proofs.Ytihdomhiiolojaa.P
open Go.RowKit Go.Proofs.YtihdomhiiolojaaW.PrintWords Go.Proofs.YtihdomhiiolojaaW.PrintLast Go.Proofs.YtihdomhiiolojaaW.PrintMore
set_option linter.unusedVariables false
set_option linter.unusedSimpArgs false
open Go.Proofs.Ytihdomhiiolojaa.Pure
theorem cntL_flat : ∀ (l : List (List En)), cntL l = l.flatten.length
  | [] => rfl
  | r :: l => by rw [List.flatten_cons, List.length_append, ← cntL_flat l]; first | rfl | simp [cntL]
set_option maxHeartbeats 8000000 in
set_option maxRecDepth 100000 in
theorem mall_core (A0 : Option Addr) (c0 : Nat) (l0 : List (List En)) (w : World) (hr0 : Kd.C (Kd.slice 41 k41) w A0 l0.length l0) (hc0 : l0.length ≤ c0)
    (hg : Calls Try.prog 10 #[.slice A0 l0.length c0] w fun e w' => e = .returned (.bool false) ∧ Drawn0 w w') (L : List En) (er : Int) (hall : merge_All.f l0 = some (L, er)) (hlen : L.length ≤ 1200)
    (href : ∀ W, Below w.heap.size w W → Calls Try.prog 17 #[.slice A0 l0.length c0] W fun e w' => ∃ A c, e = .returned (.tuple #[.slice A L.length c, .int .i64 er]) ∧ L.length ≤ c ∧ Kd.F k41 w' (fun k => k < w.heap.size ∨ W.heap.size ≤ k) A L.length L ∧ Below W.heap.size W w') :
    Calls Try.prog 4 #[.slice A0 l0.length c0] w fun e w' => e = .returned (.bool true) ∧ Below w.heap.size w w' := by
  have hu3 := Try.underlying41
  have HGR := Aside0.mk hg
  have HR := Aside0.mk hr0
  have HC0 := Aside0.mk hc0
  have HA := Aside0.mk (fun W (hW : Below w.heap.size w W) => merge_All.calls A0 c0 l0 L er W (Kd.C_below hr0 hW) hc0 hall)
  have HREF := Aside0.mk href
  have HLN := Aside0.mk hlen
  clear hr0 hc0 hg hall hlen href
  go_enter Try.func4, Try.ntmps4
  go_upto_region 5 with (first
    | (go_at_call 10; refine (HGR.out).mono ?_; rintro e w1 ⟨rfl, hd⟩; have HB1 := Aside0.mk hd.below; clear hd)
    | (go_at_call 16; refine (HA.out _ HB1.out).mono ?_; rintro e w2 ⟨v2, rfl, ho, hb⟩; obtain ⟨A2, c2, rfl⟩ := Kd.S_slice ho; have HB2 := Aside0.mk hb; have HO2 := Aside0.mk ho; have HW2 := Aside0.mk (below_step HB1.out hb); clear hb ho)
    | (go_at_call 17; refine (HREF.out _ HW2.out).mono ?_; rintro e w3 ⟨A3, c3, rfl, hc, hf, hb⟩; have HB3 := Aside0.mk hb; have HF3 := Aside0.mk hf; have HC3 := Aside0.mk hc; clear hc hf hb))
  go_wp2
  go_loopg [7] (L.length) (fun kq v7 w' => ∃ (i : Nat) (l' : List En), v7 = .int .i64 (i : Int) ∧ Aside0 (i ≤ L.length ∧ kq = L.length - i) ∧ Aside0 (FlipI w w2 w3 w1.heap.size A2 L.length c2 w' l'))
  case atStart =>
    exact ⟨0, L, rfl, ⟨Nat.zero_le _, rfl⟩, ⟨rfl, Kd.S_below (Kd.S_mono (Kd.S_bound HO2.out) (fun k hk => ⟨hk.2.1, hk.2.2.1⟩)) HB3.out, below_step HW2.out HB3.out, Nat.le_refl _, fun k _ _ => rfl⟩⟩
  case round =>
    obtain ⟨i, l', rfl, HI, HS⟩ := hrel
    by_cases hi : i < L.length
    · have d3 : decide ((i : Int) < (L.length : Int)) = true := decide_eq_true (by omega)
      have d3b : decide (i < L.length) = true := decide_eq_true hi
      have i1 : (0 ≤ (i : Int)) = True := eq_true (Int.natCast_nonneg _)
      have i2 : ((i : Int) < (L.length : Int)) = True := eq_true (Int.ofNat_lt.2 hi)
      have i3 : (i < L.length) = True := eq_true hi
      have hw1 : wrap64 ((i : Int) + 1) = ((i + 1 : Nat) : Int) := w64_up (by have := HLN.out; omega)
      have HII := Aside0.mk hi
      obtain ⟨y, hy⟩ : ∃ y, l'[i]? = some y := ⟨_, List.getElem?_eq_getElem (by rw [HS.out.1]; exact hi)⟩
      have HYY := Aside0.mk hy
      have hsr := (Kd.S_reads' HS.out.2.1)
      have hsc := hsr.2.2
      obtain ⟨ad, Bx, dx, hA, k0, _, _, _, _, _, _, hlx, hCx⟩ := at_en hsc hy
      subst hA
      by_cases hk : 0 < y.f0.length
      · obtain ⟨b0, d0, q0, q1, q2, q3⟩ := HS.out.flip HB1.out.size hy hk
        have q0' : wr.cell? (ad.add (i * 7)) = _ := q0
        rw [k0] at q0'
        injection q0' with q0'
        injection q0' with q0' _ hdd
        subst q0' hdd
        obtain ⟨n, hn⟩ : ∃ n, y.f0.length = n := ⟨_, rfl⟩
        obtain ⟨q, hq⟩ : ∃ q, y.f0.getD 0 0 = q := ⟨_, rfl⟩
        rw [hn] at k0 hk q0
        rw [hq] at q1
        have HNK := Aside0.mk hn
        have d5 : decide (0 < (n : Int)) = true := decide_eq_true (by omega)
        have d5b : decide (0 < n) = true := decide_eq_true hk
        have j1 : (0 < (n : Int)) = True := eq_true (by omega)
        have j2 : (0 < n) = True := eq_true hk
        have HS0 := Aside0.mk (show wr.drew.cell? (ad.add (i * 7)) = some (.slice (some ⟨b0, 0, none⟩) n dx) ∧ wr.drew.cell? ⟨b0, 0, none⟩ = some (.int .u8 q) from ⟨q0, q1⟩)
        have HQ2 := Aside0.mk q2
        have HQ3 := Aside0.mk q3
        clear hi hy hsr hsc hlx hCx hn hk hq q0 q1 q2 q3
        go_upto_region 9 with (fail)
        refine wp_region_last_drew (ds := [14]) (S := fun W' => W'.cell? (ad.add (i * 7)) = some (.slice (some ⟨b0, 0, none⟩) n dx) ∧ W'.cell? ⟨b0, 0, none⟩ = some (.int .u8 q)) (by kernel_rfl) ?_ (fun hS0 => ?_);
        focus exact HS0.out
        (refine wpAnyLast_take (i := 0) (v := ?_) rfl (by kernel_rfl) (by kernel_rfl) (by kernel_rfl) (by kernel_rfl) (by kernel_rfl) (fun _ _ _ h => h) (Or.inl ⟨by rfl, ?_⟩) (by assumption) ?_; rotate_left 1; focus (intro ww hSw; (try dsimp only at hSw); go_simp; try with_reducible rfl)); try simp only [Act.put, List.setIfInBounds_toArray, List.set_cons_zero, List.set_cons_succ]
        (refine wpAnyLast_take (i := 1) (v := ?_) rfl (by kernel_rfl) (by kernel_rfl) (by kernel_rfl) (by kernel_rfl) (by kernel_rfl) (fun _ _ _ h => h) (Or.inl ⟨by rfl, ?_⟩) (by assumption) ?_; rotate_left 1; focus (intro ww hSw; (try dsimp only at hSw); go_simp; try with_reducible rfl)); try simp only [Act.put, List.setIfInBounds_toArray, List.set_cons_zero, List.set_cons_succ]
        (refine wpAnyLast_take (i := 2) (v := ?_) rfl (by kernel_rfl) (by kernel_rfl) (by kernel_rfl) (by kernel_rfl) (by kernel_rfl) (fun _ _ _ h => h) (Or.inl ⟨by rfl, ?_⟩) (by assumption) ?_; rotate_left 1; focus (intro ww hSw; (try dsimp only at hSw); go_simp; try with_reducible rfl)); try simp only [Act.put, List.setIfInBounds_toArray, List.set_cons_zero, List.set_cons_succ]
        (refine wpAnyLast_take (i := 3) (v := ?_) rfl (by kernel_rfl) (by kernel_rfl) (by kernel_rfl) (by kernel_rfl) (by kernel_rfl) (fun _ _ _ h => h) (Or.inl ⟨by rfl, ?_⟩) (by assumption) ?_; rotate_left 1; focus (intro ww hSw; (try dsimp only at hSw); go_simp; try with_reducible rfl)); try simp only [Act.put, List.setIfInBounds_toArray, List.set_cons_zero, List.set_cons_succ]
        (refine wpAnyLast_take (i := 4) (v := ?_) rfl (by kernel_rfl) (by kernel_rfl) (by kernel_rfl) (by kernel_rfl) (by kernel_rfl) (fun _ _ _ h => h) (Or.inl ⟨by rfl, ?_⟩) (by assumption) ?_; rotate_left 1; focus (intro ww hSw; (try dsimp only at hSw); go_simp; try with_reducible rfl)); try simp only [Act.put, List.setIfInBounds_toArray, List.set_cons_zero, List.set_cons_succ]
        (refine wpAnyLast_take (i := 5) (v := ?_) rfl (by kernel_rfl) (by kernel_rfl) (by kernel_rfl) (by kernel_rfl) (by kernel_rfl) (fun _ _ _ h => h) (Or.inl ⟨by rfl, ?_⟩) (by assumption) ?_; rotate_left 1; focus (intro ww hSw; (try dsimp only at hSw); go_simp; try with_reducible rfl)); try simp only [Act.put, List.setIfInBounds_toArray, List.set_cons_zero, List.set_cons_succ]
        (refine wpAnyLast_take (i := 6) (v := ?_) rfl (by kernel_rfl) (by kernel_rfl) (by kernel_rfl) (by kernel_rfl) (by kernel_rfl) (fun _ _ _ h => h) (Or.inl ⟨by rfl, ?_⟩) (by assumption) ?_; rotate_left 1; focus (intro ww hSw; (try dsimp only at hSw); go_simp; try with_reducible rfl)); try simp only [Act.put, List.setIfInBounds_toArray, List.set_cons_zero, List.set_cons_succ]
        (refine wpAnyLast_take (i := 7) (v := ?_) rfl (by kernel_rfl) (by kernel_rfl) (by kernel_rfl) (by kernel_rfl) (by kernel_rfl) (fun _ _ _ h => h) (Or.inl ⟨by rfl, ?_⟩) (by assumption) ?_; rotate_left 1; focus (intro ww hSw; (try dsimp only at hSw); go_simp; try with_reducible rfl)); try simp only [Act.put, List.setIfInBounds_toArray, List.set_cons_zero, List.set_cons_succ]
        (refine wpAnyLast_take (i := 8) (v := ?_) rfl (by kernel_rfl) (by kernel_rfl) (by kernel_rfl) (by kernel_rfl) (by kernel_rfl) (fun _ _ _ h => h) (Or.inl ⟨by rfl, ?_⟩) (by assumption) ?_; rotate_left 1; focus (intro ww hSw; (try dsimp only at hSw); go_simp; try with_reducible rfl)); try simp only [Act.put, List.setIfInBounds_toArray, List.set_cons_zero, List.set_cons_succ]
        (refine wpAnyLast_take (i := 9) (v := ?_) rfl (by kernel_rfl) (by kernel_rfl) (by kernel_rfl) (by kernel_rfl) (by kernel_rfl) (fun _ _ _ h => h) (Or.inl ⟨by rfl, ?_⟩) (by assumption) ?_; rotate_left 1; focus (intro ww hSw; (try dsimp only at hSw); go_simp; try with_reducible rfl)); try simp only [Act.put, List.setIfInBounds_toArray, List.set_cons_zero, List.set_cons_succ]
        (refine wpAnyLast_take (i := 10) (v := ?_) rfl (by kernel_rfl) (by kernel_rfl) (by kernel_rfl) (by kernel_rfl) (by kernel_rfl) (fun _ _ _ h => h) (Or.inl ⟨by rfl, ?_⟩) (by assumption) ?_; rotate_left 1; focus (intro ww hSw; (try dsimp only at hSw); go_simp; try with_reducible rfl)); try simp only [Act.put, List.setIfInBounds_toArray, List.set_cons_zero, List.set_cons_succ]
        (refine wpAnyLast_take (i := 11) (v := ?_) rfl (by kernel_rfl) (by kernel_rfl) (by kernel_rfl) (by kernel_rfl) (by kernel_rfl) (fun _ _ _ h => h) (Or.inl ⟨by rfl, ?_⟩) (by assumption) ?_; rotate_left 1; focus (intro ww hSw; (try dsimp only at hSw); go_simp; try with_reducible rfl)); try simp only [Act.put, List.setIfInBounds_toArray, List.set_cons_zero, List.set_cons_succ]
        (refine wpAnyLast_take (i := 12) (v := ?_) rfl (by kernel_rfl) (by kernel_rfl) (by kernel_rfl) (by kernel_rfl) (by kernel_rfl) (fun _ _ _ h => h) (Or.inl ⟨by rfl, ?_⟩) (by assumption) ?_; rotate_left 1; focus (intro ww hSw; (try dsimp only at hSw); go_simp; try with_reducible rfl)); try simp only [Act.put, List.setIfInBounds_toArray, List.set_cons_zero, List.set_cons_succ]
        (refine wpAnyLast_take (i := 13) (v := ?_) rfl (by kernel_rfl) (by kernel_rfl) (by kernel_rfl) (by kernel_rfl) (by kernel_rfl) (fun _ _ _ h => h) (Or.inl ⟨by rfl, ?_⟩) (by assumption) ?_; rotate_left 1; focus (intro ww hSw; (try dsimp only at hSw); go_simp; try with_reducible rfl)); try simp only [Act.put, List.setIfInBounds_toArray, List.set_cons_zero, List.set_cons_succ]
        have fI : wr.drew.frozen? ⟨b0, 0, none⟩ = false := HQ2.out
        refine wpAnyLast_ready (rs := [14]) (by kernel_rfl) (by simp) (AllReadyL.cons_last rfl (by decide) (fun K hK => ?_) AllReadyL.nil)
        (go_simp; refine hK _ _ ?_; clear hK K)
        refine wpAnyLast_done (by kernel_rfl) ?_ _;
        obtain ⟨l2, h2⟩ := HQ3.out (bits BinOp.xor IntKind.u8 q 255)
        obtain ⟨W2, hW2⟩ : ∃ W2, (wr.setCell ⟨b0, 0, none⟩ (.int .u8 (bits BinOp.xor IntKind.u8 q 255))).drew = W2 := ⟨_, rfl⟩
        have HS2 := Aside0.mk (show FlipI w w2 w3 w1.heap.size (some ad) L.length c2 W2 l2 by rw [← hW2]; exact h2.below (below_drew (Below.refl _ _)))
        rw [hW2]
        clear h2 hW2 fI k0
        go_wp2
        go_roundg (L.length - (i + 1))
        case measure => have := HI.out; have := HII.out; omega
        case rel => exact ⟨i + 1, l2, by first | rfl | rw [hw1], ⟨HII.out, rfl⟩, ⟨HS2.out.below (by first | exact Below.refl _ _ | exact pw_below_drewN (Below.refl _ _) _)⟩⟩
      · have d5 : decide (0 < (y.f0.length : Int)) = false := decide_eq_false (by omega)
        have d5b : decide (0 < y.f0.length) = false := decide_eq_false hk
        clear hi hy hsr hsc hlx hCx hk
        go_wp2
        go_roundg (L.length - (i + 1))
        case measure => have := HI.out; have := HII.out; omega
        case rel => exact ⟨i + 1, l', by first | rfl | rw [hw1], ⟨HII.out, rfl⟩, ⟨HS.out.below (by first | exact Below.refl _ _ | exact pw_below_drewN (Below.refl _ _) _)⟩⟩
    · have d3 : decide ((i : Int) < (L.length : Int)) = false := decide_eq_false (by omega)
      have d3b : decide (i < L.length) = false := decide_eq_false hi
      have HWR := Aside0.mk HS.out.2.2.1
      have HFR := Aside0.mk (show Kd.F k41 wr (fun k => k < w.heap.size ∨ w2.heap.size ≤ k) A3 L.length L from
        Kd.F_step HF3.out (fun k hk hl => HS.out.2.2.2.2 k (fun hb => by have := HB1.out.size; rcases hk with hk | hk <;> omega) hl))
      have i3 : decide ((L.length : Int) = (L.length : Int)) = true := decide_eq_true rfl
      have i4 : decide (er = er) = true := decide_eq_true rfl
      have hsm := same_f L (by have := HLN.out; omega) 1300 (by have := HLN.out; omega)
      have HSM := Aside0.mk hsm
      clear hi hsm
      go_wp2_with (first
        | (go_at_call 16; refine (HA.out _ HWR.out).mono ?_; rintro e w5 ⟨v5, rfl, ho, hb⟩; obtain ⟨A5, c5, rfl⟩ := Kd.S_slice ho; have HB5 := Aside0.mk hb; have HO5 := Aside0.mk ho; clear hb ho)
        | (go_at_call 11; refine (rickyardlaw14_alive.calls true _ rfl).mono ?_; rintro e w6 ⟨rfl, hb⟩; have HB6 := Aside0.mk hb; clear hb)
        | (go_at_call 18; refine (rickyardref08_Same.calls 1300 A5 c5 L A3 c3 L true w6 (Kd.C_below (Kd.S_reads' HO5.out).2.2 HB6.out) (Kd.S_reads' HO5.out).2.1 (Kd.C_below (Kd.F_now HFR.out) (below_step HB5.out HB6.out)) HC3.out HSM.out).mono ?_; rintro e w7 ⟨rfl, hd⟩; have HB7 := Aside0.mk hd.below; clear hd))
      refine bodyPost_ret (results_tmp rfl _ _ _) rfl ?_
      exact ⟨rfl, below_step HWR.out (below_step (below_step HB5.out HB6.out) HB7.out)⟩
set_option maxHeartbeats 4000000 in
set_option maxRecDepth 100000 in
theorem MergeAll_walk (A0 : Option Addr) (c0 : Nat) (l0 : List (List En)) (w : World) (hr0 : Kd.C (Kd.slice 41 k41) w A0 l0.length l0) (hc0 : l0.length ≤ c0) (hb : OkRows l0) :
    Calls Try.prog 4 #[.slice A0 l0.length c0] w fun e w' => e = .returned (.bool true) ∧ Below w.heap.size w w' := by
  obtain ⟨b, ⟨k, hg⟩, hsm⟩ := great_f l0
  have hgr := rickyardlaw14_Great.calls k A0 c0 l0 b w hr0 hc0 hg
  cases b with
  | true =>
    have HGR := Aside0.mk hgr
    clear hsm hg hr0 hc0 hgr
    go_enter Try.func4, Try.ntmps4
    go_wp2_with (first
      | (go_at_call 10; refine (HGR.out).mono ?_; rintro e w1 ⟨rfl, hd⟩; have HB1 := Aside0.mk hd.below; clear hd)
      | (go_at_call 11; refine (rickyardlaw14_alive.calls true _ rfl).mono ?_; rintro e w2 ⟨rfl, hb⟩; have HB2 := Aside0.mk (below_step HB1.out hb); clear hb))
    refine bodyPost_ret (results_tmp rfl _ _ _) rfl ?_
    exact ⟨rfl, HB2.out⟩
  | false =>
    have hs := hsm rfl
    rcases all_f hs hb with ⟨er, h0, hn, h1⟩ | ⟨h1, h2, h3, h4⟩
    · refine mall_core A0 c0 l0 w hr0 hc0 hgr [] er h1 (by simp) (fun W hW => (refAll_err W A0 c0 l0 (Kd.C_below hr0 hW) hc0 hs er hn h0).mono ?_)
      rintro e w' ⟨rfl, hb⟩
      exact ⟨none, 0, rfl, Nat.le_refl _, Kd.F_nil _ _ _, hb⟩
    · have hz : newE l0 = 0 := newE_of h1 h2
      have hfl : l0.flatten.length ≤ 4000 := by
        have h5 := cnt_le (l := l0) (m := 60) (fun r hr => (hs.2 r hr).1)
        have h6 := hs.1
        rw [← cntL_flat]
        omega
      refine mall_core A0 c0 l0 w hr0 hc0 hgr (allM l0) 0 h3 h4 (fun W hW => (refAll_calls w W A0 c0 l0 hr0 hc0 hW hs h2 hz hfl).mono ?_)
      rintro e w' ⟨v, rfl, ho, hb⟩
      rw [ref_all h1] at ho
      obtain ⟨A, c, rfl⟩ := Kd.N_slice ho
      exact ⟨A, c, rfl, (Kd.N_reads' ho).2.1, Kd.N_F ho, hb⟩
end Go.Proofs.Ytihdomhiiolojaa.P
