/- MergeOnce's function comes to true. No conditions. -/
import Derived.Test.YtihdomhiiolojaaMgAlone
import Derived.Test.YtihdomhiiolojaaStrGt
namespace Go.Proofs.Ytihdomhiiolojaa.Pure
open Go.RowKit Go.Proofs.Ytihdomhiiolojaa.P Go.Proofs.YtihdomhiiolojaaW.PrintWords Go.Proofs.YtihdomhiiolojaaW.PrintLast
set_option linter.unusedVariables false
set_option linter.unusedSimpArgs false

/-- How far each row is told. -/
def tolds : List (List En) → List (List En) → List Int
  | r :: R, s :: S => ((r.length - s.length : Nat) : Int) :: tolds R S
  | _, _ => []
theorem tolds_len : ∀ (R S : List (List En)), S.length = R.length → (tolds R S).length = R.length
  | [], [], _ => rfl
  | r :: R, s :: S, h => by simp only [tolds, List.length_cons]; rw [tolds_len R S (by simpa using h)]
  | [], s :: S, h => by simp at h
  | r :: R, [], h => by simp at h
theorem tolds_at : ∀ {R S : List (List En)} {n : Nat} {r s : List En}, R[n]? = some r → S[n]? = some s → (tolds R S)[n]? = some ((r.length - s.length : Nat) : Int)
  | [], _, n, r, s, h, _ => by simp at h
  | _ :: _, [], n, r, s, _, h => by simp at h
  | r0 :: R, s0 :: S, 0, r, s, h, g => by
    obtain rfl := Option.some.inj h
    obtain rfl := Option.some.inj g
    rfl
  | r0 :: R, s0 :: S, n + 1, r, s, h, g => by
    rw [tolds, List.getElem?_cons_succ]
    exact tolds_at (by simpa using h) (by simpa using g)
theorem tolds_set : ∀ {R S : List (List En)} {n : Nat} {r l : List En} {x : En}, R[n]? = some r → S[n]? = some (x :: l) → (x :: l).length ≤ r.length → tolds R (S.set n l) = (tolds R S).set n (((r.length - (x :: l).length : Nat) : Int) + 1)
  | [], _, n, r, l, x, h, _, _ => by simp at h
  | _ :: _, [], n, r, l, x, _, h, _ => by simp at h
  | r0 :: R, s0 :: S, 0, r, l, x, h, g, hl => by
    obtain rfl := Option.some.inj h
    obtain rfl := Option.some.inj g
    simp only [List.set_cons_zero, tolds]
    rw [List.length_cons] at hl ⊢
    congr 1
    omega
  | r0 :: R, s0 :: S, n + 1, r, l, x, h, g, hl => by
    simp only [List.set_cons_succ, tolds]
    rw [tolds_set (by simpa using h) (by simpa using g) hl]
theorem tolds_self : ∀ R : List (List En), tolds R R = List.replicate R.length 0
  | [] => rfl
  | r :: R => by rw [tolds, tolds_self R, List.length_cons, List.replicate_succ, Nat.sub_self]; rfl
/-- What is left of the rows. -/
def LeftR (R S : List (List En)) : Prop := S.length = R.length ∧ ∀ (n : Nat) (r s : List En), R[n]? = some r → S[n]? = some s → s <:+ r
theorem left_self (R : List (List En)) : LeftR R R := ⟨rfl, fun n r s h g => by rw [h] at g; obtain rfl := Option.some.inj g; exact List.suffix_refl _⟩
theorem left_step {R S S' : List (List En)} {x : En} {p : Nat} (h : LeftR R S) (hm : mstep S = some (x, p, S')) : LeftR R S' := by
  obtain ⟨l, h1, rfl, h3, _⟩ := mstep_some hm
  refine ⟨by rw [List.length_set]; exact h.1, fun n r s hr hs => ?_⟩
  by_cases e : p = n
  · subst e
    rw [List.getElem?_set_self h3] at hs
    obtain rfl := Option.some.inj hs
    exact (List.suffix_cons x l).trans (h.2 p r _ hr h1)
  · rw [List.getElem?_set_ne e] at hs
    exact h.2 n r s hr hs
/-- The entry told stands in its row where the row has been told up to. -/
theorem left_at {R S S' : List (List En)} {x : En} {p : Nat} (h : LeftR R S) (hm : mstep S = some (x, p, S')) : ∃ r l, R[p]? = some r ∧ S[p]? = some (x :: l) ∧ S' = S.set p l ∧ p < R.length ∧ (x :: l).length ≤ r.length ∧ r[r.length - (x :: l).length]? = some x := by
  obtain ⟨l, h1, h2, h3, _⟩ := mstep_some hm
  obtain ⟨r, hr⟩ : ∃ r, R[p]? = some r := ⟨_, List.getElem?_eq_getElem (by rw [← h.1]; exact h3)⟩
  obtain ⟨t, ht⟩ := h.2 p r _ hr h1
  have hl := congrArg List.length ht
  rw [List.length_append] at hl
  refine ⟨r, l, hr, h1, h2, by rw [← h.1]; exact h3, by omega, ?_⟩
  rw [← ht, List.getElem?_append_right (by rw [List.length_append]; omega), List.length_append]
  rw [show t.length + (x :: l).length - (x :: l).length - t.length = 0 by omega]; rfl
/-- What was told last comes ahead of all that is left. -/
def LastOk (S : List (List En)) (k : List Int) (q : Nat) : Prop := ∀ (j : Nat) (s : List En), S[j]? = some s → ∀ z ∈ s, cmpI k z.f0 < 0 ∨ (cmpI k z.f0 = 0 ∧ q < j)
theorem last_step {S S' : List (List En)} {x : En} {p : Nat} (hS : RowsR S) (hm : mstep S = some (x, p, S')) : LastOk S' x.f0 p := by
  intro j s hj z hz
  have hl := step_least hm hS
  obtain ⟨l, h1, h2, h3, _⟩ := mstep_some hm
  subst h2
  by_cases e : p = j
  · subst e
    rw [List.getElem?_set_self h3] at hj
    obtain rfl := Option.some.inj hj
    exact .inl ((List.pairwise_cons.1 (hS _ (List.mem_of_getElem? h1)).1).1 z hz)
  · rw [List.getElem?_set_ne e] at hj
    obtain ⟨h4, h5⟩ := hl j s hj z hz
    by_cases hlt : j < p
    · exact .inl (h4 hlt)
    · by_cases h0 : cmpI x.f0 z.f0 < 0
      · exact .inl h0
      · exact .inr ⟨by omega, by omega⟩
theorem last_at {S S' : List (List En)} {x : En} {p q : Nat} {k : List Int} (h : LastOk S k q) (hm : mstep S = some (x, p, S')) : cmpI k x.f0 < 0 ∨ (cmpI k x.f0 = 0 ∧ q < p) := by
  obtain ⟨l, h1, _, _, _⟩ := mstep_some hm
  exact h p _ h1 x (List.mem_cons_self ..)
end Go.Proofs.Ytihdomhiiolojaa.Pure
namespace Go.Proofs.Ytihdomhiiolojaa.P
open Go.RowKit Go.Proofs.YtihdomhiiolojaaW.PrintWords Go.Proofs.YtihdomhiiolojaaW.PrintLast Go.Proofs.YtihdomhiiolojaaW.PrintMore Go.Proofs.Ytihdomhiiolojaa.Pure
set_option linter.unusedVariables false
set_option linter.unusedSimpArgs false
attribute [local go_sem high] eqA39
theorem made_nums (m : Nat) : madeCells #[Value.int .i64 0] m = (nums .i64 (List.replicate m 0)).toArray := by
  apply Array.ext'
  apply List.ext_getElem
  · simp [nums, madeCells]
  · intro i h1 h2
    simp [nums, madeCells, Nat.mod_one]
theorem R_Kp {α : Type} {d : Kd α} {e base : Nat} {ok : Nat → Prop} {W w1 : World} {v : Value} {xs : List α} (h : Kd.R d e W base ok v xs) (hk : Kp W w1) (he : ∀ q, q ∈ e :: d.E → q ≠ 56 ∧ q ≠ 50) : Kd.R d e w1 base ok v xs :=
  Kd.R_mono (Kd.R_move (Kd.R_bound h) (fun k hk' => by
    obtain ⟨_, _, _, q, hq, cells, hc⟩ := hk'
    exact hk k cells q (0, 0) hc (he q hq).1 (he q hq).2)) (fun _ h => h.1)
/-- A block of whole numbers. -/
def IB (W : World) (g : Nat) (l : List Int) : Prop := W.heap[g]? = some (.cells (nums .i64 l).toArray 3 (0, 0))
theorem IB.kp {W W' : World} {g : Nat} {l : List Int} (h : IB W g l) (hk : Kp W W') : IB W' g l := (hk g _ 3 (0, 0) h (by decide) (by decide)).trans h
theorem IB.below {W W' : World} {g : Nat} {l : List Int} (h : IB W g l) (hb : Below W.heap.size W W') : IB W' g l := (hb.block g (blk_lt h)).trans h
theorem IB.cell {W : World} {g : Nat} {l : List Int} (h : IB W g l) {n : Nat} {x : Int} (hx : l[n]? = some x) : W.cell? ⟨g, n, none⟩ = some (.int .i64 x) := by
  rw [blk_cell h n]
  simp [nums, hx]
theorem IB.set {W : World} {g : Nat} {l : List Int} (h : IB W g l) (n : Nat) (x : Int) : IB (W.setCell ⟨g, n, none⟩ (.int .i64 x)) g (l.set n x) := by
  refine (blk_set h n (.int .i64 x)).trans ?_
  rw [List.setIfInBounds_toArray]
  simp [nums, List.map_set]
theorem HS.setI {w W : World} {g ga : Nat} {S : List (List En)} {l : List Int} (h : HS w W g S) (hI : IB W ga l) (hg : w.heap.size ≤ ga) (n : Nat) (u : Value) : HS w (W.setCell ⟨ga, n, none⟩ u) g S :=
  h.step (h.be.setCell (p := ⟨ga, n, none⟩) hg u) (fun k cs t hk ht => Below.heap_setCell W ⟨ga, n, none⟩ u k (fun e => by
    have e' : k = ga := e
    subst e'
    have := hI.symm.trans hk
    injection this with this
    injection this with _ hc
    rcases ht with rfl | rfl
    · exact absurd hc (by decide)
    · exact absurd hc (by decide)))
theorem infoInt : (Try.prog.info? 3).map (fun i => (i.zero, i.size, i.bytes)) = some (some (.int .i64 0), 1, 8) := by kernel_rfl
set_option maxHeartbeats 4000000 in
set_option maxRecDepth 100000 in
theorem MergeOnce_walk (A0 : Option Addr) (c0 : Nat) (l0 : List (List En)) (w : World) (hr0 : Kd.C (Kd.slice 41 k41) w A0 l0.length l0) (hc0 : l0.length ≤ c0) (hb : OkRows l0) :
    Calls Try.prog 6 #[.slice A0 l0.length c0] w fun e w' => e = .returned (.bool true) ∧ Below w.heap.size w w' := by
  obtain ⟨b, ⟨k, hg⟩, hsm⟩ := great_f l0
  have HGR := Aside0.mk (rickyardlaw14_Great.calls k A0 c0 l0 b w hr0 hc0 hg)
  have HR := Aside0.mk hr0
  have HC0 := Aside0.mk hc0
  clear hg hr0 hc0
  cases b with
  | true =>
    clear hsm
    go_enter Try.func6, Try.ntmps6
    go_wp2_with (first
      | (go_at_call 10; refine (HGR.out).mono ?_; rintro e w1 ⟨rfl, hd⟩; have HB1 := Aside0.mk hd.below; clear hd)
      | (go_at_call 11; refine (rickyardlaw14_alive.calls true _ rfl).mono ?_; rintro e w2 ⟨rfl, hb⟩; have HB2 := Aside0.mk (below_step HB1.out hb); clear hb))
    refine bodyPost_ret (results_tmp rfl _ _ _) rfl ?_
    exact ⟨rfl, HB2.out⟩
  | false =>
    have hs := hsm rfl
    have hgr := goodR hs hb
    have HNW := Aside0.mk (fun W (hW : Below w.heap.size w W) => New_S A0 c0 l0 W (Kd.C_below HR.out hW) hgr.1 (fun l hl x hx => (hgr.2.1 l hl x hx).1))
    by_cases h0 : newE l0 = 0
    · obtain ⟨h1, h2⟩ := of_newE h0 hb
      have HNW0 := Aside0.mk (show ∀ W, Below w.heap.size w W → Calls Try.prog 12 #[.slice A0 l0.length c0] W fun e w' => ∃ g, e = .returned (.tuple #[.pointer (some ⟨g, 0, none⟩), .int .i64 0]) ∧ HS W w' g l0 from fun W hW => (HNW.out W hW).mono (by rintro e w' (⟨hne, _⟩ | ⟨_, h⟩); exact absurd h0 hne; exact h))
      have HS0 := Aside0.mk hs
      have HRR := Aside0.mk h1
      have HCN := Aside0.mk (show cntL l0 ≤ 1200 by have := cnt_le (l := l0) (m := 60) (fun r hr => (hs.2 r hr).1); have := hs.1; omega)
      have hmk := print_make (P := Try.prog) 31 3 .i64 8 Try.underlying31 infoInt (by decide) l0.length (by have := hs.1; omega)
      rw [made_nums] at hmk
      have HOK := Aside0.mk hb
      clear hsm hs hgr h0 h1 h2 hb
      go_enter Try.func6, Try.ntmps6
      go_upto_region 7 with (first
        | (go_at_call 10; refine (HGR.out).mono ?_; rintro e w1 ⟨rfl, hd⟩; have HB1 := Aside0.mk hd.below; clear hd)
        | (go_at_call 12; refine (HNW0.out w1 HB1.out).mono ?_; rintro e w2 ⟨g, rfl, hh⟩; have HH2 := Aside0.mk hh; clear hh))
      obtain ⟨ga, hga⟩ : ∃ ga, w2.heap.size = ga := ⟨_, rfl⟩
      obtain ⟨U, hU⟩ : ∃ U, w2.alloc (.cells (nums .i64 (List.replicate l0.length 0)).toArray 3) = U := ⟨_, rfl⟩
      have HIU := Aside0.mk (show IB U ga (tolds l0 l0) by rw [tolds_self, ← hU, ← hga]; exact blk_new w2 _)
      have HHU := Aside0.mk (show HS w1 U g l0 by rw [← hU]; exact HH2.out.below (below_alloc (Below.refl _ _) _))
      have HGA := Aside0.mk (show w1.heap.size ≤ ga by have := HH2.out.be.size; omega)
      rw [hga, hU]
      clear hga hU hmk
      go_wp2
      go_loopg [6, 7, 8] (cntL l0) (fun kq v6 v7 v8 w' => ∃ (t : Nat) (S : List (List En)) (last : List Int) (AL : Option Addr) (cL : Nat) (q : Int), v8 = .int .i64 (t : Int) ∧ v7 = .int .i64 q ∧ v6 = .slice AL last.length cL ∧ Aside0 (kq = cntL S) ∧ Aside0 (t + cntL S = cntL l0) ∧ Aside0 (HS w1 w' g S) ∧ Aside0 (LeftR l0 S) ∧ Aside0 (RowsR S) ∧ Aside0 (IB w' ga (tolds l0 S)) ∧ Aside0 (Kd.R (Kd.int .u8) 5 w' w1.heap.size (fun _ => True) (.slice AL last.length cL) last) ∧ Aside0 (0 < t → ∃ n : Nat, q = (n : Int) ∧ LastOk S last n))
      case atStart => exact ⟨0, l0, [], none, 0, -1, rfl, rfl, rfl, ⟨rfl⟩, ⟨Nat.zero_add _⟩, HHU, ⟨left_self _⟩, HRR, HIU, ⟨Kd.R_nil _ _ _ _ _⟩, ⟨fun h => absurd h (Nat.lt_irrefl _)⟩⟩
      case round =>
        obtain ⟨t, S, last, AL, cL, q, rfl, rfl, rfl, HK, HT, HH, HLF, HRS, HI, HLA, HLO⟩ := hrel
        have d3 : decide ((t : Int) < 1300) = true := decide_eq_true (by have := HT.out; have := HCN.out; omega)
        have d3b : decide (t < 1300) = true := decide_eq_true (by have := HT.out; have := HCN.out; omega)
        have HCALL := Aside0.mk (Next_S HH.out)
        cases hm : mstep S with
        | none =>
          have HM := Aside0.mk hm
          clear hm
          go_upto_if 38 with (first
            | (go_at_call 14; refine (HCALL.out).mono ?_; rintro e w9 ⟨hk9, hz9, hh9⟩; rw [HM.out] at hh9; obtain ⟨rfl, hb9⟩ := hh9; have HB9 := Aside0.mk (HH.out.be.trans (hb9.mono HH.out.be.size)); have HI9 := Aside0.mk (HI.out.below hb9); clear hb9 hk9 hz9))
          go_wp2
          obtain ⟨U9, hU9⟩ : ∃ U9, w9.alloc (.cells #[.slice none 0 0, .int .u64 0, .bool false, .int .i64 0, .int .u64 0, .int .i64 0, .int .i64 0] 41) = U9 := ⟨_, rfl⟩
          have HIU9 := Aside0.mk (show IB U9 ga (tolds l0 S) by rw [← hU9]; exact HI9.out.below (below_alloc (Below.refl _ _) _))
          have HBU9 := Aside0.mk (show Below w1.heap.size w1 U9 by rw [← hU9]; exact HB9.out.trans ((below_alloc (Below.refl _ _) _).mono HB9.out.size))
          rw [hU9]
          clear hU9
          go_loopg [12] (l0.length) (fun kq v12 w' => ∃ (i : Nat), v12 = .int .i64 (i : Int) ∧ Aside0 (i ≤ l0.length ∧ kq = l0.length - i) ∧ Aside0 (IB w' ga (tolds l0 S)) ∧ Aside0 (Below w1.heap.size w1 w'))
          case atStart => exact ⟨0, rfl, ⟨Nat.zero_le _, rfl⟩, HIU9, HBU9⟩
          case round =>
            obtain ⟨i, rfl, HIX, HIB, HBX⟩ := hrel
            have HBY := Aside0.mk (HB1.out.trans (HBX.out.mono HB1.out.size))
            by_cases hi : i < l0.length
            · have e3 : decide ((i : Int) < (l0.length : Int)) = true := decide_eq_true (by omega)
              have e3b : decide (i < l0.length) = true := decide_eq_true hi
              have hw2 : wrap64 ((i : Int) + 1) = ((i + 1 : Nat) : Int) := w64_up (by have := HS0.out.1; omega)
              have j1 : (0 ≤ (i : Int)) = True := eq_true (Int.natCast_nonneg _)
              have j2 : ((i : Int) < (l0.length : Int)) = True := eq_true (Int.ofNat_lt.2 hi)
              have j3 : (i < l0.length) = True := eq_true hi
              obtain ⟨r, hr⟩ : ∃ r, l0[i]? = some r := ⟨_, List.getElem?_eq_getElem hi⟩
              obtain ⟨s, hs⟩ : ∃ s, S[i]? = some s := ⟨_, List.getElem?_eq_getElem (by rw [HLF.out.1]; exact hi)⟩
              obtain rfl : s = [] := mstep_none HM.out s (List.mem_of_getElem? hs)
              have hti := tolds_at hr hs
              rw [List.length_nil, Nat.sub_zero] at hti
              have hcI := HIB.out.cell hti
              obtain ⟨ad, B, c, hA, hcw, hl0, hCw⟩ := at_row HR.out hr
              subst hA
              have hcV := cell_bl' hcw HBY.out
              have HII := Aside0.mk hi
              clear hr hs hti hcw hl0 hCw hi
              go_wp2
              go_quiet (fail)
              go_wp2
              go_roundg (l0.length - (i + 1))
              case measure => have := HIX.out; have := HII.out; omega
              case rel => exact ⟨i + 1, by first | rfl | rw [hw2], ⟨HII.out, rfl⟩, ⟨HIB.out.below (pw_below_drewN (Below.refl _ _) _)⟩, ⟨pw_below_drewN HBX.out _⟩⟩
            · have e3 : decide ((i : Int) < (l0.length : Int)) = false := decide_eq_false (by omega)
              have e3b : decide (i < l0.length) = false := decide_eq_false hi
              clear hi
              go_wp2_with (first
                | (go_at_call 11; refine (rickyardlaw14_alive.calls true _ rfl).mono ?_; rintro e w7 ⟨rfl, hb⟩; have HB11 := Aside0.mk (below_step HBY.out hb); clear hb))
              refine bodyPost_ret (results_tmp rfl _ _ _) rfl ?_
              exact ⟨rfl, HB11.out⟩
        | some rr =>
          obtain ⟨x, p, S'⟩ := rr
          have HM := Aside0.mk hm
          have HC := Aside0.mk (show Calls Try.prog 14 #[.pointer (some ⟨g, 0, none⟩)] wr fun e w' => ∃ (A5 : Option Addr) (c5 : Nat), e = .returned (.tuple #[enV A5 c5 x, .int .i64 (p : Int), .bool true]) ∧ Kd.R (Kd.int .u8) 5 w' wr.heap.size (fun _ => True) (.slice A5 x.f0.length c5) x.f0 ∧ HS w1 w' g S' ∧ Kp wr w' ∧ wr.heap.size ≤ w'.heap.size from HCALL.out.mono (by
            rintro e w' ⟨hk, hz, h⟩
            rw [hm] at h
            obtain ⟨A5, c5, he, ho, hs⟩ := h
            exact ⟨A5, c5, he, ho, hs, hk, hz⟩))
          clear hm HCALL
          go_upto_if 38 with (first
            | (go_at_call 14; refine (HC.out).mono ?_; rintro e w9 ⟨A5, c5, rfl, ho, hs, hk9, hz9⟩; have HO9 := Aside0.mk ho; have HH9 := Aside0.mk hs; have HK9 := Aside0.mk hk9; have HZ9 := Aside0.mk hz9; clear ho hs hk9 hz9))
          obtain ⟨gx, hgx⟩ : ∃ k, w9.heap.size = k := ⟨_, rfl⟩
          obtain ⟨V, hV⟩ : ∃ V, w9.alloc (.cells #[.slice A5 x.f0.length c5, .int .u64 x.f1.f0, .bool x.f1.f1, .int .i64 x.f1.f2.f0, .int .u64 x.f1.f2.f1, .int .i64 x.f1.f3, .int .i64 x.f1.f4] 41) = V := ⟨_, rfl⟩
          have v9 : Below w9.heap.size w9 V := by rw [← hV]; exact below_alloc (Below.refl _ _) _
          have vx : V.heap[gx]? = some (.cells #[.slice A5 x.f0.length c5, .int .u64 x.f1.f0, .bool x.f1.f1, .int .i64 x.f1.f2.f0, .int .u64 x.f1.f2.f1, .int .i64 x.f1.f3, .int .i64 x.f1.f4] 41 (0, 0)) := by rw [← hV, ← hgx]; exact blk_new w9 _
          have HVX := Aside0.mk vx
          have HVH := Aside0.mk (HH9.out.below v9)
          have HVO := Aside0.mk (Kd.R_below HO9.out v9)
          have HVL := Aside0.mk (Kd.R_below (R_Kp HLA.out HK9.out (by decide)) v9)
          have HVI := Aside0.mk ((HI.out.kp HK9.out).below v9)
          rw [hgx, hV]
          clear v9 hgx hV HH9 HO9 HI HLA
          obtain ⟨r, l, l1, l2, l3, l4, l5, l6⟩ := left_at HLF.out HM.out
          obtain ⟨y, hy⟩ : ∃ y : Nat, r.length - (x :: l).length = y := ⟨_, rfl⟩
          have hxk : x.f0.length ≤ 300 := (HS0.out.2 r (List.mem_of_getElem? l1)).2 x (List.mem_of_getElem? l6)
          have hyr : y < r.length := by rw [← hy]; rw [List.length_cons] at l5 ⊢; omega
          rw [hy] at l6
          have hti := tolds_at l1 l2
          rw [hy] at hti
          have hcI := HVI.out.cell hti
          obtain ⟨ad, B, c, hA, hcw, hl0, hCw⟩ := at_row HR.out l1
          subst hA
          have hbV : Below w.heap.size w V := HB1.out.trans (HVH.out.be.mono HB1.out.size)
          have hcV := cell_bl' hcw hbV
          obtain ⟨ae, Bx, dx, hB, k0, k1, k2, k3, k4, k5, k6, hlx, hCx⟩ := at_en (Kd.C_below hCw hbV) l6
          subst hB
          obtain ⟨_, hc5, hC5⟩ := Kd.R_reads' HVO.out
          have x0 : V.cell? ⟨gx, 0, none⟩ = some (.slice A5 x.f0.length c5) := (blk_cell vx 0).trans rfl
          have x1 : V.cell? ⟨gx, 1, none⟩ = some (.int .u64 x.f1.f0) := (blk_cell vx 1).trans rfl
          have x2 : V.cell? ⟨gx, 2, none⟩ = some (.bool x.f1.f1) := (blk_cell vx 2).trans rfl
          have x3 : V.cell? ⟨gx, 3, none⟩ = some (.int .i64 x.f1.f2.f0) := (blk_cell vx 3).trans rfl
          have x4 : V.cell? ⟨gx, 4, none⟩ = some (.int .u64 x.f1.f2.f1) := (blk_cell vx 4).trans rfl
          have x5 : V.cell? ⟨gx, 5, none⟩ = some (.int .i64 x.f1.f3) := (blk_cell vx 5).trans rfl
          have x6 : V.cell? ⟨gx, 6, none⟩ = some (.int .i64 x.f1.f4) := (blk_cell vx 6).trans rfl
          have hcv1 := fun n_ : Nat => Kd.C_string (P := Try.prog) (A := Bx) (c := dx) Try.underlying34 Try.underlying5 Try.underlying9 (Kd.C_drewN hCx n_)
          have hcv2 := fun n_ : Nat => Kd.C_string (P := Try.prog) (A := A5) (c := c5) Try.underlying34 Try.underlying5 Try.underlying9 (Kd.C_drewN hC5 n_)
          have a1 : decide ((p : Int) < 0) = false := decide_eq_false (by omega)
          have a2 : decide ((l0.length : Int) ≤ (p : Int)) = false := decide_eq_false (by omega)
          have a2b : decide (l0.length ≤ p) = false := decide_eq_false (by omega)
          have a3 : decide ((r.length : Int) ≤ (y : Int)) = false := decide_eq_false (by omega)
          have a3b : decide (r.length ≤ y) = false := decide_eq_false (by omega)
          have i1 : (0 ≤ (p : Int)) = True := eq_true (Int.natCast_nonneg _)
          have i2 : ((p : Int) < (l0.length : Int)) = True := eq_true (Int.ofNat_lt.2 l4)
          have i3 : (p < l0.length) = True := eq_true l4
          have j1 : (0 ≤ (y : Int)) = True := eq_true (Int.natCast_nonneg _)
          have j2 : ((y : Int) < (r.length : Int)) = True := eq_true (Int.ofNat_lt.2 hyr)
          have j3 : (y < r.length) = True := eq_true hyr
          have HLL := Aside0.mk (And.intro l1 (And.intro l2 (And.intro l3 (And.intro l4 l5))))
          have HYY := Aside0.mk (And.intro hy hyr)
          clear l1 l2 l3 l4 l5 l6 hyr hy hti hcw hl0 hCw hbV hlx hCx hc5 hC5 vx hxk
          go_wp2
          go_quiet (fail)
          obtain ⟨W5, hW5⟩ : ∃ W5, V.drewN nq = W5 := ⟨_, rfl⟩
          have b5 : Below V.heap.size V W5 := by rw [← hW5]; exact pw_below_drewN (Below.refl _ _) _
          have HI5 := Aside0.mk (HVI.out.below b5)
          have HH5 := Aside0.mk (HVH.out.below b5)
          have HO5 := Aside0.mk (Kd.R_below HVO.out b5)
          have HL5 := Aside0.mk (Kd.R_below HVL.out b5)
          have HX5 := Aside0.mk ((b5.block gx (blk_lt HVX.out)).trans HVX.out)
          have hcI5 := cell_bl' hcI b5
          have hfI5 : W5.frozen? ⟨ga, p, none⟩ = false := blk_frozen HI5.out p
          have hw6 : wrap64 ((y : Int) + 1) = ((y + 1 : Nat) : Int) := w64_up (by have := (HS0.out.2 r (List.mem_of_getElem? HLL.out.1)).1; have := HYY.out.2; omega)
          rw [hW5]
          clear hW5 b5 hcI hcV k0 k1 k2 k3 k4 k5 k6 x0 x1 x2 x3 x4 x5 x6 hcv1 hcv2 a1 a2 a2b a3 a3b j1 j2 j3
          go_upto_region 16 with (fail)
          obtain ⟨W6, hW6⟩ : ∃ W6, W5.setCell ⟨ga, p, none⟩ (.int .i64 ((y : Int) + 1)) = W6 := ⟨_, rfl⟩
          have HI6 := Aside0.mk (show IB W6 ga (tolds l0 S') by
            rw [← hW6, HLL.out.2.2.1, tolds_set HLL.out.1 HLL.out.2.1 HLL.out.2.2.2.2, HYY.out.1]
            exact HI5.out.set p ((y : Int) + 1))
          have HH6 := Aside0.mk (show HS w1 W6 g S' by rw [← hW6]; exact HH5.out.setI HI5.out HGA.out p _)
          have HO6 := Aside0.mk (show Kd.R (Kd.int .u8) 5 W6 wr.heap.size (fun _ => True) (.slice A5 x.f0.length c5) x.f0 by rw [← hW6]; exact Kd.R_set HO5.out HI5.out (by decide) p _)
          have HL6 := Aside0.mk (show Kd.R (Kd.int .u8) 5 W6 w1.heap.size (fun _ => True) (.slice AL last.length cL) last by rw [← hW6]; exact Kd.R_set HL5.out HI5.out (by decide) p _)
          have x0 : W6.cell? ⟨gx, 0, none⟩ = some (.slice A5 x.f0.length c5) := by
            rw [← hW6]
            exact (blk_cell (blk_far HX5.out (p := ⟨ga, p, none⟩) (blk_ne HX5.out HI5.out (by decide)) _) 0).trans rfl
          have hcl := Kd.C_string (P := Try.prog) (A := AL) (c := cL) Try.underlying34 Try.underlying5 Try.underlying9 (Kd.R_reads' HL6.out).2.2
          have hcx := Kd.C_string (P := Try.prog) (A := A5) (c := c5) Try.underlying34 Try.underlying5 Try.underlying9 (Kd.R_reads' HO6.out).2.2
          have hwt : wrap64 ((t : Int) + 1) = ((t + 1 : Nat) : Int) := w64_up (by have := HT.out; have := HCN.out; omega)
          rw [hW6]
          clear hW6 hcI5 hfI5 hw6
          by_cases ht : t = 0
          · have b1 : decide ((0 : Int) < (t : Int)) = false := decide_eq_false (by omega)
            have b1b : decide (0 < t) = false := decide_eq_false (by omega)
            clear ht
            go_wp2
            go_roundg (cntL S')
            case measure => have h1 := HK.out; obtain ⟨_, _, _, _, h2⟩ := mstep_some HM.out; omega
            case rel =>
              obtain ⟨_, _, _, _, h2⟩ := mstep_some HM.out
              exact ⟨t + 1, S', x.f0, A5, c5, (p : Int), by first | rfl | rw [hwt], rfl, rfl, ⟨rfl⟩, ⟨by have := HT.out; omega⟩, HH6, ⟨left_step HLF.out HM.out⟩, ⟨(step_RowsR HM.out HRS.out).1⟩, HI6, ⟨Kd.R_lower HO6.out HH.out.be.size⟩, ⟨fun _ => ⟨p, rfl, last_step HRS.out HM.out⟩⟩⟩
          · obtain ⟨n, hq, hlo⟩ := HLO.out (by omega)
            have b1 : decide ((0 : Int) < (t : Int)) = true := decide_eq_true (by omega)
            have b1b : decide (0 < t) = true := decide_eq_true (by omega)
            have hla := last_at hlo HM.out
            have hle : ¬ cmpI x.f0 last < 0 := by have := cmpI_anti last x.f0; omega
            have hgt : ∀ W, (binOp .gtr 9 (.string (strOfNums last)) (.string (strOfNums x.f0))).run Try.prog W = .ok (.bool false) W := fun W => by
              rw [gtr_run, str_lt, decide_eq_false hle]
            have hst := str_beq last x.f0
            by_cases h0 : cmpI last x.f0 = 0
            · rw [decide_eq_true h0] at hst
              have b2 : decide ((p : Int) ≤ q) = false := decide_eq_false (by omega)
              clear ht hla hle h0 hlo
              subst hq
              have b2b : decide (p ≤ n) = false := by have := b2; simpa using this
              go_wp2
              go_roundg (cntL S')
              case measure => have h1 := HK.out; obtain ⟨_, _, _, _, h2⟩ := mstep_some HM.out; omega
              case rel =>
                obtain ⟨_, _, _, _, h2⟩ := mstep_some HM.out
                exact ⟨t + 1, S', x.f0, A5, c5, (p : Int), by first | rfl | rw [hwt], rfl, rfl, ⟨rfl⟩, ⟨by have := HT.out; omega⟩, HH6, ⟨left_step HLF.out HM.out⟩, ⟨(step_RowsR HM.out HRS.out).1⟩, HI6, ⟨Kd.R_lower HO6.out HH.out.be.size⟩, ⟨fun _ => ⟨p, rfl, last_step HRS.out HM.out⟩⟩⟩
            · rw [decide_eq_false h0] at hst
              clear ht hla hle h0 hlo hq
              go_wp2
              go_roundg (cntL S')
              case measure => have h1 := HK.out; obtain ⟨_, _, _, _, h2⟩ := mstep_some HM.out; omega
              case rel =>
                obtain ⟨_, _, _, _, h2⟩ := mstep_some HM.out
                exact ⟨t + 1, S', x.f0, A5, c5, (p : Int), by first | rfl | rw [hwt], rfl, rfl, ⟨rfl⟩, ⟨by have := HT.out; omega⟩, HH6, ⟨left_step HLF.out HM.out⟩, ⟨(step_RowsR HM.out HRS.out).1⟩, HI6, ⟨Kd.R_lower HO6.out HH.out.be.size⟩, ⟨fun _ => ⟨p, rfl, last_step HRS.out HM.out⟩⟩⟩
    · have e1 : (newE l0 == 0) = false := beq_eq_false_iff_ne.2 h0
      have HNW0 := Aside0.mk (show ∀ W, Below w.heap.size w W → Calls Try.prog 12 #[.slice A0 l0.length c0] W fun e w' => e = .returned (.tuple #[.pointer none, .int .i64 (newE l0)]) ∧ Below W.heap.size W w' from fun W hW => (HNW.out W hW).mono (by rintro e w' (⟨_, h⟩ | ⟨h, _⟩); exact h; exact absurd h h0))
      clear hsm hs hgr h0 hb
      go_enter Try.func6, Try.ntmps6
      go_wp2_with (first
        | (go_at_call 10; refine (HGR.out).mono ?_; rintro e w1 ⟨rfl, hd⟩; have HB1 := Aside0.mk hd.below; clear hd)
        | (go_at_call 12; refine (HNW0.out w1 HB1.out).mono ?_; rintro e w2 ⟨rfl, hb⟩; have HB2 := Aside0.mk (below_step HB1.out hb); clear hb)
        | (go_at_call 11; refine (rickyardlaw14_alive.calls true _ rfl).mono ?_; rintro e w3 ⟨rfl, hb⟩; have HB3 := Aside0.mk (below_step HB2.out hb); clear hb))
      refine bodyPost_ret (results_tmp rfl _ _ _) rfl ?_
      exact ⟨rfl, HB3.out⟩
end Go.Proofs.Ytihdomhiiolojaa.P
