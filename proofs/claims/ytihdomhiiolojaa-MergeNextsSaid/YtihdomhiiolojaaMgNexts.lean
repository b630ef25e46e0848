/- The document's Heap.Next: one step on the rows. No conditions. -/
import Derived.Test.YtihdomhiiolojaaMgOnce
import Derived.Test.YtihdomhiiolojaaStrGe
import Derived.Test.YtihdomhiiolojaaMgRefRows
namespace Go.Proofs.Ytihdomhiiolojaa.P
open Go.RowKit Go.Proofs.YtihdomhiiolojaaW.PrintWords Go.Proofs.YtihdomhiiolojaaW.PrintLast Go.Proofs.YtihdomhiiolojaaW.PrintMore
set_option linter.unusedVariables false
set_option linter.unusedSimpArgs false
open Go.Proofs.Ytihdomhiiolojaa.Pure

theorem left_front {R S : List (List En)} (h : LeftR R S) {n : Nat} {r l : List En} {y : En} (hr : R[n]? = some r) (hs : S[n]? = some (y :: l)) : (y :: l).length ≤ r.length ∧ r[r.length - (y :: l).length]? = some y := by
  obtain ⟨t, ht⟩ := h.2 n r _ hr hs
  have hl := congrArg List.length ht
  rw [List.length_append] at hl
  refine ⟨by omega, ?_⟩
  rw [← ht, List.getElem?_append_right (by rw [List.length_append]; omega), List.length_append]
  rw [show t.length + (y :: l).length - (y :: l).length - t.length = 0 by omega]; rfl
theorem best_of {S S' : List (List En)} {x : En} {p : Nat} (h : mstep S = some (x, p, S')) : bestTo S S.length = some p := by
  unfold mstep at h
  split at h
  · cases h
  · next b hb =>
    split at h
    · cases h
    · injection h with h
      injection h with _ h
      injection h with e _
      rw [hb, e]
theorem best_none {S : List (List En)} (h : mstep S = none) : bestTo S S.length = none := by
  unfold mstep at h
  split at h
  · next hb => exact hb
  · next b hb =>
    obtain ⟨_, h2, _⟩ := bestTo_some hb
    split at h
    · next h3 => exact absurd h3 h2
    · cases h
def bestI (o : Option Nat) : Int := match o with | none => -1 | some b => (b : Int)
theorem grown_set {W X : World} {row : Option Nat} (h : W.grownBy X row) {p : Addr} (hp : W.heap.size ≤ p.block) (u : Value) : W.grownBy (X.setCell p u) row :=
  ⟨h.os, h.tape, h.output, by simpa using h.size, fun k hk hn => (Below.heap_setCell X p u k (by omega)).trans (h.block k hk hn)⟩
theorem stE_grown {W X : World} {row : Option Nat} (h : W.grownBy X row) {g : Nat} (hg : W.heap.size ≤ g) (A : Option Addr) (c n : Nat) (y : Ag) : W.grownBy (stE X g A c n y) row :=
  grown_set (grown_set (grown_set (grown_set (grown_set (grown_set (grown_set h (p := ⟨g, 0, none⟩) hg _) (p := ⟨g, 1, none⟩) hg _) (p := ⟨g, 2, none⟩) hg _) (p := ⟨g, 3, none⟩) hg _) (p := ⟨g, 4, none⟩) hg _) (p := ⟨g, 5, none⟩) hg _) (p := ⟨g, 6, none⟩) hg _
theorem stE_IB {X : World} {ga g : Nat} {l : List Int} (h : IB X ga l) (hne : ga ≠ g) (A : Option Addr) (c n : Nat) (y : Ag) : IB (stE X g A c n y) ga l :=
  blk_far (blk_far (blk_far (blk_far (blk_far (blk_far (blk_far h (p := ⟨g, 0, none⟩) hne _) (p := ⟨g, 1, none⟩) hne _) (p := ⟨g, 2, none⟩) hne _) (p := ⟨g, 3, none⟩) hne _) (p := ⟨g, 4, none⟩) hne _) (p := ⟨g, 5, none⟩) hne _) (p := ⟨g, 6, none⟩) hne _
def RefN (W : World) (ga : Nat) (l0 S : List (List En)) (e : Ending) (w' : World) : Prop := match mstep S with
  | none => e = .returned (.tuple #[zEn, .int .i64 0, .bool false]) ∧ Below W.heap.size W w'
  | some (x, p, S') => ∃ (B : Option Addr) (d : Nat), e = .returned (.tuple #[enV B d x, .int .i64 (p : Int), .bool true]) ∧ (Kd.int .u8).C w' B x.f0.length x.f0 ∧ x.f0.length ≤ d ∧ IB w' ga (tolds l0 S') ∧ W.grownBy w' (some ga)
set_option maxHeartbeats 4000000 in
set_option maxRecDepth 100000 in
theorem RefNext_calls (w W : World) (A0 : Option Addr) (c0 gr ga : Nat) (l0 S : List (List En)) (hr0 : Kd.C (Kd.slice 41 k41) w A0 l0.length l0) (hB : Below w.heap.size w W) (hS : Small l0) (hL : LeftR l0 S) (hga : w.heap.size ≤ ga)
    (hH : W.heap[gr]? = some (.cells #[.slice A0 l0.length c0, .slice (some ⟨ga, 0, none⟩) l0.length l0.length] 33 (0, 0))) (hI : IB W ga (tolds l0 S)) :
    Calls Try.prog 15 #[.pointer (some ⟨gr, 0, none⟩)] W fun e w' => RefN W ga l0 S e w' := by
  have hu := Try.underlying33
  have hu3 := Try.underlying41
  have hu4 := Try.underlying39
  have HR := Aside0.mk hr0
  have HB := Aside0.mk hB
  have HSM := Aside0.mk hS
  have HL := Aside0.mk hL
  have HGA := Aside0.mk hga
  have HH := Aside0.mk hH
  have HI := Aside0.mk hI
  clear hr0 hB hS hL hga hH hI
  go_enter Try.func15, Try.ntmps15
  go_upto_region 1 with (fail)
  obtain ⟨g2, hg2⟩ : ∃ k, W.heap.size = k := ⟨_, rfl⟩
  obtain ⟨V, hV⟩ : ∃ V, W.alloc (.cells #[.slice none 0 0, .int .u64 0, .bool false, .int .i64 0, .int .u64 0, .int .i64 0, .int .i64 0] 41) = V := ⟨_, rfl⟩
  have vb : Below W.heap.size W V := by rw [← hV]; exact below_alloc (Below.refl _ _) _
  have HV2 := Aside0.mk (show V.heap[g2]? = some (.cells #[.slice none 0 0, .int .u64 0, .bool false, .int .i64 0, .int .u64 0, .int .i64 0, .int .i64 0] 41 (0, 0)) by rw [← hV, ← hg2]; exact blk_new W _)
  have HVB := Aside0.mk vb
  have HVH := Aside0.mk ((vb.block gr (blk_lt HH.out)).trans HH.out)
  have HVI := Aside0.mk (HI.out.below vb)
  have HG2 := Aside0.mk hg2
  rw [hg2, hV]
  clear hg2 hV vb
  go_wp2
  go_loopg [5, 6] (l0.length) (fun kq v5 v6 w' => ∃ (i : Nat), v6 = .int .i64 (i : Int) ∧ v5 = .int .i64 (bestI (bestTo S i)) ∧ Aside0 (i ≤ l0.length ∧ kq = l0.length - i) ∧ Aside0 (Below V.heap.size V w'))
  case atStart => exact ⟨0, rfl, rfl, ⟨Nat.zero_le _, rfl⟩, ⟨Below.refl _ _⟩⟩
  case round =>
    obtain ⟨i, rfl, rfl, HII, HBW⟩ := hrel
    have hh := (HBW.out.block gr (blk_lt HVH.out)).trans HVH.out
    have h0 : wr.cell? ⟨gr, 0, none⟩ = some (.slice A0 l0.length c0) := (blk_cell hh 0).trans rfl
    have h1 : wr.cell? ⟨gr, 1, none⟩ = some (.slice (some ⟨ga, 0, none⟩) l0.length l0.length) := (blk_cell hh 1).trans rfl
    have HIW := Aside0.mk (HVI.out.below HBW.out)
    have HWW := Aside0.mk (HB.out.trans ((HVB.out.trans (HBW.out.mono HVB.out.size)).mono HB.out.size))
    by_cases hi : i < l0.length
    · have d3 : decide ((i : Int) < (l0.length : Int)) = true := decide_eq_true (by omega)
      have d3b : decide (i < l0.length) = true := decide_eq_true hi
      have hw1 : wrap64 ((i : Int) + 1) = ((i + 1 : Nat) : Int) := w64_up (by have := HSM.out.1; omega)
      have i1 : (0 ≤ (i : Int)) = True := eq_true (Int.natCast_nonneg _)
      have i2 : ((i : Int) < (l0.length : Int)) = True := eq_true (Int.ofNat_lt.2 hi)
      have i3 : (i < l0.length) = True := eq_true hi
      obtain ⟨r, hr⟩ : ∃ r, l0[i]? = some r := ⟨_, List.getElem?_eq_getElem hi⟩
      obtain ⟨s, hs⟩ : ∃ s, S[i]? = some s := ⟨_, List.getElem?_eq_getElem (by rw [HL.out.1]; exact hi)⟩
      have hti := tolds_at hr hs
      obtain ⟨y, hy⟩ : ∃ y, r.length - s.length = y := ⟨_, rfl⟩
      rw [hy] at hti
      have hcI := HIW.out.cell hti
      obtain ⟨ad, B, c, hA, hcw, hl0, hCw⟩ := at_row HR.out hr
      subst hA
      have hcV := cell_bl' hcw HWW.out
      have hat : atL S i = s := atL_some hs
      have hbt : bestTo S (i + 1) = if s = [] then bestTo S i else match bestTo S i with | none => some i | some b => if cmpI (keyL s) (keyL (atL S b)) < 0 then some i else some b := by rw [bestTo, hat]; rfl
      have HBT := Aside0.mk hbt
      have HHI := Aside0.mk hi
      cases s with
      | nil =>
        have a3 : decide ((r.length : Int) ≤ (y : Int)) = true := decide_eq_true (by rw [← hy, List.length_nil]; omega)
        have a3b : decide (r.length ≤ y) = true := decide_eq_true (by rw [← hy, List.length_nil]; omega)
        have HB0 := Aside0.mk (show bestTo S (i + 1) = bestTo S i by rw [hbt]; exact if_pos rfl)
        clear hr hs hti hy hcw hl0 hCw hat hbt hi hh HBT
        go_wp2
        go_quiet (fail)
        go_wp2
        go_roundg (l0.length - (i + 1))
        case measure => have := HII.out; have := HHI.out; omega
        case rel => exact ⟨i + 1, by first | rfl | rw [hw1], by rw [HB0.out], ⟨HHI.out, rfl⟩, ⟨pw_below_drewN HBW.out _⟩⟩
      | cons z s =>
        obtain ⟨f1, f2⟩ := left_front HL.out hr hs
        rw [hy] at f2
        have hyr := (List.getElem?_eq_some_iff.1 f2).1
        have a3 : decide ((r.length : Int) ≤ (y : Int)) = false := decide_eq_false (by omega)
        have a3b : decide (r.length ≤ y) = false := decide_eq_false (by omega)
        have j1 : (0 ≤ (y : Int)) = True := eq_true (Int.natCast_nonneg _)
        have j2 : ((y : Int) < (r.length : Int)) = True := eq_true (Int.ofNat_lt.2 hyr)
        have j3 : (y < r.length) = True := eq_true hyr
        obtain ⟨ae, Bx, dx, hB, k0, _, _, _, _, _, _, hlx, hCx⟩ := at_en (Kd.C_below hCw HWW.out) f2
        subst hB
        have hcv1 := fun n_ : Nat => Kd.C_string (P := Try.prog) (A := Bx) (c := dx) Try.underlying34 Try.underlying5 Try.underlying9 (Kd.C_drewN hCx n_)
        have kz : keyL (z :: s) = z.f0 := rfl
        rw [if_neg (fun e => by cases e), kz] at hbt
        cases hbb : bestTo S i with
        | none =>
          rw [hbb] at hbt
          have HB1 := Aside0.mk (show bestTo S (i + 1) = some i from hbt)
          have b1 : bestI none = -1 := rfl
          rw [b1]
          clear hr hs hti hy hcw hl0 hCw hat hbt hi hh f1 f2 hyr hlx hCx kz hbb
          go_wp2
          go_quiet (fail)
          go_wp2
          go_quiet (fail)
          go_wp2
          go_roundg (l0.length - (i + 1))
          case measure => have := HII.out; have := HHI.out; omega
          case rel => exact ⟨i + 1, by first | rfl | rw [hw1], by rw [HB1.out]; rfl, ⟨HHI.out, rfl⟩, ⟨pw_below_drewN HBW.out _⟩⟩
        | some b =>
          rw [hbb] at hbt
          simp only [] at hbt
          obtain ⟨b1, b2, _⟩ := bestTo_some hbb
          have hbl : b < l0.length := by omega
          obtain ⟨rb, hrb⟩ : ∃ r, l0[b]? = some r := ⟨_, List.getElem?_eq_getElem hbl⟩
          obtain ⟨sb, hsb⟩ : ∃ s, S[b]? = some s := ⟨_, List.getElem?_eq_getElem (by rw [HL.out.1]; exact hbl)⟩
          have hab : atL S b = sb := atL_some hsb
          rw [hab] at b2 hbt
          cases sb with
          | nil => exact absurd rfl b2
          | cons zb sb =>
            have htb := tolds_at hrb hsb
            obtain ⟨yb, hyb⟩ : ∃ y, rb.length - (zb :: sb).length = y := ⟨_, rfl⟩
            rw [hyb] at htb
            have hcB := HIW.out.cell htb
            obtain ⟨ad2, B2, c2, hA2, hcw2, hl2, hCw2⟩ := at_row HR.out hrb
            cases hA2
            have hcV2 := cell_bl' hcw2 HWW.out
            obtain ⟨g1, g2'⟩ := left_front HL.out hrb hsb
            rw [hyb] at g2'
            have hyrb := (List.getElem?_eq_some_iff.1 g2').1
            obtain ⟨ae2, Bx2, dx2, hB2, k02, _, _, _, _, _, _, hlx2, hCx2⟩ := at_en (Kd.C_below hCw2 HWW.out) g2'
            subst hB2
            have hcv2 := fun n_ : Nat => Kd.C_string (P := Try.prog) (A := Bx2) (c := dx2) Try.underlying34 Try.underlying5 Try.underlying9 (Kd.C_drewN hCx2 n_)
            have kzb : keyL (zb :: sb) = zb.f0 := rfl
            rw [kzb] at hbt
            have hst := str_lt z.f0 zb.f0
            have hls := fun W_ => lss_run (P := Try.prog) 9 (strOfNums z.f0) (strOfNums zb.f0) W_
            have q0 : bestI (some b) = (b : Int) := rfl
            rw [q0]
            have m0 : decide ((b : Int) < 0) = false := decide_eq_false (by omega)
            have m1 : (0 ≤ (b : Int)) = True := eq_true (Int.natCast_nonneg _)
            have m2 : ((b : Int) < (l0.length : Int)) = True := eq_true (Int.ofNat_lt.2 hbl)
            have m3 : (b < l0.length) = True := eq_true hbl
            have n1 : (0 ≤ (yb : Int)) = True := eq_true (Int.natCast_nonneg _)
            have n2 : ((yb : Int) < (rb.length : Int)) = True := eq_true (Int.ofNat_lt.2 hyrb)
            have n3 : (yb < rb.length) = True := eq_true hyrb
            by_cases hlt : cmpI z.f0 zb.f0 < 0
            · rw [if_pos hlt] at hbt
              rw [decide_eq_true hlt] at hst
              have HB1 := Aside0.mk hbt
              clear hr hs hti hy hcw hl0 hCw hat hbt hi hh f1 f2 hyr hlx hCx kz hbb b1 b2 hbl hrb hsb hab htb hyb hcw2 hl2 hCw2 g1 g2' hyrb hlx2 hCx2 kzb hlt
              go_wp2
              go_quiet (fail)
              go_wp2
              go_quiet (fail)
              go_wp2
              go_roundg (l0.length - (i + 1))
              case measure => have := HII.out; have := HHI.out; omega
              case rel => exact ⟨i + 1, by first | rfl | rw [hw1], by rw [HB1.out]; rfl, ⟨HHI.out, rfl⟩, ⟨pw_below_drewN HBW.out _⟩⟩
            · rw [if_neg hlt] at hbt
              rw [decide_eq_false hlt] at hst
              have HB1 := Aside0.mk hbt
              clear hr hs hti hy hcw hl0 hCw hat hbt hi hh f1 f2 hyr hlx hCx kz hbb b1 b2 hbl hrb hsb hab htb hyb hcw2 hl2 hCw2 g1 g2' hyrb hlx2 hCx2 kzb hlt
              go_wp2
              go_quiet (fail)
              go_wp2
              go_quiet (fail)
              go_wp2
              go_roundg (l0.length - (i + 1))
              case measure => have := HII.out; have := HHI.out; omega
              case rel => exact ⟨i + 1, by first | rfl | rw [hw1], by rw [HB1.out]; rfl, ⟨HHI.out, rfl⟩, ⟨pw_below_drewN HBW.out _⟩⟩
    · have d3 : decide ((i : Int) < (l0.length : Int)) = false := decide_eq_false (by omega)
      have d3b : decide (i < l0.length) = false := decide_eq_false hi
      obtain rfl : i = l0.length := by have := HII.out; omega
      have hSl : S.length = l0.length := HL.out.1
      cases hm : mstep S with
      | none =>
        have hbn := best_none hm
        rw [hSl] at hbn
        rw [hbn, show bestI none = -1 from rfl]
        have HM := Aside0.mk hm
        have h2 := (HBW.out.block g2 (blk_lt HV2.out)).trans HV2.out
        have z0 : wr.cell? ⟨g2, 0, none⟩ = some (.slice none 0 0) := (blk_cell h2 0).trans rfl
        have y0 : wr.frozen? ⟨g2, 0, none⟩ = false := blk_frozen h2 0
        have z1 : wr.cell? ⟨g2, 1, none⟩ = some (.int .u64 0) := (blk_cell h2 1).trans rfl
        have y1 : wr.frozen? ⟨g2, 1, none⟩ = false := blk_frozen h2 1
        have z2 : wr.cell? ⟨g2, 2, none⟩ = some (.bool false) := (blk_cell h2 2).trans rfl
        have y2 : wr.frozen? ⟨g2, 2, none⟩ = false := blk_frozen h2 2
        have z3 : wr.cell? ⟨g2, 3, none⟩ = some (.int .i64 0) := (blk_cell h2 3).trans rfl
        have y3 : wr.frozen? ⟨g2, 3, none⟩ = false := blk_frozen h2 3
        have z4 : wr.cell? ⟨g2, 4, none⟩ = some (.int .u64 0) := (blk_cell h2 4).trans rfl
        have y4 : wr.frozen? ⟨g2, 4, none⟩ = false := blk_frozen h2 4
        have z5 : wr.cell? ⟨g2, 5, none⟩ = some (.int .i64 0) := (blk_cell h2 5).trans rfl
        have y5 : wr.frozen? ⟨g2, 5, none⟩ = false := blk_frozen h2 5
        have z6 : wr.cell? ⟨g2, 6, none⟩ = some (.int .i64 0) := (blk_cell h2 6).trans rfl
        have y6 : wr.frozen? ⟨g2, 6, none⟩ = false := blk_frozen h2 6
        have H2 := Aside0.mk h2
        clear hi hm hbn hSl hh h2
        go_wp2
        clear z0 z1 z2 z3 z4 z5 z6 y0 y1 y2 y3 y4 y5 y6
        refine bodyPost_ret (results_ctt rfl _ _ g2 41 #[.slice none 0 0, .int .u64 0, .bool false, .int .i64 0, .int .u64 0, .int .i64 0, .int .i64 0] (0, 0) _ rfl (stE_blk (A := none) (c := 0) (n := 0) (y := ag0) H2.out) Try.underlying41 rfl (by kernel_rfl)) rfl ?_
        unfold RefN
        rw [HM.out]
        refine ⟨rfl, ?_⟩
        have hb := HVB.out.trans (HBW.out.mono HVB.out.size)
        have hg := HG2.out
        exact ((((((hb.setCell (p := ⟨g2, 0, none⟩) (Nat.le_of_eq hg) _).setCell (p := ⟨g2, 1, none⟩) (Nat.le_of_eq hg) _).setCell (p := ⟨g2, 2, none⟩) (Nat.le_of_eq hg) _).setCell (p := ⟨g2, 3, none⟩) (Nat.le_of_eq hg) _).setCell (p := ⟨g2, 4, none⟩) (Nat.le_of_eq hg) _).setCell (p := ⟨g2, 5, none⟩) (Nat.le_of_eq hg) _).setCell (p := ⟨g2, 6, none⟩) (Nat.le_of_eq hg) _
      | some rr =>
        obtain ⟨x, p, S'⟩ := rr
        have hbn := best_of hm
        rw [hSl] at hbn
        rw [hbn, show bestI (some p) = (p : Int) from rfl]
        have m0 : decide ((p : Int) < 0) = false := decide_eq_false (by omega)
        have HM := Aside0.mk hm
        obtain ⟨r, l, l1, l2, l3, l4, l5, l6⟩ := left_at HL.out hm
        obtain ⟨y, hy⟩ : ∃ y : Nat, r.length - (x :: l).length = y := ⟨_, rfl⟩
        rw [hy] at l6
        have hyr := (List.getElem?_eq_some_iff.1 l6).1
        have hti := tolds_at l1 l2
        rw [hy] at hti
        have hcI := HIW.out.cell hti
        obtain ⟨ad, B, c, hA, hcw, hl0, hCw⟩ := at_row HR.out l1
        subst hA
        have hcV := cell_bl' hcw HWW.out
        obtain ⟨ae, Bx, dx, hB, k0', k1', k2', k3', k4', k5', k6', hlx, hCx⟩ := at_en hCw l6
        subst hB
        have k0 := cell_bl' k0' HWW.out
        have k1 := cell_bl' k1' HWW.out
        have k2 := cell_bl' k2' HWW.out
        have k3 := cell_bl' k3' HWW.out
        have k4 := cell_bl' k4' HWW.out
        have k5 := cell_bl' k5' HWW.out
        have k6 := cell_bl' k6' HWW.out
        clear k0' k1' k2' k3' k4' k5' k6'
        have i1 : (0 ≤ (p : Int)) = True := eq_true (Int.natCast_nonneg _)
        have i2 : ((p : Int) < (l0.length : Int)) = True := eq_true (Int.ofNat_lt.2 l4)
        have i3 : (p < l0.length) = True := eq_true l4
        have j1 : (0 ≤ (y : Int)) = True := eq_true (Int.natCast_nonneg _)
        have j2 : ((y : Int) < (r.length : Int)) = True := eq_true (Int.ofNat_lt.2 hyr)
        have j3 : (y < r.length) = True := eq_true hyr
        have HLL := Aside0.mk (And.intro l1 (And.intro l2 (And.intro l3 (And.intro l4 l5))))
        have HYY := Aside0.mk (And.intro hy hyr)
        have HCX := Aside0.mk (And.intro hlx hCx)
        clear hi hm hbn hSl l1 l2 l3 l4 l5 l6 hyr hy hti hcw hl0 hCw hlx hCx
        go_wp2
        have HS0 := Aside0.mk (show wr.drew.cell? ⟨gr, 0, none⟩ = some (.slice (some ad) l0.length c0) ∧ wr.drew.cell? ⟨gr, 1, none⟩ = some (.slice (some ⟨ga, 0, none⟩) l0.length l0.length) ∧ wr.drew.cell? ⟨ga, p, none⟩ = some (.int .i64 (y : Int)) ∧ wr.drew.cell? (ad.add p) = some (.slice (some ae) r.length c) ∧ wr.drew.cell? (ae.add (y * 7)) = some (.slice Bx x.f0.length dx) ∧ wr.drew.cell? ⟨(ae.add (y * 7)).block, (ae.add (y * 7)).off + 1, none⟩ = some (.int .u64 x.f1.f0) ∧ wr.drew.cell? ⟨(ae.add (y * 7)).block, (ae.add (y * 7)).off + 2, none⟩ = some (.bool x.f1.f1) ∧ wr.drew.cell? ⟨(ae.add (y * 7)).block, (ae.add (y * 7)).off + 3, none⟩ = some (.int .i64 x.f1.f2.f0) ∧ wr.drew.cell? ⟨(ae.add (y * 7)).block, (ae.add (y * 7)).off + 4, none⟩ = some (.int .u64 x.f1.f2.f1) ∧ wr.drew.cell? ⟨(ae.add (y * 7)).block, (ae.add (y * 7)).off + 5, none⟩ = some (.int .i64 x.f1.f3) ∧ wr.drew.cell? ⟨(ae.add (y * 7)).block, (ae.add (y * 7)).off + 6, none⟩ = some (.int .i64 x.f1.f4) from ⟨h0, h1, hcI, hcV, k0, k1, k2, k3, k4, k5, k6⟩)
        have b7 := below_alloc (below_drew (Below.refl wr.heap.size wr)) (.cells #[.slice none 0 0, .int .u64 0, .bool false, .int .i64 0, .int .u64 0, .int .i64 0, .int .i64 0] 41)
        have HS1 := Aside0.mk (show (wr.drew.alloc (.cells #[.slice none 0 0, .int .u64 0, .bool false, .int .i64 0, .int .u64 0, .int .i64 0, .int .i64 0] 41)).cell? ⟨gr, 0, none⟩ = some (.slice (some ad) l0.length c0) ∧ (wr.drew.alloc (.cells #[.slice none 0 0, .int .u64 0, .bool false, .int .i64 0, .int .u64 0, .int .i64 0, .int .i64 0] 41)).cell? ⟨gr, 1, none⟩ = some (.slice (some ⟨ga, 0, none⟩) l0.length l0.length) ∧ (wr.drew.alloc (.cells #[.slice none 0 0, .int .u64 0, .bool false, .int .i64 0, .int .u64 0, .int .i64 0, .int .i64 0] 41)).cell? ⟨ga, p, none⟩ = some (.int .i64 (y : Int)) ∧ (wr.drew.alloc (.cells #[.slice none 0 0, .int .u64 0, .bool false, .int .i64 0, .int .u64 0, .int .i64 0, .int .i64 0] 41)).cell? (ad.add p) = some (.slice (some ae) r.length c) ∧ (wr.drew.alloc (.cells #[.slice none 0 0, .int .u64 0, .bool false, .int .i64 0, .int .u64 0, .int .i64 0, .int .i64 0] 41)).cell? (ae.add (y * 7)) = some (.slice Bx x.f0.length dx) ∧ (wr.drew.alloc (.cells #[.slice none 0 0, .int .u64 0, .bool false, .int .i64 0, .int .u64 0, .int .i64 0, .int .i64 0] 41)).cell? ⟨(ae.add (y * 7)).block, (ae.add (y * 7)).off + 1, none⟩ = some (.int .u64 x.f1.f0) ∧ (wr.drew.alloc (.cells #[.slice none 0 0, .int .u64 0, .bool false, .int .i64 0, .int .u64 0, .int .i64 0, .int .i64 0] 41)).cell? ⟨(ae.add (y * 7)).block, (ae.add (y * 7)).off + 2, none⟩ = some (.bool x.f1.f1) ∧ (wr.drew.alloc (.cells #[.slice none 0 0, .int .u64 0, .bool false, .int .i64 0, .int .u64 0, .int .i64 0, .int .i64 0] 41)).cell? ⟨(ae.add (y * 7)).block, (ae.add (y * 7)).off + 3, none⟩ = some (.int .i64 x.f1.f2.f0) ∧ (wr.drew.alloc (.cells #[.slice none 0 0, .int .u64 0, .bool false, .int .i64 0, .int .u64 0, .int .i64 0, .int .i64 0] 41)).cell? ⟨(ae.add (y * 7)).block, (ae.add (y * 7)).off + 4, none⟩ = some (.int .u64 x.f1.f2.f1) ∧ (wr.drew.alloc (.cells #[.slice none 0 0, .int .u64 0, .bool false, .int .i64 0, .int .u64 0, .int .i64 0, .int .i64 0] 41)).cell? ⟨(ae.add (y * 7)).block, (ae.add (y * 7)).off + 5, none⟩ = some (.int .i64 x.f1.f3) ∧ (wr.drew.alloc (.cells #[.slice none 0 0, .int .u64 0, .bool false, .int .i64 0, .int .u64 0, .int .i64 0, .int .i64 0] 41)).cell? ⟨(ae.add (y * 7)).block, (ae.add (y * 7)).off + 6, none⟩ = some (.int .i64 x.f1.f4) from ⟨cell_bl' h0 b7, cell_bl' h1 b7, cell_bl' hcI b7, cell_bl' hcV b7, cell_bl' k0 b7, cell_bl' k1 b7, cell_bl' k2 b7, cell_bl' k3 b7, cell_bl' k4 b7, cell_bl' k5 b7, cell_bl' k6 b7⟩)
        clear b7
        refine wp_region_last_drew (ds := [17]) (S := fun W' => W'.cell? ⟨gr, 0, none⟩ = some (.slice (some ad) l0.length c0) ∧ W'.cell? ⟨gr, 1, none⟩ = some (.slice (some ⟨ga, 0, none⟩) l0.length l0.length) ∧ W'.cell? ⟨ga, p, none⟩ = some (.int .i64 (y : Int)) ∧ W'.cell? (ad.add p) = some (.slice (some ae) r.length c) ∧ W'.cell? (ae.add (y * 7)) = some (.slice Bx x.f0.length dx) ∧ W'.cell? ⟨(ae.add (y * 7)).block, (ae.add (y * 7)).off + 1, none⟩ = some (.int .u64 x.f1.f0) ∧ W'.cell? ⟨(ae.add (y * 7)).block, (ae.add (y * 7)).off + 2, none⟩ = some (.bool x.f1.f1) ∧ W'.cell? ⟨(ae.add (y * 7)).block, (ae.add (y * 7)).off + 3, none⟩ = some (.int .i64 x.f1.f2.f0) ∧ W'.cell? ⟨(ae.add (y * 7)).block, (ae.add (y * 7)).off + 4, none⟩ = some (.int .u64 x.f1.f2.f1) ∧ W'.cell? ⟨(ae.add (y * 7)).block, (ae.add (y * 7)).off + 5, none⟩ = some (.int .i64 x.f1.f3) ∧ W'.cell? ⟨(ae.add (y * 7)).block, (ae.add (y * 7)).off + 6, none⟩ = some (.int .i64 x.f1.f4)) (by kernel_rfl) ?_ (fun hS0 => ?_);
        focus exact HS0.out
        (refine wpAnyLast_take (i := 0) (v := ?_) rfl (by kernel_rfl) (by kernel_rfl) (by kernel_rfl) (by kernel_rfl) (by kernel_rfl) (fun _ _ _ h => h) (Or.inl ⟨by rfl, ?_⟩) (by assumption) ?_; rotate_left 1; focus (intro ww hSw; (try dsimp only at hSw); go_simp; try with_reducible rfl)); try simp only [Act.put, List.setIfInBounds_toArray, List.set_cons_zero, List.set_cons_succ]
        (refine wpAnyLast_take (i := 1) (v := ?_) rfl (by kernel_rfl) (by kernel_rfl) (by kernel_rfl) (by kernel_rfl) (by kernel_rfl) (fun _ _ _ h => h) (Or.inl ⟨by rfl, ?_⟩) (by assumption) ?_; rotate_left 1; focus (intro ww hSw; (try dsimp only at hSw); go_simp; try with_reducible rfl)); try simp only [Act.put, List.setIfInBounds_toArray, List.set_cons_zero, List.set_cons_succ]
        (refine wpAnyLast_take (i := 2) (v := ?_) rfl (by kernel_rfl) (by kernel_rfl) (by kernel_rfl) (by kernel_rfl) (by kernel_rfl) (fun _ _ _ h => h) (Or.inl ⟨by rfl, ?_⟩) (by assumption) ?_; rotate_left 1; focus (intro ww hSw; (try dsimp only at hSw); go_simp; try with_reducible rfl)); try simp only [Act.put, List.setIfInBounds_toArray, List.set_cons_zero, List.set_cons_succ]
        (refine wpAnyLast_take (i := 3) (v := ?_) rfl (by kernel_rfl) (by kernel_rfl) (by kernel_rfl) (by kernel_rfl) (by kernel_rfl) (fun _ _ _ h => h) (Or.inl ⟨by rfl, ?_⟩) (by assumption) ?_; rotate_left 1; focus (intro ww hSw; (try dsimp only at hSw); go_simp; try with_reducible rfl)); try simp only [Act.put, List.setIfInBounds_toArray, List.set_cons_zero, List.set_cons_succ]
        (refine wpAnyLast_take (i := 4) (v := ?_) rfl (by kernel_rfl) (by kernel_rfl) (by kernel_rfl) (by kernel_rfl) (by kernel_rfl) (fun _ _ _ h => h) (Or.inl ⟨by rfl, ?_⟩) (by assumption) ?_; rotate_left 1; focus (intro ww hSw; (try dsimp only at hSw); go_simp; try with_reducible rfl)); try simp only [Act.put, List.setIfInBounds_toArray, List.set_cons_zero, List.set_cons_succ]
        (refine wpAnyLast_take (i := 5) (v := ?_) rfl (by kernel_rfl) (by kernel_rfl) (by kernel_rfl) (by kernel_rfl) (by kernel_rfl) (fun _ _ _ h => h) (Or.inl ⟨by rfl, ?_⟩) (by assumption) ?_; rotate_left 1; focus (intro ww hSw; (try dsimp only at hSw); go_simp; try with_reducible rfl)); try simp only [Act.put, List.setIfInBounds_toArray, List.set_cons_zero, List.set_cons_succ]
        (refine wpAnyLast_take (i := 6) (v := ?_) rfl (by kernel_rfl) (by kernel_rfl) (by kernel_rfl) (by kernel_rfl) (by kernel_rfl) (fun _ _ _ h => h) (Or.inl ⟨by rfl, ?_⟩) (by assumption) ?_; rotate_left 1; focus (intro ww hSw; (try dsimp only at hSw); go_simp; try with_reducible rfl)); try simp only [Act.put, List.setIfInBounds_toArray, List.set_cons_zero, List.set_cons_succ]
        (refine wpAnyLast_take (i := 7) (v := ?_) rfl (by kernel_rfl) (by kernel_rfl) (by kernel_rfl) (by kernel_rfl) (by kernel_rfl) (fun _ _ _ h => h) (Or.inl ⟨by rfl, ?_⟩) (by assumption) ?_; rotate_left 1; focus (intro ww hSw; (try dsimp only at hSw); go_simp; try with_reducible rfl)); try simp only [Act.put, List.setIfInBounds_toArray, List.set_cons_zero, List.set_cons_succ]
        (refine wpAnyLast_take (i := 8) (v := ?_) rfl (by kernel_rfl) (by kernel_rfl) (by kernel_rfl) (by kernel_rfl) (by kernel_rfl) (fun _ _ _ h => h) (Or.inl ⟨by rfl, ?_⟩) (by assumption) ?_; rotate_left 1; focus (intro ww hSw; (try dsimp only at hSw); go_simp; try with_reducible rfl)); try simp only [Act.put, List.setIfInBounds_toArray, List.set_cons_zero, List.set_cons_succ]
        (refine wpAnyLast_take (i := 9) (v := ?_) rfl (by kernel_rfl) (by kernel_rfl) (by kernel_rfl) (by kernel_rfl) (by kernel_rfl) (fun _ _ _ h => h) (Or.inl ⟨by rfl, ?_⟩) (by assumption) ?_; rotate_left 1; focus (intro ww hSw; (try dsimp only at hSw); go_simp; try with_reducible rfl)); try simp only [Act.put, List.setIfInBounds_toArray, List.set_cons_zero, List.set_cons_succ]
        (refine wpAnyLast_take (i := 10) (v := ?_) rfl (by kernel_rfl) (by kernel_rfl) (by kernel_rfl) (by kernel_rfl) (by kernel_rfl) (fun _ _ _ h => h) (Or.inl ⟨by rfl, ?_⟩) (by assumption) ?_; rotate_left 1; focus (intro ww hSw; (try dsimp only at hSw); go_simp; try with_reducible rfl)); try simp only [Act.put, List.setIfInBounds_toArray, List.set_cons_zero, List.set_cons_succ]
        (refine wpAnyLast_take (i := 11) (v := ?_) rfl (by kernel_rfl) (by kernel_rfl) (by kernel_rfl) (by kernel_rfl) (by kernel_rfl) (fun _ _ _ h => h) (Or.inl ⟨by rfl, ?_⟩) (by assumption) ?_; rotate_left 1; focus (intro ww hSw; (try dsimp only at hSw); go_simp; try with_reducible rfl)); try simp only [Act.put, List.setIfInBounds_toArray, List.set_cons_zero, List.set_cons_succ]
        (refine wpAnyLast_take (i := 12) (v := ?_) rfl (by kernel_rfl) (by kernel_rfl) (by kernel_rfl) (by kernel_rfl) (by kernel_rfl) (fun _ _ _ h => h) (Or.inl ⟨by rfl, ?_⟩) (by assumption) ?_; rotate_left 1; focus (intro ww hSw; (try dsimp only at hSw); go_simp; try with_reducible rfl)); try simp only [Act.put, List.setIfInBounds_toArray, List.set_cons_zero, List.set_cons_succ]
        (refine wpAnyLast_take (i := 13) (v := ?_) rfl (by kernel_rfl) (by kernel_rfl) (by kernel_rfl) (by kernel_rfl) (by kernel_rfl) (fun _ _ _ h => h) (Or.inl ⟨by rfl, ?_⟩) (by assumption) ?_; rotate_left 1; focus (intro ww hSw; (try dsimp only at hSw); go_simp; try with_reducible rfl)); try simp only [Act.put, List.setIfInBounds_toArray, List.set_cons_zero, List.set_cons_succ]
        (refine wpAnyLast_take (i := 14) (v := ?_) rfl (by kernel_rfl) (by kernel_rfl) (by kernel_rfl) (by kernel_rfl) (by kernel_rfl) (fun _ _ _ h => h) (Or.inl ⟨by rfl, ?_⟩) (by assumption) ?_; rotate_left 1; focus (intro ww hSw; (try dsimp only at hSw); go_simp; try with_reducible rfl)); try simp only [Act.put, List.setIfInBounds_toArray, List.set_cons_zero, List.set_cons_succ]
        (refine wpAnyLast_take (i := 15) (v := ?_) rfl (by kernel_rfl) (by kernel_rfl) (by kernel_rfl) (by kernel_rfl) (by kernel_rfl) (fun _ _ _ h => h) (Or.inl ⟨by rfl, ?_⟩) (by assumption) ?_; rotate_left 1; focus (intro ww hSw; (try dsimp only at hSw); go_simp; try with_reducible rfl)); try simp only [Act.put, List.setIfInBounds_toArray, List.set_cons_zero, List.set_cons_succ]
        refine wpAnyLast_ready (rs := [16]) (by kernel_rfl) (by simp) (AllReadyL.cons rfl (by decide) (fun K hK => ?_) AllReadyL.nil)
        go_simp
        refine hK _ _ HS1.out (fun hS1 => ?_)
        clear hK K
        refine wpAnyLast_ready (rs := [17]) (by kernel_rfl) (by simp) (AllReadyL.cons_last rfl (by decide) (fun K hK => ?_) AllReadyL.nil)
        (go_simp; refine hK _ _ ?_; clear hK K)
        refine wpAnyLast_done (by kernel_rfl) ?_ _;
        obtain ⟨g7, hg7⟩ : ∃ g, wr.heap.size = g := ⟨_, rfl⟩
        obtain ⟨U, hU⟩ : ∃ U, (wr.alloc (.cells #[.slice Bx x.f0.length dx, .int .u64 x.f1.f0, .bool x.f1.f1, .int .i64 x.f1.f2.f0, .int .u64 x.f1.f2.f1, .int .i64 x.f1.f3, .int .i64 x.f1.f4] 41)).drew = U := ⟨_, rfl⟩
        have bU : Below wr.heap.size wr U := by rw [← hU]; exact below_drew (below_alloc (Below.refl _ _) _)
        have HU7 := Aside0.mk (show U.heap[g7]? = some (.cells #[.slice Bx x.f0.length dx, .int .u64 x.f1.f0, .bool x.f1.f1, .int .i64 x.f1.f2.f0, .int .u64 x.f1.f2.f1, .int .i64 x.f1.f3, .int .i64 x.f1.f4] 41) by rw [← hU, ← hg7]; exact blk_new wr _)
        have HUI := Aside0.mk (HIW.out.below bU)
        have HU2 := Aside0.mk ((bU.block g2 (by have := blk_lt ((HBW.out.block g2 (blk_lt HV2.out)).trans HV2.out); exact this)).trans ((HBW.out.block g2 (blk_lt HV2.out)).trans HV2.out))
        have HUB := Aside0.mk (show Below W.heap.size W U from HVB.out.trans ((HBW.out.trans (bU.mono HBW.out.size)).mono HVB.out.size))
        have hwy : wrap64 ((y : Int) + 1) = ((y + 1 : Nat) : Int) := w64_up (by have := (HSM.out.2 r (List.mem_of_getElem? HLL.out.1)).1; have := HYY.out.2; omega)
        have u1 := cell_bl' h1 bU
        have uI := cell_bl' hcI bU
        rw [hg7, hU]
        clear h0 h1 hcI hcV k0 k1 k2 k3 k4 k5 k6 HS0 HS1 bU hU
        go_wp2
        have HT0 := Aside0.mk (show U.drew.cell? ⟨gr, 1, none⟩ = some (.slice (some ⟨ga, 0, none⟩) l0.length l0.length) ∧ U.drew.cell? ⟨ga, p, none⟩ = some (.int .i64 (y : Int)) from ⟨u1, uI⟩)
        refine wp_region_last_drew (ds := [14]) (S := fun W' => W'.cell? ⟨gr, 1, none⟩ = some (.slice (some ⟨ga, 0, none⟩) l0.length l0.length) ∧ W'.cell? ⟨ga, p, none⟩ = some (.int .i64 (y : Int))) (by kernel_rfl) ?_ (fun hS0 => ?_);
        focus exact HT0.out
        (refine wpAnyLast_take (i := 0) (v := ?_) rfl (by kernel_rfl) (by kernel_rfl) (by kernel_rfl) (by kernel_rfl) (by kernel_rfl) (fun _ _ _ h => h) (Or.inl ⟨by rfl, ?_⟩) (by assumption) ?_; rotate_left 1; focus (intro ww hSw; (try dsimp only at hSw); go_simp; try with_reducible rfl)); try simp only [Act.put, List.setIfInBounds_toArray, List.set_cons_zero, List.set_cons_succ]
        (refine wpAnyLast_take (i := 1) (v := ?_) rfl (by kernel_rfl) (by kernel_rfl) (by kernel_rfl) (by kernel_rfl) (by kernel_rfl) (fun _ _ _ h => h) (Or.inl ⟨by rfl, ?_⟩) (by assumption) ?_; rotate_left 1; focus (intro ww hSw; (try dsimp only at hSw); go_simp; try with_reducible rfl)); try simp only [Act.put, List.setIfInBounds_toArray, List.set_cons_zero, List.set_cons_succ]
        (refine wpAnyLast_take (i := 2) (v := ?_) rfl (by kernel_rfl) (by kernel_rfl) (by kernel_rfl) (by kernel_rfl) (by kernel_rfl) (fun _ _ _ h => h) (Or.inl ⟨by rfl, ?_⟩) (by assumption) ?_; rotate_left 1; focus (intro ww hSw; (try dsimp only at hSw); go_simp; try with_reducible rfl)); try simp only [Act.put, List.setIfInBounds_toArray, List.set_cons_zero, List.set_cons_succ]
        (refine wpAnyLast_take (i := 3) (v := ?_) rfl (by kernel_rfl) (by kernel_rfl) (by kernel_rfl) (by kernel_rfl) (by kernel_rfl) (fun _ _ _ h => h) (Or.inl ⟨by rfl, ?_⟩) (by assumption) ?_; rotate_left 1; focus (intro ww hSw; (try dsimp only at hSw); go_simp; try with_reducible rfl)); try simp only [Act.put, List.setIfInBounds_toArray, List.set_cons_zero, List.set_cons_succ]
        (refine wpAnyLast_take (i := 4) (v := ?_) rfl (by kernel_rfl) (by kernel_rfl) (by kernel_rfl) (by kernel_rfl) (by kernel_rfl) (fun _ _ _ h => h) (Or.inl ⟨by rfl, ?_⟩) (by assumption) ?_; rotate_left 1; focus (intro ww hSw; (try dsimp only at hSw); go_simp; try with_reducible rfl)); try simp only [Act.put, List.setIfInBounds_toArray, List.set_cons_zero, List.set_cons_succ]
        (refine wpAnyLast_take (i := 5) (v := ?_) rfl (by kernel_rfl) (by kernel_rfl) (by kernel_rfl) (by kernel_rfl) (by kernel_rfl) (fun _ _ _ h => h) (Or.inl ⟨by rfl, ?_⟩) (by assumption) ?_; rotate_left 1; focus (intro ww hSw; (try dsimp only at hSw); go_simp; try with_reducible rfl)); try simp only [Act.put, List.setIfInBounds_toArray, List.set_cons_zero, List.set_cons_succ]
        (refine wpAnyLast_take (i := 6) (v := ?_) rfl (by kernel_rfl) (by kernel_rfl) (by kernel_rfl) (by kernel_rfl) (by kernel_rfl) (fun _ _ _ h => h) (Or.inl ⟨by rfl, ?_⟩) (by assumption) ?_; rotate_left 1; focus (intro ww hSw; (try dsimp only at hSw); go_simp; try with_reducible rfl)); try simp only [Act.put, List.setIfInBounds_toArray, List.set_cons_zero, List.set_cons_succ]
        (refine wpAnyLast_take (i := 7) (v := ?_) rfl (by kernel_rfl) (by kernel_rfl) (by kernel_rfl) (by kernel_rfl) (by kernel_rfl) (fun _ _ _ h => h) (Or.inl ⟨by rfl, ?_⟩) (by assumption) ?_; rotate_left 1; focus (intro ww hSw; (try dsimp only at hSw); go_simp; try with_reducible rfl)); try simp only [Act.put, List.setIfInBounds_toArray, List.set_cons_zero, List.set_cons_succ]
        (refine wpAnyLast_take (i := 8) (v := ?_) rfl (by kernel_rfl) (by kernel_rfl) (by kernel_rfl) (by kernel_rfl) (by kernel_rfl) (fun _ _ _ h => h) (Or.inl ⟨by rfl, ?_⟩) (by assumption) ?_; rotate_left 1; focus (intro ww hSw; (try dsimp only at hSw); go_simp; try with_reducible rfl)); try simp only [Act.put, List.setIfInBounds_toArray, List.set_cons_zero, List.set_cons_succ]
        (refine wpAnyLast_take (i := 9) (v := ?_) rfl (by kernel_rfl) (by kernel_rfl) (by kernel_rfl) (by kernel_rfl) (by kernel_rfl) (fun _ _ _ h => h) (Or.inl ⟨by rfl, ?_⟩) (by assumption) ?_; rotate_left 1; focus (intro ww hSw; (try dsimp only at hSw); go_simp; try with_reducible rfl)); try simp only [Act.put, List.setIfInBounds_toArray, List.set_cons_zero, List.set_cons_succ]
        (refine wpAnyLast_take (i := 10) (v := ?_) rfl (by kernel_rfl) (by kernel_rfl) (by kernel_rfl) (by kernel_rfl) (by kernel_rfl) (fun _ _ _ h => h) (Or.inl ⟨by rfl, ?_⟩) (by assumption) ?_; rotate_left 1; focus (intro ww hSw; (try dsimp only at hSw); go_simp; try with_reducible rfl)); try simp only [Act.put, List.setIfInBounds_toArray, List.set_cons_zero, List.set_cons_succ]
        (refine wpAnyLast_take (i := 11) (v := ?_) rfl (by kernel_rfl) (by kernel_rfl) (by kernel_rfl) (by kernel_rfl) (by kernel_rfl) (fun _ _ _ h => h) (Or.inl ⟨by rfl, ?_⟩) (by assumption) ?_; rotate_left 1; focus (intro ww hSw; (try dsimp only at hSw); go_simp; try with_reducible rfl)); try simp only [Act.put, List.setIfInBounds_toArray, List.set_cons_zero, List.set_cons_succ]
        (refine wpAnyLast_take (i := 12) (v := ?_) rfl (by kernel_rfl) (by kernel_rfl) (by kernel_rfl) (by kernel_rfl) (by kernel_rfl) (fun _ _ _ h => h) (Or.inl ⟨by rfl, ?_⟩) (by assumption) ?_; rotate_left 1; focus (intro ww hSw; (try dsimp only at hSw); go_simp; try with_reducible rfl)); try simp only [Act.put, List.setIfInBounds_toArray, List.set_cons_zero, List.set_cons_succ]
        (refine wpAnyLast_take (i := 13) (v := ?_) rfl (by kernel_rfl) (by kernel_rfl) (by kernel_rfl) (by kernel_rfl) (by kernel_rfl) (fun _ _ _ h => h) (Or.inl ⟨by rfl, ?_⟩) (by assumption) ?_; rotate_left 1; focus (intro ww hSw; (try dsimp only at hSw); go_simp; try with_reducible rfl)); try simp only [Act.put, List.setIfInBounds_toArray, List.set_cons_zero, List.set_cons_succ]
        have fI : U.drew.frozen? ⟨ga, p, none⟩ = false := blk_frozen (show U.drew.heap[ga]? = _ from HUI.out) p
        have uI2 : U.drew.cell? ⟨ga, p, none⟩ = some (.int .i64 (y : Int)) := uI
        refine wpAnyLast_ready (rs := [14]) (by kernel_rfl) (by simp) (AllReadyL.cons_last rfl (by decide) (fun K hK => ?_) AllReadyL.nil)
        (go_simp; refine hK _ _ ?_; clear hK K)
        refine wpAnyLast_done (by kernel_rfl) ?_ _;
        clear fI uI2 u1 uI
        obtain ⟨X, hX⟩ : ∃ X, (U.setCell ⟨ga, p, none⟩ (.int .i64 (IntKind.i64.wrap ((y : Int) + 1)))).drew = X := ⟨_, rfl⟩
        have hwy2 : IntKind.i64.wrap ((y : Int) + 1) = ((y : Nat) : Int) + 1 := by rw [IntWalk.i64_left, hwy]; rfl
        have HX7 := Aside0.mk (show X.heap[g7]? = some (.cells #[.slice Bx x.f0.length dx, .int .u64 x.f1.f0, .bool x.f1.f1, .int .i64 x.f1.f2.f0, .int .u64 x.f1.f2.f1, .int .i64 x.f1.f3, .int .i64 x.f1.f4] 41) by rw [← hX]; exact blk_far HU7.out (p := ⟨ga, p, none⟩) (blk_ne HU7.out HUI.out (by decide)) _)
        have HX2 := Aside0.mk (show X.heap[g2]? = some (.cells #[.slice none 0 0, .int .u64 0, .bool false, .int .i64 0, .int .u64 0, .int .i64 0, .int .i64 0] 41 (0, 0)) by rw [← hX]; exact blk_far HU2.out (p := ⟨ga, p, none⟩) (blk_ne HU2.out HUI.out (by decide)) _)
        have HXI := Aside0.mk (show IB X ga (tolds l0 S') by
          rw [← hX, hwy2, HLL.out.2.2.1, tolds_set HLL.out.1 HLL.out.2.1 HLL.out.2.2.2.2, HYY.out.1]
          exact HUI.out.set p ((y : Int) + 1))
        have HXG := Aside0.mk (show W.grownBy X (some ga) from by
          rw [← hX]
          refine ⟨HUB.out.os, HUB.out.tape, HUB.out.output, ?_, fun k hk hne => ?_⟩
          · have := HUB.out.size; simpa using this
          · exact (Below.heap_setCell U ⟨ga, p, none⟩ _ k (fun e => hne (by rw [show k = ga from e]))).trans (HUB.out.block k hk))
        rw [hX]
        clear hX hwy hwy2
        have x0 : X.cell? ⟨g7, 0, none⟩ = some (.slice Bx x.f0.length dx) := (blk_cell HX7.out 0).trans rfl
        have x1 : X.cell? ⟨g7, 1, none⟩ = some (.int .u64 x.f1.f0) := (blk_cell HX7.out 1).trans rfl
        have x2 : X.cell? ⟨g7, 2, none⟩ = some (.bool x.f1.f1) := (blk_cell HX7.out 2).trans rfl
        have x3 : X.cell? ⟨g7, 3, none⟩ = some (.int .i64 x.f1.f2.f0) := (blk_cell HX7.out 3).trans rfl
        have x4 : X.cell? ⟨g7, 4, none⟩ = some (.int .u64 x.f1.f2.f1) := (blk_cell HX7.out 4).trans rfl
        have x5 : X.cell? ⟨g7, 5, none⟩ = some (.int .i64 x.f1.f3) := (blk_cell HX7.out 5).trans rfl
        have x6 : X.cell? ⟨g7, 6, none⟩ = some (.int .i64 x.f1.f4) := (blk_cell HX7.out 6).trans rfl
        have z0 : X.cell? ⟨g2, 0, none⟩ = some (.slice none 0 0) := (blk_cell HX2.out 0).trans rfl
        have y0 : X.frozen? ⟨g2, 0, none⟩ = false := blk_frozen HX2.out 0
        have z1 : X.cell? ⟨g2, 1, none⟩ = some (.int .u64 0) := (blk_cell HX2.out 1).trans rfl
        have y1 : X.frozen? ⟨g2, 1, none⟩ = false := blk_frozen HX2.out 1
        have z2 : X.cell? ⟨g2, 2, none⟩ = some (.bool false) := (blk_cell HX2.out 2).trans rfl
        have y2 : X.frozen? ⟨g2, 2, none⟩ = false := blk_frozen HX2.out 2
        have z3 : X.cell? ⟨g2, 3, none⟩ = some (.int .i64 0) := (blk_cell HX2.out 3).trans rfl
        have y3 : X.frozen? ⟨g2, 3, none⟩ = false := blk_frozen HX2.out 3
        have z4 : X.cell? ⟨g2, 4, none⟩ = some (.int .u64 0) := (blk_cell HX2.out 4).trans rfl
        have y4 : X.frozen? ⟨g2, 4, none⟩ = false := blk_frozen HX2.out 4
        have z5 : X.cell? ⟨g2, 5, none⟩ = some (.int .i64 0) := (blk_cell HX2.out 5).trans rfl
        have y5 : X.frozen? ⟨g2, 5, none⟩ = false := blk_frozen HX2.out 5
        have z6 : X.cell? ⟨g2, 6, none⟩ = some (.int .i64 0) := (blk_cell HX2.out 6).trans rfl
        have y6 : X.frozen? ⟨g2, 6, none⟩ = false := blk_frozen HX2.out 6
        go_wp2
        clear x0 x1 x2 x3 x4 x5 x6 z0 z1 z2 z3 z4 z5 z6 y0 y1 y2 y3 y4 y5 y6
        have HFB := Aside0.mk (stE_blk (A := Bx) (c := dx) (n := x.f0.length) (y := x.f1) HX2.out)
        have HFG := Aside0.mk (stE_grown HXG.out (Nat.le_of_eq HG2.out) Bx dx x.f0.length x.f1)
        have HFI := Aside0.mk (stE_IB HXI.out (blk_ne HX2.out HXI.out (by decide)).symm Bx dx x.f0.length x.f1)
        change bodyPost _ _ _ Exit.ret _ (stE X g2 Bx dx x.f0.length x.f1)
        generalize stE X g2 Bx dx x.f0.length x.f1 = Y at HFB HFG HFI ⊢
        refine bodyPost_ret (results_ctt rfl _ _ g2 41 #[.slice Bx x.f0.length dx, .int .u64 x.f1.f0, .bool x.f1.f1, .int .i64 x.f1.f2.f0, .int .u64 x.f1.f2.f1, .int .i64 x.f1.f3, .int .i64 x.f1.f4] (0, 0) _ rfl HFB.out Try.underlying41 rfl (by kernel_rfl)) rfl ?_
        have hbf : Below w.heap.size w Y := pw_below_grown HB.out (some ga) HB.out.size HFG.out (by rintro k ⟨⟩; exact HGA.out)
        unfold RefN
        rw [HM.out]
        exact ⟨Bx, dx, rfl, Kd.C_below HCX.out.2 hbf, HCX.out.1, HFI.out, HFG.out⟩
end Go.Proofs.Ytihdomhiiolojaa.P

namespace Go.Proofs.Ytihdomhiiolojaa.P
open Go.RowKit Go.Proofs.YtihdomhiiolojaaW.PrintWords Go.Proofs.YtihdomhiiolojaaW.PrintLast Go.Proofs.YtihdomhiiolojaaW.PrintMore Go.Proofs.Ytihdomhiiolojaa.Pure
set_option linter.unusedVariables false
set_option linter.unusedSimpArgs false
attribute [local go_sem high] eqA39
theorem HS.grownI {w W W' : World} {g ga : Nat} {S : List (List En)} {l : List Int} (h : HS w W g S) (hB : Below w.heap.size w W') (hg : W.grownBy W' (some ga)) (hI : IB W ga l) : HS w W' g S :=
  h.step hB (fun k cs t hk ht => hg.block k (blk_lt hk) (fun e => by
    obtain rfl := Option.some.inj e
    have := hI.symm.trans hk
    injection this with this
    injection this with _ hc
    rcases ht with rfl | rfl
    · exact absurd hc (by decide)
    · exact absurd hc (by decide)))
theorem R_grownI {W W' : World} {base ga : Nat} {v : Value} {xs l : List Int} (h : Kd.R (Kd.int .u8) 5 W base (fun _ => True) v xs) (hg : W.grownBy W' (some ga)) (hI : IB W ga l) : Kd.R (Kd.int .u8) 5 W' base (fun _ => True) v xs :=
  Kd.R_mono (Kd.R_grown (Kd.R_types h hI (by decide)) hg (fun k hk e => hk.2 (Option.some.inj e))) (fun _ _ => trivial)
set_option maxHeartbeats 4000000 in
set_option maxRecDepth 100000 in
theorem MergeNexts_walk (A0 : Option Addr) (c0 : Nat) (l0 : List (List En)) (w : World) (hr0 : Kd.C (Kd.slice 41 k41) w A0 l0.length l0) (hc0 : l0.length ≤ c0) (hb : OkRows l0) :
    Calls Try.prog 3 #[.slice A0 l0.length c0] w fun e w' => e = .returned (.bool true) ∧ Below w.heap.size w w' := by
  obtain ⟨b, ⟨k, hg⟩, hsm⟩ := great_f l0
  have HGR := Aside0.mk (rickyardlaw14_Great.calls k A0 c0 l0 b w hr0 hc0 hg)
  have HR := Aside0.mk hr0
  have HC0 := Aside0.mk hc0
  clear hg hr0 hc0
  cases b with
  | true =>
    clear hsm
    go_enter Try.func3, Try.ntmps3
    go_wp2_with (first
      | (go_at_call 10; refine (HGR.out).mono ?_; rintro e w1 ⟨rfl, hd⟩; have HB1 := Aside0.mk hd.below; clear hd)
      | (go_at_call 11; refine (rickyardlaw14_alive.calls true _ rfl).mono ?_; rintro e w2 ⟨rfl, hb⟩; have HB2 := Aside0.mk (below_step HB1.out hb); clear hb))
    refine bodyPost_ret (results_tmp rfl _ _ _) rfl ?_
    exact ⟨rfl, HB2.out⟩
  | false =>
    have hs := hsm rfl
    have hgr := goodR hs hb
    have HNW := Aside0.mk (fun W (hW : Below w.heap.size w W) => New_S A0 c0 l0 W (Kd.C_below HR.out hW) hgr.1 (fun l hl x hx => (hgr.2.1 l hl x hx).1))
    have HRW := Aside0.mk (fun W (hW : Below w.heap.size w W) => rickyardref14_Rows.calls 400 A0 c0 l0 (newE l0) W (Kd.C_below HR.out hW) HC0.out (rows_f l0 hs))
    have hmk := print_make (P := Try.prog) 31 3 .i64 8 Try.underlying31 infoInt (by decide) l0.length (by have := hs.1; omega)
    rw [made_nums] at hmk
    have HS0 := Aside0.mk hs
    by_cases h0 : newE l0 = 0
    · obtain ⟨h1, h2⟩ := of_newE h0 hb
      have HNW0 := Aside0.mk (show ∀ W, Below w.heap.size w W → Calls Try.prog 12 #[.slice A0 l0.length c0] W fun e w' => ∃ g, e = .returned (.tuple #[.pointer (some ⟨g, 0, none⟩), .int .i64 0]) ∧ HS W w' g l0 from fun W hW => (HNW.out W hW).mono (by rintro e w' (⟨hne, _⟩ | ⟨_, h⟩); exact absurd h0 hne; exact h))
      rw [h0] at HRW
      have HCN := Aside0.mk (show cntL l0 ≤ 1200 by have := cnt_le (l := l0) (m := 60) (fun r hr => (hs.2 r hr).1); have := hs.1; omega)
      clear hsm hs hgr h0 h1 h2 hb
      go_enter Try.func3, Try.ntmps3
      go_upto_region 7 with (first
        | (go_at_call 10; refine (HGR.out).mono ?_; rintro e w1 ⟨rfl, hd⟩; have HB1 := Aside0.mk hd.below; clear hd)
        | (go_at_call 12; refine (HNW0.out w1 HB1.out).mono ?_; rintro e w2 ⟨g, rfl, hh⟩; have HH2 := Aside0.mk hh; have HB2 := Aside0.mk (HB1.out.trans (hh.be.mono HB1.out.size)); clear hh)
        | (go_at_call 13; refine (HRW.out w2 HB2.out).mono ?_; rintro e w3 ⟨rfl, hd⟩; have HH3 := Aside0.mk (HH2.out.below hd); have HB3 := Aside0.mk (below_step HB2.out hd); clear hd))
      obtain ⟨ga, hga⟩ : ∃ ga, w3.heap.size = ga := ⟨_, rfl⟩
      obtain ⟨gr, hgr⟩ : ∃ gr, w3.heap.size + 1 = gr := ⟨_, rfl⟩
      obtain ⟨U, hU⟩ : ∃ U, (w3.alloc (.cells (nums .i64 (List.replicate l0.length 0)).toArray 3)).alloc (.cells #[.slice A0 l0.length c0, .slice (some ⟨w3.heap.size, 0, none⟩) l0.length l0.length] 33) = U := ⟨_, rfl⟩
      have HIU := Aside0.mk (show IB U ga (tolds l0 l0) by rw [tolds_self, ← hU, ← hga]; exact blk_alloc (blk_new w3 _) _)
      have HRU := Aside0.mk (show U.heap[gr]? = some (.cells #[.slice A0 l0.length c0, .slice (some ⟨ga, 0, none⟩) l0.length l0.length] 33 (0, 0)) by rw [← hU, ← hgr, ← hga]; exact blkN1 w3 _ _)
      have HHU := Aside0.mk (show HS w1 U g l0 by rw [← hU]; exact HH3.out.below (below_alloc (below_alloc (Below.refl _ _) _) _))
      have HGA := Aside0.mk (show w.heap.size ≤ ga ∧ w1.heap.size ≤ ga ∧ w.heap.size ≤ gr by have := HB3.out.size; have := HH3.out.be.size; omega)
      rw [hgr, hU]
      clear hga hgr hU hmk
      go_wp2
      go_loopg [6] (cntL l0) (fun kq v6 w' => ∃ (t : Nat) (S : List (List En)), v6 = .int .i64 (t : Int) ∧ Aside0 (kq = cntL S) ∧ Aside0 (t + cntL S = cntL l0) ∧ Aside0 (HS w1 w' g S) ∧ Aside0 (LeftR l0 S) ∧ Aside0 (IB w' ga (tolds l0 S)) ∧ Aside0 (w'.heap[gr]? = some (.cells #[.slice A0 l0.length c0, .slice (some ⟨ga, 0, none⟩) l0.length l0.length] 33 (0, 0))))
      case atStart => exact ⟨0, l0, rfl, ⟨rfl⟩, ⟨Nat.zero_add _⟩, HHU, ⟨left_self _⟩, HIU, HRU⟩
      case round =>
        obtain ⟨t, S, rfl, HK, HT, HH, HLF, HI, HRH⟩ := hrel
        have d3 : decide ((t : Int) < 1300) = true := decide_eq_true (by have := HT.out; have := HCN.out; omega)
        have d3b : decide (t < 1300) = true := decide_eq_true (by have := HT.out; have := HCN.out; omega)
        have hwt : wrap64 ((t : Int) + 1) = ((t + 1 : Nat) : Int) := w64_up (by have := HT.out; have := HCN.out; omega)
        have HCALL := Aside0.mk (Next_S HH.out)
        cases hm : mstep S with
        | none =>
          have HM := Aside0.mk hm
          clear hm
          go_upto_region 11 with (first
            | (go_at_call 14; refine (HCALL.out).mono ?_; rintro e w9 ⟨hk9, hz9, hh9⟩; rw [HM.out] at hh9; obtain ⟨rfl, hb9⟩ := hh9; have HB9 := Aside0.mk hb9; clear hb9 hk9 hz9))
          obtain ⟨gx, hgx⟩ : ∃ k, w9.heap.size = k := ⟨_, rfl⟩
          obtain ⟨V, hV⟩ : ∃ V, w9.alloc (.cells #[.slice none 0 0, .int .u64 0, .bool false, .int .i64 0, .int .u64 0, .int .i64 0, .int .i64 0] 41) = V := ⟨_, rfl⟩
          have v9 : Below wr.heap.size wr V := by rw [← hV]; exact below_alloc HB9.out _
          have HVX := Aside0.mk (show V.heap[gx]? = some (.cells #[.slice none 0 0, .int .u64 0, .bool false, .int .i64 0, .int .u64 0, .int .i64 0, .int .i64 0] 41 (0, 0)) by rw [← hV, ← hgx]; exact blk_new w9 _)
          have HVB := Aside0.mk v9
          have HWV := Aside0.mk (HB1.out.trans ((HH.out.be.trans (v9.mono HH.out.be.size)).mono HB1.out.size))
          have HRC := Aside0.mk (RefNext_calls w V A0 c0 gr ga l0 S HR.out HWV.out HS0.out HLF.out HGA.out.1 ((v9.block gr (blk_lt HRH.out)).trans HRH.out) (HI.out.below v9))
          rw [hgx, hV]
          clear v9 hgx hV
          go_upto_region 12 with (first
            | (go_at_call 15; refine (HRC.out).mono ?_; rintro e w10 hh; unfold RefN at hh; rw [HM.out] at hh; obtain ⟨rfl, hb⟩ := hh; have HB10 := Aside0.mk hb; clear hb))
          obtain ⟨gy, hgy⟩ : ∃ k, w10.heap.size = k := ⟨_, rfl⟩
          obtain ⟨Y, hY⟩ : ∃ Y, w10.alloc (.cells #[.slice none 0 0, .int .u64 0, .bool false, .int .i64 0, .int .u64 0, .int .i64 0, .int .i64 0] 41) = Y := ⟨_, rfl⟩
          have hYx : Y.heap[gx]? = some (.cells #[.slice none 0 0, .int .u64 0, .bool false, .int .i64 0, .int .u64 0, .int .i64 0, .int .i64 0] 41 (0, 0)) := by rw [← hY]; exact blk_alloc ((HB10.out.block gx (blk_lt HVX.out)).trans HVX.out) _
          have hYy : Y.heap[gy]? = some (.cells #[.slice none 0 0, .int .u64 0, .bool false, .int .i64 0, .int .u64 0, .int .i64 0, .int .i64 0] 41 (0, 0)) := by rw [← hY, ← hgy]; exact blk_new w10 _
          have HYB := Aside0.mk (show Below w.heap.size w Y by rw [← hY]; exact below_alloc (HWV.out.trans (HB10.out.mono HWV.out.size)) _)
          have x0 : Y.cell? ⟨gx, 0, none⟩ = some (.slice none 0 0) := (blk_cell hYx 0).trans rfl
          have y0 : Y.cell? ⟨gy, 0, none⟩ = some (.slice none 0 0) := (blk_cell hYy 0).trans rfl
          have x1 : Y.cell? ⟨gx, 1, none⟩ = some (.int .u64 0) := (blk_cell hYx 1).trans rfl
          have y1 : Y.cell? ⟨gy, 1, none⟩ = some (.int .u64 0) := (blk_cell hYy 1).trans rfl
          have x2 : Y.cell? ⟨gx, 2, none⟩ = some (.bool false) := (blk_cell hYx 2).trans rfl
          have y2 : Y.cell? ⟨gy, 2, none⟩ = some (.bool false) := (blk_cell hYy 2).trans rfl
          have x3 : Y.cell? ⟨gx, 3, none⟩ = some (.int .i64 0) := (blk_cell hYx 3).trans rfl
          have y3 : Y.cell? ⟨gy, 3, none⟩ = some (.int .i64 0) := (blk_cell hYy 3).trans rfl
          have x4 : Y.cell? ⟨gx, 4, none⟩ = some (.int .u64 0) := (blk_cell hYx 4).trans rfl
          have y4 : Y.cell? ⟨gy, 4, none⟩ = some (.int .u64 0) := (blk_cell hYy 4).trans rfl
          have x5 : Y.cell? ⟨gx, 5, none⟩ = some (.int .i64 0) := (blk_cell hYx 5).trans rfl
          have y5 : Y.cell? ⟨gy, 5, none⟩ = some (.int .i64 0) := (blk_cell hYy 5).trans rfl
          have x6 : Y.cell? ⟨gx, 6, none⟩ = some (.int .i64 0) := (blk_cell hYx 6).trans rfl
          have y6 : Y.cell? ⟨gy, 6, none⟩ = some (.int .i64 0) := (blk_cell hYy 6).trans rfl
          have hcv : (convert 34 9 (.slice none 0 0)).run Try.prog Y = .ok (.string (strOfNums [])) Y := Kd.C_string (P := Try.prog) (A := none) (c := 0) (w := Y) Try.underlying34 Try.underlying5 Try.underlying9 (Kd.C_nil (Kd.int .u8) Y)
          rw [hgy, hY]
          clear hgy hY hYx hYy
          go_wp2_with (first
            | (go_at_call 11; refine (rickyardlaw14_alive.calls true _ rfl).mono ?_; rintro e w11 ⟨rfl, hb⟩; have HB11 := Aside0.mk (below_step HYB.out hb); clear hb))
          refine bodyPost_ret (results_tmp rfl _ _ _) rfl ?_
          exact ⟨rfl, HB11.out⟩
        | some rr =>
          obtain ⟨x, p, S'⟩ := rr
          have HM := Aside0.mk hm
          have HC := Aside0.mk (show Calls Try.prog 14 #[.pointer (some ⟨g, 0, none⟩)] wr fun e w' => ∃ (A5 : Option Addr) (c5 : Nat), e = .returned (.tuple #[enV A5 c5 x, .int .i64 (p : Int), .bool true]) ∧ Kd.R (Kd.int .u8) 5 w' wr.heap.size (fun _ => True) (.slice A5 x.f0.length c5) x.f0 ∧ HS w1 w' g S' ∧ Kp wr w' ∧ wr.heap.size ≤ w'.heap.size from HCALL.out.mono (by
            rintro e w' ⟨hk, hz, h⟩
            rw [hm] at h
            obtain ⟨A5, c5, he, ho, hs⟩ := h
            exact ⟨A5, c5, he, ho, hs, hk, hz⟩))
          clear hm HCALL
          go_upto_region 11 with (first
            | (go_at_call 14; refine (HC.out).mono ?_; rintro e w9 ⟨A5, c5, rfl, ho, hs, hk9, hz9⟩; have HO9 := Aside0.mk ho; have HH9 := Aside0.mk hs; have HK9 := Aside0.mk hk9; have HZ9 := Aside0.mk hz9; clear ho hs hk9 hz9))
          obtain ⟨gx, hgx⟩ : ∃ k, w9.heap.size = k := ⟨_, rfl⟩
          obtain ⟨V, hV⟩ : ∃ V, w9.alloc (.cells #[.slice A5 x.f0.length c5, .int .u64 x.f1.f0, .bool x.f1.f1, .int .i64 x.f1.f2.f0, .int .u64 x.f1.f2.f1, .int .i64 x.f1.f3, .int .i64 x.f1.f4] 41) = V := ⟨_, rfl⟩
          have v9 : Below w9.heap.size w9 V := by rw [← hV]; exact below_alloc (Below.refl _ _) _
          have HVX := Aside0.mk (show V.heap[gx]? = some (.cells #[.slice A5 x.f0.length c5, .int .u64 x.f1.f0, .bool x.f1.f1, .int .i64 x.f1.f2.f0, .int .u64 x.f1.f2.f1, .int .i64 x.f1.f3, .int .i64 x.f1.f4] 41 (0, 0)) by rw [← hV, ← hgx]; exact blk_new w9 _)
          have HVH := Aside0.mk (HH9.out.below v9)
          have HVO := Aside0.mk (Kd.R_below HO9.out v9)
          have HVI := Aside0.mk ((HI.out.kp HK9.out).below v9)
          have hvr := (v9.block gr (blk_lt ((HK9.out gr _ _ _ HRH.out (by decide) (by decide)).trans HRH.out))).trans ((HK9.out gr _ _ _ HRH.out (by decide) (by decide)).trans HRH.out)
          have HVR := Aside0.mk hvr
          have HWV := Aside0.mk (HB1.out.trans (HVH.out.be.mono HB1.out.size))
          have HRC := Aside0.mk (RefNext_calls w V A0 c0 gr ga l0 S HR.out HWV.out HS0.out HLF.out HGA.out.1 hvr HVI.out)
          rw [hgx, hV]
          clear v9 hgx hV HH9 HO9 HI hvr
          go_upto_region 12 with (first
            | (go_at_call 15; refine (HRC.out).mono ?_; rintro e w10 hh; unfold RefN at hh; rw [HM.out] at hh; obtain ⟨Bx, dx, rfl, hcx, hdx, hib, hgb⟩ := hh; have HCX := Aside0.mk (And.intro hcx hdx); have HIB := Aside0.mk hib; have HGB := Aside0.mk hgb; clear hcx hdx hib hgb))
          have hB10 : Below w1.heap.size w1 w10 := pw_below_grown HVH.out.be (some ga) HVH.out.be.size HGB.out (by rintro k ⟨⟩; exact HGA.out.2.1)
          obtain ⟨gy, hgy⟩ : ∃ k, w10.heap.size = k := ⟨_, rfl⟩
          obtain ⟨Y, hY⟩ : ∃ Y, w10.alloc (.cells #[.slice Bx x.f0.length dx, .int .u64 x.f1.f0, .bool x.f1.f1, .int .i64 x.f1.f2.f0, .int .u64 x.f1.f2.f1, .int .i64 x.f1.f3, .int .i64 x.f1.f4] 41) = Y := ⟨_, rfl⟩
          have b10 : Below w10.heap.size w10 Y := by rw [← hY]; exact below_alloc (Below.refl _ _) _
          have hYx : Y.heap[gx]? = some (.cells #[.slice A5 x.f0.length c5, .int .u64 x.f1.f0, .bool x.f1.f1, .int .i64 x.f1.f2.f0, .int .u64 x.f1.f2.f1, .int .i64 x.f1.f3, .int .i64 x.f1.f4] 41 (0, 0)) := (b10.block gx (blk_lt (blk_grown HVX.out HGB.out (fun e => blk_ne HVX.out HVI.out (by decide) (Option.some.inj e))))).trans (blk_grown HVX.out HGB.out (fun e => blk_ne HVX.out HVI.out (by decide) (Option.some.inj e)))
          have hYy : Y.heap[gy]? = some (.cells #[.slice Bx x.f0.length dx, .int .u64 x.f1.f0, .bool x.f1.f1, .int .i64 x.f1.f2.f0, .int .u64 x.f1.f2.f1, .int .i64 x.f1.f3, .int .i64 x.f1.f4] 41 (0, 0)) := by rw [← hY, ← hgy]; exact blk_new w10 _
          have HYH := Aside0.mk ((HVH.out.grownI hB10 HGB.out HVI.out).below b10)
          have HYI := Aside0.mk (HIB.out.below b10)
          have HYR := Aside0.mk ((b10.block gr (blk_lt (blk_grown HVR.out HGB.out (fun e => blk_ne HVR.out HVI.out (by decide) (Option.some.inj e))))).trans (blk_grown HVR.out HGB.out (fun e => blk_ne HVR.out HVI.out (by decide) (Option.some.inj e))))
          have hcA := Kd.C_string (P := Try.prog) (A := A5) (c := c5) Try.underlying34 Try.underlying5 Try.underlying9 (Kd.C_below (Kd.R_reads' (R_grownI HVO.out HGB.out HVI.out)).2.2 b10)
          have hcB := Kd.C_string (P := Try.prog) (A := Bx) (c := dx) Try.underlying34 Try.underlying5 Try.underlying9 (Kd.C_below HCX.out.1 b10)
          have x0 : Y.cell? ⟨gx, 0, none⟩ = some (.slice A5 x.f0.length c5) := (blk_cell hYx 0).trans rfl
          have y0 : Y.cell? ⟨gy, 0, none⟩ = some (.slice Bx x.f0.length dx) := (blk_cell hYy 0).trans rfl
          have x1 : Y.cell? ⟨gx, 1, none⟩ = some (.int .u64 x.f1.f0) := (blk_cell hYx 1).trans rfl
          have y1 : Y.cell? ⟨gy, 1, none⟩ = some (.int .u64 x.f1.f0) := (blk_cell hYy 1).trans rfl
          have x2 : Y.cell? ⟨gx, 2, none⟩ = some (.bool x.f1.f1) := (blk_cell hYx 2).trans rfl
          have y2 : Y.cell? ⟨gy, 2, none⟩ = some (.bool x.f1.f1) := (blk_cell hYy 2).trans rfl
          have x3 : Y.cell? ⟨gx, 3, none⟩ = some (.int .i64 x.f1.f2.f0) := (blk_cell hYx 3).trans rfl
          have y3 : Y.cell? ⟨gy, 3, none⟩ = some (.int .i64 x.f1.f2.f0) := (blk_cell hYy 3).trans rfl
          have x4 : Y.cell? ⟨gx, 4, none⟩ = some (.int .u64 x.f1.f2.f1) := (blk_cell hYx 4).trans rfl
          have y4 : Y.cell? ⟨gy, 4, none⟩ = some (.int .u64 x.f1.f2.f1) := (blk_cell hYy 4).trans rfl
          have x5 : Y.cell? ⟨gx, 5, none⟩ = some (.int .i64 x.f1.f3) := (blk_cell hYx 5).trans rfl
          have y5 : Y.cell? ⟨gy, 5, none⟩ = some (.int .i64 x.f1.f3) := (blk_cell hYy 5).trans rfl
          have x6 : Y.cell? ⟨gx, 6, none⟩ = some (.int .i64 x.f1.f4) := (blk_cell hYx 6).trans rfl
          have y6 : Y.cell? ⟨gy, 6, none⟩ = some (.int .i64 x.f1.f4) := (blk_cell hYy 6).trans rfl
          rw [hgy, hY]
          clear hgy hY hYx hYy b10 hB10
          go_wp2
          go_roundg (cntL S')
          case measure => have h1 := HK.out; obtain ⟨_, _, _, _, h2⟩ := mstep_some HM.out; omega
          case rel =>
            obtain ⟨_, _, _, _, h2⟩ := mstep_some HM.out
            exact ⟨t + 1, S', by first | rfl | rw [hwt], ⟨rfl⟩, ⟨by have := HT.out; omega⟩, HYH, ⟨left_step HLF.out HM.out⟩, HYI, HYR⟩
    · have e1 : (newE l0 == 0) = false := beq_eq_false_iff_ne.2 h0
      have HNW0 := Aside0.mk (show ∀ W, Below w.heap.size w W → Calls Try.prog 12 #[.slice A0 l0.length c0] W fun e w' => e = .returned (.tuple #[.pointer none, .int .i64 (newE l0)]) ∧ Below W.heap.size W w' from fun W hW => (HNW.out W hW).mono (by rintro e w' (⟨_, h⟩ | ⟨h, _⟩); exact h; exact absurd h h0))
      clear hsm hs hgr h0 hb
      go_enter Try.func3, Try.ntmps3
      go_wp2_with (first
        | (go_at_call 10; refine (HGR.out).mono ?_; rintro e w1 ⟨rfl, hd⟩; have HB1 := Aside0.mk hd.below; clear hd)
        | (go_at_call 12; refine (HNW0.out w1 HB1.out).mono ?_; rintro e w2 ⟨rfl, hb⟩; have HB2 := Aside0.mk (below_step HB1.out hb); clear hb)
        | (go_at_call 13; refine (HRW.out w2 HB2.out).mono ?_; rintro e w3 ⟨rfl, hd⟩; have HB3 := Aside0.mk (below_step HB2.out hd); clear hd))
      go_loopg [6] 1 (fun kq v6 w' => v6 = .int .i64 0 ∧ Aside0 (Below w.heap.size w w'))
      case atStart => exact ⟨rfl, ⟨below_alloc (below_alloc HB3.out _) _⟩⟩
      case round =>
        obtain ⟨rfl, HB⟩ := hrel
        go_wp2_with (first
          | (go_at_call 11; refine (rickyardlaw14_alive.calls true _ rfl).mono ?_; rintro e w7 ⟨rfl, hb⟩; have HB11 := Aside0.mk (below_step HB.out hb); clear hb))
        refine bodyPost_ret (results_tmp rfl _ _ _) rfl ?_
        exact ⟨rfl, HB11.out⟩
end Go.Proofs.Ytihdomhiiolojaa.P
