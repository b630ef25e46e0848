/- find: the last nodes ahead of a key, on each level. No conditions. -/
import Derived.Test.YteomanpaladdjaaSkList
import Derived.Test.YteomanpaladdjaaSkCalls
namespace Go.Proofs.Yteomanpaladdjaa.P
open Go.RowKit Go.Proofs.YteomanpaladdjaaW.PrintWords Go.Proofs.YteomanpaladdjaaW.PrintLast Go.Proofs.YteomanpaladdjaaW.PrintMore
set_option linter.unusedVariables false
set_option linter.unusedSimpArgs false
def pt (b : Nat) : Value := .pointer (some ⟨b, 0, none⟩)
def outV (g j : Nat) (F : List Nd) (k : Nat) : Value := if j < k then pt (pdB g k F) else .pointer none
def outC (g j : Nat) (F : List Nd) : List Value := [outV g j F 0, outV g j F 1, outV g j F 2, outV g j F 3, outV g j F 4, outV g j F 5, outV g j F 6, outV g j F 7]
theorem outC_set {g j : Nat} {F : List Nd} (hj : j + 1 < 8) : (outC g (j + 1) F).set (j + 1) (pt (pdB g (j + 1) F)) = outC g j F := by
  match j, hj with
  | 0, _ => rfl
  | 1, _ => rfl
  | 2, _ => rfl
  | 3, _ => rfl
  | 4, _ => rfl
  | 5, _ => rfl
  | 6, _ => rfl
theorem outC_end {g : Nat} {F : List Nd} : (outC g 0 F).set 0 (pt (pdB g 0 F)) = [pt (pdB g 0 F), pt (pdB g 1 F), pt (pdB g 2 F), pt (pdB g 3 F), pt (pdB g 4 F), pt (pdB g 5 F), pt (pdB g 6 F), pt (pdB g 7 F)] := rfl
set_option maxHeartbeats 4000000 in
set_option maxRecDepth 100000 in
theorem find_calls (W : World) (base : Nat) (ok : Nat → Prop) (g : Nat) (ns : List Nd) (sz : Int) (fr : Bool) (hL : SkL W base ok g ns sz fr) (A : Option Addr) (c : Nat) (key : List Int) (hk : Kd.C (Kd.int .u8) W A key.length key) (hkc : key.length ≤ c) :
    Calls Try.prog 33 #[.pointer (some ⟨g, 0, none⟩), .slice A key.length c] W fun e w' => e = .returned (.agg #[pt (pdB g 0 (ns.filter (lowB key))), pt (pdB g 1 (ns.filter (lowB key))), pt (pdB g 2 (ns.filter (lowB key))), pt (pdB g 3 (ns.filter (lowB key))), pt (pdB g 4 (ns.filter (lowB key))), pt (pdB g 5 (ns.filter (lowB key))), pt (pdB g 6 (ns.filter (lowB key))), pt (pdB g 7 (ns.filter (lowB key)))]) ∧ Below W.heap.size W w' := by
  have hu := Try.underlying61
  have hu2 := Try.underlying59
  have hu3 := Try.underlying57
  have HL := Aside0.mk hL
  have HK := Aside0.mk hk
  have hg0 : W.cell? ⟨g, 0, none⟩ = some (.slice none 0 0) := (blk_cell hL.head 0).trans rfl
  clear hL hk
  go_enter Try.func33, Try.ntmps33
  go_wp2
  refine wp_scope_straight ?_
  go_wp2
  refine wp_label ?_
  go_wp2
  go_loopg [6, 7] (ns.length + 7) (fun kq v6 v7 w' => ∃ (X Y : List Nd) (j : Nat), v6 = pt (lastB g X) ∧ v7 = .int .i64 (j : Int) ∧ Aside0 (ns = X ++ Y ∧ TopOk j X ∧ (∀ m ∈ X, cmpI m.e.f0 key < 0) ∧ j < 8 ∧ kq = Y.length + j) ∧ Aside0 (w'.heap[W.heap.size + 1]? = some (.cells (outC g j (ns.filter (lowB key))).toArray 57 (0, 0))) ∧ Aside0 (w'.heap[W.heap.size]? = some (.cells #[.pointer none, .pointer none, .pointer none, .pointer none, .pointer none, .pointer none, .pointer none, .pointer none] 57 (0, 0))) ∧ Aside0 (Below W.heap.size W w'))
  case atStart =>
    refine ⟨[], ns, 7, rfl, rfl, Aside0.mk ⟨rfl, (fun P m e => by simp at e), (fun m hm => by cases hm), by decide, rfl⟩, Aside0.mk ?_, Aside0.mk ?_, Aside0.mk ?_⟩
    · have := blk_new (W.alloc (.cells #[.pointer none, .pointer none, .pointer none, .pointer none, .pointer none, .pointer none, .pointer none, .pointer none] 57)) (.cells #[.pointer none, .pointer none, .pointer none, .pointer none, .pointer none, .pointer none, .pointer none, .pointer none] 57)
      rw [World.size_alloc] at this
      exact this
    · exact blk_alloc (blk_new _ _) _
    · exact below_alloc (below_alloc (Below.refl _ _) _) _
  case round =>
    obtain ⟨X, Y, j, rfl, rfl, HX, HO, HR, HB⟩ := hrel
    have hns := HX.out.1
    have HSK := Aside0.mk (show SkL W base ok g (X ++ Y) sz fr by rw [← hns]; exact HL.out)
    obtain ⟨at_, hat⟩ : ∃ b, lastB g X = b := ⟨_, rfl⟩
    have hnx := HSK.out.next HX.out.2.2.2.1 HX.out.2.1
    have hnx2 := cell_bl' hnx HB.out
    rw [hat] at hnx2 ⊢
    have j1 : (0 ≤ (j : Int)) = True := eq_true (Int.natCast_nonneg _)
    have j2 : ((j : Int) < 8) = True := eq_true (by have := HX.out.2.2.2.1; omega)
    have j3 : (j < 8) = True := eq_true HX.out.2.2.2.1
    rcases find_next (j := j) (key := key) HSK.out.rise HX.out.2.2.1 with ⟨h1, h2⟩ | ⟨P, n, Q, hY, h1, h2, h3⟩
    · rw [h1] at hnx2
      unfold pt
      clear hnx h1 hns
      rename World => w2
      have HH4 := Aside0.mk h2
      clear h2
      have HO2 := HO
      have HR2 := HR
      have HB2 := HB
      have hfz : w2.frozen? ⟨W.heap.size + 1, j, none⟩ = false := blk_frozen HO2.out j
      have hcl : w2.cell? ⟨W.heap.size + 1, j, none⟩ = some (outV g j (ns.filter (lowB key)) j) := (blk_cell HO2.out j).trans (by
        rw [List.getElem?_toArray]
        have := HX.out.2.2.2.1
        match j, this with
        | 0, _ => rfl
        | 1, _ => rfl
        | 2, _ => rfl
        | 3, _ => rfl
        | 4, _ => rfl
        | 5, _ => rfl
        | 6, _ => rfl
        | 7, _ => rfl)
      go_upto_region 8 with (fail)
      have hstop := find_stop (g := g) HX.out.2.1 HX.out.2.2.1 (fun m hm hj => by have := HH4.out m hm hj; omega)
      rw [← HX.out.1] at hstop
      obtain ⟨W8, hW8⟩ : ∃ W8, w2.setCell ⟨W.heap.size + 1, j, none⟩ (.pointer (some ⟨at_, 0, none⟩)) = W8 := ⟨_, rfl⟩
      have HB8 := Aside0.mk (show Below W.heap.size W W8 by rw [← hW8]; exact below_set HB2.out (Nat.le_succ _))
      rw [hW8]
      cases j with
      | zero =>
        have hO8 : W8.heap[W.heap.size + 1]? = some (.cells #[pt (pdB g 0 (ns.filter (lowB key))), pt (pdB g 1 (ns.filter (lowB key))), pt (pdB g 2 (ns.filter (lowB key))), pt (pdB g 3 (ns.filter (lowB key))), pt (pdB g 4 (ns.filter (lowB key))), pt (pdB g 5 (ns.filter (lowB key))), pt (pdB g 6 (ns.filter (lowB key))), pt (pdB g 7 (ns.filter (lowB key)))] 57 (0, 0)) := by
          rw [← hW8]; refine (blk_set HO2.out _ _).trans ?_; rw [List.setIfInBounds_toArray, ← hat, ← hstop]; rfl
        have hR8 : W8.heap[W.heap.size]? = some (.cells #[.pointer none, .pointer none, .pointer none, .pointer none, .pointer none, .pointer none, .pointer none, .pointer none] 57 (0, 0)) := by rw [← hW8]; exact blk_far HR2.out (show W.heap.size ≠ W.heap.size + 1 by omega) _
        have o0 : W8.cell? ⟨W.heap.size + 1, 0, none⟩ = some (.pointer (some ⟨pdB g 0 (ns.filter (lowB key)), 0, none⟩)) := (blk_cell hO8 0).trans rfl
        have o1 : W8.cell? ⟨W.heap.size + 1, 1, none⟩ = some (.pointer (some ⟨pdB g 1 (ns.filter (lowB key)), 0, none⟩)) := (blk_cell hO8 1).trans rfl
        have o2 : W8.cell? ⟨W.heap.size + 1, 2, none⟩ = some (.pointer (some ⟨pdB g 2 (ns.filter (lowB key)), 0, none⟩)) := (blk_cell hO8 2).trans rfl
        have o3 : W8.cell? ⟨W.heap.size + 1, 3, none⟩ = some (.pointer (some ⟨pdB g 3 (ns.filter (lowB key)), 0, none⟩)) := (blk_cell hO8 3).trans rfl
        have o4 : W8.cell? ⟨W.heap.size + 1, 4, none⟩ = some (.pointer (some ⟨pdB g 4 (ns.filter (lowB key)), 0, none⟩)) := (blk_cell hO8 4).trans rfl
        have o5 : W8.cell? ⟨W.heap.size + 1, 5, none⟩ = some (.pointer (some ⟨pdB g 5 (ns.filter (lowB key)), 0, none⟩)) := (blk_cell hO8 5).trans rfl
        have o6 : W8.cell? ⟨W.heap.size + 1, 6, none⟩ = some (.pointer (some ⟨pdB g 6 (ns.filter (lowB key)), 0, none⟩)) := (blk_cell hO8 6).trans rfl
        have o7 : W8.cell? ⟨W.heap.size + 1, 7, none⟩ = some (.pointer (some ⟨pdB g 7 (ns.filter (lowB key)), 0, none⟩)) := (blk_cell hO8 7).trans rfl
        clear hO8 hnx2 hfz hcl hstop
        have p0 : W8.cell? ⟨W.heap.size, 0, none⟩ = some (.pointer none) := (blk_cell hR8 0).trans rfl
        have q0 : W8.frozen? ⟨W.heap.size, 0, none⟩ = false := blk_frozen hR8 0
        have p1 : W8.cell? ⟨W.heap.size, 1, none⟩ = some (.pointer none) := (blk_cell hR8 1).trans rfl
        have q1 : W8.frozen? ⟨W.heap.size, 1, none⟩ = false := blk_frozen hR8 1
        have p2 : W8.cell? ⟨W.heap.size, 2, none⟩ = some (.pointer none) := (blk_cell hR8 2).trans rfl
        have q2 : W8.frozen? ⟨W.heap.size, 2, none⟩ = false := blk_frozen hR8 2
        have p3 : W8.cell? ⟨W.heap.size, 3, none⟩ = some (.pointer none) := (blk_cell hR8 3).trans rfl
        have q3 : W8.frozen? ⟨W.heap.size, 3, none⟩ = false := blk_frozen hR8 3
        have p4 : W8.cell? ⟨W.heap.size, 4, none⟩ = some (.pointer none) := (blk_cell hR8 4).trans rfl
        have q4 : W8.frozen? ⟨W.heap.size, 4, none⟩ = false := blk_frozen hR8 4
        have p5 : W8.cell? ⟨W.heap.size, 5, none⟩ = some (.pointer none) := (blk_cell hR8 5).trans rfl
        have q5 : W8.frozen? ⟨W.heap.size, 5, none⟩ = false := blk_frozen hR8 5
        have p6 : W8.cell? ⟨W.heap.size, 6, none⟩ = some (.pointer none) := (blk_cell hR8 6).trans rfl
        have q6 : W8.frozen? ⟨W.heap.size, 6, none⟩ = false := blk_frozen hR8 6
        have p7 : W8.cell? ⟨W.heap.size, 7, none⟩ = some (.pointer none) := (blk_cell hR8 7).trans rfl
        have q7 : W8.frozen? ⟨W.heap.size, 7, none⟩ = false := blk_frozen hR8 7
        go_wp2
        try (unfold Exit.noGoto; dsimp only)
        refine bodyPost_ret (results_cell_row rfl _ _ W.heap.size 57 #[.pointer (some ⟨pdB g 0 (ns.filter (lowB key)), 0, none⟩), .pointer (some ⟨pdB g 1 (ns.filter (lowB key)), 0, none⟩), .pointer (some ⟨pdB g 2 (ns.filter (lowB key)), 0, none⟩), .pointer (some ⟨pdB g 3 (ns.filter (lowB key)), 0, none⟩), .pointer (some ⟨pdB g 4 (ns.filter (lowB key)), 0, none⟩), .pointer (some ⟨pdB g 5 (ns.filter (lowB key)), 0, none⟩), .pointer (some ⟨pdB g 6 (ns.filter (lowB key)), 0, none⟩), .pointer (some ⟨pdB g 7 (ns.filter (lowB key)), 0, none⟩)] (0, 0) _ rfl (by refine blk_put (cs := #[.pointer (some ⟨pdB g 0 (ns.filter (lowB key)), 0, none⟩), .pointer (some ⟨pdB g 1 (ns.filter (lowB key)), 0, none⟩), .pointer (some ⟨pdB g 2 (ns.filter (lowB key)), 0, none⟩), .pointer (some ⟨pdB g 3 (ns.filter (lowB key)), 0, none⟩), .pointer (some ⟨pdB g 4 (ns.filter (lowB key)), 0, none⟩), .pointer (some ⟨pdB g 5 (ns.filter (lowB key)), 0, none⟩), .pointer (some ⟨pdB g 6 (ns.filter (lowB key)), 0, none⟩), .pointer none]) ?_ 7 _ rfl; refine blk_put (cs := #[.pointer (some ⟨pdB g 0 (ns.filter (lowB key)), 0, none⟩), .pointer (some ⟨pdB g 1 (ns.filter (lowB key)), 0, none⟩), .pointer (some ⟨pdB g 2 (ns.filter (lowB key)), 0, none⟩), .pointer (some ⟨pdB g 3 (ns.filter (lowB key)), 0, none⟩), .pointer (some ⟨pdB g 4 (ns.filter (lowB key)), 0, none⟩), .pointer (some ⟨pdB g 5 (ns.filter (lowB key)), 0, none⟩), .pointer none, .pointer none]) ?_ 6 _ rfl; refine blk_put (cs := #[.pointer (some ⟨pdB g 0 (ns.filter (lowB key)), 0, none⟩), .pointer (some ⟨pdB g 1 (ns.filter (lowB key)), 0, none⟩), .pointer (some ⟨pdB g 2 (ns.filter (lowB key)), 0, none⟩), .pointer (some ⟨pdB g 3 (ns.filter (lowB key)), 0, none⟩), .pointer (some ⟨pdB g 4 (ns.filter (lowB key)), 0, none⟩), .pointer none, .pointer none, .pointer none]) ?_ 5 _ rfl; refine blk_put (cs := #[.pointer (some ⟨pdB g 0 (ns.filter (lowB key)), 0, none⟩), .pointer (some ⟨pdB g 1 (ns.filter (lowB key)), 0, none⟩), .pointer (some ⟨pdB g 2 (ns.filter (lowB key)), 0, none⟩), .pointer (some ⟨pdB g 3 (ns.filter (lowB key)), 0, none⟩), .pointer none, .pointer none, .pointer none, .pointer none]) ?_ 4 _ rfl; refine blk_put (cs := #[.pointer (some ⟨pdB g 0 (ns.filter (lowB key)), 0, none⟩), .pointer (some ⟨pdB g 1 (ns.filter (lowB key)), 0, none⟩), .pointer (some ⟨pdB g 2 (ns.filter (lowB key)), 0, none⟩), .pointer none, .pointer none, .pointer none, .pointer none, .pointer none]) ?_ 3 _ rfl; refine blk_put (cs := #[.pointer (some ⟨pdB g 0 (ns.filter (lowB key)), 0, none⟩), .pointer (some ⟨pdB g 1 (ns.filter (lowB key)), 0, none⟩), .pointer none, .pointer none, .pointer none, .pointer none, .pointer none, .pointer none]) ?_ 2 _ rfl; refine blk_put (cs := #[.pointer (some ⟨pdB g 0 (ns.filter (lowB key)), 0, none⟩), .pointer none, .pointer none, .pointer none, .pointer none, .pointer none, .pointer none, .pointer none]) ?_ 1 _ rfl; refine blk_put (cs := #[.pointer none, .pointer none, .pointer none, .pointer none, .pointer none, .pointer none, .pointer none, .pointer none]) ?_ 0 _ rfl; exact hR8) hu3 rfl (by kernel_rfl)) rfl ?_
        exact ⟨rfl, below_set (below_set (below_set (below_set (below_set (below_set (below_set (below_set (HB8.out) (Nat.le_refl _)) (Nat.le_refl _)) (Nat.le_refl _)) (Nat.le_refl _)) (Nat.le_refl _)) (Nat.le_refl _)) (Nat.le_refl _)) (Nat.le_refl _)⟩
      | succ j =>
        have e1 : (((j + 1 : Nat) : Int) == 0) = false := by rw [beq_eq_false_iff_ne]; omega
        have e2 : decide (((j + 1 : Nat) : Int) = 0) = false := decide_eq_false (by omega)
        have hw1 : wrap64 (j : Int) = (j : Int) := by have := HX.out.2.2.2.1; unfold wrap64; omega
        go_wp2
        go_roundg (Y.length + j)
        case measure => have := HX.out.2.2.2.2; omega
        case rel => exact ⟨X, Y, j, by rw [hat]; rfl, by first | rfl | rw [hw1], ⟨HX.out.1, fun P m e => Nat.lt_of_succ_lt (HX.out.2.1 P m e), HX.out.2.2.1, Nat.lt_of_succ_lt HX.out.2.2.2.1, rfl⟩, ⟨by rw [← hW8, ← outC_set HX.out.2.2.2.1, hstop, hat]; refine (blk_set HO2.out _ _).trans ?_; rw [List.setIfInBounds_toArray]; rfl⟩, ⟨by rw [← hW8]; exact blk_far HR2.out (show W.heap.size ≠ W.heap.size + 1 by omega) _⟩, HB8⟩
    · rw [h2] at hnx2
      unfold pt
      clear hnx h2 hns
      have hna := SkN_at (X := X ++ P) (Y := Q) (n := n) (by have := HSK.out.nodes; rw [hY, ← List.append_assoc] at this; exact this)
      have hnk := Kd.R_reads' hna.2.2.2
      have HNC := Aside0.mk (Kd.C_below hnk.2.2 HB.out)
      have hnk2 := hnk.2.1
      have hn0 := cell_bl' ((blk_cell hna.1 0).trans (show (ndC n Q).toArray[0]? = some (.slice n.A n.e.f0.length n.c) from rfl)) HB.out
      have HKC := Aside0.mk (Kd.C_below HK.out HB.out)
      have HH1 := Aside0.mk h1
      have HYY := Aside0.mk hY
      obtain ⟨nb, hnb⟩ : ∃ x, n.b = x := ⟨_, rfl⟩
      have HNB := Aside0.mk hnb
      rw [hnb] at hn0 hnx2
      obtain ⟨r, hr⟩ : ∃ r, cmpI n.e.f0 key = r := ⟨_, rfl⟩
      rw [hr] at h3
      have HR3 := Aside0.mk hr
      clear hna hnk h1 hY hnb hr
      rcases h3 with ⟨h3, h4⟩ | ⟨h3, h4⟩
      · have d1 : decide (r < 0) = true := decide_eq_true h3
        have HH4 := Aside0.mk h4
        clear h4
        go_wp2_with (first | (go_at_call 40; refine (bytes_Compare.calls n.A n.c n.e.f0 A c key _ _ HNC.out hnk2 HKC.out hkc (congrArg some HR3.out)).mono ?_; rintro e w2 ⟨rfl, hd⟩; have HO2 := Aside0.mk (blk_below HO.out hd.below); have HR2 := Aside0.mk (blk_below HR.out hd.below); have HB2 := Aside0.mk (HB.out.trans (hd.below.mono HB.out.size)); clear hd))
        go_roundg (Q.length + j)
        case measure => have := HX.out.2.2.2.2; have e := congrArg List.length HYY.out; simp only [List.length_append, List.length_cons] at e; omega
        case rel => exact ⟨X ++ P ++ [n], Q, j, by rw [lastB_snoc, HNB.out]; rfl, rfl, ⟨by rw [HX.out.1, HYY.out]; simp, TopOk.snoc HH1.out, HH4.out, HX.out.2.2.2.1, rfl⟩, HO2, HR2, HB2⟩
      · have d1 : decide (r < 0) = false := decide_eq_false h3
        have HH4 := Aside0.mk h4
        clear h4
        go_upto_region 7 with (first | (go_at_call 40; refine (bytes_Compare.calls n.A n.c n.e.f0 A c key _ _ HNC.out hnk2 HKC.out hkc (congrArg some HR3.out)).mono ?_; rintro e w2 ⟨rfl, hd⟩; have HO2 := Aside0.mk (blk_below HO.out hd.below); have HR2 := Aside0.mk (blk_below HR.out hd.below); have HB2 := Aside0.mk (HB.out.trans (hd.below.mono HB.out.size)); clear hd))
        clear HO HR HB
        have hfz : w2.frozen? ⟨W.heap.size + 1, j, none⟩ = false := blk_frozen HO2.out j
        have hcl : w2.cell? ⟨W.heap.size + 1, j, none⟩ = some (outV g j (ns.filter (lowB key)) j) := (blk_cell HO2.out j).trans (by
          rw [List.getElem?_toArray]
          have := HX.out.2.2.2.1
          match j, this with
          | 0, _ => rfl
          | 1, _ => rfl
          | 2, _ => rfl
          | 3, _ => rfl
          | 4, _ => rfl
          | 5, _ => rfl
          | 6, _ => rfl
          | 7, _ => rfl)
        go_upto_region 8 with (fail)
        have hstop := find_stop (g := g) HX.out.2.1 HX.out.2.2.1 (fun m hm hj => by have := HH4.out m hm hj; omega)
        rw [← HX.out.1] at hstop
        obtain ⟨W8, hW8⟩ : ∃ W8, w2.setCell ⟨W.heap.size + 1, j, none⟩ (.pointer (some ⟨at_, 0, none⟩)) = W8 := ⟨_, rfl⟩
        have HB8 := Aside0.mk (show Below W.heap.size W W8 by rw [← hW8]; exact below_set HB2.out (Nat.le_succ _))
        rw [hW8]
        cases j with
        | zero =>
          have hO8 : W8.heap[W.heap.size + 1]? = some (.cells #[pt (pdB g 0 (ns.filter (lowB key))), pt (pdB g 1 (ns.filter (lowB key))), pt (pdB g 2 (ns.filter (lowB key))), pt (pdB g 3 (ns.filter (lowB key))), pt (pdB g 4 (ns.filter (lowB key))), pt (pdB g 5 (ns.filter (lowB key))), pt (pdB g 6 (ns.filter (lowB key))), pt (pdB g 7 (ns.filter (lowB key)))] 57 (0, 0)) := by
            rw [← hW8]; refine (blk_set HO2.out _ _).trans ?_; rw [List.setIfInBounds_toArray, ← hat, ← hstop]; rfl
          have hR8 : W8.heap[W.heap.size]? = some (.cells #[.pointer none, .pointer none, .pointer none, .pointer none, .pointer none, .pointer none, .pointer none, .pointer none] 57 (0, 0)) := by rw [← hW8]; exact blk_far HR2.out (show W.heap.size ≠ W.heap.size + 1 by omega) _
          have o0 : W8.cell? ⟨W.heap.size + 1, 0, none⟩ = some (.pointer (some ⟨pdB g 0 (ns.filter (lowB key)), 0, none⟩)) := (blk_cell hO8 0).trans rfl
          have o1 : W8.cell? ⟨W.heap.size + 1, 1, none⟩ = some (.pointer (some ⟨pdB g 1 (ns.filter (lowB key)), 0, none⟩)) := (blk_cell hO8 1).trans rfl
          have o2 : W8.cell? ⟨W.heap.size + 1, 2, none⟩ = some (.pointer (some ⟨pdB g 2 (ns.filter (lowB key)), 0, none⟩)) := (blk_cell hO8 2).trans rfl
          have o3 : W8.cell? ⟨W.heap.size + 1, 3, none⟩ = some (.pointer (some ⟨pdB g 3 (ns.filter (lowB key)), 0, none⟩)) := (blk_cell hO8 3).trans rfl
          have o4 : W8.cell? ⟨W.heap.size + 1, 4, none⟩ = some (.pointer (some ⟨pdB g 4 (ns.filter (lowB key)), 0, none⟩)) := (blk_cell hO8 4).trans rfl
          have o5 : W8.cell? ⟨W.heap.size + 1, 5, none⟩ = some (.pointer (some ⟨pdB g 5 (ns.filter (lowB key)), 0, none⟩)) := (blk_cell hO8 5).trans rfl
          have o6 : W8.cell? ⟨W.heap.size + 1, 6, none⟩ = some (.pointer (some ⟨pdB g 6 (ns.filter (lowB key)), 0, none⟩)) := (blk_cell hO8 6).trans rfl
          have o7 : W8.cell? ⟨W.heap.size + 1, 7, none⟩ = some (.pointer (some ⟨pdB g 7 (ns.filter (lowB key)), 0, none⟩)) := (blk_cell hO8 7).trans rfl
          clear hO8 hnx2 hfz hcl hstop
          have p0 : W8.cell? ⟨W.heap.size, 0, none⟩ = some (.pointer none) := (blk_cell hR8 0).trans rfl
          have q0 : W8.frozen? ⟨W.heap.size, 0, none⟩ = false := blk_frozen hR8 0
          have p1 : W8.cell? ⟨W.heap.size, 1, none⟩ = some (.pointer none) := (blk_cell hR8 1).trans rfl
          have q1 : W8.frozen? ⟨W.heap.size, 1, none⟩ = false := blk_frozen hR8 1
          have p2 : W8.cell? ⟨W.heap.size, 2, none⟩ = some (.pointer none) := (blk_cell hR8 2).trans rfl
          have q2 : W8.frozen? ⟨W.heap.size, 2, none⟩ = false := blk_frozen hR8 2
          have p3 : W8.cell? ⟨W.heap.size, 3, none⟩ = some (.pointer none) := (blk_cell hR8 3).trans rfl
          have q3 : W8.frozen? ⟨W.heap.size, 3, none⟩ = false := blk_frozen hR8 3
          have p4 : W8.cell? ⟨W.heap.size, 4, none⟩ = some (.pointer none) := (blk_cell hR8 4).trans rfl
          have q4 : W8.frozen? ⟨W.heap.size, 4, none⟩ = false := blk_frozen hR8 4
          have p5 : W8.cell? ⟨W.heap.size, 5, none⟩ = some (.pointer none) := (blk_cell hR8 5).trans rfl
          have q5 : W8.frozen? ⟨W.heap.size, 5, none⟩ = false := blk_frozen hR8 5
          have p6 : W8.cell? ⟨W.heap.size, 6, none⟩ = some (.pointer none) := (blk_cell hR8 6).trans rfl
          have q6 : W8.frozen? ⟨W.heap.size, 6, none⟩ = false := blk_frozen hR8 6
          have p7 : W8.cell? ⟨W.heap.size, 7, none⟩ = some (.pointer none) := (blk_cell hR8 7).trans rfl
          have q7 : W8.frozen? ⟨W.heap.size, 7, none⟩ = false := blk_frozen hR8 7
          go_wp2
          try (unfold Exit.noGoto; dsimp only)
          refine bodyPost_ret (results_cell_row rfl _ _ W.heap.size 57 #[.pointer (some ⟨pdB g 0 (ns.filter (lowB key)), 0, none⟩), .pointer (some ⟨pdB g 1 (ns.filter (lowB key)), 0, none⟩), .pointer (some ⟨pdB g 2 (ns.filter (lowB key)), 0, none⟩), .pointer (some ⟨pdB g 3 (ns.filter (lowB key)), 0, none⟩), .pointer (some ⟨pdB g 4 (ns.filter (lowB key)), 0, none⟩), .pointer (some ⟨pdB g 5 (ns.filter (lowB key)), 0, none⟩), .pointer (some ⟨pdB g 6 (ns.filter (lowB key)), 0, none⟩), .pointer (some ⟨pdB g 7 (ns.filter (lowB key)), 0, none⟩)] (0, 0) _ rfl (by refine blk_put (cs := #[.pointer (some ⟨pdB g 0 (ns.filter (lowB key)), 0, none⟩), .pointer (some ⟨pdB g 1 (ns.filter (lowB key)), 0, none⟩), .pointer (some ⟨pdB g 2 (ns.filter (lowB key)), 0, none⟩), .pointer (some ⟨pdB g 3 (ns.filter (lowB key)), 0, none⟩), .pointer (some ⟨pdB g 4 (ns.filter (lowB key)), 0, none⟩), .pointer (some ⟨pdB g 5 (ns.filter (lowB key)), 0, none⟩), .pointer (some ⟨pdB g 6 (ns.filter (lowB key)), 0, none⟩), .pointer none]) ?_ 7 _ rfl; refine blk_put (cs := #[.pointer (some ⟨pdB g 0 (ns.filter (lowB key)), 0, none⟩), .pointer (some ⟨pdB g 1 (ns.filter (lowB key)), 0, none⟩), .pointer (some ⟨pdB g 2 (ns.filter (lowB key)), 0, none⟩), .pointer (some ⟨pdB g 3 (ns.filter (lowB key)), 0, none⟩), .pointer (some ⟨pdB g 4 (ns.filter (lowB key)), 0, none⟩), .pointer (some ⟨pdB g 5 (ns.filter (lowB key)), 0, none⟩), .pointer none, .pointer none]) ?_ 6 _ rfl; refine blk_put (cs := #[.pointer (some ⟨pdB g 0 (ns.filter (lowB key)), 0, none⟩), .pointer (some ⟨pdB g 1 (ns.filter (lowB key)), 0, none⟩), .pointer (some ⟨pdB g 2 (ns.filter (lowB key)), 0, none⟩), .pointer (some ⟨pdB g 3 (ns.filter (lowB key)), 0, none⟩), .pointer (some ⟨pdB g 4 (ns.filter (lowB key)), 0, none⟩), .pointer none, .pointer none, .pointer none]) ?_ 5 _ rfl; refine blk_put (cs := #[.pointer (some ⟨pdB g 0 (ns.filter (lowB key)), 0, none⟩), .pointer (some ⟨pdB g 1 (ns.filter (lowB key)), 0, none⟩), .pointer (some ⟨pdB g 2 (ns.filter (lowB key)), 0, none⟩), .pointer (some ⟨pdB g 3 (ns.filter (lowB key)), 0, none⟩), .pointer none, .pointer none, .pointer none, .pointer none]) ?_ 4 _ rfl; refine blk_put (cs := #[.pointer (some ⟨pdB g 0 (ns.filter (lowB key)), 0, none⟩), .pointer (some ⟨pdB g 1 (ns.filter (lowB key)), 0, none⟩), .pointer (some ⟨pdB g 2 (ns.filter (lowB key)), 0, none⟩), .pointer none, .pointer none, .pointer none, .pointer none, .pointer none]) ?_ 3 _ rfl; refine blk_put (cs := #[.pointer (some ⟨pdB g 0 (ns.filter (lowB key)), 0, none⟩), .pointer (some ⟨pdB g 1 (ns.filter (lowB key)), 0, none⟩), .pointer none, .pointer none, .pointer none, .pointer none, .pointer none, .pointer none]) ?_ 2 _ rfl; refine blk_put (cs := #[.pointer (some ⟨pdB g 0 (ns.filter (lowB key)), 0, none⟩), .pointer none, .pointer none, .pointer none, .pointer none, .pointer none, .pointer none, .pointer none]) ?_ 1 _ rfl; refine blk_put (cs := #[.pointer none, .pointer none, .pointer none, .pointer none, .pointer none, .pointer none, .pointer none, .pointer none]) ?_ 0 _ rfl; exact hR8) hu3 rfl (by kernel_rfl)) rfl ?_
          exact ⟨rfl, below_set (below_set (below_set (below_set (below_set (below_set (below_set (below_set (HB8.out) (Nat.le_refl _)) (Nat.le_refl _)) (Nat.le_refl _)) (Nat.le_refl _)) (Nat.le_refl _)) (Nat.le_refl _)) (Nat.le_refl _)) (Nat.le_refl _)⟩
        | succ j =>
          have e1 : (((j + 1 : Nat) : Int) == 0) = false := by rw [beq_eq_false_iff_ne]; omega
          have e2 : decide (((j + 1 : Nat) : Int) = 0) = false := decide_eq_false (by omega)
          have hw1 : wrap64 (j : Int) = (j : Int) := by have := HX.out.2.2.2.1; unfold wrap64; omega
          go_wp2
          go_roundg (Y.length + j)
          case measure => have := HX.out.2.2.2.2; omega
          case rel => exact ⟨X, Y, j, by rw [hat]; rfl, by first | rfl | rw [hw1], ⟨HX.out.1, fun P m e => Nat.lt_of_succ_lt (HX.out.2.1 P m e), HX.out.2.2.1, Nat.lt_of_succ_lt HX.out.2.2.2.1, rfl⟩, ⟨by rw [← hW8, ← outC_set HX.out.2.2.2.1, hstop, hat]; refine (blk_set HO2.out _ _).trans ?_; rw [List.setIfInBounds_toArray]; rfl⟩, ⟨by rw [← hW8]; exact blk_far HR2.out (show W.heap.size ≠ W.heap.size + 1 by omega) _⟩, HB8⟩
end Go.Proofs.Yteomanpaladdjaa.P
