/- Get, All, and what they are of no list. No conditions. -/
import Derived.Test.YteomanpaladdjaaSkSeek
namespace Go.Proofs.Yteomanpaladdjaa.P
open Go.RowKit Go.Proofs.Yteomanpaladdjaa.Pure Go.Proofs.YteomanpaladdjaaW.PrintWords Go.Proofs.YteomanpaladdjaaW.PrintLast Go.Proofs.YteomanpaladdjaaW.PrintMore
set_option linter.unusedVariables false
set_option linter.unusedSimpArgs false
theorem Seek_S {w : World} {base g : Nat} {ok : Nat → Prop} {es : List En} {fr : Bool} (hS : SkS w base ok g es fr) (hg : GoodL es) (A0 : Option Addr) (c0 : Nat) (key : List Int) (hk : Kd.C (Kd.int .u8) w A0 key.length key) (hc0 : key.length ≤ c0) (most : Int) :
    Calls Try.prog 14 #[.pointer (some ⟨g, 0, none⟩), .slice A0 key.length c0, .int .i64 most] w fun e w' => ∃ v, e = .returned v ∧ Kd.S k38 38 w' w.heap.size (fun _ => True) v (seekE es key most) ∧ Below w.heap.size w w' := by
  unfold seekE
  by_cases h : most < 1
  · rw [if_pos h]
    refine (Seek_few w g A0 key.length c0 most h).mono ?_
    rintro e w' ⟨rfl, hb⟩
    exact ⟨_, rfl, Kd.S_nil _ _ _ _ _, hb⟩
  · rw [if_neg h]
    obtain ⟨m, rfl⟩ : ∃ m : Nat, most = (m : Int) := ⟨most.toNat, by omega⟩
    rw [Int.toNat_natCast]
    exact Seek_walk hS A0 c0 key hk hc0 m (by omega) (fun y hy => by have := (hg.keys y hy).2; omega) hg.most
theorem cmpI_nil_right (a : List Int) : ¬ cmpI a [] < 0 := by
  unfold cmpI
  cases a with
  | nil => decide
  | cons x a => simp [Lib.bytesOf, Lib.compareBytes]
set_option maxHeartbeats 1000000 in
set_option maxRecDepth 100000 in
theorem All_S {w : World} {base g : Nat} {ok : Nat → Prop} {es : List En} {fr : Bool} (hS : SkS w base ok g es fr) (hg : GoodL es) :
    Calls Try.prog 12 #[.pointer (some ⟨g, 0, none⟩)] w fun e w' => ∃ v, e = .returned v ∧ Kd.S k38 38 w' w.heap.size (fun _ => True) v es ∧ Below w.heap.size w w' := by
  have hs := Seek_S hS hg none 0 [] (Kd.R_reads' (Kd.R_nil (Kd.int .u8) 5 w 0 (fun _ => True))).2.2 (Nat.le_refl _) 4096
  have e : seekE es [] 4096 = es := by
    unfold seekE fromE
    rw [if_neg (by decide)]
    have : es.filter (fun y => !decide (cmpI y.f0 [] < 0)) = es := by
      rw [List.filter_eq_self]
      intro y hy
      have : ¬ cmpI y.f0 [] < 0 := cmpI_nil_right _
      rw [decide_eq_false this]; rfl
    rw [this]
    exact List.take_of_length_le hg.most
  rw [e] at hs
  have HS := Aside0.mk hs
  clear hs hS
  go_enter Try.func12, Try.ntmps12
  go_wp2_with (first | (go_at_call 14; refine (HS.out).mono ?_; rintro e w2 ⟨v, rfl, hv, hb⟩; have HV := Aside0.mk hv; have HB := Aside0.mk hb; clear hv hb))
  go_ret
  exact ⟨v, rfl, HV.out, HB.out⟩
set_option maxHeartbeats 1000000 in
theorem All_nil (w : World) : Calls Try.prog 12 #[.pointer none] w fun e w' => e = .returned (.slice none 0 0) ∧ Below w.heap.size w w' := by
  have HS := Aside0.mk (Seek_none w none 0 0 4096)
  go_enter Try.func12, Try.ntmps12
  go_wp2_with (first | (go_at_call 14; refine (HS.out).mono ?_; rintro e w2 ⟨rfl, hb⟩; have HB := Aside0.mk hb; clear hb))
  go_ret
  exact ⟨rfl, HB.out⟩
abbrev zAg : Ag := ⟨0, false, ⟨0, 0⟩, 0, 0⟩
def getE (es : List En) (key : List Int) : Ag × Bool := match fromE key es with | [] => (zAg, false) | y :: _ => if cmpI y.f0 key = 0 then (y.f1, true) else (zAg, false)
def gA (l : List En) (key : List Int) : Ag := match l with | [] => zAg | y :: _ => if cmpI y.f0 key = 0 then y.f1 else zAg
def gB (l : List En) (key : List Int) : Bool := match l with | [] => false | y :: _ => decide (cmpI y.f0 key = 0)
abbrev agCs (x : Ag) : Array Value := #[.int .u64 x.f0, .bool x.f1, .int .i64 x.f2.f0, .int .u64 x.f2.f1, .int .i64 x.f3, .int .i64 x.f4]

set_option maxHeartbeats 4000000 in
set_option maxRecDepth 100000 in
/-- Get, from what Seek tells. -/
theorem Get_of (w : World) (p : Value) (A0 : Option Addr) (c0 : Nat) (key : List Int) (hk : Kd.C (Kd.int .u8) w A0 key.length key) (hc0 : key.length ≤ c0) (L1 : List En) (hl : L1 = [] ∨ ∃ y, L1 = [y])
    (hs : ∀ W, Below w.heap.size w W → Calls Try.prog 14 #[p, .slice A0 key.length c0, .int .i64 1] W fun e w' => ∃ v, e = .returned v ∧ Kd.S k38 38 w' W.heap.size (fun _ => True) v L1 ∧ Below W.heap.size W w') :
    Calls Try.prog 16 #[p, .slice A0 key.length c0] w fun e w' => e = .returned (.tuple #[agV (gA L1 key), .bool (gB L1 key)]) ∧ Below w.heap.size w w' := by
  have hu4 := Try.underlying38
  have hu5 := Try.underlying36
  have HS := Aside0.mk hs
  have HK := Aside0.mk hk
  have HC := Aside0.mk hc0
  clear hs hk hc0
  rcases hl with rfl | ⟨y, rfl⟩
  · go_enter Try.func16, Try.ntmps16
    have hb0 : Below w.heap.size w (w.alloc (.cells (agCs zAg) 36)) := below_alloc (Below.refl _ _) _
    go_wp2_with (first | (go_at_call 14; refine (HS.out _ hb0).mono ?_; rintro e w2 ⟨v, rfl, hv, hb⟩; obtain ⟨A1, c1, rfl⟩ := Kd.S_slice hv; have HB := Aside0.mk (show Below w.heap.size w w2 from hb0.trans (hb.mono hb0.size)); have HG := Aside0.mk (show w2.heap[w.heap.size]? = some (.cells (agCs zAg) 36 (0, 0)) from blk_below (blk_new w _) hb); clear hv hb))
    rename World => WX
    have g0 : WX.cell? ⟨w.heap.size, 0, none⟩ = some (.int .u64 0) := (blk_cell HG.out 0).trans rfl
    have q0 : WX.frozen? ⟨w.heap.size, 0, none⟩ = false := blk_frozen HG.out 0
    have g1 : WX.cell? ⟨w.heap.size, 1, none⟩ = some (.bool false) := (blk_cell HG.out 1).trans rfl
    have q1 : WX.frozen? ⟨w.heap.size, 1, none⟩ = false := blk_frozen HG.out 1
    have g2 : WX.cell? ⟨w.heap.size, 2, none⟩ = some (.int .i64 0) := (blk_cell HG.out 2).trans rfl
    have q2 : WX.frozen? ⟨w.heap.size, 2, none⟩ = false := blk_frozen HG.out 2
    have g3 : WX.cell? ⟨w.heap.size, 3, none⟩ = some (.int .u64 0) := (blk_cell HG.out 3).trans rfl
    have q3 : WX.frozen? ⟨w.heap.size, 3, none⟩ = false := blk_frozen HG.out 3
    have g4 : WX.cell? ⟨w.heap.size, 4, none⟩ = some (.int .i64 0) := (blk_cell HG.out 4).trans rfl
    have q4 : WX.frozen? ⟨w.heap.size, 4, none⟩ = false := blk_frozen HG.out 4
    have g5 : WX.cell? ⟨w.heap.size, 5, none⟩ = some (.int .i64 0) := (blk_cell HG.out 5).trans rfl
    have q5 : WX.frozen? ⟨w.heap.size, 5, none⟩ = false := blk_frozen HG.out 5
    go_loopg [12] 1 (fun kq v12 w' => v12 = .int .i64 0 ∧ w' = WX)
    case atStart => exact ⟨rfl, rfl⟩
    case round =>
      obtain ⟨rfl, rfl⟩ := hrel
      go_wp2
      refine bodyPost_ret (results_ct rfl _ _ w.heap.size 36 #[.int .u64 0, .bool false, .int .i64 0, .int .u64 0, .int .i64 0, .int .i64 0] (0, 0) _ rfl (by refine blk_put (cs := #[.int .u64 0, .bool false, .int .i64 0, .int .u64 0, .int .i64 0, .int .i64 0]) ?_ 5 _ rfl; refine blk_put (cs := #[.int .u64 0, .bool false, .int .i64 0, .int .u64 0, .int .i64 0, .int .i64 0]) ?_ 4 _ rfl; refine blk_put (cs := #[.int .u64 0, .bool false, .int .i64 0, .int .u64 0, .int .i64 0, .int .i64 0]) ?_ 3 _ rfl; refine blk_put (cs := #[.int .u64 0, .bool false, .int .i64 0, .int .u64 0, .int .i64 0, .int .i64 0]) ?_ 2 _ rfl; refine blk_put (cs := #[.int .u64 0, .bool false, .int .i64 0, .int .u64 0, .int .i64 0, .int .i64 0]) ?_ 1 _ rfl; refine blk_put (cs := #[.int .u64 0, .bool false, .int .i64 0, .int .u64 0, .int .i64 0, .int .i64 0]) ?_ 0 _ rfl; exact HG.out) hu5 rfl (by kernel_rfl)) rfl ?_
      exact ⟨rfl, below_set (below_set (below_set (below_set (below_set (below_set (HB.out) (Nat.le_refl _)) (Nat.le_refl _)) (Nat.le_refl _)) (Nat.le_refl _)) (Nat.le_refl _)) (Nat.le_refl _)⟩
  · go_enter Try.func16, Try.ntmps16
    have hb0 : Below w.heap.size w (w.alloc (.cells (agCs zAg) 36)) := below_alloc (Below.refl _ _) _
    go_wp2_with (first | (go_at_call 14; refine (HS.out _ hb0).mono ?_; rintro e w2 ⟨v, rfl, hv, hb⟩; obtain ⟨A1, c1, rfl⟩ := Kd.S_slice hv; have HV := Aside0.mk (Kd.S_reads' hv).2.2; have HB := Aside0.mk (show Below w.heap.size w w2 from hb0.trans (hb.mono hb0.size)); have HG := Aside0.mk (show w2.heap[w.heap.size]? = some (.cells (agCs zAg) 36 (0, 0)) from blk_below (blk_new w _) hb); clear hv hb))
    rename World => WX
    obtain ⟨ad, B, d, hA, k0, k1, k2, k3, k4, k5, k6, hl1, hC1⟩ := at_en (i := 0) (x := y) HV.out rfl
    rw [Nat.zero_mul] at k0 k1 k2 k3 k4 k5 k6
    have ez : ad.add 0 = ad := by simp [Addr.add]
    rw [ez] at k0 k1 k2 k3 k4 k5 k6
    subst hA
    have HCY := Aside0.mk (And.intro hl1 hC1)
    have i8 : ((0 : Int) < 1) = True := eq_true (by decide)
    obtain ⟨b, hb⟩ : ∃ b, decide (cmpI y.f0 key = 0) = b := ⟨_, rfl⟩
    have HEQ := Aside0.mk (fun W h => bytes_Equal.calls B d y.f0 A0 c0 key b W (Kd.C_below HCY.out.2 h) HCY.out.1 (Kd.C_below HK.out (HB.out.trans (h.mono HB.out.size))) HC.out (by unfold bytes_Equal.f; rw [str_beq, hb]))
    have HBB := Aside0.mk hb
    clear hl1 hC1 hb ez hb0
    go_loopg [12] 2 (fun kq v12 w' => (v12 = .int .i64 0 ∧ w' = WX ∧ kq = 2) ∨ (v12 = .int .i64 1 ∧ kq = 1 ∧ b = false ∧ Aside0 (Below w.heap.size w w') ∧ Aside0 (w'.heap[w.heap.size]? = some (.cells (agCs zAg) 36 (0, 0)))))
    case atStart => exact .inl ⟨rfl, rfl, rfl⟩
    case round =>
      rcases hrel with ⟨rfl, rfl, rfl⟩ | ⟨rfl, rfl, hbf, HB1, HG1⟩
      · have vb := below_alloc (Below.refl wr.heap.size wr) (.cells #[.slice B y.f0.length d, .int .u64 y.f1.f0, .bool y.f1.f1, .int .i64 y.f1.f2.f0, .int .u64 y.f1.f2.f1, .int .i64 y.f1.f3, .int .i64 y.f1.f4] 38)
        have HVB := Aside0.mk vb
        clear vb
        cases b with
        | true =>
          go_wp2_with (first | (go_at_call 31; refine (HEQ.out _ HVB.out).mono ?_; rintro e w3 ⟨rfl, hd⟩; have HD := Aside0.mk (show Below wr.heap.size wr w3 from HVB.out.trans (hd.below.mono HVB.out.size)); have hx3 := blk_below (blk_new wr (.cells #[.slice B y.f0.length d, .int .u64 y.f1.f0, .bool y.f1.f1, .int .i64 y.f1.f2.f0, .int .u64 y.f1.f2.f1, .int .i64 y.f1.f3, .int .i64 y.f1.f4] 38)) hd.below; clear hd; have m1 : w3.cell? ⟨wr.heap.size, 1, none⟩ = some (.int .u64 y.f1.f0) := (blk_cell hx3 1).trans rfl; have m2 : w3.cell? ⟨wr.heap.size, 2, none⟩ = some (.bool y.f1.f1) := (blk_cell hx3 2).trans rfl; have m3 : w3.cell? ⟨wr.heap.size, 3, none⟩ = some (.int .i64 y.f1.f2.f0) := (blk_cell hx3 3).trans rfl; have m4 : w3.cell? ⟨wr.heap.size, 4, none⟩ = some (.int .u64 y.f1.f2.f1) := (blk_cell hx3 4).trans rfl; have m5 : w3.cell? ⟨wr.heap.size, 5, none⟩ = some (.int .i64 y.f1.f3) := (blk_cell hx3 5).trans rfl; have m6 : w3.cell? ⟨wr.heap.size, 6, none⟩ = some (.int .i64 y.f1.f4) := (blk_cell hx3 6).trans rfl; have hg3 := blk_below HG.out HD.out; have z0 : w3.cell? ⟨w.heap.size, 0, none⟩ = some (.int .u64 0) := (blk_cell hg3 0).trans rfl; have y0 : w3.frozen? ⟨w.heap.size, 0, none⟩ = false := blk_frozen hg3 0; have z1 : w3.cell? ⟨w.heap.size, 1, none⟩ = some (.bool false) := (blk_cell hg3 1).trans rfl; have y1 : w3.frozen? ⟨w.heap.size, 1, none⟩ = false := blk_frozen hg3 1; have z2 : w3.cell? ⟨w.heap.size, 2, none⟩ = some (.int .i64 0) := (blk_cell hg3 2).trans rfl; have y2 : w3.frozen? ⟨w.heap.size, 2, none⟩ = false := blk_frozen hg3 2; have z3 : w3.cell? ⟨w.heap.size, 3, none⟩ = some (.int .u64 0) := (blk_cell hg3 3).trans rfl; have y3 : w3.frozen? ⟨w.heap.size, 3, none⟩ = false := blk_frozen hg3 3; have z4 : w3.cell? ⟨w.heap.size, 4, none⟩ = some (.int .i64 0) := (blk_cell hg3 4).trans rfl; have y4 : w3.frozen? ⟨w.heap.size, 4, none⟩ = false := blk_frozen hg3 4; have z5 : w3.cell? ⟨w.heap.size, 5, none⟩ = some (.int .i64 0) := (blk_cell hg3 5).trans rfl; have y5 : w3.frozen? ⟨w.heap.size, 5, none⟩ = false := blk_frozen hg3 5; have HG3 := Aside0.mk hg3; clear hx3 hg3))
          have HB3 := Aside0.mk (HB.out.trans (HD.out.mono HB.out.size))
          clear HG
          rename Aside0 (w3.heap[w.heap.size]? = _) => HG
          refine bodyPost_ret (results_ct rfl _ _ w.heap.size 36 #[.int .u64 y.f1.f0, .bool y.f1.f1, .int .i64 y.f1.f2.f0, .int .u64 y.f1.f2.f1, .int .i64 y.f1.f3, .int .i64 y.f1.f4] (0, 0) _ rfl (by refine blk_put (cs := #[.int .u64 y.f1.f0, .bool y.f1.f1, .int .i64 y.f1.f2.f0, .int .u64 y.f1.f2.f1, .int .i64 y.f1.f3, .int .i64 0]) ?_ 5 _ rfl; refine blk_put (cs := #[.int .u64 y.f1.f0, .bool y.f1.f1, .int .i64 y.f1.f2.f0, .int .u64 y.f1.f2.f1, .int .i64 0, .int .i64 0]) ?_ 4 _ rfl; refine blk_put (cs := #[.int .u64 y.f1.f0, .bool y.f1.f1, .int .i64 y.f1.f2.f0, .int .u64 0, .int .i64 0, .int .i64 0]) ?_ 3 _ rfl; refine blk_put (cs := #[.int .u64 y.f1.f0, .bool y.f1.f1, .int .i64 0, .int .u64 0, .int .i64 0, .int .i64 0]) ?_ 2 _ rfl; refine blk_put (cs := #[.int .u64 y.f1.f0, .bool false, .int .i64 0, .int .u64 0, .int .i64 0, .int .i64 0]) ?_ 1 _ rfl; refine blk_put (cs := #[.int .u64 0, .bool false, .int .i64 0, .int .u64 0, .int .i64 0, .int .i64 0]) ?_ 0 _ rfl; exact HG.out) hu5 rfl (by kernel_rfl)) rfl ?_
          have e1 : gA [y] key = y.f1 := by unfold gA; simp only []; rw [if_pos (of_decide_eq_true HBB.out)]
          have e2 : gB [y] key = true := by unfold gB; exact HBB.out
          rw [e1, e2]
          exact ⟨rfl, below_set (below_set (below_set (below_set (below_set (below_set (HB3.out) (Nat.le_refl _)) (Nat.le_refl _)) (Nat.le_refl _)) (Nat.le_refl _)) (Nat.le_refl _)) (Nat.le_refl _)⟩
        | false =>
          go_wp2_with (first | (go_at_call 31; refine (HEQ.out _ HVB.out).mono ?_; rintro e w3 ⟨rfl, hd⟩; have HD := Aside0.mk (show Below wr.heap.size wr w3 from HVB.out.trans (hd.below.mono HVB.out.size)); clear hd))
          go_roundg 1
          case measure => omega
          case rel => exact .inr ⟨rfl, rfl, by trivial, ⟨HB.out.trans (HD.out.mono HB.out.size)⟩, ⟨blk_below HG.out HD.out⟩⟩
      · clear HB HG k0 k1 k2 k3 k4 k5 k6
        rename Aside0 (Below w.heap.size w wr) => HB
        rename Aside0 (wr.heap[w.heap.size]? = _) => HG
        rename World => WX
        have g0 : WX.cell? ⟨w.heap.size, 0, none⟩ = some (.int .u64 0) := (blk_cell HG.out 0).trans rfl
        have q0 : WX.frozen? ⟨w.heap.size, 0, none⟩ = false := blk_frozen HG.out 0
        have g1 : WX.cell? ⟨w.heap.size, 1, none⟩ = some (.bool false) := (blk_cell HG.out 1).trans rfl
        have q1 : WX.frozen? ⟨w.heap.size, 1, none⟩ = false := blk_frozen HG.out 1
        have g2 : WX.cell? ⟨w.heap.size, 2, none⟩ = some (.int .i64 0) := (blk_cell HG.out 2).trans rfl
        have q2 : WX.frozen? ⟨w.heap.size, 2, none⟩ = false := blk_frozen HG.out 2
        have g3 : WX.cell? ⟨w.heap.size, 3, none⟩ = some (.int .u64 0) := (blk_cell HG.out 3).trans rfl
        have q3 : WX.frozen? ⟨w.heap.size, 3, none⟩ = false := blk_frozen HG.out 3
        have g4 : WX.cell? ⟨w.heap.size, 4, none⟩ = some (.int .i64 0) := (blk_cell HG.out 4).trans rfl
        have q4 : WX.frozen? ⟨w.heap.size, 4, none⟩ = false := blk_frozen HG.out 4
        have g5 : WX.cell? ⟨w.heap.size, 5, none⟩ = some (.int .i64 0) := (blk_cell HG.out 5).trans rfl
        have q5 : WX.frozen? ⟨w.heap.size, 5, none⟩ = false := blk_frozen HG.out 5
        go_wp2
        refine bodyPost_ret (results_ct rfl _ _ w.heap.size 36 #[.int .u64 0, .bool false, .int .i64 0, .int .u64 0, .int .i64 0, .int .i64 0] (0, 0) _ rfl (by refine blk_put (cs := #[.int .u64 0, .bool false, .int .i64 0, .int .u64 0, .int .i64 0, .int .i64 0]) ?_ 5 _ rfl; refine blk_put (cs := #[.int .u64 0, .bool false, .int .i64 0, .int .u64 0, .int .i64 0, .int .i64 0]) ?_ 4 _ rfl; refine blk_put (cs := #[.int .u64 0, .bool false, .int .i64 0, .int .u64 0, .int .i64 0, .int .i64 0]) ?_ 3 _ rfl; refine blk_put (cs := #[.int .u64 0, .bool false, .int .i64 0, .int .u64 0, .int .i64 0, .int .i64 0]) ?_ 2 _ rfl; refine blk_put (cs := #[.int .u64 0, .bool false, .int .i64 0, .int .u64 0, .int .i64 0, .int .i64 0]) ?_ 1 _ rfl; refine blk_put (cs := #[.int .u64 0, .bool false, .int .i64 0, .int .u64 0, .int .i64 0, .int .i64 0]) ?_ 0 _ rfl; exact HG.out) hu5 rfl (by kernel_rfl)) rfl ?_
        have e1 : gA [y] key = zAg := by unfold gA; simp only []; rw [if_neg (of_decide_eq_false (HBB.out.trans hbf))]
        have e2 : gB [y] key = false := by unfold gB; exact HBB.out.trans hbf
        rw [e1, e2]
        exact ⟨rfl, below_set (below_set (below_set (below_set (below_set (below_set (HB.out) (Nat.le_refl _)) (Nat.le_refl _)) (Nat.le_refl _)) (Nat.le_refl _)) (Nat.le_refl _)) (Nat.le_refl _)⟩

theorem get_take (l : List En) (key : List Int) : gA (l.take 1) key = gA l key ∧ gB (l.take 1) key = gB l key := by
  cases l with
  | nil => exact ⟨rfl, rfl⟩
  | cons y l => exact ⟨rfl, rfl⟩
theorem take_one (l : List En) : l.take 1 = [] ∨ ∃ y, l.take 1 = [y] := by
  cases l with
  | nil => exact .inl rfl
  | cons y l => exact .inr ⟨y, rfl⟩
theorem Get_S {w : World} {base g : Nat} {ok : Nat → Prop} {es : List En} {fr : Bool} (hS : SkS w base ok g es fr) (hg : GoodL es) (A0 : Option Addr) (c0 : Nat) (key : List Int) (hk : Kd.C (Kd.int .u8) w A0 key.length key) (hc0 : key.length ≤ c0) :
    Calls Try.prog 16 #[.pointer (some ⟨g, 0, none⟩), .slice A0 key.length c0] w fun e w' => e = .returned (.tuple #[agV (gA (fromE key es) key), .bool (gB (fromE key es) key)]) ∧ Below w.heap.size w w' := by
  have h := Get_of w (.pointer (some ⟨g, 0, none⟩)) A0 c0 key hk hc0 ((fromE key es).take 1) (take_one _) (fun W hb => by
    have := Seek_S (hS.below hb) hg A0 c0 key (Kd.C_below hk hb) hc0 1
    unfold seekE at this
    rw [if_neg (by decide)] at this
    exact this)
  rw [(get_take _ key).1, (get_take _ key).2] at h
  exact h
theorem Get_nil (w : World) (A0 : Option Addr) (c0 : Nat) (key : List Int) (hk : Kd.C (Kd.int .u8) w A0 key.length key) (hc0 : key.length ≤ c0) :
    Calls Try.prog 16 #[.pointer none, .slice A0 key.length c0] w fun e w' => e = .returned (.tuple #[agV zAg, .bool false]) ∧ Below w.heap.size w w' :=
  Get_of w (.pointer none) A0 c0 key hk hc0 [] (.inl rfl) (fun W hb => (Seek_none W A0 key.length c0 1).mono (by rintro e w' ⟨rfl, h⟩; exact ⟨_, rfl, Kd.S_nil _ _ _ _ _, h⟩))
end Go.Proofs.Yteomanpaladdjaa.P
