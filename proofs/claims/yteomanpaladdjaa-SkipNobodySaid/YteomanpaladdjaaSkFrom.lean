/- The entries from a key on: the iterator's walk. No conditions. -/
import Derived.Test.YteomanpaladdjaaSkOps
import Derived.Test.YteomanpaladdjaaRangeW
import Derived.RangeFuncNested
import Derived.RangeFuncBound
import Derived.RangeFuncCalls
import Derived.RangeFuncLeaves
import Derived.Shelf.Abstract
import Derived.WalkKit
import Derived.OwnWalkIn
import Derived.TacticsInMore
import Derived.LoopNIn
import Derived.LoopIn
import Derived.Sort.LoopGhostIn
import Derived.Stop.RegionWithIn
import Derived.Maps.AppendAt
namespace Go.Proofs.Yteomanpaladdjaa.P
open Go.RowKit Go.Proofs.Yteomanpaladdjaa.Pure Go.Proofs.YteomanpaladdjaaW.PrintWords Go.Proofs.YteomanpaladdjaaW.PrintLast Go.Proofs.YteomanpaladdjaaW.PrintMore
set_option linter.unusedVariables false
set_option linter.unusedSimpArgs false
attribute [local go_sem] Oper.semAt_some
/-- The entries from a key on. -/
def fromE (key : List Int) (es : List En) : List En := es.filter (fun y => !decide (cmpI y.f0 key < 0))
theorem fromE_split {key : List Int} {X Y : List Nd} (hX : ∀ m ∈ X, cmpI m.e.f0 key < 0) (hY : ∀ m ∈ Y, ¬ cmpI m.e.f0 key < 0) : fromE key ((X ++ Y).map (·.e)) = Y.map (·.e) := by
  unfold fromE
  rw [List.map_append, List.filter_append]
  have h1 : (X.map (·.e)).filter (fun y => !decide (cmpI y.f0 key < 0)) = [] := by
    rw [List.filter_eq_nil_iff]
    intro y hy
    obtain ⟨m, hm, rfl⟩ := List.mem_map.1 hy
    rw [decide_eq_true (hX m hm)]; decide
  have h2 : (Y.map (·.e)).filter (fun y => !decide (cmpI y.f0 key < 0)) = Y.map (·.e) := by
    rw [List.filter_eq_self]
    intro y hy
    obtain ⟨m, hm, rfl⟩ := List.mem_map.1 hy
    rw [decide_eq_false (hY m hm)]; rfl
  rw [h1, h2, List.nil_append]
theorem run_index_arr (v0 v1 v2 v3 v4 v5 v6 v7 : Option Addr) (w : World) : (Instr.index 57 (.agg #[.pointer v0, .pointer v1, .pointer v2, .pointer v3, .pointer v4, .pointer v5, .pointer v6, .pointer v7]) (.int .i64 0)).run Try.prog w = .ok (.pointer v0) w := by
  simp [Instr.index, go_sem, asIntOf, part, sizeOf]
set_option maxHeartbeats 4000000 in
set_option maxRecDepth 100000 in
theorem from1_in (n : Nat) (hn : 2 ≤ n) (L B1 B2 base g : Nat) (ok : Nat → Prop) (ns : List Nd) (sz : Int) (fr : Bool) (A0 : Option Addr) (c0 : Nat) (key : List Int) (hc0 : key.length ≤ c0) (m : Nat) (hm : 0 < m) (hkl : ∀ k ∈ ns, k.e.f0.length < 140737488355328)
    (J X : List En → World → Prop)
    (hJ : ∀ out A B, J out A → Below A.heap.size A B → J out B)
    (hlist : ∀ out W, J out W → SkL W base ok g ns sz fr)
    (hkey : ∀ out W, J out W → Kd.C (Kd.int .u8) W A0 key.length key)
    (hbox : ∀ out W, J out W → Boxed W B1 25 (.pointer (some ⟨g, 0, none⟩)) ∧ Boxed W B2 23 (.slice A0 key.length c0))
    (hY : ∀ out B c x W0 W, J out W0 → Below W0.heap.size W0 W → Kd.R (Kd.int .u8) 5 W W0.heap.size (fun _ => True) (.slice B x.f0.length c) x.f0 → out.length < ns.length →
      YieldAt Fence.wide (n - 1) Try.prog L #[enV B c x] W fun e W' => e = .returned (.bool (!decide (out.length + 1 = m))) ∧ (out.length + 1 = m → X (out ++ [x]) W') ∧ (out.length + 1 ≠ m → J (out ++ [x]) W'))
    (W : World) (h0 : J [] W) :
    CallsIn Fence.wide n Try.prog 38 #[.func (.yield L) #[] #[], .pointer (some ⟨B1, 0, none⟩), .pointer (some ⟨B2, 0, none⟩)] W fun e W' => (∃ v, e = .returned v) ∧
      ((m ≤ (fromE key (ns.map (·.e))).length ∧ X ((fromE key (ns.map (·.e))).take m) W') ∨ ((fromE key (ns.map (·.e))).length < m ∧ J (fromE key (ns.map (·.e))) W')) := by
  have h1 : 1 ≤ n := by omega
  have h2 : 1 ≤ n - 1 := by omega
  have hu := Try.underlying59
  have hu3 := Try.underlying57
  have hu4 := Try.underlying38
  have hu5 := Try.underlying36
  have hL := hlist [] W h0
  obtain ⟨P0, Y, hns, hX, hYY, hF⟩ := nd_split key ns hL.rise
  have hfe : fromE key (ns.map (·.e)) = Y.map (·.e) := by rw [hns]; exact fromE_split hX hYY
  rw [hfe]
  have hz := SkM.pdCell (i := 0) (X := P0) (Y := Y) (by rw [← hns]; exact hL.mid) (by decide)
  have HF := Aside0.mk (find_calls W base ok g ns sz fr hL A0 c0 key (hkey [] W h0) hc0)
  rw [hF] at HF
  have hbx := hbox [] W h0
  have k1 := hbx.1.cell
  have k2 := hbx.2.cell
  obtain ⟨p0, hp0⟩ : ∃ p, pdB g 0 P0 = p := ⟨_, rfl⟩
  rw [hp0] at hz HF
  have HF := Aside0.mk (show Calls Try.prog 33 #[.pointer (some ⟨g, 0, none⟩), .slice A0 key.length c0] W fun e w' => e = .returned (.agg #[.pointer (some ⟨p0, 0, none⟩), .pointer (some ⟨pdB g 1 P0, 0, none⟩), .pointer (some ⟨pdB g 2 P0, 0, none⟩), .pointer (some ⟨pdB g 3 P0, 0, none⟩), .pointer (some ⟨pdB g 4 P0, 0, none⟩), .pointer (some ⟨pdB g 5 P0, 0, none⟩), .pointer (some ⟨pdB g 6 P0, 0, none⟩), .pointer (some ⟨pdB g 7 P0, 0, none⟩)]) ∧ Below W.heap.size W w' from HF.out)
  have hix := run_index_arr
  have HNS := Aside0.mk hns
  have HJ := Aside0.mk hJ
  have HL := Aside0.mk hlist
  have HKL := Aside0.mk hkl
  have HY := Aside0.mk hY
  have H0 := Aside0.mk h0
  have HM := Aside0.mk hm
  have HU := Aside0.mk h1
  have HU2 := Aside0.mk h2
  obtain ⟨o, ho⟩ := nx_ptr 0 Y
  have HO := Aside0.mk ho
  rw [ho] at hz
  clear hL hns hX hYY hF hfe hbx hJ hlist hkl hY h0 hkey hbox hm hp0 ho
  have hzb : ∀ B, Below W.heap.size W B → B.cell? ⟨p0, 7, none⟩ = some (.pointer o) := fun B hb => cell_bl' hz hb
  refine callsIn_of_wp Try.func38 rfl trivial ?_ rfl
  simp only [Try.ntmps38, List.size_toArray, List.length_cons, List.length_nil, Nat.reduceAdd, Nat.reduceSub, Array.replicate_succ, Array.replicate_zero, List.push_toArray, List.append_toArray, List.nil_append, List.cons_append]
  gi_wp2_with (first | (refine ⟨trivial, ?_⟩; gi_at_call 33; refine (callsIn_wide.2 HF.out).mono ?_; rintro e w1 ⟨rfl, hb⟩; have hz1 := hzb _ hb; have HB1 := Aside0.mk hb; clear hb))
  have HW1 := Aside0.mk (HJ.out _ _ _ H0.out HB1.out)
  clear hz hz1 k1 k2 HF hix H0
  gi_loopg [4] (Y.length + 1) (fun kq v4 wr => ∃ (P R : List Nd), Aside0 (Y = P ++ R ∧ kq = R.length + 1 ∧ P.length < m) ∧ v4 = nx 0 R ∧ Aside0 (J (P.map (·.e)) wr))
  case atStart => exact ⟨[], Y, ⟨rfl, rfl, HM.out⟩, HO.out.symm, HW1⟩
  case round =>
    obtain ⟨P, R, HP, rfl, HJJ⟩ := hrel
    have hL := HL.out _ _ HJJ.out
    cases R with
    | nil =>
      have HYP := Aside0.mk (show Y = P by have := HP.out.1; rwa [List.append_nil] at this)
      rw [nx]
      clear hL
      gi_wp2
      refine bodyPost_end (results_none rfl _ _ _) rfl ?_
      refine ⟨⟨_, rfl⟩, .inr ⟨?_, ?_⟩⟩
      · rw [HYP.out, List.length_map]; exact HP.out.2.2
      · rw [HYP.out]; exact HJJ.out
    | cons q R =>
      have hmem : q ∈ ns := by rw [HNS.out, HP.out.1]; simp
      rw [nx, if_pos (hL.tall q hmem).1]
      have hna := SkN_at (X := P0 ++ P) (Y := R) (n := q) (by have h_ := hL.nodes; rw [HNS.out, HP.out.1] at h_; rw [List.append_assoc]; exact h_)
      have hnk := Kd.R_reads' hna.2.2.2
      obtain ⟨qb, hqb⟩ : ∃ b, q.b = b := ⟨_, rfl⟩
      have hqc := hna.1
      rw [hqb] at hqc ⊢
      obtain ⟨o2, ho2⟩ := nx_ptr 0 R
      have hz7 : wr.cell? ⟨qb, 7, none⟩ = some (.pointer o2) := (blk_cell hqc 7).trans (by rw [List.getElem?_toArray, ← ho2]; exact (ndC_next (n := q) (r := R) (j := 0) (by decide)).trans (by unfold lv; rw [if_pos (hL.tall q hmem).1]))
      have HCL := Aside0.mk (fun W' hC => slices_Clone_byte_byte.calls q.A q.c q.e.f0 q.e.f0 W' hC hnk.2.1 (by unfold slices_Clone_byte_byte.f; rw [if_pos (HKL.out q hmem)]))
      have HKC := Aside0.mk hnk.2.2
      have HQB := Aside0.mk hqb
      have HZ7 := Aside0.mk hz7
      have HO2 := Aside0.mk ho2
      have d0 : wr.drew.cell? ⟨qb, 0, none⟩ = some (.slice q.A q.e.f0.length q.c) := (blk_cell hqc 0).trans (by rw [List.getElem?_toArray]; rfl)
      have d1 : wr.drew.cell? ⟨qb, 1, none⟩ = some (.int .u64 q.e.f1.f0) := (blk_cell hqc 1).trans (by rw [List.getElem?_toArray]; rfl)
      have d2 : wr.drew.cell? ⟨qb, 2, none⟩ = some (.bool q.e.f1.f1) := (blk_cell hqc 2).trans (by rw [List.getElem?_toArray]; rfl)
      have d3 : wr.drew.cell? ⟨qb, 3, none⟩ = some (.int .i64 q.e.f1.f2.f0) := (blk_cell hqc 3).trans (by rw [List.getElem?_toArray]; rfl)
      have d4 : wr.drew.cell? ⟨qb, 4, none⟩ = some (.int .u64 q.e.f1.f2.f1) := (blk_cell hqc 4).trans (by rw [List.getElem?_toArray]; rfl)
      have d5 : wr.drew.cell? ⟨qb, 5, none⟩ = some (.int .i64 q.e.f1.f3) := (blk_cell hqc 5).trans (by rw [List.getElem?_toArray]; rfl)
      have d6 : wr.drew.cell? ⟨qb, 6, none⟩ = some (.int .i64 q.e.f1.f4) := (blk_cell hqc 6).trans (by rw [List.getElem?_toArray]; rfl)
      clear hL hna hnk hqc hz7 ho2 hmem
      gi_wp2
      gi_region_with (first
        | (refine ⟨trivial, ?_⟩; gi_at_call 34; refine (callsIn_wide.2 (HCL.out _ (Kd.C_below HKC.out (below_drew (Below.refl _ _))))).mono ?_; rintro e w10 ⟨v5, rfl, ho, hb⟩; obtain ⟨A5, c5, hv5⟩ := Kd.R_slice ho; subst hv5; have e1 := cell_bl' d1 hb; have e2 := cell_bl' d2 hb; have e3 := cell_bl' d3 hb; have e4 := cell_bl' d4 hb; have e5 := cell_bl' d5 hb; have e6 := cell_bl' d6 hb; have HB10 := Aside0.mk (show Below wr.heap.size wr w10 from (below_drew (Below.refl _ _)).trans hb); obtain ⟨fn, tmps, assign, body, hy, hR⟩ := HY.out (P.map (·.e)) A5 c5 q.e wr w10 HJJ.out HB10.out ho (by rw [HNS.out, HP.out.1]; simp; omega); have HRR := Aside0.mk hR; clear hR ho hb)
        | (refine HRR.out.mono ?_; rintro e W3 ⟨rfl, hX3, hJ3⟩; have HX3 := Aside0.mk hX3; have HJ3 := Aside0.mk hJ3; clear hX3 hJ3))
      all_goals
        rename World => W3
        by_cases hstop : P.length + 1 = m
        · have hXX := HX3.out (by rw [List.length_map]; exact hstop)
          have HXX := Aside0.mk hXX
          have HST := Aside0.mk hstop
          rw [decide_eq_true hstop]
          clear hXX hstop hy
          gi_wp2
          refine bodyPost_ret (results_none rfl _ _ _) rfl ?_
          refine ⟨⟨_, rfl⟩, .inl ⟨?_, ?_⟩⟩
          · rw [HP.out.1, List.length_map, List.length_append, List.length_cons]; have := HST.out; omega
          · have e : (Y.map (·.e)).take m = P.map (·.e) ++ [q.e] := by
              rw [HP.out.1, ← HST.out, List.map_append, List.map_cons, List.take_append, List.length_map, List.take_of_length_le (by rw [List.length_map]; omega)]
              rw [show P.length + 1 - P.length = 1 by omega]; rfl
            rw [e]; exact HXX.out
        · have hJJ := HJ3.out (by rw [List.length_map]; exact hstop)
          have hL3 := HL.out _ _ hJJ
          have hna := SkN_at (X := P0 ++ P) (Y := R) (n := q) (by have h_ := hL3.nodes; rw [HNS.out, HP.out.1] at h_; rw [List.append_assoc]; exact h_)
          have hz7 : W3.cell? ⟨qb, 7, none⟩ = some (.pointer o2) := by
            rw [← HQB.out]
            refine (blk_cell hna.1 7).trans ?_
            rw [List.getElem?_toArray, ← HO2.out]
            exact (ndC_next (n := q) (r := R) (j := 0) (by decide)).trans (by unfold lv; rw [if_pos (hL3.tall q (by rw [HNS.out, HP.out.1]; simp)).1])
          have HJN := Aside0.mk hJJ
          have HST := Aside0.mk hstop
          rw [decide_eq_false hstop]
          clear hJJ hL3 hna hstop hy
          gi_wp2
          go_roundg (R.length + 1)
          case measure => have := HP.out.2.1; rw [List.length_cons] at this; omega
          case rel => exact ⟨P ++ [q], R, ⟨by rw [HP.out.1]; simp, rfl, by rw [List.length_append, List.length_singleton]; have h1_ := HP.out.2.2; have h2_ := HST.out; omega⟩, HO2.out.symm, ⟨by rw [List.map_append]; exact HJN.out⟩⟩
end Go.Proofs.Yteomanpaladdjaa.P
