/- rickyardref09.three: three short numbers, and what is left. Conditions: the bytes are bytes. -/
import Derived.Test.YticddiiigfkamaaBkRefRS
import Derived.Test.YticddiiigfkamaaBkNext
namespace Go.Proofs.Yticddiiigfkamaa.P
open Go.RowKit Go.Proofs.YticddiiigfkamaaW.PrintWords Go.Proofs.YticddiiigfkamaaW.PrintLast Go.Proofs.YticddiiigfkamaaW.PrintMore
set_option linter.unusedVariables false
set_option linter.unusedSimpArgs false

theorem refRS_calls (A : Option Addr) (c : Nat) (b : List Int) (W : World) (hr : Kd.C (Kd.int .u8) W A b.length b) (hc : b.length ≤ c) (hB : ∀ x ∈ b, 0 ≤ x ∧ x < 256) :
    Calls Try.prog 35 #[.slice A b.length c] W fun e w' => ∃ v u ee : Int, e = .returned (.tuple #[.int .u64 v, .int .i64 u, .int .i64 ee]) ∧ RsP b v u ee ∧ Drawn0 W w' := by
  obtain ⟨v, u, ee, hf, hp⟩ := Pure.refRS_f b hB 30 (by omega)
  refine (rickyardref04_ReadShort.calls 30 A c b v u ee W hr hc hf).mono ?_
  rintro e w' ⟨rfl, hd⟩
  exact ⟨v, u, ee, rfl, hp, hd⟩
theorem get3 (a b c : Value) {j : Nat} (h : j < 3) : ∃ v, (#[a, b, c] : Array Value)[j]? = some v := by
  match j, h with
  | 0, _ => exact ⟨_, rfl⟩
  | 1, _ => exact ⟨_, rfl⟩
  | 2, _ => exact ⟨_, rfl⟩
/-- What is told. -/
def ThP (b : List Int) (w : World) (A : Option Addr) (e : Ending) (w' : World) : Prop :=
  match rdK 3 b with
  | some ([n0, n1, n2], b') => (∃ (A' : Option Addr) (c' : Nat), e = .returned (.tuple #[.agg #[.int .i64 (n0 : Nat), .int .i64 (n1 : Nat), .int .i64 (n2 : Nat)], .slice A' b'.length c', .bool true]) ∧ (∀ W, Kd.C (Kd.int .u8) W A b.length b → Kd.C (Kd.int .u8) W A' b'.length b') ∧ b'.length ≤ c') ∧ Below w.heap.size w w'
  | _ => (∃ m0 m1 m2 : Int, e = .returned (.tuple #[.agg #[.int .i64 m0, .int .i64 m1, .int .i64 m2], .slice none 0 0, .bool false])) ∧ Below w.heap.size w w'
theorem thP_none {b : List Int} {w w' : World} {A : Option Addr} {e : Ending} (h : rdK 3 b = none) (m0 m1 m2 : Int) (he : e = .returned (.tuple #[.agg #[.int .i64 m0, .int .i64 m1, .int .i64 m2], .slice none 0 0, .bool false])) (hb : Below w.heap.size w w') : ThP b w A e w' := by
  unfold ThP; rw [h]; exact ⟨⟨m0, m1, m2, he⟩, hb⟩
set_option maxHeartbeats 4000000 in
set_option maxRecDepth 100000 in
theorem three_calls (A : Option Addr) (c : Nat) (b : List Int) (w : World) (hr : Kd.C (Kd.int .u8) w A b.length b) (hc : b.length ≤ c) (hB : ∀ x ∈ b, 0 ≤ x ∧ x < 256) :
    Calls Try.prog 29 #[.slice A b.length c] w (ThP b w A) := by
  have HR := Aside0.mk hr
  have HC := Aside0.mk hc
  have HBY := Aside0.mk hB
  have HM := Aside0.mk hr.2.1
  have HB0 := Aside0.mk (Below.refl w.heap.size w)
  have hu3 := Try.underlying52
  obtain ⟨i5, hi5, hzz⟩ := Option.map_eq_some_iff.1 info5
  simp only [Prod.mk.injEq] at hzz
  have HI5 := Aside0.mk (And.intro hi5 hzz.2.1)
  clear hr hc hB hi5 hzz
  go_enter Try.func29, Try.ntmps29
  go_wp2
  go_loopg [0, 6] 3 (fun kq v0 v6 w' => ∃ (j : Nat) (A' : Option Addr) (b' : List Int) (c' : Nat) (ns : List Nat), v0 = .slice A' b'.length c' ∧ v6 = .int .i64 (j : Int) ∧ Aside0 (j ≤ 3 ∧ kq = 3 - j ∧ rdK j b = some (ns, b') ∧ b'.length ≤ c' ∧ ns.length = j) ∧ Aside0 (∀ W, Kd.C (Kd.int .u8) W A b.length b → Kd.C (Kd.int .u8) W A' b'.length b') ∧
      Aside0 (w'.heap[w.heap.size]? = some (.cells #[.int .i64 0, .int .i64 0, .int .i64 0] 52 (0, 0))) ∧ Aside0 (w'.heap[w.heap.size + 1]? = some (.cells #[.int .i64 (ns.getD 0 0 : Nat), .int .i64 (ns.getD 1 0 : Nat), .int .i64 (ns.getD 2 0 : Nat)] 52 (0, 0))) ∧ Aside0 (Below w.heap.size w w'))
  case atStart =>
    refine ⟨0, A, b, c, [], rfl, rfl, ⟨by decide, rfl, rfl, HC.out, rfl⟩, ⟨fun W h => h⟩, ⟨?_⟩, ⟨?_⟩, ⟨below_alloc (below_alloc HB0.out _) _⟩⟩
    · exact blk_alloc (blk_new _ _) _
    · exact blk_new1' _ _ _
  case round =>
    obtain ⟨j, A', b', c', ns, rfl, rfl, HJ, HA, B6, B9, HB⟩ := hrel
    have hBy : ∀ x ∈ b', 0 ≤ x ∧ x < 256 := fun x hx => HBY.out x (rdK_mem HJ.out.2.2.1 x hx)
    have hl0 : wr.cell? ⟨w.heap.size + 1, 0, none⟩ = some (.int .i64 (ns.getD 0 0 : Nat)) := (blk_cell B9.out 0).trans rfl
    have hl1 : wr.cell? ⟨w.heap.size + 1, 1, none⟩ = some (.int .i64 (ns.getD 1 0 : Nat)) := (blk_cell B9.out 1).trans rfl
    have hl2 : wr.cell? ⟨w.heap.size + 1, 2, none⟩ = some (.int .i64 (ns.getD 2 0 : Nat)) := (blk_cell B9.out 2).trans rfl
    have hk0 : wr.cell? ⟨w.heap.size, 0, none⟩ = some (.int .i64 0) := (blk_cell B6.out 0).trans rfl
    have hk1 : wr.cell? ⟨w.heap.size, 1, none⟩ = some (.int .i64 0) := (blk_cell B6.out 1).trans rfl
    have hk2 : wr.cell? ⟨w.heap.size, 2, none⟩ = some (.int .i64 0) := (blk_cell B6.out 2).trans rfl
    have hf0 := blk_frozen B6.out 0
    have hf1 := blk_frozen B6.out 1
    have hf2 := blk_frozen B6.out 2
    have HL := Aside0.mk (And.intro hl0 (And.intro hl1 hl2))
    have HKK := Aside0.mk (And.intro hk0 (And.intro hk1 (And.intro hk2 (And.intro hf0 (And.intro hf1 hf2)))))
    by_cases hj : j < 3
    · obtain ⟨J, hJ⟩ : ∃ J : Int, (j : Int) = J := ⟨_, rfl⟩
      have HJJ := Aside0.mk hJ
      have d1 : decide (J < 3) = true := decide_eq_true (by omega)
      have HBY2 := Aside0.mk hBy
      have hcall := fun W hC => refRS_calls A' c' b' W hC HJ.out.2.2.2.1 HBY2.out
      have HJ3 := Aside0.mk hj
      rw [hJ]
      clear hj hJ hBy hl0 hl1 hl2 hk0 hk1 hk2 hf0 hf1 hf2
      cases hrs : rs b' with
      | none =>
        have HNX := Aside0.mk (rdK_stop HJ.out.2.2.1 hrs HJ3.out)
        have HCALL := Aside0.mk (show ∀ W, Kd.C (Kd.int .u8) W A' b'.length b' → Calls Try.prog 35 #[.slice A' b'.length c'] W fun e w' => ∃ v u ee : Int, e = .returned (.tuple #[.int .u64 v, .int .i64 u, .int .i64 ee]) ∧ (ee ≠ 0 ∨ 4096 < v) ∧ Drawn0 W w' from fun W hC => (hcall W hC).mono fun e w' ⟨v, u, ee, h1, h2, h3⟩ => ⟨v, u, ee, h1, by have := h2.2; rw [hrs] at this; exact this, h3⟩)
        clear hcall hrs
        go_wp2_with (first
          | ((with_reducible refine gate_callee (f := 35) rfl ?_); refine goesL_ (some 16) rfl rfl Try.func35 (by kernel_rfl) rfl #[.slice A' b'.length c'] rfl (by (try simp only [List.map_toArray, List.map_cons, List.map_nil]); first | done | rfl | (simp only [List.length_drop, List.length_take]; rfl)) ?_; refine (HCALL.out _ (HA.out _ (Kd.C_below HR.out HB.out))).mono ?_; rintro e w2 ⟨v, u, ee, rfl, hp, hd⟩; have hbw := hd.below; have g6 := blk_below B6.out (hbw.mono (Nat.le_refl _)); have g9 := blk_below B9.out (hbw.mono (Nat.le_refl _)); have B62 := Aside0.mk g6; have HB2 := Aside0.mk (HB.out.trans (hbw.mono HB.out.size)); have hl0 : w2.cell? ⟨w.heap.size + 1, 0, none⟩ = some (.int .i64 (ns.getD 0 0 : Nat)) := (blk_cell g9 0).trans rfl; have hl1 : w2.cell? ⟨w.heap.size + 1, 1, none⟩ = some (.int .i64 (ns.getD 1 0 : Nat)) := (blk_cell g9 1).trans rfl; have hl2 : w2.cell? ⟨w.heap.size + 1, 2, none⟩ = some (.int .i64 (ns.getD 2 0 : Nat)) := (blk_cell g9 2).trans rfl; have hk0 : w2.cell? ⟨w.heap.size, 0, none⟩ = some (.int .i64 0) := (blk_cell g6 0).trans rfl; have hk1 : w2.cell? ⟨w.heap.size, 1, none⟩ = some (.int .i64 0) := (blk_cell g6 1).trans rfl; have hk2 : w2.cell? ⟨w.heap.size, 2, none⟩ = some (.int .i64 0) := (blk_cell g6 2).trans rfl; have hf0 := blk_frozen g6 0; have hf1 := blk_frozen g6 1; have hf2 := blk_frozen g6 2; clear hd hbw g6 g9; refine ⟨_, rfl, ?_⟩; by_cases hee : ee = 0; (have e1 : (ee != 0) = false := (by rw [hee]; rfl); have e1b : (ee == 0) = true := beq_iff_eq.mpr hee; have e2 : decide (4096 < v) = true := decide_eq_true (by rcases hp with h | h; exact absurd hee h; exact h); clear hp hee); rotate_left; (have e1 : (ee != 0) = true := bne_iff_ne.mpr hee; have e1b : (ee == 0) = false := beq_eq_false_iff_ne.mpr hee; clear hp hee); rotate_left))
        all_goals
          refine bodyPost_ret (results_ctt rfl _ _ w.heap.size 52 #[.int .i64 (ns.getD 0 0 : Nat), .int .i64 (ns.getD 1 0 : Nat), .int .i64 (ns.getD 2 0 : Nat)] (0, 0) _ rfl (by refine blk_put (cs := #[.int .i64 (ns.getD 0 0 : Nat), .int .i64 (ns.getD 1 0 : Nat), .int .i64 0]) ?_ 2 _ rfl; refine blk_put (cs := #[.int .i64 (ns.getD 0 0 : Nat), .int .i64 0, .int .i64 0]) ?_ 1 _ rfl; refine blk_put (cs := #[.int .i64 0, .int .i64 0, .int .i64 0]) ?_ 0 _ rfl; exact B62.out) hu3 rfl (by kernel_rfl)) rfl ?_
          exact thP_none HNX.out _ _ _ rfl (below_set (below_set (below_set HB2.out (Nat.le_refl _)) (Nat.le_refl _)) (Nat.le_refl _))
      | some p =>
        obtain ⟨n, q⟩ := p
        obtain ⟨hn4, hq1, hq2⟩ := rs_le hrs HBY2.out
        have HCALL := Aside0.mk (show ∀ W, Kd.C (Kd.int .u8) W A' b'.length b' → Calls Try.prog 35 #[.slice A' b'.length c'] W fun e w' => e = .returned (.tuple #[.int .u64 (n : Int), .int .i64 (q : Int), .int .i64 0]) ∧ Drawn0 W w' from fun W hC => (hcall W hC).mono fun e w' ⟨v, u, ee, h1, h2, h3⟩ => by have := h2.2; rw [hrs] at this; obtain ⟨rfl, rfl, rfl⟩ := this; exact ⟨h1, h3⟩)
        have HGO := Aside0.mk (rdK_go HJ.out.2.2.1 hrs)
        obtain ⟨A2, hcut, hcut2, hcut3⟩ := print_drop_of (P := Try.prog) (Value.int .u8) (0 : Int) 23 5 .i64 Try.underlying23 HI5.out.1 HI5.out.2 A' c' b' (q : Int) (by omega) (by omega) HJ.out.2.2.2.1
        rw [Int.toNat_natCast] at hcut hcut2 hcut3
        obtain ⟨b2, hb2⟩ : ∃ b2, b'.drop q = b2 := ⟨_, rfl⟩
        rw [hb2] at hcut hcut2 hcut3 HGO
        have HCUT := Aside0.mk hcut2
        have HCUT3 := Aside0.mk hcut3
        obtain ⟨nv, hnv⟩ : ∃ x : Int, (n : Int) = x := ⟨_, rfl⟩
        rw [hnv] at HCALL
        have HNV := Aside0.mk hnv
        have d2 : decide (4096 < nv) = false := decide_eq_false (by omega)
        have hjj := HJJ.out
        have hj3 := HJ3.out
        have i1 : (0 ≤ J) = True := eq_true (by omega)
        have i2 : (J < 3) = True := eq_true (by omega)
        have i3 : J.toNat = j := by omega
        have w1 : wrap64 nv = nv := by unfold wrap64; omega
        have w2 : wrap64 (J + 1) = ((j + 1 : Nat) : Int) := by unfold wrap64; omega
        clear hcall hrs hn4 hq1 hq2 hcut2 hcut3 hb2 hnv hjj hj3
        go_wp2_with (first
          | ((with_reducible refine gate_callee (f := 35) rfl ?_); refine goesL_ (some 16) rfl rfl Try.func35 (by kernel_rfl) rfl #[.slice A' b'.length c'] rfl (by (try simp only [List.map_toArray, List.map_cons, List.map_nil]); first | done | rfl | (simp only [List.length_drop, List.length_take]; rfl)) ?_; refine (HCALL.out _ (HA.out _ (Kd.C_below HR.out HB.out))).mono ?_; rintro e w2_ ⟨rfl, hd⟩; have hbw := hd.below; have g6 := blk_below B6.out (hbw.mono (Nat.le_refl _)); have g9 := blk_below B9.out (hbw.mono (Nat.le_refl _)); have B62 := Aside0.mk g6; have B92 := Aside0.mk g9; have HB2 := Aside0.mk (HB.out.trans (hbw.mono HB.out.size)); obtain ⟨v0, hc90⟩ := get3 (.int .i64 (ns.getD 0 0 : Nat)) (.int .i64 (ns.getD 1 0 : Nat)) (.int .i64 (ns.getD 2 0 : Nat)) HJ3.out; have hc9 : w2_.cell? ⟨w.heap.size + 1, j, none⟩ = some v0 := (blk_cell g9 j).trans hc90; clear hc90; have hf9 := blk_frozen g9 j; clear hd hbw g6 g9; refine ⟨_, rfl, ?_⟩))
        go_roundg (3 - (j + 1))
        case measure => have := HJ.out.2.1; have := HJ3.out; omega
        case rel =>
          refine ⟨j + 1, A2, b2, c' - q, ns ++ [n], rfl, by rw [w2], ⟨HJ3.out, rfl, HGO.out, HCUT3.out, by rw [List.length_append, HJ.out.2.2.2.2]; rfl⟩, ⟨fun W hC => Kd.C_of_reads (d := (0 : Int)) (h1 := fun _ => rfl) (HCUT.out W (Kd.reads_of_C (HA.out W hC)))⟩, ⟨?_⟩, ⟨?_⟩, ⟨?_⟩⟩
          · exact blk_far B62.out (by simp) _
          · rw [← HNV.out]
            exact (blk_set B92.out j (.int .i64 (n : Int))).trans (by rw [arr3 HJ.out.2.2.2.2 HJ3.out])
          · exact below_set HB2.out (by simp)
    · have hj3 : j = 3 := by have := HJ.out.1; omega
      obtain ⟨n0, n1, n2, rfl⟩ : ∃ n0 n1 n2, ns = [n0, n1, n2] := by
        have hl := HJ.out.2.2.2.2
        rw [hj3] at hl
        match ns, hl with
        | [a, b, c], _ => exact ⟨a, b, c, rfl⟩
      have hrd : rdK 3 b = some ([n0, n1, n2], b') := by have := HJ.out.2.2.1; rwa [hj3] at this
      have HRD := Aside0.mk hrd
      have HLE := Aside0.mk HJ.out.2.2.2.1
      have d1 : decide ((j : Int) < 3) = false := decide_eq_false (by omega)
      have d1b : decide (j < 3) = false := decide_eq_false hj
      have l0 : wr.cell? ⟨w.heap.size + 1, 0, none⟩ = some (.int .i64 (n0 : Nat)) := hl0
      have l1 : wr.cell? ⟨w.heap.size + 1, 1, none⟩ = some (.int .i64 (n1 : Nat)) := hl1
      have l2 : wr.cell? ⟨w.heap.size + 1, 2, none⟩ = some (.int .i64 (n2 : Nat)) := hl2
      clear hj hrd hBy hl0 hl1 hl2
      go_wp2
      refine bodyPost_ret (results_ctt rfl _ _ w.heap.size 52 #[.int .i64 (n0 : Nat), .int .i64 (n1 : Nat), .int .i64 (n2 : Nat)] (0, 0) _ rfl (by refine blk_put (cs := #[.int .i64 (n0 : Nat), .int .i64 (n1 : Nat), .int .i64 0]) ?_ 2 _ rfl; refine blk_put (cs := #[.int .i64 (n0 : Nat), .int .i64 0, .int .i64 0]) ?_ 1 _ rfl; refine blk_put (cs := #[.int .i64 0, .int .i64 0, .int .i64 0]) ?_ 0 _ rfl; exact B6.out) hu3 rfl (by kernel_rfl)) rfl ?_
      unfold ThP
      rw [HRD.out]
      exact ⟨⟨A', c', rfl, HA.out, HLE.out⟩, below_set (below_set (below_set HB.out (Nat.le_refl _)) (Nat.le_refl _)) (Nat.le_refl _)⟩
end Go.Proofs.Yticddiiigfkamaa.P
