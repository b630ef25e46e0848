/- block.Read: a row's pairs, by its iterator's walk. Conditions: the bytes are bytes. -/
import Derived.Test.YticddiiigfkamaaPx0
import Derived.Lib.SlBytesConst
import Derived.Test.YticddiiigfkamaaBkNext
import Derived.Test.YticddiiigfkamaaRangeW
import Derived.RangeFuncNested
import Derived.RangeFuncBound
import Derived.RangeFuncCalls
import Derived.RangeFuncLeaves
import Derived.Shelf.Abstract
import Derived.WalkKit
import Derived.OwnWalkIn
import Derived.TacticsInMore
import Derived.LoopNIn
import Derived.LoopIn
import Derived.Maps.AppendAt
namespace Go.Proofs.Yticddiiigfkamaa.P
open Go.RowKit Go.Proofs.YticddiiigfkamaaW.PrintWords Go.Proofs.YticddiiigfkamaaW.PrintLast Go.Proofs.YticddiiigfkamaaW.PrintMore
set_option linter.unusedVariables false
set_option linter.unusedSimpArgs false

/-- What a literal of bytes has laid is read, whatever mark it bears. -/
theorem C_lit_u8 (w : World) (l : List Int) (t : Nat) (fr : Nat × Nat) (hl : l.length ≤ 9223372036854775807) :
    Kd.C (Kd.int .u8) (w.alloc (.cells (l.map (Value.int .u8)).toArray t fr)) (some ⟨w.heap.size, 0, none⟩) l.length l := by
  refine ⟨rfl, hl, fun _ => ⟨_, rfl, fun j p hj => ⟨[.int .u8 p], rfl, rfl, fun i u hu => ?_⟩⟩⟩
  have hi : i = 0 ∧ u = .int .u8 p := by
    cases i with
    | zero => simp at hu; exact ⟨rfl, hu.symm⟩
    | succ i => simp at hu
  obtain ⟨rfl, rfl⟩ := hi
  have e1 : (⟨w.heap.size, 0, none⟩ : Addr).add (j * (Kd.int .u8).sz + 0) = ⟨w.heap.size, j, none⟩ := by
    show (⟨w.heap.size, 0, none⟩ : Addr).add (j * 1 + 0) = _
    simp [Addr.add, eq_comm]
  rw [e1, World.cell?_alloc_mark]
  simp [hj]

end Go.Proofs.Yticddiiigfkamaa.P
namespace Go.Proofs.Yticddiiigfkamaa.P
open Go.RowKit Go.Proofs.YticddiiigfkamaaW.PrintWords Go.Proofs.YticddiiigfkamaaW.PrintLast Go.Proofs.YticddiiigfkamaaW.PrintMore
set_option linter.unusedVariables false
set_option linter.unusedSimpArgs false
attribute [local go_sem] Oper.semAt_some

/-- A row's pairs; whether all of it was one. -/
def rdAll : Nat → List Int → Nat → List Int → List Pr → List Pr × Bool
  | 0, _, _, _, out => (out, false)
  | k + 1, b, place, last, out => if b.length = 0 then (out, true) else match nextS b place last with
    | none => (out, false)
    | some (p, rest) => if place < 4096 then rdAll k rest (place + 1) p.f0 (out ++ [p]) else (out, false)
theorem rdK_len {b : List Int} (hB : ∀ x ∈ b, 0 ≤ x ∧ x < 256) : ∀ {j : Nat} {b' : List Int} {ns : List Nat}, rdK j b = some (ns, b') → b'.length + j ≤ b.length
  | 0, b', ns, h => by
    rw [rdK] at h
    simp only [Option.some.injEq, Prod.mk.injEq] at h
    obtain ⟨_, rfl⟩ := h
    omega
  | j + 1, b', ns, h => by
    rw [rdK] at h
    cases h1 : rdK j b with
    | none => rw [h1] at h; cases h
    | some p =>
      obtain ⟨ns1, b1⟩ := p
      rw [h1] at h
      simp only [] at h
      cases h2 : rs b1 with
      | none => rw [h2] at h; cases h
      | some q =>
        obtain ⟨n, u⟩ := q
        rw [h2] at h
        simp only [Option.some.injEq, Prod.mk.injEq] at h
        obtain ⟨_, rfl⟩ := h
        have hl := rdK_len hB h1
        obtain ⟨_, h3, h4⟩ := rs_le h2 (fun x hx => hB x (rdK_mem h1 x hx))
        rw [List.length_drop]
        omega
/-- What a pair that is read tells. -/
theorem nextS_tell {b : List Int} {place : Nat} {last : List Int} {p : Pr} {rest : List Int} (h : nextS b place last = some (p, rest)) (hB : ∀ x ∈ b, 0 ≤ x ∧ x < 256) :
    rest.length + 3 ≤ b.length ∧ p.f0.length ≤ 4096 ∧ ∀ x ∈ rest, 0 ≤ x ∧ x < 256 := by
  unfold nextS at h
  split at h
  case h_2 => cases h
  case h_1 n0 n1 n2 b' h3 =>
    split at h
    · cases h
    split at h
    · cases h
    next hA hB2 =>
      simp only [Option.some.injEq, Prod.mk.injEq] at h
      obtain ⟨rfl, rfl⟩ := h
      have hl := rdK_len hB h3
      refine ⟨by rw [List.length_drop]; omega, ?_, fun x hx => hB x (rdK_mem h3 x (List.mem_of_mem_drop hx))⟩
      have h5 : ¬ 4096 < n0 + n1 := by
        intro h5
        apply hA
        unfold wrongA
        rw [decide_eq_true h5]
        simp
      show (last.take n0 ++ b'.take n1).length ≤ 4096
      rw [List.length_append, List.length_take, List.length_take]
      omega
theorem rdAll_fuel : ∀ (k k' : Nat) (b : List Int) (place : Nat) (last : List Int) (out : List Pr), (∀ x ∈ b, 0 ≤ x ∧ x < 256) → b.length < k → b.length < k' → rdAll k b place last out = rdAll k' b place last out
  | 0, _, _, _, _, _, _, h, _ => by omega
  | _ + 1, 0, _, _, _, _, _, _, h => by omega
  | k + 1, k' + 1, b, place, last, out, hB, h1, h2 => by
    rw [rdAll, rdAll]
    by_cases h0 : b.length = 0
    · rw [if_pos h0, if_pos h0]
    rw [if_neg h0, if_neg h0]
    cases hn : nextS b place last with
    | none => rfl
    | some q =>
      obtain ⟨p, rest⟩ := q
      have ht := nextS_tell hn hB
      simp only []
      by_cases h4 : place < 4096
      · rw [if_pos h4, if_pos h4]
        exact rdAll_fuel k k' rest _ _ _ ht.2.2 (by omega) (by omega)
      · rw [if_neg h4, if_neg h4]

/-- What a round leaves as it lay: all cells but the row's variable, and its elder rows. -/
def Kept (W0 W W' : World) : Prop := ∀ (k t : Nat) (cells : Array Value), W.heap[k]? = some (.cells cells t (0, 0)) → t ≠ 22 → (t ≠ 39 ∨ W0.heap.size ≤ k) → W'.heap[k]? = W.heap[k]?
theorem R_kept {W0 W W' : World} {base : Nat} {ok : Nat → Prop} {v : Value} {xs : List Int} (h : Kd.R (Kd.int .u8) 5 W base ok v xs) (hk : Kept W0 W W') : Kd.R (Kd.int .u8) 5 W' base ok v xs :=
  Kd.R_mono (Kd.R_step (Kd.R_bound h) (fun k hk2 _ => by
    obtain ⟨_, _, _, q, hq, cells, hc⟩ := hk2
    have hq5 : ∀ q, q ∈ 5 :: (Kd.int .u8).E → q ≠ 22 ∧ q ≠ 39 := by decide
    exact hk k q cells hc (hq5 q hq).1 (.inl (hq5 q hq).2))) (fun _ hk => hk.1)

theorem w64_place {place : Nat} (h : place < 4096) : wrap64 ((place : Int) + 1) = ((place + 1 : Nat) : Int) := by unfold wrap64; omega
theorem meas_place {place : Nat} (h : place < 4096) : 4097 - (intOf (.int .i64 ((place + 1 : Nat) : Int))).toNat < 4097 - (intOf (.int .i64 ((place : Nat) : Int))).toNat := by simp only [intOf]; omega
/-- The iterator, whatever the rounds keep. -/
theorem pairs1_in (n : Nat) (hn : 2 ≤ n) (L Bb base : Nat) (A0 : Option Addr) (c0 : Nat) (l : List Int) (hB : ∀ x ∈ l, 0 ≤ x ∧ x < 256) (hc0 : l.length ≤ c0)
    (J : List Pr → World → Prop) (X : World → Prop)
    (hJ : ∀ out A B, J out A → Below A.heap.size A B → J out B)
    (hread : ∀ out W, J out W → Kd.C (Kd.int .u8) W A0 l.length l)
    (hset : ∀ out W v u, J out W → Boxed W Bb 23 v → J out (W.setCell ⟨Bb, 0, none⟩ u))
    (hbase : ∀ out W, J out W → base ≤ W.heap.size ∧ Bb < W.heap.size)
    (hY : ∀ out v0 v1 p W0 W, J out W0 → Below W0.heap.size W0 W → Kd.R (Kd.int .u8) 5 W W0.heap.size (fun _ => True) v0 p.f0 → Kd.R (Kd.int .u8) 5 W W0.heap.size (fun k => some k ≠ v0.ownBlock) v1 p.f1 → out.length < 4096 →
      YieldAt Fence.wide (n - 1) Try.prog L #[.agg #[v0, v1], .bool true] W fun e W' => e = .returned (.bool true) ∧ J (out ++ [p]) W' ∧ Kept W0 W W')
    (hN : ∀ out B0 m0 e0 B1 m1 e1 W0 W, J out W0 → Below W0.heap.size W0 W →
      YieldAt Fence.wide (n - 1) Try.prog L #[.agg #[.slice B0 m0 e0, .slice B1 m1 e1], .bool false] W fun e W' => e = .returned (.bool false) ∧ X W')
    (W : World) (h0 : J [] W) (hb0 : Boxed W Bb 23 (.slice A0 l.length c0)) :
    CallsIn Fence.wide n Try.prog 32 #[.func (.yield L) #[] #[], .pointer (some ⟨Bb, 0, none⟩)] W fun e W' => (∃ v, e = .returned v) ∧ (((rdAll (l.length + 1) l 0 [] []).2 = true ∧ J (rdAll (l.length + 1) l 0 [] []).1 W') ∨ ((rdAll (l.length + 1) l 0 [] []).2 = false ∧ X W')) := by
  have h1 : 1 ≤ n := by omega
  have h2 : 1 ≤ n - 1 := by omega
  have hu := Try.underlying39
  refine callsIn_of_wp Try.func32 rfl trivial ?_ rfl
  simp only [Try.ntmps32, List.size_toArray, List.length_cons, List.length_nil, Nat.reduceAdd, Nat.reduceSub, Array.replicate_succ, Array.replicate_zero, List.push_toArray, List.append_toArray, List.nil_append, List.cons_append]
  gi_wp2
  gi_loopw [3, 4] (fun v3 v4 wr => ∃ (A1 : Option Addr) (b : List Int) (c1 : Nat) (place : Nat) (last : List Int) (out : List Pr), v4 = .int .i64 (place : Int) ∧ Aside0 (place ≤ 4096 ∧ out.length = place ∧ b.length ≤ c1 ∧ last.length ≤ 4096 ∧ (∀ x ∈ b, 0 ≤ x ∧ x < 256)) ∧ Aside0 (rdAll (b.length + 1) b place last out = rdAll (l.length + 1) l 0 [] []) ∧
      Aside0 (Boxed wr Bb 23 (.slice A1 b.length c1)) ∧ Aside0 (∀ W, Kd.C (Kd.int .u8) W A0 l.length l → Kd.C (Kd.int .u8) W A1 b.length b) ∧ Aside0 (Kd.R (Kd.int .u8) 5 wr base (fun _ => True) v3 last) ∧ Aside0 (J out wr))
    (fun v3 v4 wr => 4097 - (intOf v4).toNat)
  case atStart => exact ⟨A0, l, c0, 0, [], [], rfl, ⟨by decide, rfl, hc0, by decide, hB⟩, ⟨rfl⟩, ⟨hb0⟩, ⟨fun W h => h⟩, ⟨Kd.R_nil _ _ _ _ _⟩, ⟨h0⟩⟩
  case round =>
    obtain ⟨A1, b, c1, place, last, out, rfl, HS, HRD, HBX, HCC, HRL, HJ0⟩ := hrel
    have HJ := Aside0.mk hJ
    have HREAD := Aside0.mk hread
    have HSET := Aside0.mk hset
    have HBASE := Aside0.mk hbase
    have HY := Aside0.mk hY
    have HN := Aside0.mk hN
    have hcell := HBX.out.cell
    obtain ⟨AL, cL, rfl, hcL, hCL⟩ := Kd.R_reads HRL.out
    have HCL := Aside0.mk (And.intro hcL hCL)
    have HCB := Aside0.mk (HCC.out _ (HREAD.out _ _ HJ0.out))
    have HU := Aside0.mk h1
    have HU2 := Aside0.mk h2
    clear hJ hread hset hbase hY hN hcL hCL h0 hb0
    by_cases hb : b.length = 0
    · have d1 : decide (0 < b.length) = false := decide_eq_false (by omega)
      have HE := Aside0.mk (show rdAll (l.length + 1) l 0 [] [] = (out, true) by rw [← HRD.out, rdAll, if_pos hb])
      clear hb
      gi_wp2
      refine bodyPost_end (results_none rfl _ _ _) rfl ?_
      rw [HE.out]
      exact ⟨⟨_, rfl⟩, .inl ⟨rfl, HJ0.out⟩⟩
    have d1 : decide (0 < b.length) = true := decide_eq_true (by omega)
    have HNX := Aside0.mk (show ∀ W, Below wr.heap.size wr W → Calls Try.prog 33 #[.slice A1 b.length c1, .int .i64 (place : Int), .slice AL last.length cL] W (NxP b place last W A1) from fun W hW => next_calls A1 c1 b place AL cL last W (Kd.C_below HCB.out hW) HS.out.2.2.1 HS.out.2.2.2.2 (Kd.C_below HCL.out.2 hW) HCL.out.1 (by have := HS.out.1; omega) HS.out.2.2.2.1)
    cases hn : nextS b place last with
    | none =>
      have HE := Aside0.mk (show rdAll (l.length + 1) l 0 [] [] = (out, false) by rw [← HRD.out, rdAll, if_neg hb, hn])
      have HNN := Aside0.mk (show ∀ W, Below wr.heap.size wr W → Calls Try.prog 33 #[.slice A1 b.length c1, .int .i64 (place : Int), .slice AL last.length cL] W (fun e w' => e = .returned (.tuple #[.agg #[.slice none 0 0, .slice none 0 0], .slice none 0 0, .bool false]) ∧ Below W.heap.size W w') from fun W hW => (HNX.out W hW).mono fun e w' h => by unfold NxP at h; rw [hn] at h; exact h)
      clear hb hn
      gi_wp2_with (first | (refine ⟨trivial, ?_⟩; gi_at_call 33; refine (callsIn_wide.2 (HNN.out _ (Below.refl _ _))).mono ?_; rintro e W1 ⟨rfl, hb1⟩; have HB1 := Aside0.mk hb1; obtain ⟨fn, tmps, assign, body, hy, hR⟩ := HN.out out none 0 0 none 0 0 wr (W1.alloc (.cells #[.slice none 0 0, .slice none 0 0] 39)) HJ0.out (below_alloc hb1 _); have HRR := Aside0.mk hR; clear hR hb1))
      refine HRR.out.mono ?_
      rintro e W3 ⟨rfl, hX⟩
      have HX := Aside0.mk hX
      clear hX hy HRR
      gi_wp2
      refine bodyPost_ret (results_none rfl _ _ _) rfl ?_
      rw [HE.out]
      exact ⟨⟨_, rfl⟩, .inr ⟨rfl, HX.out⟩⟩
    | some q =>
      obtain ⟨p, rest⟩ := q
      have htell := nextS_tell hn HS.out.2.2.2.2
      have HTELL := Aside0.mk htell
      have HNN := Aside0.mk (show ∀ W, Below wr.heap.size wr W → Calls Try.prog 33 #[.slice A1 b.length c1, .int .i64 (place : Int), .slice AL last.length cL] W (fun e w' => ∃ (v0 v1 : Value) (A' : Option Addr) (c' : Nat), e = .returned (.tuple #[.agg #[v0, v1], .slice A' rest.length c', .bool true]) ∧ Kd.R (Kd.int .u8) 5 w' W.heap.size (fun _ => True) v0 p.f0 ∧ Kd.R (Kd.int .u8) 5 w' W.heap.size (fun k => some k ≠ v0.ownBlock) v1 p.f1 ∧
    (∀ W, Kd.C (Kd.int .u8) W A1 b.length b → Kd.C (Kd.int .u8) W A' rest.length rest) ∧ rest.length ≤ c' ∧ Below W.heap.size W w') from fun W hW => (HNX.out W hW).mono fun e w' h => by unfold NxP at h; rw [hn] at h; exact h)
      by_cases hp4 : place < 4096
      · have HE := Aside0.mk (show rdAll (rest.length + 1) rest (place + 1) p.f0 (out ++ [p]) = rdAll (l.length + 1) l 0 [] [] by
          rw [← HRD.out]
          conv => rhs; rw [rdAll]
          rw [if_neg hb, hn]
          simp only []
          rw [if_pos hp4]
          exact rdAll_fuel _ _ _ _ _ _ htell.2.2 (by omega) (by omega))
        have d2 : decide ((place : Int) < 4096) = true := decide_eq_true (by omega)
        have d2n : decide (place < 4096) = true := decide_eq_true hp4
        have HP4 := Aside0.mk hp4
        clear hb hn htell hp4
        gi_wp2_with (first | (refine ⟨trivial, ?_⟩; gi_at_call 33; refine (callsIn_wide.2 (HNN.out _ (Below.refl _ _))).mono ?_; rintro e W1 ⟨v0, v1, A', c', rfl, hR0, hR1, hC', hc', hb1⟩; obtain ⟨B0, e0, rfl⟩ := Kd.R_slice hR0; obtain ⟨B1, e1, rfl⟩ := Kd.R_slice hR1; have HB1 := Aside0.mk hb1; have HR0 := Aside0.mk hR0; have HCC2 := Aside0.mk (And.intro hC' hc'); obtain ⟨fn, tmps, assign, body, hy, hR⟩ := HY.out out (.slice B0 p.f0.length e0) (.slice B1 p.f1.length e1) p wr (W1.alloc (.cells #[.slice B0 p.f0.length e0, .slice B1 p.f1.length e1] 39)) HJ0.out (below_alloc hb1 _) (Kd.R_alloc hR0 _) (Kd.R_alloc hR1 _) (by have := HS.out.2.1; have := HP4.out; omega); have HRR := Aside0.mk hR; clear hR hb1 hR0 hR1 hC' hc'))
        refine HRR.out.mono ?_
        rintro e W3 ⟨rfl, hJ3, hK3⟩
        have HJ3 := Aside0.mk hJ3
        have hbw := below_alloc HB1.out (.cells #[.slice B0 p.f0.length e0, .slice B1 p.f1.length e1] 39)
        have hbx := boxed_below HBX.out hbw
        have hbx3 : Boxed W3 Bb 23 (.slice A1 b.length c1) := (hK3 Bb _ _ hbx (by decide) (.inl (by decide))).trans hbx
        have hbs := HBASE.out _ _ HJ0.out
        have hr3 := Kd.R_lower (R_kept (Kd.R_alloc HR0.out _) hK3) hbs.1
        have hgp := (hK3 W1.heap.size _ _ (heap_alloc_new W1 (.cells #[.slice B0 p.f0.length e0, .slice B1 p.f1.length e1] 39)) (by decide) (.inr HB1.out.size)).trans (heap_alloc_new W1 _)
        have hne : Bb ≠ W1.heap.size := by have := HB1.out.size; omega
        obtain ⟨gp, hg⟩ : ∃ g, W1.heap.size = g := ⟨_, rfl⟩
        rw [hg] at hgp hne ⊢
        have ka0 : W3.cell? ⟨gp, 0, none⟩ = some (.slice B0 p.f0.length e0) := (blk_cell hgp 0).trans rfl
        have kb0 : W3.cell? ⟨Bb, 0, none⟩ = some (.slice A1 b.length c1) := hbx3.cell
        have fb0 : W3.frozen? ⟨Bb, 0, none⟩ = false := hbx3.frozen
        have HBX3 := Aside0.mk hbx3
        have HR3 := Aside0.mk hr3
        clear hJ3 hK3 hbw hbx hbx3 hbs hr3 hgp hg hy HRR
        have w1 : wrap64 ((place : Int) + 1) = ((place + 1 : Nat) : Int) := w64_place HP4.out
        gi_wp2
        go_roundw
        case rel =>
          refine ⟨A', rest, c', place + 1, p.f0, out ++ [p], by rw [w1], ⟨HP4.out, by rw [List.length_append, HS.out.2.1]; rfl, HCC2.out.2, HTELL.out.2.1, HTELL.out.2.2⟩, ⟨HE.out⟩, ⟨HBX3.out.set _⟩, ⟨fun W hC => HCC2.out.1 W (HCC.out W hC)⟩, ⟨?_⟩, ⟨HSET.out _ _ _ _ HJ3.out HBX3.out⟩⟩
          exact Kd.R_set HR3.out HBX3.out (by decide) 0 _
        case measure => rw [w1]; exact meas_place HP4.out
      · have HE := Aside0.mk (show rdAll (l.length + 1) l 0 [] [] = (out, false) by rw [← HRD.out, rdAll, if_neg hb, hn]; simp only []; rw [if_neg hp4])
        have d2 : decide ((place : Int) < 4096) = false := decide_eq_false (by omega)
        have d2n : decide (place < 4096) = false := decide_eq_false hp4
        clear hb hn htell hp4
        gi_wp2_with (first | (refine ⟨trivial, ?_⟩; gi_at_call 33; refine (callsIn_wide.2 (HNN.out _ (Below.refl _ _))).mono ?_; rintro e W1 ⟨v0, v1, A', c', rfl, hR0, hR1, hC', hc', hb1⟩; obtain ⟨B0, e0, rfl⟩ := Kd.R_slice hR0; obtain ⟨B1, e1, rfl⟩ := Kd.R_slice hR1; have HB1 := Aside0.mk hb1; obtain ⟨fn, tmps, assign, body, hy, hR⟩ := HN.out out B0 p.f0.length e0 B1 p.f1.length e1 wr (W1.alloc (.cells #[.slice B0 p.f0.length e0, .slice B1 p.f1.length e1] 39)) HJ0.out (below_alloc hb1 _); have HRR := Aside0.mk hR; clear hR hb1 hR0 hR1 hC' hc'))
        refine HRR.out.mono ?_
        rintro e W3 ⟨rfl, hX⟩
        have HX := Aside0.mk hX
        clear hX hy HRR
        gi_wp2
        refine bodyPost_ret (results_none rfl _ _ _) rfl ?_
        rw [HE.out]
        exact ⟨⟨_, rfl⟩, .inr ⟨rfl, HX.out⟩⟩
end Go.Proofs.Yticddiiigfkamaa.P
