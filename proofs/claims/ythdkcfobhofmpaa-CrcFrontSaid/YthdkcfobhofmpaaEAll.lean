/- crc.All: the frames at a text's front, by its iterator's walk. No conditions. -/
import Derived.Test.YthdkcfobhofmpaaCrcPure2
import Derived.Test.YthdkcfobhofmpaaRangeW
import Derived.Test.YthdkcfobhofmpaaBase

import Derived.RangeFuncNested
import Derived.RangeFuncBound
import Derived.RangeFuncCalls
import Derived.RangeFuncLeaves
import Derived.Shelf.Abstract
import Derived.WalkKit
import Derived.OwnWalkIn
import Derived.TacticsInMore
import Derived.LoopNIn
import Derived.LoopIn
import Derived.Maps.AppendAt
namespace Go.Proofs.Ythdkcfobhofmpaa.P
open Go.RowKit Go.Proofs.YthdkcfobhofmpaaW.PrintWords Go.Proofs.YthdkcfobhofmpaaW.PrintLast Go.Proofs.YthdkcfobhofmpaaW.PrintMore
set_option linter.unusedVariables false
set_option linter.unusedSimpArgs false
open Go.Proofs.Ythdkcfobhofmpaa.Pure
attribute [local go_sem] Oper.semAt_some

/-- The iterator, whatever the rounds keep. -/
theorem frames1_in (n : Nat) (hn : 2 ≤ n) (L Bb : Nat) (A0 : Option Addr) (c0 : Nat) (l : List Int) (hl : IsBytes l) (hlen : l.length ≤ 140737488351232) (hc0 : l.length ≤ c0)
    (J : Nat → List (List Int) → World → Prop)
    (hJ : ∀ at_ out A B, J at_ out A → Below A.heap.size A B → J at_ out B)
    (hread : ∀ at_ out W, J at_ out W → W.cell? ⟨Bb, 0, none⟩ = some (.slice A0 l.length c0) ∧ Kd.C (Kd.int .u8) W A0 l.length l)
    (hY : ∀ at_ out v d m W0 W, J at_ out W0 → Below W0.heap.size W0 W → Kd.R (Kd.int .u8) 5 W W0.heap.size (fun _ => True) v d → nextS (l.drop at_) = (d, m, 0) → at_ + m ≤ l.length →
      YieldAt Fence.wide (n - 1) Try.prog L #[.int .i64 (at_ + m), v] W fun e W' => e = .returned (.bool true) ∧ J (at_ + m.toNat) (out ++ [d]) W')
    (W : World) (h0 : J 0 [] W) :
    CallsIn Fence.wide n Try.prog 30 #[.func (.yield L) #[] #[], .pointer (some ⟨Bb, 0, none⟩)] W fun e W' => (∃ v, e = .returned v) ∧ J (allS l).2 (allS l).1 W' := by
  have h1 : 1 ≤ n := by omega
  have h2 : 1 ≤ n - 1 := by omega
  refine callsIn_of_wp Try.func30 rfl trivial ?_ rfl
  simp only [Try.ntmps30, List.size_toArray, List.length_cons, List.length_nil, Nat.reduceAdd, Nat.reduceSub, Array.replicate_succ, Array.replicate_zero, List.push_toArray, List.append_toArray, List.nil_append, List.cons_append]
  gi_wp2
  gi_loopw [3] (fun p wr => ∃ (at_ : Nat) (out : List (List Int)), p = .int .i64 at_ ∧ at_ ≤ l.length ∧ Aside0 (allN (l.length - at_ + 1) l at_ out = allS l) ∧ Aside0 (J at_ out wr))
    (fun p wr => l.length - (intOf p).toNat)
  case atStart => exact ⟨0, [], rfl, Nat.zero_le _, ⟨rfl⟩, ⟨h0⟩⟩
  case round =>
    obtain ⟨at_, out, rfl, hat, hN, hJ0⟩ := hrel
    obtain ⟨hcell, hC⟩ := hread _ _ _ hJ0.out
    have HC := Aside0.mk hC
    have HJ := Aside0.mk hJ
    have HY := Aside0.mk hY
    have HR := Aside0.mk hread
    clear hJ hY hread hC
    obtain ⟨i0, hi, _, hsz, _⟩ := info_parts info5
    obtain ⟨A1, hcut, hA, hcap⟩ := print_drop_of (P := Try.prog) (Value.int .u8) 0 22 5 .i64 Try.underlying22 hi hsz A0 c0 l (at_ : Int) (Int.natCast_nonneg _) (by omega) hc0
    have HC1 := Aside0.mk (Kd.C_of_reads (h1 := fun _ => rfl) (hA _ (Kd.reads_of_C HC.out)))
    have HCAP := Aside0.mk hcap
    obtain ⟨d, m, e, hnx⟩ : ∃ d m e, nextS (l.drop at_) = (d, m, e) := ⟨_, _, _, rfl⟩
    have HNX := Aside0.mk hnx
    have hnf := next_f (hl.drop at_) (by rw [List.length_drop]; omega)
    rw [hnx] at hnf
    have HNF := Aside0.mk hnf
    simp only [Int.toNat_natCast, List.length_drop] at hcut
    clear hA hcap hi hsz hnf hnx
    by_cases he : e = 0
    · subst he
      have hok := nextS_ok (hl.drop at_) HNX.out
      rw [List.length_drop] at hok
      obtain ⟨mn, rfl⟩ : ∃ mn : Nat, m = mn := ⟨m.toNat, by omega⟩
      have hle : at_ + mn ≤ l.length := by omega
      have h8 : 8 ≤ mn := by omega
      clear hok
      gi_wp2_with (first | (refine ⟨trivial, ?_⟩; gi_at_call 17; refine callsIn_of_args (args' := #[.slice A1 (l.drop at_).length (c0 - at_)]) (by rw [List.length_drop]) ?_; refine (callsIn_wide.2 (crc_Next.calls A1 (c0 - at_) (l.drop at_) d mn 0 _ ?s1 ?s2 HNF.out)).mono ?_; (case s1 => exact HC1.out); (case s2 => exact HCAP.out); rintro e W1 ⟨v, rfl, ho, hb⟩; have HO := Aside0.mk ho; have HB := Aside0.mk hb; clear ho hb; obtain ⟨fn, tmps, assign, body, hy, hR⟩ := HY.out at_ out v d mn wr W1 hJ0.out HB.out HO.out HNX.out (by omega); have HRD := Aside0.mk hR; clear hR))
      refine HRD.out.mono ?_
      rintro e W2 ⟨rfl, hJ2⟩
      have HJ2 := Aside0.mk hJ2
      clear hJ2 hy HRD
      gi_wp2
      go_roundw
      case rel =>
        refine ⟨at_ + mn, out ++ [d], by go_num, hle, ⟨?_⟩, ⟨HJ2.out⟩⟩
        rw [← hN.out]
        have e1 : l.length - at_ + 1 = (l.length - at_) + 1 := rfl
        rw [e1]
        conv => rhs; unfold allN
        rw [HNX.out]
        simp only [if_true, Int.toNat_natCast]
        exact allN_fuel l _ _ _ _ (by omega) (by omega) hl hle
      case measure => simp [intOf]; omega
    · have heb : (e != 0) = true := bne_iff_ne.mpr he
      have hbad := nextS_bad HNX.out he
      obtain ⟨rfl, rfl⟩ := hbad
      gi_wp2_with (first | (refine ⟨trivial, ?_⟩; gi_at_call 17; refine callsIn_of_args (args' := #[.slice A1 (l.drop at_).length (c0 - at_)]) (by rw [List.length_drop]) ?_; refine (callsIn_wide.2 (crc_Next.calls A1 (c0 - at_) (l.drop at_) [] 0 e _ ?s1 ?s2 HNF.out)).mono ?_; (case s1 => exact HC1.out); (case s2 => exact HCAP.out); rintro e W1 ⟨v, rfl, ho, hb⟩; have HO := Aside0.mk ho; have HB := Aside0.mk hb; clear ho hb))
      refine ⟨fun _ h => (by cases h), ?_⟩
      gi_wp2
      refine bodyPost_ret (results_none rfl _ _ _) rfl ?_
      refine ⟨⟨_, rfl⟩, ?_⟩
      have hend : allS l = (out, at_) := by
        rw [← hN.out, show l.length - at_ + 1 = (l.length - at_) + 1 from rfl]
        unfold allN
        rw [HNX.out]
        simp only [if_neg he]
      rw [hend]
      exact HJ.out _ _ _ _ hJ0.out HB.out

theorem frames_calls (A0 : Option Addr) (n c0 : Nat) (w : World) :
    Calls Try.prog 28 #[.slice A0 n c0] w fun e w' => e = .returned (.func (.func 30) #[] #[.pointer (some ⟨w.heap.size, 0, none⟩)]) ∧ w' = w.alloc (.cells #[.slice A0 n c0] 22) := by
  go_enter Try.func28, Try.ntmps28
  go_wp2
  go_ret
  exact ⟨rfl, rfl⟩

/-- What stands between two rounds. -/
def AllI (w : World) (A0 : Option Addr) (l : List Int) (c0 : Nat) (at_ : Nat) (out : List (List Int)) (W : World) : Prop :=
  (∃ v, Boxed W w.heap.size 38 v ∧ Kd.S (Kd.slice 5 (Kd.int .u8)) 22 W w.heap.size (fun k => k ≠ w.heap.size + 2) v out) ∧ Boxed W (w.heap.size + 1) 3 (.int .i64 at_) ∧
  Boxed W (w.heap.size + 2) 22 (.slice A0 l.length c0) ∧ Below w.heap.size w W ∧ out.length ≤ at_ ∧ at_ ≤ l.length

theorem allI_below {w A B : World} {A0 : Option Addr} {l : List Int} {c0 : Nat} {at_ : Nat} {out : List (List Int)} (h : AllI w A0 l c0 at_ out A) (hb : Below A.heap.size A B) : AllI w A0 l c0 at_ out B := by
  obtain ⟨⟨v, h1, h2⟩, h3, h4, h5, h7, h8⟩ := h
  exact ⟨⟨v, boxed_below h1 hb, Kd.S_below h2 hb⟩, boxed_below h3 hb, boxed_below h4 hb, h5.trans (hb.mono h5.size), h7, h8⟩

/-- A round's end. -/
theorem all_round {w W2 w1 : World} {A0 : Option Addr} {l0 : List Int} {c0 at_ base : Nat} {m : Int} {ok : Nat → Prop} {out : List (List Int)} {d : List Int} {u v1 : Value} {o1 o2 o3 : Obj}
    (Q2 : Kd.S (Kd.slice 5 (Kd.int .u8)) 22 W2 base ok u out) (hok : ∀ k, ok k → k ≠ w.heap.size + 2) (Q4 : Boxed W2 (w.heap.size + 2) 22 (.slice A0 l0.length c0))
    (Q7 : W2.heap[w.heap.size + 3 + 1]? = some o1) (h7 : o1.isCells = false) (Q8 : W2.heap[w.heap.size + 3]? = some o2) (h8 : o2.isCells = false)
    (K1 : Boxed w1 w.heap.size 38 u) (K3 : Boxed w1 (w.heap.size + 1) 3 (.int .i64 at_)) (R1 : Kd.S (Kd.slice 5 (Kd.int .u8)) 22 w1 w.heap.size (fun k => k ≠ w.heap.size + 2) v1 (out ++ [d]))
    (R2 : Below w.heap.size w w1) (R3 : W2.grownBy w1 u.ownBlock) (hm : 8 ≤ m) (hle : at_ + m ≤ l0.length) (ho : out.length ≤ at_) :
    ((((w1.setCell ⟨w.heap.size, 0, none⟩ v1).setCell ⟨w.heap.size + 1, 0, none⟩ (.int .i64 (at_ + m))).heap[w.heap.size + 3]? = W2.heap[w.heap.size + 3]?) ∧
      (((w1.setCell ⟨w.heap.size, 0, none⟩ v1).setCell ⟨w.heap.size + 1, 0, none⟩ (.int .i64 (at_ + m))).heap[w.heap.size + 3 + 1]? = W2.heap[w.heap.size + 3 + 1]?)) ∧
    AllI w A0 l0 c0 (at_ + m.toNat) (out ++ [d]) (((w1.setCell ⟨w.heap.size, 0, none⟩ v1).setCell ⟨w.heap.size + 1, 0, none⟩ (.int .i64 (at_ + m))).putObj (w.heap.size + 3 + 1) o3) := by
  have z0 : ((w1.setCell ⟨w.heap.size, 0, none⟩ v1).setCell ⟨w.heap.size + 1, 0, none⟩ (.int .i64 (at_ + m))).heap[w.heap.size + 3]? = W2.heap[w.heap.size + 3]? :=
    (Below.heap_setCell _ _ _ _ (by simp)).trans ((Below.heap_setCell _ _ _ _ (by simp)).trans (R3.block _ (Array.getElem?_eq_some_iff.1 Q8).1 (S_row_ne Q2 Q8 h8)))
  have z1 : ((w1.setCell ⟨w.heap.size, 0, none⟩ v1).setCell ⟨w.heap.size + 1, 0, none⟩ (.int .i64 (at_ + m))).heap[w.heap.size + 3 + 1]? = W2.heap[w.heap.size + 3 + 1]? :=
    (Below.heap_setCell _ _ _ _ (by simp; try omega)).trans ((Below.heap_setCell _ _ _ _ (by simp; try omega)).trans (R3.block _ (Array.getElem?_eq_some_iff.1 Q7).1 (S_row_ne Q2 Q7 h7)))
  have y1 := z1.trans Q7
  have k4 : Boxed w1 (w.heap.size + 2) 22 (.slice A0 l0.length c0) := Q4.kept R3 (Kd.S_away Q2 hok)
  refine ⟨⟨z0, z1⟩, ⟨_, boxed_putObj (boxed_far (K1.set _) (by simp) _) y1 h7 _, S_putObj (Kd.S_set (Kd.S_set R1 K1 (by decide) _ _) (boxed_far K3 (by simp) _) (by decide) _ _) y1 h7 _⟩, ?_, ?_, ?_, ?_, ?_⟩
  · have e : ((at_ : Int) + m) = ((at_ + m.toNat : Nat) : Int) := by omega
    rw [e] at y1 ⊢
    exact boxed_putObj ((boxed_far K3 (by simp) _).set _) y1 h7 _
  · exact boxed_putObj (boxed_far (boxed_far k4 (by simp) _) (by simp) _) y1 h7 _
  · exact below_putObj ((R2.setCell (p := ⟨w.heap.size, 0, none⟩) (Nat.le_refl _) _).setCell (p := ⟨w.heap.size + 1, 0, none⟩) (by simp) _) (by omega) (Array.getElem?_eq_some_iff.1 y1).1 _
  · simp; omega
  · omega

def crc_All.f (l : List Int) : Option (List (List Int) × Int) := if IsBytes l ∧ l.length ≤ 4294967296 then some ((allS l).1, ((allS l).2 : Int)) else none

set_option maxHeartbeats 2000000 in
set_option maxRecDepth 100000 in
theorem crc_All.calls (A0 : Option Addr) (c0 : Nat) (l0 : List Int) (r1 : List (List Int)) (r2 : Int) (w : World) (hr0 : Kd.C (Kd.int .u8) w A0 l0.length l0) (hc0 : l0.length ≤ c0) (h : crc_All.f l0 = some (r1, r2)) :
    Calls Try.prog 19 #[.slice A0 l0.length c0] w fun e w' => ∃ v0_ : Value, e = .returned (.tuple #[v0_, .int .i64 r2]) ∧ Kd.S (Kd.slice 5 (Kd.int .u8)) 22 w' w.heap.size (fun _ => True) v0_ r1 ∧ Below w.heap.size w w' := by
  unfold crc_All.f at h
  by_cases hcond : IsBytes l0 ∧ l0.length ≤ 4294967296
  · rw [if_pos hcond] at h
    simp only [Option.some.injEq, Prod.mk.injEq] at h
    obtain ⟨rfl, rfl⟩ := h
    obtain ⟨hby, hlen⟩ := hcond
    have HR0 := Aside0.mk hr0
    have HC0 := Aside0.mk hc0
    have HBY := Aside0.mk hby
    have HLEN := Aside0.mk hlen
    clear hr0 hc0 hby hlen
    refine (callsIn_wide (n := 8)).1 ?_
    refine callsIn_of_wp_marks Try.func19 rfl trivial ?_ rfl
    simp only [Try.ntmps19, List.size_toArray, List.length_cons, List.length_nil, Nat.reduceAdd, Nat.reduceSub, Array.replicate_succ, Array.replicate_zero, List.push_toArray, List.append_toArray, List.nil_append, List.cons_append]
    gi_wp2_with (first | (refine ⟨trivial, ?_⟩; gi_at_call 28; refine (callsIn_wide.2 (frames_calls A0 l0.length c0 _)).mono ?_; rintro e w' ⟨rfl, rfl⟩))
    obtain ⟨W0, hW0⟩ : ∃ W0, ((w.alloc (.cells #[.slice none 0 0] 38)).alloc (.cells #[.int .i64 0] 3)).alloc (.cells #[.slice A0 l0.length c0] 22) = W0 := ⟨_, rfl⟩
    have hsz : W0.heap.size = w.heap.size + 3 := by rw [← hW0]; simp
    have hI0 : AllI w A0 l0 c0 0 [] W0 := by
      rw [← hW0]
      refine ⟨⟨_, ((Boxed.new w _ _).alloc _).alloc _, Kd.S_nil _ _ _ _ _⟩, ?_, ?_, (((Below.refl _ w).alloc (Nat.le_refl _) _).alloc (by simp) _).alloc (by simp; omega) _, Nat.le_refl _, Nat.zero_le _⟩
      · have := Boxed.new (w.alloc (.cells #[.slice none 0 0] 38)) 3 (.int .i64 0)
        rw [World.size_alloc] at this
        exact this.alloc _
      · have := Boxed.new ((w.alloc (.cells #[.slice none 0 0] 38)).alloc (.cells #[.int .i64 0] 3)) 22 (.slice A0 l0.length c0)
        rw [World.size_alloc, World.size_alloc] at this
        exact this
    rw [hW0]
    have HI0 := Aside0.mk hI0
    clear hI0
    refine wpIn_rangeFunc_Z rfl (by omega) (gf := 30) (lb := #[.pointer (some ⟨w.heap.size + 2, 0, none⟩)]) rfl trivial (enters_of Try.func30 (by kernel_rfl) rfl)
      (N := AllI w A0 l0 c0 (allS l0).2 (allS l0).1) (X := fun _ _ => False) ?call ?done ?stop
    case stop => intro W o c _ _ h; exact h.elim
    case call =>
      intro fn rec hfn hrec W1 hW1 hR
      rw [hsz] at hrec hR ⊢
      have hb1 : Below W0.heap.size W0 W1 := by rw [hW1]; exact ((Below.refl _ W0).alloc (Nat.le_refl _) _).alloc (by simp) _
      refine (frames1_in (8 - 1) (by omega) (w.heap.size + 3 + 1) (w.heap.size + 2) A0 c0 l0 HBY.out (Nat.le_trans HLEN.out (by decide)) HC0.out (fun at_ out W => AllI w A0 l0 c0 at_ out W ∧ Rdy rec (w.heap.size + 3) W)
        (fun at_ out A B h hb => ⟨allI_below h.1 hb, h.2.below hb⟩) (fun at_ out W h => ⟨h.1.2.2.1.cell, Kd.C_below HR0.out h.1.2.2.2.1⟩) ?hY W1 ⟨allI_below HI0.out hb1, hR⟩).mono ?_
      case hY =>
        intro at_ out v d m Wa Wb hI hb ho hnx hle
        have hok := nextS_ok (HBY.out.drop at_) hnx
        have hIb := allI_below hI.1 hb
        have hRb := hI.2.below hb
        refine YieldAt.mono (yieldAt_of_body hrec hfn rfl hRb (R1 := fun W' => AllI w A0 l0 c0 (at_ + m.toNat) (out ++ [d]) W') (R2 := fun _ _ => False) ?_) ?_
        · apply Exists.intro
          constructor
          · intro K hK
            gi_wp2
            exact hK
          intro W2 hW2
          obtain ⟨hl1, hl2⟩ := hRb
          obtain ⟨⟨u, g1, g2⟩, g3, g4, g5, g7, g8⟩ := hI.1
          have q1 := boxed_putObj (boxed_below g1 hb) hl1 rfl (.loop { rec .ready none with state := .busy })
          have q3 := boxed_putObj (boxed_below g3 hb) hl1 rfl (.loop { rec .ready none with state := .busy })
          have q4 := boxed_putObj (boxed_below g4 hb) hl1 rfl (.loop { rec .ready none with state := .busy })
          have q2 := S_putObj (Kd.S_old g2 hb) hl1 rfl (.loop { rec .ready none with state := .busy })
          have q5 := below_putObj (n₀ := w.heap.size) (g5.trans (hb.mono g5.size)) (by omega) (Array.getElem?_eq_some_iff.1 hl1).1 (.loop { rec .ready none with state := .busy })
          have q6 := R_putObj (Kd.R_lower (Kd.R_mono (ok' := fun k => Wa.heap.size ≤ k) (Kd.R_bound ho) (fun k hk => hk.2.1)) g5.size) hl1 rfl (.loop { rec .ready none with state := .busy })
          have q7 : W2.heap[w.heap.size + 3 + 1]? = some (.loop { rec .ready none with state := .busy }) := by rw [hW2]; exact World.putObj_heap_same (Array.getElem?_eq_some_iff.1 hl1).1
          have q8 : W2.heap[w.heap.size + 3]? = some (.deferred (some [])) := by rw [hW2]; exact (World.putObj_heap_other (by omega)).trans hl2
          have q9 : Wa.heap.size ≤ W2.heap.size := by rw [hW2, putObj_size]; exact hb.size
          have q0 := Kd.S_lt g2
          have qA : w.heap.size + 2 < Wa.heap.size := g4.lt
          rw [← hW2] at q1 q2 q3 q4 q5 q6
          clear g1 g2 g3 g4 g5 hl1 hl2 hIb hI hb ho hW2
          obtain ⟨A2, c2, rfl⟩ := Kd.S_slice q2
          obtain ⟨A3, c3, rfl⟩ := Kd.R_slice q6
          have e1 := q1.cell
          have e3 := q3.cell
          have f3 := q3.frozen
          have Q1 := Aside0.mk q1
          have Q2 := Aside0.mk q2
          have Q3 := Aside0.mk q3
          have Q4 := Aside0.mk q4
          have Q5 := Aside0.mk q5
          have Q6 := Aside0.mk q6
          have Q7 := Aside0.mk q7
          have Q8 := Aside0.mk q8
          have Q9 := Aside0.mk q9
          have Q0 := Aside0.mk q0
          have QA := Aside0.mk qA
          clear q0 qA q1 q2 q3 q4 q5 q6 q7 q8 q9
          gi_wp2_with (first | (gi_at_builtin; refine S_append_in (Kd.slice 5 (Kd.int .u8)) (w0 := w) (W := W2) w.heap.size rfl (.tmp 12) (.tmp 14) 38 22 (.slice none 0 0) 24 rfl Try.underlying38 info22 rfl (by decide) (by omega) _ out d _ (fun k => k ≠ w.heap.size + 2) (fun k => Wa.heap.size ≤ k) rfl rfl ?hp ?hokp (fun k hk => by have := Q9.out; have := QA.out; omega) ?HO ?HB ?hbase ?hl ?_; (case hp => exact ⟨_, rfl, Q6.out⟩); (case hokp => exact fun k hk => ⟨by have := QA.out; omega, fun e => by have := Q0.out k e.symm; omega⟩); (case HO => exact Kd.S_mono Q2.out (fun k hk => ⟨hk.1, by omega⟩)); (case HB => exact Q5.out); (case hbase => exact Q5.out.size); (case hl => have := HLEN.out; omega); intro v1 w1 r1 r2 r3 r4; obtain ⟨A4, c4, rfl⟩ := Kd.S_slice r1; have k1 : Boxed w1 w.heap.size 38 _ := Q1.out.kept r3 (Kd.S_ne Q2.out Q1.out (by decide)); have k3 : Boxed w1 (w.heap.size + 1) 3 _ := Q3.out.kept r3 (Kd.S_ne Q2.out Q3.out (by decide)); have e4 := k1.cell; have f4 := k1.frozen; have e5 := k3.cell; have f5 := k3.frozen; have K1 := Aside0.mk k1; have K3 := Aside0.mk k3; have R1 := Aside0.mk r1; have R2 := Aside0.mk r2; have R3 := Aside0.mk r3; clear k1 k3 r1 r2 r3 r4))
          exact all_round Q2.out (fun k hk => hk.1) Q4.out Q7.out rfl Q8.out rfl K1.out K3.out (by have h_ := R1.out; rw [List.length_append] at h_; exact h_) R2.out R3.out hok.1 hle g7
        · rintro e W' (⟨he, hr, hi⟩ | ⟨_, _, _, hf⟩)
          · exact ⟨he, hi, hr⟩
          · exact hf.elim
      rintro e W' ⟨hv, hj, hr⟩
      exact ⟨hv, .inl ⟨hr, hj⟩⟩
    case done =>
      intro W o hlt hnc hI hD
      rw [hsz] at hlt hnc hD ⊢
      obtain ⟨o0, ho0, hoc⟩ := hnc
      obtain ⟨⟨v, h1, h2⟩, h3, h4, h5, h7, h8⟩ := hI
      obtain ⟨A1, c1, rfl⟩ := Kd.S_slice h2
      have b1 := boxed_putObj h1 ho0 hoc o
      have b2 := boxed_putObj h3 ho0 hoc o
      have b3 := S_putObj h2 ho0 hoc o
      have b4 := below_putObj (n₀ := w.heap.size) h5 (by omega) hlt o
      generalize W.putObj (w.heap.size + 3 + 1) o = WX at b1 b2 b3 b4 hD ⊢
      have c1_ := b1.cell
      have c2_ := b2.cell
      have B3 := Aside0.mk b3
      have B4 := Aside0.mk b4
      clear b1 b2 b3 b4 h1 h2 h3 h4 h5 h7 h8 ho0 hoc hlt hW0 hsz HI0
      gi_wp2
      gi_region
      gi_wp2
      refine ⟨by simp, .inl ⟨_, _, rfl, run_takeDeferred (by first | exact hD | simpa using hD), ?_⟩⟩
      refine ⟨_, results_tmp2 rfl _ _ _, _, rfl, ?_, ?_⟩
      · exact Kd.S_mono (S_putObj B3.out (by first | exact hD | simpa using hD) rfl _) (fun _ _ => trivial)
      · exact below_putObj (below_drew B4.out) (by omega) (Array.getElem?_eq_some_iff.1 hD).1 _
  · rw [if_neg hcond] at h
    exact absurd h (by simp)

end Go.Proofs.Ythdkcfobhofmpaa.P
