/- The reference's reading of a number's bytes. Guard: the row holds bytes. -/
import Derived.Test.YtjmobjjajnnodaaERef01B
namespace Go.Proofs.Ytjmobjjajnnodaa.P
open Go.RowKit Go.Proofs.YtjmobjjajnnodaaW.PrintWords Go.Proofs.YtjmobjjajnnodaaW.PrintLast Go.Proofs.YtjmobjjajnnodaaW.PrintMore
set_option linter.unusedVariables false
set_option linter.unusedSimpArgs false

/-- What the place j of the digits holds when i bytes are read. -/
def rdig (l : List Int) (i j : Nat) : Nat := if 15 - j < i then (l.getD (15 - j) 0).toNat else 0
/-- The digits of a row of bytes, the least first. -/
def bdig (l : List Int) (j : Nat) : Nat := (l.getD (15 - j) 0).toNat
def IsBy (l : List Int) : Prop := ∀ x ∈ l, 0 ≤ x ∧ x < 256
instance (l : List Int) : Decidable (IsBy l) := by unfold IsBy; infer_instance
theorem IsBy.at_ {l : List Int} (h : IsBy l) (i : Nat) : 0 ≤ l.getD i 0 ∧ l.getD i 0 < 256 := by
  rw [List.getD_eq_getElem?_getD]
  by_cases hi : i < l.length
  · rw [List.getElem?_eq_getElem hi]; exact h _ (List.getElem_mem hi)
  · rw [List.getElem?_eq_none (by omega)]; simp
def rickyardref01_Read.f (l : List Int) : Option (Int × Int × Int) :=
  if l.length < 16 then some (0, 0, 10) else if 16 < l.length then some (0, 0, 2) else if IsBy l then some (wrap64 (acc8 (fun j => bdig l (8 + j)) 8 : Nat), (acc8 (bdig l) 8 : Nat), 0) else none

set_option maxHeartbeats 2000000 in
set_option maxRecDepth 100000 in
theorem rickyardref01_Read.calls (A0 : Option Addr) (c0 : Nat) (l0 : List Int) (r1 r2 r3 : Int) (w : World) (hr0 : Kd.C (Kd.int .u8) w A0 l0.length l0) (hc0 : l0.length ≤ c0) (h : rickyardref01_Read.f l0 = some (r1, r2, r3)) :
    Calls Try.prog 29 #[.slice A0 l0.length c0] w fun e w' => e = .returned (.tuple #[.agg #[.int .i64 r1, .int .u64 r2], .int .i64 r3]) ∧ Below w.heap.size w w' := by
  have hu := Try.underlying24
  have hu2 := Try.underlying48
  have HR := Aside0.mk hr0
  have HB0 := Aside0.mk (Below.refl w.heap.size w)
  unfold rickyardref01_Read.f at h
  clear hr0 hc0
  by_cases h1 : l0.length < 16
  · rw [if_pos h1] at h
    simp only [Option.some.injEq, Prod.mk.injEq] at h
    obtain ⟨rfl, rfl, rfl⟩ := h
    have d1 : decide (l0.length < 16) = true := decide_eq_true h1
    have d2 : decide ((l0.length : Int) < 16) = true := decide_eq_true (by omega)
    go_enter Try.func29, Try.ntmps29
    go_wp2
    refine bodyPost_ret (results_ct rfl _ _ w.heap.size 24 #[.int .i64 0, .int .u64 0] (0, 0) _ rfl (by first | exact blk_new _ _ | (refine blk_put (cs := #[.int .i64 0, .int .u64 0]) ?_ 1 _ rfl; refine blk_put (cs := #[.int .i64 0, .int .u64 0]) ?_ 0 _ rfl; exact blk_new _ _)) hu rfl (by kernel_rfl)) rfl ?_
    exact ⟨rfl, by first | exact below_alloc HB0.out _ | exact below_set (below_set (below_alloc HB0.out _) (Nat.le_refl _)) (Nat.le_refl _)⟩
  rw [if_neg h1] at h
  have d1 : decide (l0.length < 16) = false := decide_eq_false h1
  have d2 : decide ((l0.length : Int) < 16) = false := decide_eq_false (by omega)
  by_cases h2 : 16 < l0.length
  · rw [if_pos h2] at h
    simp only [Option.some.injEq, Prod.mk.injEq] at h
    obtain ⟨rfl, rfl, rfl⟩ := h
    have d3 : decide (16 < l0.length) = true := decide_eq_true h2
    have d4 : decide (16 < (l0.length : Int)) = true := decide_eq_true (by omega)
    clear h1 h2
    go_enter Try.func29, Try.ntmps29
    go_wp2
    refine bodyPost_ret (results_ct rfl _ _ w.heap.size 24 #[.int .i64 0, .int .u64 0] (0, 0) _ rfl (by first | exact blk_new _ _ | (refine blk_put (cs := #[.int .i64 0, .int .u64 0]) ?_ 1 _ rfl; refine blk_put (cs := #[.int .i64 0, .int .u64 0]) ?_ 0 _ rfl; exact blk_new _ _)) hu rfl (by kernel_rfl)) rfl ?_
    exact ⟨rfl, by first | exact below_alloc HB0.out _ | exact below_set (below_set (below_alloc HB0.out _) (Nat.le_refl _)) (Nat.le_refl _)⟩
  rw [if_neg h2] at h
  have d3 : decide (16 < l0.length) = false := decide_eq_false h2
  have d4 : decide (16 < (l0.length : Int)) = false := decide_eq_false (by omega)
  by_cases h3 : IsBy l0
  case neg => rw [if_neg h3] at h; cases h
  rw [if_pos h3] at h
  simp only [Option.some.injEq, Prod.mk.injEq] at h
  obtain ⟨rfl, rfl, rfl⟩ := h
  have HBY := Aside0.mk h3
  have HL := Aside0.mk (show l0.length = 16 by omega)
  clear h1 h2 h3
  go_enter Try.func29, Try.ntmps29
  go_wp2
  clear d1 d2 d3 d4
  go_loopg [5] 16 (fun kq v5 w' => ∃ (i : Nat) (iv : Int), v5 = .int .i64 iv ∧ Aside0 (iv = (i : Int) ∧ i ≤ 16 ∧ kq = 16 - i) ∧ Aside0 (w'.heap[w.heap.size + 1]? = some (.cells (cells16 (rdig l0 i)).toArray 48 (0, 0))) ∧
    Aside0 (w'.heap[w.heap.size]? = some (.cells #[.int .i64 0, .int .u64 0] 24 (0, 0))) ∧ Aside0 (Below w.heap.size w w'))
  case atStart => exact ⟨0, 0, rfl, ⟨rfl, by decide, rfl⟩, ⟨(blk_new1 _ _ _).trans (by rw [cells16_congr (f := rdig l0 0) (g := fun _ => 0) (fun j _ => if_neg (Nat.not_lt_zero _))]; rfl)⟩, ⟨blk_alloc (blk_new _ _) _⟩, ⟨below_alloc (below_alloc HB0.out _) _⟩⟩
  case round =>
    obtain ⟨i, iv, rfl, HI, BD, BR, HB⟩ := hrel
    by_cases h16 : i < 16
    · have hI := HI.out
      have hL := HL.out
      obtain ⟨_, _, hrd⟩ := Kd.reads_of_C (d := (0 : Int)) (Kd.C_below HR.out HB.out)
      obtain ⟨ad, rfl, hrd2⟩ := hrd (by omega)
      have hcell := hrd2 i (by omega)
      obtain ⟨c, hc⟩ : ∃ c, l0.getD i 0 = c := ⟨_, rfl⟩
      have hce : rdOf (0 : Int) l0 ((i : Nat) : Int) = c := by rw [← hc]; simp [rdOf]
      have hcb := HBY.out.at_ i
      rw [hc] at hcb
      have hcell2 : wr.cell? (ad.add i) = some (.int .u8 c) := by rw [← hc]; exact hcell
      have c1 : decide (iv < 16) = true := decide_eq_true (by omega)
      have c2 : (0 ≤ iv) = True := eq_true (by omega)
      have c3 : (iv < (l0.length : Int)) = True := eq_true (by omega)
      have c4 : iv.toNat = i := by omega
      have c5 : (i < l0.length) = True := eq_true (by omega)
      obtain ⟨jv, hj⟩ : ∃ j : Int, j = 15 - iv := ⟨_, rfl⟩
      have e1 : wrap64 (15 - iv) = jv := by unfold wrap64; omega
      have c6 : (0 ≤ jv) = True := eq_true (by omega)
      have c7 : (jv < 16) = True := eq_true (by omega)
      have c8 : jv.toNat = 15 - i := by omega
      have e2 : wrap64 c = c := by unfold wrap64; omega
      have e3 : IntKind.i64.wrap c = c := by rw [IntKind.wrap_i64]; omega
      have e4 : wrap64 (iv + 1) = ((i + 1 : Nat) : Int) := by unfold wrap64; omega
      have hcz : wr.cell? ⟨w.heap.size + 1, 15 - i, none⟩ = some (.int .i64 (rdig l0 i (15 - i) : Int)) := (blk_cell BD.out (15 - i)).trans (cells16_at _ (by omega))
      have hfz := blk_frozen BD.out (15 - i)
      have H16 := Aside0.mk h16
      have HC := Aside0.mk (And.intro hc hcb)
      have E4 := Aside0.mk e4
      clear hI hL hrd hrd2 hcell hce hcb hj h16 hc e4
      go_wp2
      go_roundg (16 - (i + 1))
      case measure => have := HI.out.2.2; have := H16.out; omega
      case rel =>
        refine ⟨i + 1, _, rfl, ⟨E4.out, H16.out, rfl⟩, ⟨?_⟩, ⟨blk_far BR.out (by simp) _⟩, ⟨below_set HB.out (by omega)⟩⟩
        have e := blk_set BD.out (15 - i) (.int .i64 c)
        have hcn : c = (c.toNat : Int) := by have := HC.out.2; omega
        rw [hcn, cells16_set] at e
        rw [hcn]
        refine e.trans ?_
        rw [cells16_congr (f := fun j => if j = 15 - i then c.toNat else rdig l0 i j) (g := rdig l0 (i + 1)) (fun j hj => ?_)]
        have h16 := H16.out
        unfold rdig
        by_cases h1 : j = 15 - i
        · subst h1
          rw [if_pos rfl, if_pos (by omega), show 15 - (15 - i) = i by omega, HC.out.1]
        · rw [if_neg h1]
          by_cases h2 : 15 - j < i
          · rw [if_pos h2, if_pos (by omega)]
          · rw [if_neg h2, if_neg (by omega)]
    · have c1 : decide (iv < 16) = false := decide_eq_false (by have := HI.out; omega)
      have hi16 : i = 16 := by have := HI.out; omega
      have HF := Aside0.mk (show wr.heap[w.heap.size + 1]? = some (.cells (cells16 (bdig l0)).toArray 48 (0, 0)) from BD.out.trans (by rw [hi16, cells16_congr (f := rdig l0 16) (g := bdig l0) (fun j hj => if_pos (by omega))]))
      have sz1 := cells16_len (bdig l0)
      have HBD := Aside0.mk (show ∀ j, j < 16 → bdig l0 j < 256 from fun j _ => by unfold bdig; have := HBY.out.at_ (15 - j); omega)
      clear h16 hi16
      go_wp2_with (first
        | ((with_reducible refine gate_callee (f := 37) rfl ?_); refine goesL_ (some 27) rfl rfl Try.func37 (by kernel_rfl) rfl #[.agg (cells16 (bdig l0)).toArray] rfl (by (try simp only [List.map_toArray, List.map_cons, List.map_nil]); first | done | rfl | (simp only [List.length_drop, List.length_take]; rfl)) ?_; refine (ref_From (bdig l0) _ HBD.out).mono ?_; rintro e w2 ⟨rfl, hb⟩; have B22 := Aside0.mk ((hb.block _ (blk_lt BR.out)).trans BR.out); have HB2 := Aside0.mk (HB.out.trans (hb.mono HB.out.size)); clear hb; have hcz_0 : w2.cell? ⟨w.heap.size, 0, none⟩ = some (.int .i64 0) := (blk_cell B22.out 0).trans rfl; have hcz_1 : w2.cell? ⟨w.heap.size, 1, none⟩ = some (.int .u64 0) := (blk_cell B22.out 1).trans rfl; have hfz_0 := blk_frozen B22.out 0; have hfz_1 := blk_frozen B22.out 1; refine ⟨_, rfl, ?_⟩)
        | ((with_reducible refine gate_dst (N := 26) rfl ?_); refine wpList_load_row rfl 48 (.tmp 4) rfl (w.heap.size + 1) rfl _ _ _ _ HF.out hu2 rfl (by rw [List.size_toArray, sz1]; kernel_rfl) ?_))
      refine bodyPost_ret (results_ct rfl _ _ w.heap.size 24 #[.int .i64 (wrap64 (acc8 (fun j => bdig l0 (8 + j)) 8 : Nat)), .int .u64 (acc8 (bdig l0) 8 : Nat)] (0, 0) _ rfl (by refine blk_put (cs := #[.int .i64 (wrap64 (acc8 (fun j => bdig l0 (8 + j)) 8 : Nat)), .int .u64 0]) ?_ 1 _ rfl; refine blk_put (cs := #[.int .i64 0, .int .u64 0]) ?_ 0 _ rfl; exact B22.out) hu rfl (by kernel_rfl)) rfl ?_
      exact ⟨rfl, below_set (below_set HB2.out (Nat.le_refl _)) (Nat.le_refl _)⟩

end Go.Proofs.Ytjmobjjajnnodaa.P
