/- wide.Read: a number's bytes are read. Guard: the row holds bytes. -/
import Derived.Test.YtjmobjjajnnodaaERefRead
namespace Go.Proofs.Ytjmobjjajnnodaa.P
open Go.RowKit Go.Proofs.YtjmobjjajnnodaaW.PrintWords Go.Proofs.YtjmobjjajnnodaaW.PrintLast Go.Proofs.YtjmobjjajnnodaaW.PrintMore
set_option linter.unusedVariables false
set_option linter.unusedSimpArgs false

/-- The number of the first k of the bytes from place p on. -/
def accB (l : List Int) (p : Nat) : Nat → Nat
  | 0 => 0
  | k + 1 => 256 * accB l p k + (l.getD (p + k) 0).toNat
def wide_Read.f (l : List Int) : Option (Int × Int × Int) :=
  if l.length < 16 then some (0, 0, 10) else if 16 < l.length then some (0, 0, 2) else if IsBy l then some (wrap64 (accB l 0 8 : Nat), (accB l 8 8 : Nat), 0) else none
theorem accB_lt {l : List Int} (h : IsBy l) (p : Nat) (k : Nat) : accB l p k < 256 ^ k := by
  induction k with
  | zero => exact Nat.one_pos
  | succ k ih =>
    have := h.at_ (p + k)
    rw [accB, Nat.pow_succ]
    omega
theorem or_low (x b : Nat) (hb : b < 256) : (256 * x) ||| b = 256 * x + b := by
  rw [show 256 * x = 2 ^ 8 * x from rfl, ← Nat.two_pow_add_eq_or_of_lt hb]
theorem or_u64 (x b : Nat) (hx : 256 * x + b < 18446744073709551616) (hb : b < 256) : Go.bits .or .u64 ((256 * x : Nat) : Int) (b : Int) = ((256 * x + b : Nat) : Int) := by
  unfold Go.bits
  show IntKind.u64.wrap (((BitVec.ofInt 64 ((256 * x : Nat) : Int) ||| BitVec.ofInt 64 (b : Int)).toNat : Nat) : Int) = _
  rw [BitVec.toNat_or, BitVec.ofInt_natCast, BitVec.ofInt_natCast, BitVec.toNat_ofNat, BitVec.toNat_ofNat, Nat.mod_eq_of_lt (by omega), Nat.mod_eq_of_lt (by omega), or_low x b hb, IntKind.wrap_u64]
  omega
theorem or_i64 (x b : Nat) (hx : 256 * x + b < 18446744073709551616) (hb : b < 256) : Go.bits .or .i64 (wrap64 ((256 * x : Nat) : Int)) (b : Int) = wrap64 ((256 * x + b : Nat) : Int) := by
  unfold Go.bits
  show IntKind.i64.wrap (((BitVec.ofInt 64 (wrap64 ((256 * x : Nat) : Int)) ||| BitVec.ofInt 64 (b : Int)).toNat : Nat) : Int) = _
  have e : BitVec.ofInt 64 (wrap64 ((256 * x : Nat) : Int)) = BitVec.ofNat 64 (256 * x) := by
    apply BitVec.eq_of_toNat_eq
    rw [BitVec.toNat_ofInt, BitVec.toNat_ofNat]
    unfold wrap64
    omega
  rw [e, BitVec.toNat_or, BitVec.ofInt_natCast, BitVec.toNat_ofNat, BitVec.toNat_ofNat, Nat.mod_eq_of_lt (by omega), Nat.mod_eq_of_lt (by omega), or_low x b hb, IntKind.wrap_i64]
  unfold wrap64
  rfl

theorem ws1 {c : Nat} (h : c < 256) : wrap64 (c : Int) = c := by unfold wrap64; omega
theorem ws2 (x : Nat) : wrap64 (wrap64 (x : Int) * 256) = wrap64 ((256 * x : Nat) : Int) := by unfold wrap64; omega
theorem ws3 {y : Nat} (h : 256 * y < 18446744073709551616) : IntKind.u64.wrap ((y : Int) * 256) = ((256 * y : Nat) : Int) := by rw [IntKind.wrap_u64]; omega
theorem ws4 {c : Nat} (h : c < 256) : IntKind.u64.wrap (c : Int) = c := by rw [IntKind.wrap_u64]; omega
theorem ws5 (z : Int) : IntKind.i64.wrap z = wrap64 z := by rw [IntKind.wrap_i64]; unfold wrap64; rfl
theorem ws6 {i : Nat} (h : i < 1000) : wrap64 (8 + (i : Int)) = ((8 + i : Nat) : Int) := by unfold wrap64; omega
theorem ws7 {i : Nat} (h : i < 1000) : wrap64 ((i : Int) + 1) = ((i + 1 : Nat) : Int) := by unfold wrap64; omega
theorem accB_zero (l : List Int) (p : Nat) : accB l p 0 = 0 := rfl

set_option maxHeartbeats 4000000 in
set_option maxRecDepth 100000 in
theorem wide_Read.calls (A0 : Option Addr) (c0 : Nat) (l0 : List Int) (r1 r2 r3 : Int) (w : World) (hr0 : Kd.C (Kd.int .u8) w A0 l0.length l0) (hc0 : l0.length ≤ c0) (h : wide_Read.f l0 = some (r1, r2, r3)) :
    Calls Try.prog 28 #[.slice A0 l0.length c0] w fun e w' => e = .returned (.tuple #[.agg #[.int .i64 r1, .int .u64 r2], .int .i64 r3]) ∧ Below w.heap.size w w' := by
  have hu := Try.underlying24
  have HR := Aside0.mk hr0
  have HB0 := Aside0.mk (Below.refl w.heap.size w)
  unfold wide_Read.f at h
  clear hr0 hc0
  by_cases h1 : l0.length < 16
  · rw [if_pos h1] at h
    simp only [Option.some.injEq, Prod.mk.injEq] at h
    obtain ⟨rfl, rfl, rfl⟩ := h
    have d1 : decide (l0.length < 16) = true := decide_eq_true h1
    have d2 : decide ((l0.length : Int) < 16) = true := decide_eq_true (by omega)
    go_enter Try.func28, Try.ntmps28
    go_wp2
    refine bodyPost_ret (results_ct rfl _ _ w.heap.size 24 #[.int .i64 0, .int .u64 0] (0, 0) _ rfl (by first | exact blk_new _ _ | (refine blk_put (cs := #[.int .i64 0, .int .u64 0]) ?_ 1 _ rfl; refine blk_put (cs := #[.int .i64 0, .int .u64 0]) ?_ 0 _ rfl; exact blk_new _ _)) hu rfl (by kernel_rfl)) rfl ?_
    exact ⟨rfl, by first | exact below_alloc HB0.out _ | exact below_set (below_set (below_alloc HB0.out _) (Nat.le_refl _)) (Nat.le_refl _)⟩
  rw [if_neg h1] at h
  have d1 : decide (l0.length < 16) = false := decide_eq_false h1
  have d2 : decide ((l0.length : Int) < 16) = false := decide_eq_false (by omega)
  by_cases h2 : 16 < l0.length
  · rw [if_pos h2] at h
    simp only [Option.some.injEq, Prod.mk.injEq] at h
    obtain ⟨rfl, rfl, rfl⟩ := h
    have d3 : decide (16 < l0.length) = true := decide_eq_true h2
    have d4 : decide (16 < (l0.length : Int)) = true := decide_eq_true (by omega)
    clear h1 h2
    go_enter Try.func28, Try.ntmps28
    go_wp2
    refine bodyPost_ret (results_ct rfl _ _ w.heap.size 24 #[.int .i64 0, .int .u64 0] (0, 0) _ rfl (by first | exact blk_new _ _ | (refine blk_put (cs := #[.int .i64 0, .int .u64 0]) ?_ 1 _ rfl; refine blk_put (cs := #[.int .i64 0, .int .u64 0]) ?_ 0 _ rfl; exact blk_new _ _)) hu rfl (by kernel_rfl)) rfl ?_
    exact ⟨rfl, by first | exact below_alloc HB0.out _ | exact below_set (below_set (below_alloc HB0.out _) (Nat.le_refl _)) (Nat.le_refl _)⟩
  rw [if_neg h2] at h
  have d3 : decide (16 < l0.length) = false := decide_eq_false h2
  have d4 : decide (16 < (l0.length : Int)) = false := decide_eq_false (by omega)
  by_cases h3 : IsBy l0
  case neg => rw [if_neg h3] at h; cases h
  rw [if_pos h3] at h
  simp only [Option.some.injEq, Prod.mk.injEq] at h
  obtain ⟨rfl, rfl, rfl⟩ := h
  have HBY := Aside0.mk h3
  have HL := Aside0.mk (show l0.length = 16 by omega)
  clear h1 h2 h3
  go_enter Try.func28, Try.ntmps28
  go_wp2
  clear d1 d2 d3 d4
  go_loopg [14] 8 (fun kq v14 w' => ∃ (i : Nat) (iv : Int), v14 = .int .i64 iv ∧ Aside0 (iv = (i : Int) ∧ i ≤ 8 ∧ kq = 8 - i) ∧ Aside0 (w'.heap[w.heap.size + 1]? = some (.cells #[.int .i64 (wrap64 (accB l0 0 i : Nat)), .int .u64 (accB l0 8 i : Nat)] 24 (0, 0))) ∧
    Aside0 (w'.heap[w.heap.size]? = some (.cells #[.int .i64 0, .int .u64 0] 24 (0, 0))) ∧ Aside0 (Below w.heap.size w w'))
  case atStart => exact ⟨0, 0, rfl, ⟨rfl, by decide, rfl⟩, ⟨(blk_new1 _ _ _).trans (by rw [show wrap64 (accB l0 0 0 : Nat) = 0 from by rw [accB_zero]; unfold wrap64; omega, show ((accB l0 8 0 : Nat) : Int) = 0 from rfl])⟩, ⟨blk_alloc (blk_new _ _) _⟩, ⟨below_alloc (below_alloc HB0.out _) _⟩⟩
  case round =>
    obtain ⟨i, iv, rfl, HI, BD, BR, HB⟩ := hrel
    by_cases h16 : i < 8
    · have hI := HI.out
      have hL := HL.out
      have hCr := Kd.C_below HR.out HB.out
      obtain ⟨_, _, hrd⟩ := Kd.reads_of_C (d := (0 : Int)) HR.out
      obtain ⟨ad, rfl, hrd2⟩ := hrd (by omega)
      have hcA := hrd2 i (by omega)
      have hcB := hrd2 (8 + i) (by omega)
      have hblk : ad.block < w.heap.size := by
        have := World.block_lt_of_cell? w _ hcA
        have e : (ad.add i).block = ad.block := by unfold Addr.add; split <;> rfl
        rwa [e] at this
      obtain ⟨c, hc⟩ : ∃ c : Nat, l0.getD i 0 = (c : Int) := ⟨(l0.getD i 0).toNat, by have := HBY.out.at_ i; omega⟩
      obtain ⟨c2, hc2⟩ : ∃ c : Nat, l0.getD (8 + i) 0 = (c : Int) := ⟨(l0.getD (8 + i) 0).toNat, by have := HBY.out.at_ (8 + i); omega⟩
      have hcb := HBY.out.at_ i
      have hcb2 := HBY.out.at_ (8 + i)
      rw [hc] at hcb
      rw [hc2] at hcb2
      have hA : wr.drew.cell? (ad.add i) = some (.int .u8 (c : Int)) := by
        have h_ : w.cell? (ad.add i) = some (.int .u8 (c : Int)) := by rw [← hc]; exact hcA
        exact pw_cell_below HB.out.drew h_
      have hB : wr.drew.cell? (ad.add (8 + i)) = some (.int .u8 (c2 : Int)) := by
        have h_ : w.cell? (ad.add (8 + i)) = some (.int .u8 (c2 : Int)) := by rw [← hc2]; exact hcB
        exact pw_cell_below HB.out.drew h_
      have e1b : (ad.add i).block = ad.block := by unfold Addr.add; split <;> rfl
      have e2b : (ad.add (8 + i)).block = ad.block := by unfold Addr.add; split <;> rfl
      have hH : wr.drew.cell? ⟨w.heap.size + 1, 0, none⟩ = some (.int .i64 (wrap64 (accB l0 0 i : Nat))) := (blk_cell (blk_drew BD.out) 0).trans rfl
      have hL2 : wr.drew.cell? ⟨w.heap.size + 1, 1, none⟩ = some (.int .u64 (accB l0 8 i : Nat)) := (blk_cell (blk_drew BD.out) 1).trans rfl
      have f0 := blk_frozen (blk_drew BD.out) 0
      have f1 := blk_frozen (blk_drew BD.out) 1
      have n1 : w.heap.size + 1 ≠ (ad.add i).block := by rw [e1b]; omega
      have n2 : w.heap.size + 1 ≠ (ad.add (8 + i)).block := by rw [e2b]; omega
      have n3 := n1.symm
      have n4 := n2.symm
      obtain ⟨x, hx⟩ : ∃ x, accB l0 0 i = x := ⟨_, rfl⟩
      obtain ⟨y, hy⟩ : ∃ y, accB l0 8 i = y := ⟨_, rfl⟩
      have hlt := accB_lt HBY.out 0 i
      have hlt2 := accB_lt HBY.out 8 i
      have hp : 256 ^ i ≤ 256 ^ 7 := Nat.pow_le_pow_right (by decide) (by omega)
      have hp7 : (256 : Nat) ^ 7 = 72057594037927936 := rfl
      rw [hx] at hH hlt
      rw [hy] at hL2 hlt2
      have hb1 : 256 * x + c < 18446744073709551616 := by omega
      have hb2 : 256 * y + c2 < 18446744073709551616 := by omega
      have hc256 : c < 256 := by omega
      have hc256b : c2 < 256 := by omega
      have hy256 : 256 * y < 18446744073709551616 := by omega
      have c1 : decide (iv < 8) = true := decide_eq_true (by omega)
      have q2 : (0 ≤ iv) = True := eq_true (by omega)
      have q3 : (iv < (l0.length : Int)) = True := eq_true (by omega)
      have q4 : iv.toNat = i := by omega
      have q5 : (i < l0.length) = True := eq_true (by omega)
      obtain ⟨jv, hj⟩ : ∃ j : Int, ((8 + i : Nat) : Int) = j := ⟨_, rfl⟩
      have q6 : (0 ≤ jv) = True := eq_true (by omega)
      have q7 : (jv < (l0.length : Int)) = True := eq_true (by omega)
      have q8 : jv.toNat = 8 + i := by omega
      have hi8 : i < 1000 := by omega
      have hiv := hI.1
      have e1 := ws6 hi8
      have e4 := ws7 hi8
      have e1c := ws5 (8 + iv)
      rw [← hiv, hj] at e1
      rw [e1] at e1c
      rw [← hiv] at e4
      clear hiv
      have k1 := or_i64 x c hb1 hc256
      have k2 := or_u64 y c2 hb2 hc256b
      obtain ⟨C, hC⟩ : ∃ C : Int, (c : Int) = C := ⟨_, rfl⟩
      obtain ⟨C2, hC2⟩ : ∃ C : Int, (c2 : Int) = C := ⟨_, rfl⟩
      obtain ⟨H, hHe⟩ : ∃ C : Int, wrap64 (x : Int) = C := ⟨_, rfl⟩
      obtain ⟨L, hLe⟩ : ∃ C : Int, (y : Int) = C := ⟨_, rfl⟩
      obtain ⟨H8, hH8⟩ : ∃ C : Int, wrap64 ((256 * x : Nat) : Int) = C := ⟨_, rfl⟩
      obtain ⟨L8, hL8⟩ : ∃ C : Int, ((256 * y : Nat) : Int) = C := ⟨_, rfl⟩
      obtain ⟨H', hH'⟩ : ∃ C : Int, wrap64 ((256 * x + c : Nat) : Int) = C := ⟨_, rfl⟩
      obtain ⟨L', hL'⟩ : ∃ C : Int, ((256 * y + c2 : Nat) : Int) = C := ⟨_, rfl⟩
      have s1 := ws1 hc256
      have s2 := ws2 x
      have s3 := ws3 hy256
      have s4 := ws4 hc256b
      have s1b := ws5 (c : Int)
      have s2b := ws5 (wrap64 (x : Int) * 256)
      rw [hC] at s1 s1b
      rw [s1] at s1b
      rw [hHe, hH8] at s2
      rw [hHe, s2] at s2b
      rw [hLe, hL8] at s3
      rw [hC2] at s4
      rw [hH8, hC, hH'] at k1
      rw [hL8, hC2, hL'] at k2
      rw [hHe] at hH
      rw [hLe] at hL2
      rw [hC] at hA
      rw [hC2] at hB
      have g1 : (wr.setCell ⟨w.heap.size + 1, 0, none⟩ (.int .i64 H')).drew.cell? ⟨w.heap.size + 1, 1, none⟩ = some (.int .u64 L) := (blk_cell (blk_drew (blk_set BD.out 0 (.int .i64 H'))) 1).trans (by rw [hy, hLe]; rfl)
      have g2 := blk_frozen (blk_drew (blk_set BD.out 0 (.int .i64 H'))) 1
      have g3 : (wr.setCell ⟨w.heap.size + 1, 0, none⟩ (.int .i64 H')).drew.cell? (ad.add (8 + i)) = some (.int .u8 C2) := by
        have h_ : (wr.drew.setCell ⟨w.heap.size + 1, 0, none⟩ (.int .i64 H')).cell? (ad.add (8 + i)) = wr.drew.cell? (ad.add (8 + i)) := cell_far (p := ⟨w.heap.size + 1, 0, none⟩) (Ne.symm n2) _
        exact h_.trans hB
      have HZ := Aside0.mk (show H' = wrap64 (accB l0 0 (i + 1) : Nat) ∧ L' = (accB l0 8 (i + 1) : Nat) from by
        rw [accB, accB, hx, hy, Nat.zero_add, hc, hc2, Int.toNat_natCast, Int.toNat_natCast]
        exact ⟨hH'.symm, hL'.symm⟩)
      clear hC hC2 hHe hLe hH8 hL8 hH' hL'
      have H16 := Aside0.mk h16
      have HX := Aside0.mk (And.intro hx hy)
      have HC := Aside0.mk (And.intro hc hc2)
      have E4 := Aside0.mk e4
      clear hc256 hc256b hy256 hi8 hI hL hCr hrd hrd2 hcA hcB hblk hc hc2 hcb hcb2 e1b e2b hx hy hlt hlt2 hp hp7 hb1 hb2 hj h16 e4
      go_upto_region 9 with (fail)
      go_region
      go_wp2
      go_roundg (8 - (i + 1))
      case measure => have := HI.out.2.2; have := H16.out; omega
      case rel =>
        refine ⟨i + 1, _, by rw [E4.out], ⟨rfl, H16.out, rfl⟩, ⟨?_⟩, ⟨blk_drew (blk_far (blk_far BR.out (by simp) _) (by simp) _)⟩, ⟨(below_set (below_set HB.out (by omega)) (by omega)).drew⟩⟩
        refine (blk_drew (blk_set (blk_set BD.out 0 (.int .i64 H')) 1 (.int .u64 L'))).trans ?_
        rw [HZ.out.1, HZ.out.2]
        rfl
    · have c1 : decide (iv < 8) = false := decide_eq_false (by have := HI.out; omega)
      have hi8 : i = 8 := by have := HI.out; omega
      have hD := BD.out
      rw [hi8] at hD
      have HD := Aside0.mk hD
      have hcz_0 : wr.cell? ⟨w.heap.size + 1, 0, none⟩ = some (.int .i64 (wrap64 (accB l0 0 8 : Nat))) := (blk_cell hD 0).trans rfl
      have hcz_1 : wr.cell? ⟨w.heap.size + 1, 1, none⟩ = some (.int .u64 (accB l0 8 8 : Nat)) := (blk_cell hD 1).trans rfl
      have hcy_0 : wr.cell? ⟨w.heap.size, 0, none⟩ = some (.int .i64 0) := (blk_cell BR.out 0).trans rfl
      have hcy_1 : wr.cell? ⟨w.heap.size, 1, none⟩ = some (.int .u64 0) := (blk_cell BR.out 1).trans rfl
      have f0 := blk_frozen BR.out 0
      have f1 := blk_frozen BR.out 1
      clear h16 hi8 hD
      go_wp2
      refine bodyPost_ret (results_ct rfl _ _ w.heap.size 24 #[.int .i64 (wrap64 (accB l0 0 8 : Nat)), .int .u64 (accB l0 8 8 : Nat)] (0, 0) _ rfl (by refine blk_put (cs := #[.int .i64 (wrap64 (accB l0 0 8 : Nat)), .int .u64 0]) ?_ 1 _ rfl; refine blk_put (cs := #[.int .i64 0, .int .u64 0]) ?_ 0 _ rfl; exact BR.out) hu rfl (by kernel_rfl)) rfl ?_
      exact ⟨rfl, below_set (below_set HB.out (Nat.le_refl _)) (Nat.le_refl _)⟩

end Go.Proofs.Ytjmobjjajnnodaa.P
