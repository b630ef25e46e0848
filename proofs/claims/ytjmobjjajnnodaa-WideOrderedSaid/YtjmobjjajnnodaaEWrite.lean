/- wide.Write: sixteen bytes. -/
import Derived.Test.YtjmobjjajnnodaaEAdd
import Derived.Test.YtjmobjjajnnodaaDag
namespace Go.Proofs.Ytjmobjjajnnodaa.P
open Go.RowKit Go.Proofs.YtjmobjjajnnodaaW.PrintWords Go.Proofs.YtjmobjjajnnodaaW.PrintLast Go.Proofs.YtjmobjjajnnodaaW.PrintMore
set_option linter.unusedVariables false
set_option linter.unusedSimpArgs false

def pw (j : Nat) : Int := ([72057594037927936, 281474976710656, 1099511627776, 4294967296, 16777216, 65536, 256, 1] : List Int).getD j 1
/-- The bytes when i of eight rounds are gone. -/
def wl (a0 a1 : Int) (i : Nat) : List Int := (List.range 16).map fun j => if j < 8 then (if j < i then a0 / pw j % 256 else 0) else (if j - 8 < i then a1 / pw (j - 8) % 256 else 0)
theorem wl_len (a0 a1 : Int) (i : Nat) : (wl a0 a1 i).length = 16 := by simp [wl]
def wide_Write.f (a0_0 a0_1 : Int) : Option (List Int) := some (wl a0_0 a0_1 8)
set_option maxHeartbeats 1000000 in
set_option maxRecDepth 100000 in
theorem wide_Write.calls (a0 a1 : Int) (r : List Int) (w : World) (h : wide_Write.f a0 a1 = some r) :
    Calls Try.prog 27 #[.agg #[.int .i64 a0, .int .u64 a1]] w fun e w' => ∃ v0_ : Value, e = .returned (v0_) ∧ Kd.R (Kd.int .u8) 5 w' w.heap.size (fun _ => True) v0_ r ∧ Below w.heap.size w w' := by
  obtain rfl := Option.some.inj h
  clear h
  have hu := Try.underlying24
  have HB0 := Aside0.mk (Below.refl w.heap.size w)
  go_enter Try.func27, Try.ntmps27
  go_wp2_with (first | ((with_reducible refine gate_dst (N := 5) rfl ?_); refine Kd.R_make (Kd.int .u8) (w0 := w) w.heap.size 5 rfl rfl 42 _ _ rfl 16 rfl rfl Try.underlying42 (.int .u8 0) 1 info_u8 rfl (by decide) (by omega) (0 : Int) (ok := fun _ => True) (okp := fun _ => True) ?hz (fun _ h => h) trivial (by omega) (by omega) ?hB ?hb ?_; (case hz => exact rfl); (case hB => exact below_alloc HB0.out _); (case hb => exact (below_alloc HB0.out _).size); intro v1 w1 ho hb hg hat; have HO := Aside0.mk ho; have HB := Aside0.mk hb; have HGR := Aside0.mk hg; have HAT := Aside0.mk hat; clear ho hb hg hat))
  obtain ⟨g, cap, hv1, hge, _, _⟩ := Kd.R_form HO.out (by decide)
  subst hv1
  have BA := Aside0.mk (blk_grown (blk_new w (.cells #[.int .i64 a0, .int .u64 a1] 24 (0, 0))) HGR.out (by simp))
  have HG : Aside0 (w.heap.size < g) := by
    obtain ⟨b, hb1, hb2⟩ := HAT.out
    simp only [Value.ownBlock, Option.map_some, Option.some.injEq] at hb1
    rw [size_alloc_] at hb2
    exact ⟨by omega⟩
  clear HGR HAT hge
  have HO' : Aside0 (Kd.R (Kd.int .u8) 5 w1 w.heap.size (fun _ => True) (.slice (some ⟨g, 0, none⟩) (wl a0 a1 0).length cap) (wl a0 a1 0)) := ⟨HO.out⟩
  go_loopg [6] 8 (fun kq v6 w' => ∃ (i : Nat), v6 = .int .i64 (i : Int) ∧ Aside0 (i ≤ 8 ∧ kq = 8 - i) ∧ Aside0 (Kd.R (Kd.int .u8) 5 w' w.heap.size (fun _ => True) (.slice (some ⟨g, 0, none⟩) (wl a0 a1 i).length cap) (wl a0 a1 i)) ∧ Aside0 (w'.heap[w.heap.size]? = some (.cells #[.int .i64 a0, .int .u64 a1] 24 (0, 0))) ∧ Aside0 (Below w.heap.size w w'))
  case atStart => exact ⟨0, rfl, ⟨by decide, rfl⟩, HO', BA, HB⟩
  case round =>
    clear HO HO' BA HB
    obtain ⟨i, rfl, HI, HO, BA, HB⟩ := hrel
    have hca_0 : wr.drew.cell? ⟨w.heap.size, 0, none⟩ = some (.int .i64 a0) := (blk_cell (blk_drew BA.out) 0).trans rfl
    have hca_1 : wr.drew.cell? ⟨w.heap.size, 1, none⟩ = some (.int .u64 a1) := (blk_cell (blk_drew BA.out) 1).trans rfl
    have hne : w.heap.size ≠ g := Nat.ne_of_lt HG.out
    have hne' : g ≠ w.heap.size := fun e => hne e.symm
    have hE : ∀ (j : Nat) (x : Value), ((wr.setCell ⟨g, j, none⟩ x).drew).cell? ⟨w.heap.size, 1, none⟩ = some (.int .u64 a1) := fun j x => (blk_cell (blk_drew (blk_far BA.out (p := ⟨g, j, none⟩) hne x)) 1).trans rfl
    have hF : ∀ (j : Nat) (x : Value), ((wr.setCell ⟨g, j, none⟩ x).drew).cell? ⟨w.heap.size, 0, none⟩ = some (.int .i64 a0) := fun j x => (blk_cell (blk_drew (blk_far BA.out (p := ⟨g, j, none⟩) hne x)) 0).trans rfl
    match i, HI, HO with
    | 0, HI, HO =>
      obtain ⟨hc00, hc01⟩ := Kd.R_celln (0 : Int) (Kd.R_drew HO.out) 0 (by decide) (by rw [wl_len]; decide)
      obtain ⟨hc80, hc81⟩ := Kd.R_celln (0 : Int) (Kd.R_drew HO.out) 8 (by decide) (by rw [wl_len]; decide)
      have hA := fun x : Int => (Kd.R_celln (0 : Int) (Kd.R_drew (Kd.R_putn HO.out 0 x)) 8 (by decide) (by rw [wl_len]; decide)).1
      have hB := fun x : Int => (Kd.R_celln (0 : Int) (Kd.R_drew (Kd.R_putn HO.out 0 x)) 8 (by decide) (by rw [wl_len]; decide)).2
      have hC := fun x : Int => (Kd.R_celln (0 : Int) (Kd.R_drew (Kd.R_putn HO.out 8 x)) 0 (by decide) (by rw [wl_len]; decide)).1
      have hD := fun x : Int => (Kd.R_celln (0 : Int) (Kd.R_drew (Kd.R_putn HO.out 8 x)) 0 (by decide) (by rw [wl_len]; decide)).2
      simp only [show (0 : Int).toNat = 0 from rfl, show (8 : Int).toNat = 8 from rfl] at hc00 hc01 hc80 hc81 hA hB hC hD
      go_upto_region 5 with (fail)
      go_region
      go_wp2
      go_roundg (8 - (0 + 1))
      case measure => have := HI.out; omega
      case rel => exact ⟨0 + 1, rfl, ⟨by decide, rfl⟩, ⟨Kd.R_drew (Kd.R_putn (Kd.R_putn HO.out 0 _) 8 _)⟩, ⟨blk_drew (blk_far (blk_far BA.out (p := ⟨g, 0, none⟩) hne _) (p := ⟨g, 8, none⟩) hne _)⟩, ⟨below_drew1 (below_set (below_set HB.out (Nat.le_of_lt HG.out)) (Nat.le_of_lt HG.out))⟩⟩
    | 1, HI, HO =>
      obtain ⟨hc00, hc01⟩ := Kd.R_celln (0 : Int) (Kd.R_drew HO.out) 1 (by decide) (by rw [wl_len]; decide)
      obtain ⟨hc80, hc81⟩ := Kd.R_celln (0 : Int) (Kd.R_drew HO.out) 9 (by decide) (by rw [wl_len]; decide)
      have hA := fun x : Int => (Kd.R_celln (0 : Int) (Kd.R_drew (Kd.R_putn HO.out 1 x)) 9 (by decide) (by rw [wl_len]; decide)).1
      have hB := fun x : Int => (Kd.R_celln (0 : Int) (Kd.R_drew (Kd.R_putn HO.out 1 x)) 9 (by decide) (by rw [wl_len]; decide)).2
      have hC := fun x : Int => (Kd.R_celln (0 : Int) (Kd.R_drew (Kd.R_putn HO.out 9 x)) 1 (by decide) (by rw [wl_len]; decide)).1
      have hD := fun x : Int => (Kd.R_celln (0 : Int) (Kd.R_drew (Kd.R_putn HO.out 9 x)) 1 (by decide) (by rw [wl_len]; decide)).2
      simp only [show (1 : Int).toNat = 1 from rfl, show (9 : Int).toNat = 9 from rfl] at hc00 hc01 hc80 hc81 hA hB hC hD
      go_upto_region 5 with (fail)
      go_region
      go_wp2
      go_roundg (8 - (1 + 1))
      case measure => have := HI.out; omega
      case rel => exact ⟨1 + 1, rfl, ⟨by decide, rfl⟩, ⟨Kd.R_drew (Kd.R_putn (Kd.R_putn HO.out 1 _) 9 _)⟩, ⟨blk_drew (blk_far (blk_far BA.out (p := ⟨g, 1, none⟩) hne _) (p := ⟨g, 9, none⟩) hne _)⟩, ⟨below_drew1 (below_set (below_set HB.out (Nat.le_of_lt HG.out)) (Nat.le_of_lt HG.out))⟩⟩
    | 2, HI, HO =>
      obtain ⟨hc00, hc01⟩ := Kd.R_celln (0 : Int) (Kd.R_drew HO.out) 2 (by decide) (by rw [wl_len]; decide)
      obtain ⟨hc80, hc81⟩ := Kd.R_celln (0 : Int) (Kd.R_drew HO.out) 10 (by decide) (by rw [wl_len]; decide)
      have hA := fun x : Int => (Kd.R_celln (0 : Int) (Kd.R_drew (Kd.R_putn HO.out 2 x)) 10 (by decide) (by rw [wl_len]; decide)).1
      have hB := fun x : Int => (Kd.R_celln (0 : Int) (Kd.R_drew (Kd.R_putn HO.out 2 x)) 10 (by decide) (by rw [wl_len]; decide)).2
      have hC := fun x : Int => (Kd.R_celln (0 : Int) (Kd.R_drew (Kd.R_putn HO.out 10 x)) 2 (by decide) (by rw [wl_len]; decide)).1
      have hD := fun x : Int => (Kd.R_celln (0 : Int) (Kd.R_drew (Kd.R_putn HO.out 10 x)) 2 (by decide) (by rw [wl_len]; decide)).2
      simp only [show (2 : Int).toNat = 2 from rfl, show (10 : Int).toNat = 10 from rfl] at hc00 hc01 hc80 hc81 hA hB hC hD
      go_upto_region 5 with (fail)
      go_region
      go_wp2
      go_roundg (8 - (2 + 1))
      case measure => have := HI.out; omega
      case rel => exact ⟨2 + 1, rfl, ⟨by decide, rfl⟩, ⟨Kd.R_drew (Kd.R_putn (Kd.R_putn HO.out 2 _) 10 _)⟩, ⟨blk_drew (blk_far (blk_far BA.out (p := ⟨g, 2, none⟩) hne _) (p := ⟨g, 10, none⟩) hne _)⟩, ⟨below_drew1 (below_set (below_set HB.out (Nat.le_of_lt HG.out)) (Nat.le_of_lt HG.out))⟩⟩
    | 3, HI, HO =>
      obtain ⟨hc00, hc01⟩ := Kd.R_celln (0 : Int) (Kd.R_drew HO.out) 3 (by decide) (by rw [wl_len]; decide)
      obtain ⟨hc80, hc81⟩ := Kd.R_celln (0 : Int) (Kd.R_drew HO.out) 11 (by decide) (by rw [wl_len]; decide)
      have hA := fun x : Int => (Kd.R_celln (0 : Int) (Kd.R_drew (Kd.R_putn HO.out 3 x)) 11 (by decide) (by rw [wl_len]; decide)).1
      have hB := fun x : Int => (Kd.R_celln (0 : Int) (Kd.R_drew (Kd.R_putn HO.out 3 x)) 11 (by decide) (by rw [wl_len]; decide)).2
      have hC := fun x : Int => (Kd.R_celln (0 : Int) (Kd.R_drew (Kd.R_putn HO.out 11 x)) 3 (by decide) (by rw [wl_len]; decide)).1
      have hD := fun x : Int => (Kd.R_celln (0 : Int) (Kd.R_drew (Kd.R_putn HO.out 11 x)) 3 (by decide) (by rw [wl_len]; decide)).2
      simp only [show (3 : Int).toNat = 3 from rfl, show (11 : Int).toNat = 11 from rfl] at hc00 hc01 hc80 hc81 hA hB hC hD
      go_upto_region 5 with (fail)
      go_region
      go_wp2
      go_roundg (8 - (3 + 1))
      case measure => have := HI.out; omega
      case rel => exact ⟨3 + 1, rfl, ⟨by decide, rfl⟩, ⟨Kd.R_drew (Kd.R_putn (Kd.R_putn HO.out 3 _) 11 _)⟩, ⟨blk_drew (blk_far (blk_far BA.out (p := ⟨g, 3, none⟩) hne _) (p := ⟨g, 11, none⟩) hne _)⟩, ⟨below_drew1 (below_set (below_set HB.out (Nat.le_of_lt HG.out)) (Nat.le_of_lt HG.out))⟩⟩
    | 4, HI, HO =>
      obtain ⟨hc00, hc01⟩ := Kd.R_celln (0 : Int) (Kd.R_drew HO.out) 4 (by decide) (by rw [wl_len]; decide)
      obtain ⟨hc80, hc81⟩ := Kd.R_celln (0 : Int) (Kd.R_drew HO.out) 12 (by decide) (by rw [wl_len]; decide)
      have hA := fun x : Int => (Kd.R_celln (0 : Int) (Kd.R_drew (Kd.R_putn HO.out 4 x)) 12 (by decide) (by rw [wl_len]; decide)).1
      have hB := fun x : Int => (Kd.R_celln (0 : Int) (Kd.R_drew (Kd.R_putn HO.out 4 x)) 12 (by decide) (by rw [wl_len]; decide)).2
      have hC := fun x : Int => (Kd.R_celln (0 : Int) (Kd.R_drew (Kd.R_putn HO.out 12 x)) 4 (by decide) (by rw [wl_len]; decide)).1
      have hD := fun x : Int => (Kd.R_celln (0 : Int) (Kd.R_drew (Kd.R_putn HO.out 12 x)) 4 (by decide) (by rw [wl_len]; decide)).2
      simp only [show (4 : Int).toNat = 4 from rfl, show (12 : Int).toNat = 12 from rfl] at hc00 hc01 hc80 hc81 hA hB hC hD
      go_upto_region 5 with (fail)
      go_region
      go_wp2
      go_roundg (8 - (4 + 1))
      case measure => have := HI.out; omega
      case rel => exact ⟨4 + 1, rfl, ⟨by decide, rfl⟩, ⟨Kd.R_drew (Kd.R_putn (Kd.R_putn HO.out 4 _) 12 _)⟩, ⟨blk_drew (blk_far (blk_far BA.out (p := ⟨g, 4, none⟩) hne _) (p := ⟨g, 12, none⟩) hne _)⟩, ⟨below_drew1 (below_set (below_set HB.out (Nat.le_of_lt HG.out)) (Nat.le_of_lt HG.out))⟩⟩
    | 5, HI, HO =>
      obtain ⟨hc00, hc01⟩ := Kd.R_celln (0 : Int) (Kd.R_drew HO.out) 5 (by decide) (by rw [wl_len]; decide)
      obtain ⟨hc80, hc81⟩ := Kd.R_celln (0 : Int) (Kd.R_drew HO.out) 13 (by decide) (by rw [wl_len]; decide)
      have hA := fun x : Int => (Kd.R_celln (0 : Int) (Kd.R_drew (Kd.R_putn HO.out 5 x)) 13 (by decide) (by rw [wl_len]; decide)).1
      have hB := fun x : Int => (Kd.R_celln (0 : Int) (Kd.R_drew (Kd.R_putn HO.out 5 x)) 13 (by decide) (by rw [wl_len]; decide)).2
      have hC := fun x : Int => (Kd.R_celln (0 : Int) (Kd.R_drew (Kd.R_putn HO.out 13 x)) 5 (by decide) (by rw [wl_len]; decide)).1
      have hD := fun x : Int => (Kd.R_celln (0 : Int) (Kd.R_drew (Kd.R_putn HO.out 13 x)) 5 (by decide) (by rw [wl_len]; decide)).2
      simp only [show (5 : Int).toNat = 5 from rfl, show (13 : Int).toNat = 13 from rfl] at hc00 hc01 hc80 hc81 hA hB hC hD
      go_upto_region 5 with (fail)
      go_region
      go_wp2
      go_roundg (8 - (5 + 1))
      case measure => have := HI.out; omega
      case rel => exact ⟨5 + 1, rfl, ⟨by decide, rfl⟩, ⟨Kd.R_drew (Kd.R_putn (Kd.R_putn HO.out 5 _) 13 _)⟩, ⟨blk_drew (blk_far (blk_far BA.out (p := ⟨g, 5, none⟩) hne _) (p := ⟨g, 13, none⟩) hne _)⟩, ⟨below_drew1 (below_set (below_set HB.out (Nat.le_of_lt HG.out)) (Nat.le_of_lt HG.out))⟩⟩
    | 6, HI, HO =>
      obtain ⟨hc00, hc01⟩ := Kd.R_celln (0 : Int) (Kd.R_drew HO.out) 6 (by decide) (by rw [wl_len]; decide)
      obtain ⟨hc80, hc81⟩ := Kd.R_celln (0 : Int) (Kd.R_drew HO.out) 14 (by decide) (by rw [wl_len]; decide)
      have hA := fun x : Int => (Kd.R_celln (0 : Int) (Kd.R_drew (Kd.R_putn HO.out 6 x)) 14 (by decide) (by rw [wl_len]; decide)).1
      have hB := fun x : Int => (Kd.R_celln (0 : Int) (Kd.R_drew (Kd.R_putn HO.out 6 x)) 14 (by decide) (by rw [wl_len]; decide)).2
      have hC := fun x : Int => (Kd.R_celln (0 : Int) (Kd.R_drew (Kd.R_putn HO.out 14 x)) 6 (by decide) (by rw [wl_len]; decide)).1
      have hD := fun x : Int => (Kd.R_celln (0 : Int) (Kd.R_drew (Kd.R_putn HO.out 14 x)) 6 (by decide) (by rw [wl_len]; decide)).2
      simp only [show (6 : Int).toNat = 6 from rfl, show (14 : Int).toNat = 14 from rfl] at hc00 hc01 hc80 hc81 hA hB hC hD
      go_upto_region 5 with (fail)
      go_region
      go_wp2
      go_roundg (8 - (6 + 1))
      case measure => have := HI.out; omega
      case rel => exact ⟨6 + 1, rfl, ⟨by decide, rfl⟩, ⟨Kd.R_drew (Kd.R_putn (Kd.R_putn HO.out 6 _) 14 _)⟩, ⟨blk_drew (blk_far (blk_far BA.out (p := ⟨g, 6, none⟩) hne _) (p := ⟨g, 14, none⟩) hne _)⟩, ⟨below_drew1 (below_set (below_set HB.out (Nat.le_of_lt HG.out)) (Nat.le_of_lt HG.out))⟩⟩
    | 7, HI, HO =>
      obtain ⟨hc00, hc01⟩ := Kd.R_celln (0 : Int) (Kd.R_drew HO.out) 7 (by decide) (by rw [wl_len]; decide)
      obtain ⟨hc80, hc81⟩ := Kd.R_celln (0 : Int) (Kd.R_drew HO.out) 15 (by decide) (by rw [wl_len]; decide)
      have hA := fun x : Int => (Kd.R_celln (0 : Int) (Kd.R_drew (Kd.R_putn HO.out 7 x)) 15 (by decide) (by rw [wl_len]; decide)).1
      have hB := fun x : Int => (Kd.R_celln (0 : Int) (Kd.R_drew (Kd.R_putn HO.out 7 x)) 15 (by decide) (by rw [wl_len]; decide)).2
      have hC := fun x : Int => (Kd.R_celln (0 : Int) (Kd.R_drew (Kd.R_putn HO.out 15 x)) 7 (by decide) (by rw [wl_len]; decide)).1
      have hD := fun x : Int => (Kd.R_celln (0 : Int) (Kd.R_drew (Kd.R_putn HO.out 15 x)) 7 (by decide) (by rw [wl_len]; decide)).2
      simp only [show (7 : Int).toNat = 7 from rfl, show (15 : Int).toNat = 15 from rfl] at hc00 hc01 hc80 hc81 hA hB hC hD
      go_upto_region 5 with (fail)
      go_region
      go_wp2
      go_roundg (8 - (7 + 1))
      case measure => have := HI.out; omega
      case rel => exact ⟨7 + 1, rfl, ⟨by decide, rfl⟩, ⟨by rw [show a0 % 256 = a0 / pw 7 % 256 from by rw [show pw 7 = 1 from rfl, Int.ediv_one], show a1 % 256 = a1 / pw 7 % 256 from by rw [show pw 7 = 1 from rfl, Int.ediv_one]]; exact Kd.R_drew (Kd.R_putn (Kd.R_putn HO.out 7 _) 15 _)⟩, ⟨blk_drew (blk_far (blk_far BA.out (p := ⟨g, 7, none⟩) hne _) (p := ⟨g, 15, none⟩) hne _)⟩, ⟨below_drew1 (below_set (below_set HB.out (Nat.le_of_lt HG.out)) (Nat.le_of_lt HG.out))⟩⟩
    | 8, HI, HO =>
      go_wp2
      go_ret
      exact ⟨_, rfl, HO.out, HB.out⟩
    | i + 9, HI, HO => exact absurd HI.out.1 (by omega)
end Go.Proofs.Ytjmobjjajnnodaa.P
