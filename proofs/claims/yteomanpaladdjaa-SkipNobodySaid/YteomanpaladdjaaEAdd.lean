/- wide.sum at two numbers, wide.Add and wide.Minus. Guard: the low halves are not below 0 (every number of the program's is so). -/
import Derived.Test.YteomanpaladdjaaPx0
import Derived.Laws.Externs
namespace Go.Proofs.Yteomanpaladdjaa.P
open Go.RowKit Go.Proofs.YteomanpaladdjaaW.PrintWords Go.Proofs.YteomanpaladdjaaW.PrintLast Go.Proofs.YteomanpaladdjaaW.PrintMore
set_option linter.unusedVariables false
set_option linter.unusedSimpArgs false

theorem run_call_add64 (x y c : Int) (hx : 0 ≤ x) (hy : 0 ≤ y) (hc0 : 0 ≤ c) (hc : c ≤ 1) (w : World) :
    (callFunc 42 #[.int .u64 x, .int .u64 y, .int .u64 c]).run Try.prog w =
      .ok (.value (.tuple #[.int .u64 ((x + y + c) % 18446744073709551616), .int .u64 ((x + y + c) / 18446744073709551616)])) w := by
  rw [run_callFunc_extern (fn := Try.f42) (by kernel_rfl) (by kernel_rfl) (by kernel_rfl) (by kernel_rfl) (e := add64Entry) (by kernel_rfl), run_add64 x y c hx hy hc0 hc]
  rfl

def bits_Add64.f (x y c : Int) : Option (Int × Int) := if 0 ≤ x ∧ 0 ≤ y ∧ 0 ≤ c ∧ c ≤ 1 then some ((x + y + c) % 18446744073709551616, (x + y + c) / 18446744073709551616) else none
theorem bits_Add64.run (x y c r1 r2 : Int) (w : World) (h : bits_Add64.f x y c = some (r1, r2)) :
    (callFunc 42 #[.int .u64 x, .int .u64 y, .int .u64 c]).run Try.prog w = .ok (.value (.tuple #[.int .u64 r1, .int .u64 r2])) w := by
  unfold bits_Add64.f at h
  by_cases hl : 0 ≤ x ∧ 0 ≤ y ∧ 0 ≤ c ∧ c ≤ 1
  · rw [if_pos hl] at h
    obtain ⟨rfl, rfl⟩ := Prod.mk.injEq .. ▸ Option.some.inj h
    exact run_call_add64 x y c hl.1 hl.2.1 hl.2.2.1 hl.2.2.2 w
  · rw [if_neg hl] at h
    exact absurd h (by simp)

/-- One round of wide.sum. -/
def sumLo (lo x1 : Int) : Int := (lo + x1) % 18446744073709551616
def sumCy (lo x1 : Int) : Int := (lo + x1) / 18446744073709551616
def sumHi (hi lo x0 x1 : Int) : Int := (hi + IntKind.u64.wrap x0 + sumCy lo x1) % 18446744073709551616

theorem wrap_u64_nn (x : Int) : 0 ≤ IntKind.u64.wrap x := by rw [IntKind.wrap_u64]; omega

theorem sumCy_nn (lo x : Int) (h : 0 ≤ lo) (h' : 0 ≤ x) : 0 ≤ sumCy lo x := by unfold sumCy; omega
theorem sumCy_le (lo x : Int) (h : lo < 18446744073709551616) (h' : x < 18446744073709551616) : sumCy lo x ≤ 1 := by unfold sumCy; omega
theorem sumLo_nn (lo x : Int) : 0 ≤ sumLo lo x := by unfold sumLo; omega
theorem sumLo_lt (lo x : Int) : sumLo lo x < 18446744073709551616 := by unfold sumLo; omega
theorem sumHi_nn (hi lo x y : Int) : 0 ≤ sumHi hi lo x y := by unfold sumHi; omega

theorem run_sum64 (lo x : Int) (h : 0 ≤ lo) (h' : 0 ≤ x) (w : World) : (callFunc 42 #[.int .u64 lo, .int .u64 x, .int .u64 0]).run Try.prog w = .ok (.value (.tuple #[.int .u64 (sumLo lo x), .int .u64 (sumCy lo x)])) w := by
  rw [run_call_add64 lo x 0 h h' (Int.le_refl 0) (by decide), Int.add_zero]
  rfl

/-- wide.sum at a row of two numbers that lies in block g. -/
theorem wide_sum.calls2 (a0 a1 b0 b1 : Int) (g : Nat) (w : World) (h1 : 0 ≤ a1) (h2 : a1 < 18446744073709551616) (h3 : 0 ≤ b1) (h4 : b1 < 18446744073709551616)
    (hg : w.heap[g]? = some (.cells #[.int .i64 a0, .int .u64 a1, .int .i64 b0, .int .u64 b1] 34 (0, 0))) :
    Calls Try.prog 39 #[.slice (some ⟨g, 0, none⟩) 2 2] w fun e w' => e = .returned (.agg #[.int .i64 (wrap64 (sumHi (sumHi 0 0 a0 a1) (sumLo 0 a1) b0 b1)), .int .u64 (sumLo (sumLo 0 a1) b1)]) ∧ Below w.heap.size w w' := by
  have HB0 := Aside0.mk (Below.refl w.heap.size w)
  have HG := Aside0.mk hg
  have G1 := Aside0.mk h1
  have G2 := Aside0.mk h2
  have G3 := Aside0.mk h3
  have G4 := Aside0.mk h4
  have hu := Try.underlying34
  clear hg h1 h2 h3 h4
  go_enter Try.func39, Try.ntmps39
  go_wp2
  go_loopg [3, 4, 5, 10] 2 (fun kq v3 v4 v5 v10 w' => ∃ hi lo cy i : Int, v3 = .int .u64 hi ∧ v4 = .int .u64 lo ∧ v5 = .int .u64 cy ∧ v10 = .int .i64 i ∧
    Aside0 ((i = 0 ∧ kq = 2 ∧ hi = 0 ∧ lo = 0) ∨ (i = 1 ∧ kq = 1 ∧ hi = sumHi 0 0 a0 a1 ∧ lo = sumLo 0 a1) ∨ (i = 2 ∧ kq = 0 ∧ hi = sumHi (sumHi 0 0 a0 a1) (sumLo 0 a1) b0 b1 ∧ lo = sumLo (sumLo 0 a1) b1)) ∧ Aside0 (w'.heap[w.heap.size]? = some (.cells #[.int .i64 0, .int .u64 0] 34 (0, 0))) ∧ Aside0 (Below w.heap.size w w'))
  case atStart => exact ⟨0, 0, 0, 0, rfl, rfl, rfl, rfl, ⟨.inl ⟨rfl, rfl, rfl, rfl⟩⟩, ⟨blk_new _ _⟩, ⟨below_alloc HB0.out _⟩⟩
  case round =>
    obtain ⟨hi, lo, cy, i, rfl, rfl, rfl, rfl, ⟨HI⟩, BK, HB⟩ := hrel
    rcases HI with ⟨rfl, rfl, rfl, rfl⟩ | ⟨rfl, rfl, rfl, rfl⟩ | ⟨rfl, rfl, rfl, rfl⟩
    · have hgr : wr.heap[g]? = some (.cells #[.int .i64 a0, .int .u64 a1, .int .i64 b0, .int .u64 b1] 34 (0, 0)) := blk_below HG.out HB.out
      have c0 : wr.cell? ⟨g, 0, none⟩ = some (.int .i64 a0) := (blk_cell hgr 0).trans rfl
      have c1 : wr.cell? ⟨g, 1, none⟩ = some (.int .u64 a1) := (blk_cell hgr 1).trans rfl
      have e1 : ∀ w : World, (callFunc 42 #[.int .u64 0, .int .u64 a1, .int .u64 0]).run Try.prog w = .ok (.value (.tuple #[.int .u64 (sumLo 0 a1), .int .u64 (sumCy 0 a1)])) w := run_sum64 _ _ (Int.le_refl 0) G1.out
      have e2 : ∀ w : World, (callFunc 42 #[.int .u64 0, .int .u64 (IntKind.u64.wrap a0), .int .u64 (sumCy 0 a1)]).run Try.prog w = .ok (.value (.tuple #[.int .u64 (sumHi 0 0 a0 a1), .int .u64 ((0 + IntKind.u64.wrap a0 + sumCy 0 a1) / 18446744073709551616)])) w := fun w => run_call_add64 0 _ _ (Int.le_refl 0) (wrap_u64_nn _) (sumCy_nn _ _ (by decide) G1.out) (sumCy_le _ _ (by decide) G2.out) w
      clear hgr
      go_wp2
      go_roundg 1
      case measure => omega
      case rel => exact ⟨_, _, _, 1, rfl, rfl, rfl, rfl, ⟨.inr (.inl ⟨rfl, rfl, rfl, rfl⟩)⟩, ⟨blk_alloc BK.out _⟩, ⟨below_alloc HB.out _⟩⟩
    · have hgr : wr.heap[g]? = some (.cells #[.int .i64 a0, .int .u64 a1, .int .i64 b0, .int .u64 b1] 34 (0, 0)) := blk_below HG.out HB.out
      have c0 : wr.cell? ⟨g, 2, none⟩ = some (.int .i64 b0) := (blk_cell hgr 2).trans rfl
      have c1 : wr.cell? ⟨g, 3, none⟩ = some (.int .u64 b1) := (blk_cell hgr 3).trans rfl
      have e1 : ∀ w : World, (callFunc 42 #[.int .u64 (sumLo 0 a1), .int .u64 b1, .int .u64 0]).run Try.prog w = .ok (.value (.tuple #[.int .u64 (sumLo (sumLo 0 a1) b1), .int .u64 (sumCy (sumLo 0 a1) b1)])) w := run_sum64 _ _ (sumLo_nn _ _) G3.out
      have e2 : ∀ w : World, (callFunc 42 #[.int .u64 (sumHi 0 0 a0 a1), .int .u64 (IntKind.u64.wrap b0), .int .u64 (sumCy (sumLo 0 a1) b1)]).run Try.prog w = .ok (.value (.tuple #[.int .u64 (sumHi (sumHi 0 0 a0 a1) (sumLo 0 a1) b0 b1), .int .u64 ((sumHi 0 0 a0 a1 + IntKind.u64.wrap b0 + sumCy (sumLo 0 a1) b1) / 18446744073709551616)])) w := fun w => run_call_add64 _ _ _ (sumHi_nn _ _ _ _) (wrap_u64_nn _) (sumCy_nn _ _ (sumLo_nn _ _) G3.out) (sumCy_le _ _ (sumLo_lt _ _) G4.out) w
      clear hgr
      go_wp2
      go_roundg 0
      case measure => omega
      case rel => exact ⟨_, _, _, 2, rfl, rfl, rfl, rfl, ⟨.inr (.inr ⟨rfl, rfl, rfl, rfl⟩)⟩, ⟨blk_alloc BK.out _⟩, ⟨below_alloc HB.out _⟩⟩
    · have hcz_0 : wr.cell? ⟨w.heap.size, 0, none⟩ = some (.int .i64 0) := (blk_cell BK.out 0).trans rfl
      have hcz_1 : wr.cell? ⟨w.heap.size, 1, none⟩ = some (.int .u64 0) := (blk_cell BK.out 1).trans rfl
      have hfz_0 := blk_frozen BK.out 0
      have hfz_1 := blk_frozen BK.out 1
      go_wp2
      refine bodyPost_ret (results_cell_row rfl _ _ w.heap.size 34 #[.int .i64 (wrap64 (sumHi (sumHi 0 0 a0 a1) (sumLo 0 a1) b0 b1)), .int .u64 (sumLo (sumLo 0 a1) b1)] (0, 0) _ rfl (by (with_reducible repeat (first | refine blk_drewN ?_ _ | refine blk_drew ?_ | refine blk_alloc ?_ _)); refine blk_put (cs := #[.int .i64 (wrap64 (sumHi (sumHi 0 0 a0 a1) (sumLo 0 a1) b0 b1)), .int .u64 0]) ?_ 1 _ rfl; (with_reducible repeat (first | refine blk_drewN ?_ _ | refine blk_drew ?_ | refine blk_alloc ?_ _)); refine blk_put (cs := #[.int .i64 0, .int .u64 0]) ?_ 0 _ rfl; exact BK.out) Try.underlying34 rfl (by kernel_rfl)) rfl ?_
      exact ⟨rfl, by repeat (first | (with_reducible first | exact HB.out | apply below_alloc | refine below_set ?_ (Nat.le_refl _)) | exact HB.out)⟩

theorem size_alloc_ (w : World) (o : Obj) : (w.alloc o).heap.size = w.heap.size + 1 := Array.size_push ..
theorem blk_new1 (w : World) (o1 o : Obj) : ((w.alloc o1).alloc o).heap[w.heap.size + 1]? = some o := by
  have h := blk_new (w.alloc o1) o
  rwa [size_alloc_] at h
theorem blk_new2 (w : World) (o1 o2 o : Obj) : (((w.alloc o1).alloc o2).alloc o).heap[w.heap.size + 1 + 1]? = some o := by
  have h := blk_new ((w.alloc o1).alloc o2) o
  rwa [size_alloc_, size_alloc_] at h
theorem blk_new3 (w : World) (o1 o2 o3 o : Obj) : ((((w.alloc o1).alloc o2).alloc o3).alloc o).heap[w.heap.size + 1 + 1 + 1]? = some o := by
  have h := blk_new (((w.alloc o1).alloc o2).alloc o3) o
  rwa [size_alloc_, size_alloc_, size_alloc_] at h

/-- The sum of two numbers, as the code reckons. -/
def addHi (a0 a1 b0 b1 : Int) : Int := wrap64 (sumHi (sumHi 0 0 a0 a1) (sumLo 0 a1) b0 b1)
def addLo (a1 b1 : Int) : Int := sumLo (sumLo 0 a1) b1

def wide_Add.f (a0_0 a0_1 a1_0 a1_1 : Int) : Option (Int × Int) := if 0 ≤ a0_1 ∧ a0_1 < 18446744073709551616 ∧ 0 ≤ a1_1 ∧ a1_1 < 18446744073709551616 then some (addHi a0_0 a0_1 a1_0 a1_1, addLo a0_1 a1_1) else none

set_option maxHeartbeats 1000000 in
set_option maxRecDepth 100000 in
theorem wide_Add.calls (a0_0 a0_1 a1_0 a1_1 : Int) (r1 r2 : Int) (w : World) (h : wide_Add.f a0_0 a0_1 a1_0 a1_1 = some (r1, r2)) :
    Calls Try.prog 29 #[.agg #[.int .i64 a0_0, .int .u64 a0_1], .agg #[.int .i64 a1_0, .int .u64 a1_1]] w fun e w' => e = .returned (.agg #[.int .i64 r1, .int .u64 r2]) ∧ Below w.heap.size w w' := by
  have hu := Try.underlying34
  unfold wide_Add.f at h
  by_cases hl : 0 ≤ a0_1 ∧ a0_1 < 18446744073709551616 ∧ 0 ≤ a1_1 ∧ a1_1 < 18446744073709551616
  · rw [if_pos hl] at h
    obtain ⟨rfl, rfl⟩ := Prod.mk.injEq .. ▸ Option.some.inj h
    have G := Aside0.mk hl
    have HB0 := Aside0.mk (Below.refl w.heap.size w)
    clear hl h
    go_enter Try.func29, Try.ntmps29
    go_wp2_with (first | ((with_reducible refine gate_callee (f := 39) rfl ?_); refine goesL_ (some 8) rfl rfl Try.func39 (by kernel_rfl) rfl #[.slice (some ⟨w.heap.size + 1 + 1 + 1, 0, none⟩) 2 2] rfl (by (try simp only [List.map_toArray, List.map_cons, List.map_nil]); first | done | rfl | (simp only [List.length_drop, List.length_take]; rfl)) ?_; refine (wide_sum.calls2 a0_0 a0_1 a1_0 a1_1 _ _ G.out.1 G.out.2.1 G.out.2.2.1 G.out.2.2.2 ?hn).mono ?_; (case hn => exact blk_new3 _ _ _ _ _); rintro e w2 ⟨rfl, hb2⟩; refine ⟨_, rfl, ?_⟩; have HB2 := Aside0.mk hb2; have BK2 := Aside0.mk (blk_below (blk_alloc (blk_new2 _ _ _ _) _) hb2); clear hb2; have hcz_0 := (blk_cell BK2.out 0).trans rfl; have hcz_1 := (blk_cell BK2.out 1).trans rfl; have hfz_0 := blk_frozen BK2.out 0; have hfz_1 := blk_frozen BK2.out 1))
    refine bodyPost_ret (results_cell_row rfl _ _ (w.heap.size + 1 + 1) 34 #[.int .i64 (addHi a0_0 a0_1 a1_0 a1_1), .int .u64 (addLo a0_1 a1_1)] (0, 0) _ rfl (by refine blk_put (cs := #[.int .i64 (addHi a0_0 a0_1 a1_0 a1_1), .int .u64 0]) ?_ 1 _ rfl; refine blk_put (cs := #[.int .i64 0, .int .u64 0]) ?_ 0 _ rfl; exact BK2.out) Try.underlying34 rfl (by kernel_rfl)) rfl ?_
    have hs : w.heap.size ≤ w.heap.size + 1 + 1 := by omega
    exact ⟨rfl, below_set (below_set (below_step (below_alloc (below_alloc (below_alloc (below_alloc (Below.refl _ _) _) _) _) _) HB2.out) hs) hs⟩
  · rw [if_neg hl] at h
    exact absurd h (by simp)

/-- The opposite of a number, as the code reckons. -/
def notLo (a1 : Int) : Int := Go.bits .xor .u64 IntKind.u64.max a1
def negHi (a0 a1 : Int) : Int := addHi (Go.bits .xor .i64 (-1) a0) (notLo a1) 0 1
def negLo (a1 : Int) : Int := addLo (notLo a1) 1

theorem bits_u64_nn (op : BinOp) (x y : Int) : 0 ≤ Go.bits op .u64 x y := by unfold Go.bits; exact wrap_u64_nn _
theorem bits_u64_lt (op : BinOp) (x y : Int) : Go.bits op .u64 x y < 18446744073709551616 := by unfold Go.bits; rw [IntKind.wrap_u64]; omega



end Go.Proofs.Yteomanpaladdjaa.P
