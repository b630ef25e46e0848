/- The reference's numbers: Digits, From. -/
import Derived.Test.YteomanpaladdjaaEAdd
import Derived.Great.BuildSlice
import Derived.Laws.CopyOwn
namespace Go.Proofs.Yteomanpaladdjaa.P
open Go.RowKit Go.Proofs.YteomanpaladdjaaW.PrintWords Go.Proofs.YteomanpaladdjaaW.PrintLast Go.Proofs.YteomanpaladdjaaW.PrintMore
set_option linter.unusedVariables false
set_option linter.unusedSimpArgs false

/-- Digit j of a number, to the base 256. -/
def dg (n j : Nat) : Nat := n / 256 ^ j % 256
/-- The sixteen digits of what f tells, as cells. -/
def cells16 (f : Nat → Nat) : List Value := (List.range 16).map fun j => .int .i64 (f j : Int)
theorem cells16_len (f : Nat → Nat) : (cells16 f).length = 16 := by simp [cells16]
theorem cells16_at (f : Nat → Nat) {j : Nat} (h : j < 16) : (cells16 f).toArray[j]? = some (.int .i64 (f j : Int)) := by
  simp [cells16, h]
theorem cells16_congr {f g : Nat → Nat} (h : ∀ j, j < 16 → f j = g j) : cells16 f = cells16 g := by
  unfold cells16
  apply List.map_congr_left
  intro j hj
  rw [h j (List.mem_range.1 hj)]
theorem cells16_set (f : Nat → Nat) (i v : Nat) : (cells16 f).toArray.setIfInBounds i (.int .i64 (v : Int)) = (cells16 (fun j => if j = i then v else f j)).toArray := by
  rw [List.setIfInBounds_toArray]
  congr 1
  apply List.ext_getElem
  · simp [cells16]
  · intro j h1 h2
    simp only [List.getElem_set, cells16, List.getElem_map, List.getElem_range]
    split
    · rename_i e; rw [if_pos e.symm]
    · rename_i e; rw [if_neg (fun e' => e e'.symm)]

theorem cells16_one (f : Nat → Nat) : (cells16 f).toArray.all (·.oneCell') = true := by
  simp [cells16, Value.oneCell']
def cellsUpto (f : Nat → Nat) (n : Nat) : List Value := cells16 (fun j => if j < n then f j else 0)
theorem cellsUpto_set (f : Nat → Nat) {n : Nat} (h : n < 16) : (cellsUpto f n).toArray.setIfInBounds n (.int .i64 (f n : Int)) = (cellsUpto f (n + 1)).toArray := by
  unfold cellsUpto
  rw [cells16_set]
  congr 1
  refine cells16_congr fun j hj => ?_
  by_cases e : j = n
  · subst e; rw [if_pos rfl, if_pos (by omega)]
  · rw [if_neg e]
    by_cases e2 : j < n
    · rw [if_pos e2, if_pos (by omega)]
    · rw [if_neg e2, if_neg (by omega)]
theorem cellsUpto_none (f : Nat → Nat) : cellsUpto f 0 = cells16 (fun _ => 0) := cells16_congr fun j _ => if_neg (Nat.not_lt_zero _)
theorem cellsUpto_all (f : Nat → Nat) : cellsUpto f 16 = cells16 f := cells16_congr fun j hj => if_pos hj

def digState (i L H j : Nat) : Nat := if j < 8 then (if j < i then dg L j else 0) else (if j - 8 < i then dg H (j - 8) else 0)
def bigOf (L H : Nat) : Nat := H * 18446744073709551616 + L
theorem dg_big (L H j : Nat) (hL : L < 18446744073709551616) (hj : j < 16) : digState 8 L H j = dg (bigOf L H) j := by
  unfold digState dg bigOf
  match j, hj with
  | 0, _ => simp; omega
  | 1, _ => simp; omega
  | 2, _ => simp; omega
  | 3, _ => simp; omega
  | 4, _ => simp; omega
  | 5, _ => simp; omega
  | 6, _ => simp; omega
  | 7, _ => simp; omega
  | 8, _ => simp; omega
  | 9, _ => simp; omega
  | 10, _ => simp; omega
  | 11, _ => simp; omega
  | 12, _ => simp; omega
  | 13, _ => simp; omega
  | 14, _ => simp; omega
  | 15, _ => simp; omega
  | n + 16, h => omega
theorem cells16_start (L H : Nat) : cells16 (digState 0 L H) = cells16 (fun _ => 0) := cells16_congr fun j _ => by unfold digState; split <;> rw [if_neg (Nat.not_lt_zero _)]
theorem cells16_next (L H i : Nat) (h : i < 8) : cells16 (fun j => if j = 8 + i then dg H i else (if j = i then dg L i else digState i L H j)) = cells16 (digState (i + 1) L H) := cells16_congr fun j hj => by
  unfold digState
  by_cases h1 : j = 8 + i
  · subst h1; rw [if_pos rfl, if_neg (by omega), if_pos (by omega), show 8 + i - 8 = i from by omega]
  · rw [if_neg h1]
    by_cases h2 : j = i
    · subst h2; rw [if_pos rfl, if_pos (by omega), if_pos (by omega)]
    · rw [if_neg h2]
      split
      · split
        · rw [if_pos (by omega)]
        · rw [if_neg (by omega)]
      · split
        · rw [if_pos (by omega)]
        · rw [if_neg (by omega)]
/-- What one round reckons. -/
theorem dig_round (L : Nat) (i : Nat) (hL : L < 18446744073709551616) : ∃ q m : Int, ((L / 256 ^ i : Nat) : Int).tdiv 256 = q ∧ ((L / 256 ^ i : Nat) : Int).tmod 256 = m ∧ IntKind.u64.wrap q = q ∧ IntKind.u64.wrap m = m ∧ wrap64 m = m ∧ IntKind.i64.wrap m = m ∧
    q = ((L / 256 ^ (i + 1) : Nat) : Int) ∧ m = (dg L i : Int) := by
  have h : L / 256 ^ i ≤ L := Nat.div_le_self _ _
  have e : L / 256 ^ (i + 1) = L / 256 ^ i / 256 := by rw [Nat.pow_succ, Nat.div_div_eq_div_mul]
  have e2 : dg L i = L / 256 ^ i % 256 := rfl
  rw [e, e2]
  generalize L / 256 ^ i = x at *
  refine ⟨_, _, rfl, rfl, ?_, ?_, ?_, ?_, ?_, ?_⟩
  · rw [Int.tdiv_eq_ediv_of_nonneg (by omega), IntKind.wrap_u64]; omega
  · rw [Int.tmod_eq_emod_of_nonneg (by omega), IntKind.wrap_u64]; omega
  · rw [Int.tmod_eq_emod_of_nonneg (by omega)]; unfold wrap64; omega
  · rw [Int.tmod_eq_emod_of_nonneg (by omega), IntKind.wrap_i64]; omega
  · rw [Int.tdiv_eq_ediv_of_nonneg (by omega)]; omega
  · rw [Int.tmod_eq_emod_of_nonneg (by omega)]; omega

set_option maxHeartbeats 1000000 in
set_option maxRecDepth 100000 in
theorem ref_Digits (a0_0 : Int) (L H : Nat) (w : World) (hL : L < 18446744073709551616) (hH : H < 18446744073709551616) (hH2 : IntKind.u64.wrap a0_0 = (H : Int)) :
    Calls Try.prog 44 #[.agg #[.int .i64 a0_0, .int .u64 (L : Int)]] w fun e w' => e = .returned (.agg (cells16 (dg (bigOf L H))).toArray) ∧ Below w.heap.size w w' := by
  have hu := Try.underlying34
  have hu2 := Try.underlying79
  have HB0 := Aside0.mk (Below.refl w.heap.size w)
  have HL := Aside0.mk hL
  have HH := Aside0.mk hH
  clear hL hH
  go_enter Try.func44, Try.ntmps44
  go_upto_region 2 with (fail)
  go_region
  go_wp2
  go_loopg [4, 5, 6] 8 (fun kq v4 v5 v6 w' => ∃ (i : Nat) (lo hi iv : Int), v4 = .int .u64 lo ∧ v5 = .int .u64 hi ∧ v6 = .int .i64 iv ∧ Aside0 (lo = ((L / 256 ^ i : Nat) : Int) ∧ hi = ((H / 256 ^ i : Nat) : Int) ∧ iv = (i : Int) ∧ i ≤ 8 ∧ kq = 8 - i) ∧
    Aside0 (w'.heap[w.heap.size + 1 + 1]? = some (.cells (cells16 (digState i L H)).toArray 79 (0, 0))) ∧ Aside0 (w'.heap[w.heap.size + 1]? = some (.cells (cells16 (fun _ => 0)).toArray 79 (0, 0))) ∧ Aside0 (Below w.heap.size w w'))
  case atStart => exact ⟨0, _, _, 0, rfl, rfl, rfl, ⟨by simp, by simp, rfl, by decide, rfl⟩, ⟨by (with_reducible repeat (first | refine blk_drewN ?_ _ | refine blk_drew ?_)); exact (blk_new2 _ _ _ _).trans (by rw [cells16_start]; rfl)⟩, ⟨by (with_reducible repeat (first | refine blk_drewN ?_ _ | refine blk_drew ?_)); exact blk_alloc (blk_new1 _ _ _) _⟩, ⟨by repeat (first | exact HB0.out | apply below_alloc | apply pw_below_drewN | apply below_drew1)⟩⟩
  case round =>
    obtain ⟨i, lo, hi, iv, rfl, rfl, rfl, HI, BD, BR, HB⟩ := hrel
    obtain ⟨q1, m1, e1, e2, e3, e4, e5, e6, z1, z2⟩ := dig_round L i HL.out
    obtain ⟨q2, m2, f1, f2, f3, f4, f5, f6, y1, y2⟩ := dig_round H i HH.out
    rw [← HI.out.1] at e1 e2
    rw [← HI.out.2.1] at f1 f2
    have Z := Aside0.mk (And.intro z1 (And.intro z2 (And.intro y1 y2)))
    clear z1 z2 y1 y2
    by_cases h8 : i < 8
    · obtain ⟨iv8, hv8⟩ : ∃ x : Int, x = ((8 + i : Nat) : Int) := ⟨_, rfl⟩
      have hI := HI.out.2.2.1
      have c1 : decide (iv < 8) = true := decide_eq_true (by omega)
      have c2 : (0 ≤ iv) = True := eq_true (by omega)
      have c3 : (iv < 16) = True := eq_true (by omega)
      have c4 : iv.toNat = i := by omega
      have c5 : wrap64 (8 + iv) = iv8 := by unfold wrap64; omega
      have c6 : (0 ≤ iv8) = True := eq_true (by omega)
      have c7 : (iv8 < 16) = True := eq_true (by omega)
      have c8 : iv8.toNat = 8 + i := by omega
      have c9 : 8 + i ≠ i := by omega
      have c10 : i ≠ 8 + i := by omega
      have hcz_0 : wr.cell? ⟨w.heap.size + 1 + 1, i, none⟩ = some (.int .i64 (digState i L H i : Int)) := (blk_cell BD.out i).trans (cells16_at _ (by omega))
      have hcz_1 : wr.cell? ⟨w.heap.size + 1 + 1, 8 + i, none⟩ = some (.int .i64 (digState i L H (8 + i) : Int)) := (blk_cell BD.out (8 + i)).trans (cells16_at _ (by omega))
      have hfz_0 := blk_frozen BD.out i
      have hfz_1 := blk_frozen BD.out (8 + i)
      have H8 := Aside0.mk h8
      have HV8 := Aside0.mk hv8
      clear h8 hv8 hI
      go_wp2
      go_roundg (8 - (i + 1))
      case measure => have := HI.out.2.2.2; have := H8.out; omega
      case rel =>
        have hz := HI.out
        refine ⟨i + 1, q1, q2, ((i + 1 : Nat) : Int), rfl, rfl, by rw [hz.2.2.1]; congr 1; unfold wrap64; have := H8.out; omega, ⟨Z.out.1, Z.out.2.2.1, rfl, H8.out, rfl⟩, ⟨?_⟩, ⟨?_⟩, ⟨?_⟩⟩
        · rw [← cells16_next L H i H8.out, ← cells16_set _ (8 + i), ← cells16_set _ i, ← Z.out.2.1, ← Z.out.2.2.2]
          exact blk_set (blk_set BD.out i _) (8 + i) _
        · exact blk_far (blk_far BR.out (by simp) _) (by simp) _
        · exact below_set (below_set HB.out (by omega)) (by omega)
    · have c1 : decide (iv < 8) = false := decide_eq_false (by have := HI.out; omega)
      obtain ⟨f, hf⟩ : ∃ f, f = dg (bigOf L H) := ⟨_, rfl⟩
      have h8 : i = 8 := by have := HI.out; omega
      have HD := Aside0.mk (show wr.heap[w.heap.size + 1 + 1]? = some (.cells (cells16 f).toArray 79 (0, 0)) from BD.out.trans (by rw [h8, hf]; congr 2; rw [cells16_congr (fun j hj => dg_big L H j HL.out hj)]))
      have HF := Aside0.mk hf
      clear h8 hf
      have sz1 := cells16_len f
      go_wp2_with (first | ((with_reducible refine gate_dst (N := 31) rfl ?_); refine wpList_load_row rfl 79 (.tmp 3) rfl (w.heap.size + 1 + 1) rfl _ _ _ _ HD.out hu2 rfl (by rw [List.size_toArray, sz1]; kernel_rfl) ?_) | ((with_reducible refine gate_store (t := 79) (p := 2) (v := .tmp 31) rfl ?_); refine wpList_store_rowTo rfl 79 (.tmp 2) (.tmp 31) rfl rfl (w.heap.size + 1) (cells16 f).toArray rfl rfl _ _ BR.out (by rw [List.size_toArray, sz1]; kernel_rfl) (by rw [List.size_toArray, List.size_toArray, sz1, cells16_len]) (cells16_one f) ?_))
      refine bodyPost_ret (results_cell_row rfl _ _ (w.heap.size + 1) 79 (cells16 f).toArray (0, 0) _ rfl (setRow_heap _ _ _ _ _ _ BR.out) hu2 rfl (by rw [List.size_toArray, sz1]; kernel_rfl)) rfl ?_
      exact ⟨by rw [HF.out], below_setRow HB.out (by omega) _⟩

/-- The number of eight digits, the last one first: after k of them. -/
def acc8 (g : Nat → Nat) : Nat → Nat
  | 0 => 0
  | k + 1 => 256 * acc8 g k + g (7 - k)
theorem acc8_lt (g : Nat → Nat) (h : ∀ j, j < 8 → g j < 256) (k : Nat) : acc8 g k < 256 ^ k := by
  induction k with
  | zero => exact Nat.one_pos
  | succ k ih =>
    have := h (7 - k) (by omega)
    rw [acc8, Nat.pow_succ]
    omega
theorem acc8_bound (g : Nat → Nat) (h : ∀ j, j < 8 → g j < 256) (k : Nat) (hk : k < 8) : acc8 g k < 72057594037927936 := by
  have h1 := acc8_lt g h k
  have h2 : 256 ^ k ≤ 256 ^ 7 := Nat.pow_le_pow_right (by decide) (by omega)
  have : (256 : Nat) ^ 7 = 72057594037927936 := rfl
  omega

set_option maxHeartbeats 1000000 in
set_option maxRecDepth 100000 in
theorem ref_From (f : Nat → Nat) (w : World) (hf : ∀ j, j < 16 → f j < 256) :
    Calls Try.prog 45 #[.agg (cells16 f).toArray] w fun e w' => e = .returned (.agg #[.int .i64 (wrap64 (acc8 (fun j => f (8 + j)) 8 : Nat)), .int .u64 (acc8 f 8 : Nat)]) ∧ Below w.heap.size w w' := by
  have hu := Try.underlying34
  have hu2 := Try.underlying79
  have HB0 := Aside0.mk (Below.refl w.heap.size w)
  have HF := Aside0.mk hf
  clear hf
  go_enter Try.func45, Try.ntmps45
  go_wp2
  go_loopg [3, 4, 5] 8 (fun kq v3 v4 v5 w' => ∃ (k : Nat) (lo hi iv : Int), v3 = .int .u64 lo ∧ v4 = .int .u64 hi ∧ v5 = .int .i64 iv ∧ Aside0 (lo = ((acc8 f k : Nat) : Int) ∧ hi = ((acc8 (fun j => f (8 + j)) k : Nat) : Int) ∧ iv = 7 - (k : Int) ∧ k ≤ 8 ∧ kq = 8 - k) ∧
    Aside0 (w'.heap[w.heap.size]? = some (.cells (cells16 f).toArray 79 (0, 0))) ∧ Aside0 (w'.heap[w.heap.size + 1]? = some (.cells #[.int .i64 0, .int .u64 0] 34 (0, 0))) ∧ Aside0 (Below w.heap.size w w'))
  case atStart => exact ⟨0, 0, 0, 7, rfl, rfl, rfl, ⟨rfl, rfl, rfl, by decide, rfl⟩, ⟨blk_alloc (blk_new _ _) _⟩, ⟨blk_new1 _ _ _⟩, ⟨below_alloc (below_alloc HB0.out _) _⟩⟩
  case round =>
    obtain ⟨k, lo, hi, iv, rfl, rfl, rfl, HI, BD, BR, HB⟩ := hrel
    by_cases h8 : k < 8
    · have b1 := acc8_bound f (fun j hj => HF.out j (by omega)) k h8
      have b2 := acc8_bound (fun j => f (8 + j)) (fun j hj => HF.out (8 + j) (by omega)) k h8
      have b3 := HF.out (7 - k) (by omega)
      have b4 := HF.out (8 + (7 - k)) (by omega)
      have hI := HI.out
      obtain ⟨iv8, hv8⟩ : ∃ x : Int, x = ((8 + (7 - k) : Nat) : Int) := ⟨_, rfl⟩
      obtain ⟨d1, hd1⟩ : ∃ x : Int, x = (f (7 - k) : Int) := ⟨_, rfl⟩
      obtain ⟨d2, hd2⟩ : ∃ x : Int, x = (f (8 + (7 - k)) : Int) := ⟨_, rfl⟩
      obtain ⟨p1, hp1⟩ : ∃ x : Int, x = 256 * lo := ⟨_, rfl⟩
      obtain ⟨p2, hp2⟩ : ∃ x : Int, x = 256 * hi := ⟨_, rfl⟩
      obtain ⟨lo', hlo⟩ : ∃ x : Int, x = p1 + d1 := ⟨_, rfl⟩
      obtain ⟨hi', hhi⟩ : ∃ x : Int, x = p2 + d2 := ⟨_, rfl⟩
      have c1 : decide ((0 : Int) ≤ iv) = true := decide_eq_true (by omega)
      have c2 : (0 ≤ iv) = True := eq_true (by omega)
      have c3 : (iv < 16) = True := eq_true (by omega)
      have c4 : iv.toNat = 7 - k := by omega
      have c5 : wrap64 (8 + iv) = iv8 := by unfold wrap64; omega
      have c6 : (0 ≤ iv8) = True := eq_true (by omega)
      have c7 : (iv8 < 16) = True := eq_true (by omega)
      have c8 : iv8.toNat = 8 + (7 - k) := by omega
      have w1 : IntKind.u64.wrap (256 * lo) = p1 := by rw [IntKind.wrap_u64]; omega
      have w2 : IntKind.u64.wrap (256 * hi) = p2 := by rw [IntKind.wrap_u64]; omega
      have w3 : IntKind.u64.wrap d1 = d1 := by rw [IntKind.wrap_u64]; omega
      have w4 : IntKind.u64.wrap d2 = d2 := by rw [IntKind.wrap_u64]; omega
      have w5 : IntKind.u64.wrap (p1 + d1) = lo' := by rw [IntKind.wrap_u64]; omega
      have w6 : IntKind.u64.wrap (p2 + d2) = hi' := by rw [IntKind.wrap_u64]; omega
      have hcz_0 : wr.drew.cell? ⟨w.heap.size, 7 - k, none⟩ = some (.int .i64 d1) := by rw [hd1]; exact (blk_cell (blk_drew BD.out) (7 - k)).trans (cells16_at _ (by omega))
      have hcz_1 : wr.drew.cell? ⟨w.heap.size, 8 + (7 - k), none⟩ = some (.int .i64 d2) := by rw [hd2]; exact (blk_cell (blk_drew BD.out) (8 + (7 - k))).trans (cells16_at _ (by omega))
      have Z := Aside0.mk (show lo' = ((acc8 f (k + 1) : Nat) : Int) ∧ hi' = ((acc8 (fun j => f (8 + j)) (k + 1) : Nat) : Int) ∧ wrap64 (iv - 1) = 7 - ((k + 1 : Nat) : Int) ∧ k + 1 ≤ 8 from by
        simp only [acc8]
        refine ⟨by omega, by omega, ?_, by omega⟩
        unfold wrap64; omega)
      clear b1 b2 b3 b4 hI hv8 hd1 hd2 hp1 hp2 hlo hhi h8
      go_upto_region 5 with (fail)
      go_region
      go_wp2
      go_roundg (8 - (k + 1))
      case measure => have := HI.out.2.2.2; have := Z.out; omega
      case rel => exact ⟨k + 1, lo', hi', _, rfl, rfl, rfl, ⟨Z.out.1, Z.out.2.1, Z.out.2.2.1, Z.out.2.2.2, rfl⟩, ⟨by (with_reducible repeat (first | refine blk_drewN ?_ _ | refine blk_drew ?_)); exact BD.out⟩, ⟨by (with_reducible repeat (first | refine blk_drewN ?_ _ | refine blk_drew ?_)); exact BR.out⟩, ⟨by repeat (first | exact HB.out | apply below_alloc | apply pw_below_drewN | apply below_drew1)⟩⟩
    · have h8' : k = 8 := by have := HI.out; omega
      have c1 : decide ((0 : Int) ≤ iv) = false := decide_eq_false (by have := HI.out; omega)
      have Z := Aside0.mk h8'
      have hcz_0 : wr.cell? ⟨w.heap.size + 1, 0, none⟩ = some (.int .i64 0) := (blk_cell BR.out 0).trans rfl
      have hcz_1 : wr.cell? ⟨w.heap.size + 1, 1, none⟩ = some (.int .u64 0) := (blk_cell BR.out 1).trans rfl
      have hfz_0 := blk_frozen BR.out 0
      have hfz_1 := blk_frozen BR.out 1
      clear h8' h8
      go_wp2
      refine bodyPost_ret (results_cell_row rfl _ _ (w.heap.size + 1) 34 #[.int .i64 (wrap64 hi), .int .u64 lo] (0, 0) _ rfl (by refine blk_put (cs := #[.int .i64 (wrap64 hi), .int .u64 0]) ?_ 1 _ rfl; refine blk_put (cs := #[.int .i64 0, .int .u64 0]) ?_ 0 _ rfl; exact BR.out) Try.underlying34 rfl (by kernel_rfl)) rfl ?_
      exact ⟨by have h := HI.out; rw [Z.out] at h; rw [h.1, h.2.1], below_set (below_set HB.out (by omega)) (by omega)⟩

end Go.Proofs.Yteomanpaladdjaa.P
