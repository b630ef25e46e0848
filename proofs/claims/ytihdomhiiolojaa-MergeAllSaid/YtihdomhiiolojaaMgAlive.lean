/- The fixed calls of layer 14's laws come to true. No conditions. -/
import Derived.Test.YtihdomhiiolojaaMgAll
import Derived.Test.YtihdomhiiolojaaDag2
namespace Go.Proofs.Ytihdomhiiolojaa.P
open Go.RowKit Go.Proofs.YtihdomhiiolojaaW.PrintWords Go.Proofs.YtihdomhiiolojaaW.PrintLast Go.Proofs.YtihdomhiiolojaaW.PrintMore
set_option linter.unusedVariables false
set_option linter.unusedSimpArgs false

def rickyardlaw14_alive.f : Option Bool := some true
abbrev ag1 : Ag := ⟨1, false, ⟨0, 0⟩, 0, 0⟩
abbrev ag2 : Ag := ⟨2, false, ⟨0, 0⟩, 0, 0⟩
theorem alive14_all : merge_All.f [[⟨[97], ag1⟩, ⟨[99], ag1⟩], [⟨[98], ag1⟩, ⟨[99], ag1⟩]] = some ([⟨[97], ag1⟩, ⟨[98], ag1⟩, ⟨[99], ag2⟩], 0) := by kernel_rfl
theorem alive14_new : newE [[⟨[99], ag1⟩, ⟨[97], ag1⟩]] = 50 := by kernel_rfl

/-- What a region of literals does: what stands below n0 stays, and blocks keep their cells. -/
def Rl14 (n0 : Nat) (A B : World) : Prop := Below n0 A B ∧ ∀ (b : Nat) (cs : Array Value) (t : TypeId) (fr : Nat × Nat), A.heap[b]? = some (.cells cs t fr) → ∃ fr', B.heap[b]? = some (.cells cs t fr')
theorem Rl14.refl (n0 : Nat) (A : World) : Rl14 n0 A A := ⟨Below.refl _ _, fun b cs t fr h => ⟨fr, h⟩⟩
theorem Rl14.trans {n0 : Nat} {A B C : World} (h1 : Rl14 n0 A B) (h2 : Rl14 n0 B C) : Rl14 n0 A C := ⟨h1.1.trans h2.1, fun b cs t fr h => by obtain ⟨f1, h3⟩ := h1.2 b cs t fr h; exact h2.2 b cs t f1 h3⟩
theorem Rl14.of_below {n0 : Nat} {A B : World} (h : Below A.heap.size A B) (hn : n0 ≤ A.heap.size) : Rl14 n0 A B := ⟨h.mono hn, fun b cs t fr hb => ⟨fr, (h.block b (Array.getElem?_eq_some_iff.1 hb).1).trans hb⟩⟩
theorem freeze_heap (A : World) (b j k : Nat) : (A.freeze ⟨b, j, none⟩ 1).heap[k]? = if b = k then (A.heap[k]?).map (fun o => match o with | .cells c e (lo, hi) => .cells c e (if lo == hi then (j, j + 1) else (min lo j, max hi (j + 1))) | o => o) else A.heap[k]? := by
  unfold World.freeze
  rw [if_neg (by decide)]
  show (A.heap.modify b _)[k]? = _
  rw [Array.getElem?_modify]
  rfl
theorem Rl14.freeze {n0 : Nat} {A : World} {b j : Nat} (hb : n0 ≤ b) : Rl14 n0 A (A.freeze ⟨b, j, none⟩ 1) := by
  refine ⟨⟨rfl, rfl, rfl, ?_, fun k hk => ?_⟩, fun k cs t fr hk => ?_⟩
  · show A.heap.size ≤ (A.freeze ⟨b, j, none⟩ 1).heap.size
    unfold World.freeze
    rw [if_neg (by decide)]
    simp
  · rw [freeze_heap, if_neg (by omega)]
  · rw [freeze_heap]
    split
    · rw [hk]; exact ⟨_, rfl⟩
    · exact ⟨fr, hk⟩
theorem run_convert_mark {P : Program} {W : World} {b : Nat} {C : Array Value} {e : TypeId} {fr : Nat × Nat} (t : TypeId) (n c : Nat) (hb : W.heap[b]? = some (.cells C e fr)) (ht : P.underlying t = some (.slice e)) (he : P.underlying e = some (.int .u8)) :
    (convert t t (.slice (some ⟨b, 0, none⟩) n c)).run P W = .ok (.slice (some ⟨b, 0, none⟩) n c) (W.freeze ⟨b, C.size, none⟩ 1) := by
  have hsh : W.shape? b = some (e, C.size) := by
    unfold World.shape?
    rw [hb]
  simp [convert, run_underlying ht, run_underlying he, markStringish, hsh]
abbrev sl1 (b : Nat) : Value := .slice (some ⟨b, 0, none⟩) 1 1
def BS14 (n0 : Nat) (c : Int) (b : Nat) (W : World) : Prop := n0 ≤ b ∧ ∃ fr, W.heap[b]? = some (.cells #[.int .u8 c] 5 fr)
theorem BS14.keep {n0 b : Nat} {c : Int} {A B : World} (h : BS14 n0 c b A) (hr : Rl14 n0 A B) : BS14 n0 c b B := by
  obtain ⟨h1, fr, h2⟩ := h
  exact ⟨h1, hr.2 b _ _ fr h2⟩
def RW14 (n0 : Nat) (c d : Int) (g : Nat) (W : World) : Prop := ∃ b1 b2 fr, BS14 n0 c b1 W ∧ BS14 n0 d b2 W ∧ W.heap[g]? = some (.cells #[sl1 b1, .int .u64 1, .bool false, .int .i64 0, .int .u64 0, .int .i64 0, .int .i64 0, sl1 b2, .int .u64 1, .bool false, .int .i64 0, .int .u64 0, .int .i64 0, .int .i64 0] 41 fr)
theorem RW14.keep {n0 g : Nat} {c d : Int} {A B : World} (h : RW14 n0 c d g A) (hr : Rl14 n0 A B) : RW14 n0 c d g B := by
  obtain ⟨b1, b2, fr, h1, h2, h3⟩ := h
  obtain ⟨fr', h4⟩ := hr.2 g _ _ fr h3
  exact ⟨b1, b2, fr', h1.keep hr, h2.keep hr, h4⟩
theorem blk_cellF {w : World} {g : Nat} {t : TypeId} {cs : Array Value} {fr : Nat × Nat} (h : w.heap[g]? = some (.cells cs t fr)) (i : Nat) : w.cell? ⟨g, i, none⟩ = cs[i]? := cell_of_row w g i cs t fr h
theorem BS14.C {n0 b : Nat} {c : Int} {W : World} (h : BS14 n0 c b W) : (Kd.int .u8).C W (some ⟨b, 0, none⟩) 1 [c] := by
  obtain ⟨_, fr, h⟩ := h
  refine ⟨rfl, by decide, fun _ => ⟨_, rfl, fun j p hj => ?_⟩⟩
  match j, hj with
  | 0, hj =>
    obtain rfl := Option.some.inj hj
    refine ⟨[.int .u8 c], rfl, rfl, fun i u hu => ?_⟩
    match i, hu with
    | 0, hu => obtain rfl := Option.some.inj hu; exact (blk_cellF h 0).trans rfl
    | i + 1, hu => simp at hu
  | j + 1, hj => simp at hj
theorem RW14.C {n0 g : Nat} {c d : Int} {W : World} (h : RW14 n0 c d g W) : k41.C W (some ⟨g, 0, none⟩) 2 [⟨[c], ag1⟩, ⟨[d], ag1⟩] := by
  obtain ⟨b1, b2, fr, h1, h2, h3⟩ := h
  refine ⟨rfl, by decide, fun _ => ⟨_, rfl, fun j p hj => ?_⟩⟩
  match j, hj with
  | 0, hj =>
    obtain rfl := Option.some.inj hj
    refine ⟨_, rfl, k41_mk W ⟨[c], ag1⟩ (c0 := 1) (Nat.le_refl 1) h1.C, fun i u hu => ?_⟩
    rw [add_mk]
    refine (blk_cellF h3 _).trans ?_
    match i, hu with
    | 0, hu => exact hu
    | 1, hu => exact hu
    | 2, hu => exact hu
    | 3, hu => exact hu
    | 4, hu => exact hu
    | 5, hu => exact hu
    | 6, hu => exact hu
    | i + 7, hu => simp at hu
  | 1, hj =>
    obtain rfl := Option.some.inj hj
    refine ⟨_, rfl, k41_mk W ⟨[d], ag1⟩ (c0 := 1) (Nat.le_refl 1) h2.C, fun i u hu => ?_⟩
    rw [add_mk]
    refine (blk_cellF h3 _).trans ?_
    match i, hu with
    | 0, hu => exact hu
    | 1, hu => exact hu
    | 2, hu => exact hu
    | 3, hu => exact hu
    | 4, hu => exact hu
    | 5, hu => exact hu
    | 6, hu => exact hu
    | i + 7, hu => simp at hu
  | j + 2, hj => simp at hj
theorem C_rows2 {W : World} {A B : Option Addr} {l m : List En} (hl : k41.C W A l.length l) (hm : k41.C W B m.length m) {c d : Nat} (hc : l.length ≤ c ) (hd : m.length ≤ d ) :
    Kd.C (Kd.slice 41 k41) (W.alloc (.cells #[.slice A l.length c, .slice B m.length d] 44)) (some ⟨W.heap.size, 0, none⟩) 2 [l, m] := by
  have hb := blk_new W (.cells #[.slice A l.length c, .slice B m.length d] 44)
  refine ⟨rfl, by decide, fun _ => ⟨_, rfl, fun j p hj => ?_⟩⟩
  match j, hj with
  | 0, hj =>
    obtain rfl := Option.some.inj hj
    refine ⟨_, rfl, ⟨A, c, rfl, hc, Kd.C_alloc hl _⟩, fun i u hu => ?_⟩
    rw [add_mk]
    refine (blk_cell hb _).trans ?_
    match i, hu with
    | 0, hu => exact hu
    | i + 1, hu => simp at hu
  | 1, hj =>
    obtain rfl := Option.some.inj hj
    refine ⟨_, rfl, ⟨B, d, rfl, hd, Kd.C_alloc hm _⟩, fun i u hu => ?_⟩
    rw [add_mk]
    refine (blk_cell hb _).trans ?_
    match i, hu with
    | 0, hu => exact hu
    | i + 1, hu => simp at hu
  | j + 2, hj => simp at hj
theorem C_rows1 {W : World} {A : Option Addr} {l : List En} (hl : k41.C W A l.length l) {c : Nat} (hc : l.length ≤ c ) :
    Kd.C (Kd.slice 41 k41) (W.alloc (.cells #[.slice A l.length c] 44)) (some ⟨W.heap.size, 0, none⟩) 1 [l] := by
  have hb := blk_new W (.cells #[.slice A l.length c] 44)
  refine ⟨rfl, by decide, fun _ => ⟨_, rfl, fun j p hj => ?_⟩⟩
  match j, hj with
  | 0, hj =>
    obtain rfl := Option.some.inj hj
    refine ⟨_, rfl, ⟨A, c, rfl, hc, Kd.C_alloc hl _⟩, fun i u hu => ?_⟩
    rw [add_mk]
    refine (blk_cell hb _).trans ?_
    match i, hu with
    | 0, hu => exact hu
    | i + 1, hu => simp at hu
  | j + 1, hj => simp at hj
set_option maxHeartbeats 4000000 in
set_option maxRecDepth 100000 in
theorem rickyardlaw14_alive.calls (r : Bool) (w : World) (h : rickyardlaw14_alive.f = some r) :
    Calls Try.prog 11 #[] w fun e w' => e = .returned (.bool r) ∧ Below w.heap.size w w' := by
  obtain rfl := Option.some.inj h
  have hu := Try.underlying41
  have hu2 := Try.underlying39
  go_enter Try.func11, Try.ntmps11
  go_upto_region 2 with (fail)
  obtain ⟨W1, hW1⟩ : ∃ W1, w.alloc (.cells #[.int .u64 1, .bool false, .int .i64 0, .int .u64 0, .int .i64 0, .int .i64 0] 39) = W1 := ⟨_, rfl⟩
  have B1 : W1.heap[w.heap.size]? = some (.cells #[.int .u64 1, .bool false, .int .i64 0, .int .u64 0, .int .i64 0, .int .i64 0] 39 (0, 0)) := by rw [← hW1]; exact blk_new w _
  have hb1 : Below w.heap.size w W1 := by rw [← hW1]; exact below_alloc (Below.refl _ _) _
  have hs1 : W1.heap.size = w.heap.size + 1 := by rw [← hW1, World.size_alloc]
  obtain ⟨n0, hn0⟩ : ∃ n, w.heap.size + 1 = n := ⟨_, rfl⟩
  rw [hW1]
  clear hW1
  refine wp_region_dag3 (by kernel_rfl) [0, 1, 2, 3, 4, 5, 6, 7, 8, 9, 10, 11, 12, 13, 14, 15, 16, 17, 18, 19] (fun i => match i with | 1 => [0] | 3 => [1, 2] | 5 => [4] | 7 => [5, 6] | 8 => [3, 7] | 10 => [9] | 12 => [10, 11] | 14 => [13] | 16 => [14, 15] | 17 => [12, 16] | 18 => [8] | 19 => [17] | _ => []) (Array.replicate 20 true) 0 [some 9, some 10, some 11, some 12, some 13, some 14, some 15, some 16, some 17, some 18, some 19, some 20, some 21, some 22, some 23, some 24, some 25, some 26, some 2, some 3] (by kernel_rfl)
    (fun i v W => match i with
      | 0 => ∃ b, v = sl1 b ∧ BS14 n0 97 b W
      | 1 => ∃ b, v = sl1 b ∧ BS14 n0 97 b W
      | 2 => v = .agg #[.int .u64 1, .bool false, .int .i64 0, .int .u64 0, .int .i64 0, .int .i64 0]
      | 3 => ∃ b, v = .agg #[sl1 b, .int .u64 1, .bool false, .int .i64 0, .int .u64 0, .int .i64 0, .int .i64 0] ∧ BS14 n0 97 b W
      | 4 => ∃ b, v = sl1 b ∧ BS14 n0 99 b W
      | 5 => ∃ b, v = sl1 b ∧ BS14 n0 99 b W
      | 6 => v = .agg #[.int .u64 1, .bool false, .int .i64 0, .int .u64 0, .int .i64 0, .int .i64 0]
      | 7 => ∃ b, v = .agg #[sl1 b, .int .u64 1, .bool false, .int .i64 0, .int .u64 0, .int .i64 0, .int .i64 0] ∧ BS14 n0 99 b W
      | 8 => ∃ g, v = .slice (some ⟨g, 0, none⟩) 2 2 ∧ RW14 n0 97 99 g W
      | 9 => ∃ b, v = sl1 b ∧ BS14 n0 98 b W
      | 10 => ∃ b, v = sl1 b ∧ BS14 n0 98 b W
      | 11 => v = .agg #[.int .u64 1, .bool false, .int .i64 0, .int .u64 0, .int .i64 0, .int .i64 0]
      | 12 => ∃ b, v = .agg #[sl1 b, .int .u64 1, .bool false, .int .i64 0, .int .u64 0, .int .i64 0, .int .i64 0] ∧ BS14 n0 98 b W
      | 13 => ∃ b, v = sl1 b ∧ BS14 n0 99 b W
      | 14 => ∃ b, v = sl1 b ∧ BS14 n0 99 b W
      | 15 => v = .agg #[.int .u64 1, .bool false, .int .i64 0, .int .u64 0, .int .i64 0, .int .i64 0]
      | 16 => ∃ b, v = .agg #[sl1 b, .int .u64 1, .bool false, .int .i64 0, .int .u64 0, .int .i64 0, .int .i64 0] ∧ BS14 n0 99 b W
      | 17 => ∃ g, v = .slice (some ⟨g, 0, none⟩) 2 2 ∧ RW14 n0 98 99 g W
      | 18 => ∃ g, v = .slice (some ⟨g, 0, none⟩) 2 2 ∧ RW14 n0 97 99 g W
      | _ => ∃ g, v = .slice (some ⟨g, 0, none⟩) 2 2 ∧ RW14 n0 98 99 g W
    ) (Rl14 n0) (fun A _ => Rl14.refl _ A) ⟨(Below.refl _ _).drew, fun b cs t fr h => ⟨fr, h⟩⟩ (fun A B C => Rl14.trans) (by kernel_rfl) rfl (by decide) (by decide) rfl ?mono ?step ?fin
  case mono =>
    intro i hi v W W' hF hr
    simp only [List.mem_cons, List.not_mem_nil, or_false] at hi
    rcases hi with rfl | rfl | rfl | rfl | rfl | rfl | rfl | rfl | rfl | rfl | rfl | rfl | rfl | rfl | rfl | rfl | rfl | rfl | rfl | rfl
    · obtain ⟨b, h1, h2⟩ := hF; exact ⟨b, h1, h2.keep hr⟩
    · obtain ⟨b, h1, h2⟩ := hF; exact ⟨b, h1, h2.keep hr⟩
    · exact hF
    · obtain ⟨b, h1, h2⟩ := hF; exact ⟨b, h1, h2.keep hr⟩
    · obtain ⟨b, h1, h2⟩ := hF; exact ⟨b, h1, h2.keep hr⟩
    · obtain ⟨b, h1, h2⟩ := hF; exact ⟨b, h1, h2.keep hr⟩
    · exact hF
    · obtain ⟨b, h1, h2⟩ := hF; exact ⟨b, h1, h2.keep hr⟩
    · obtain ⟨g, h1, h2⟩ := hF; exact ⟨g, h1, h2.keep hr⟩
    · obtain ⟨b, h1, h2⟩ := hF; exact ⟨b, h1, h2.keep hr⟩
    · obtain ⟨b, h1, h2⟩ := hF; exact ⟨b, h1, h2.keep hr⟩
    · exact hF
    · obtain ⟨b, h1, h2⟩ := hF; exact ⟨b, h1, h2.keep hr⟩
    · obtain ⟨b, h1, h2⟩ := hF; exact ⟨b, h1, h2.keep hr⟩
    · obtain ⟨b, h1, h2⟩ := hF; exact ⟨b, h1, h2.keep hr⟩
    · exact hF
    · obtain ⟨b, h1, h2⟩ := hF; exact ⟨b, h1, h2.keep hr⟩
    · obtain ⟨g, h1, h2⟩ := hF; exact ⟨g, h1, h2.keep hr⟩
    · obtain ⟨g, h1, h2⟩ := hF; exact ⟨g, h1, h2.keep hr⟩
    · obtain ⟨g, h1, h2⟩ := hF; exact ⟨g, h1, h2.keep hr⟩
  case step =>
    intro i hi b W hr hfr hpre
    simp only [List.mem_cons, List.not_mem_nil, or_false] at hi
    have hsz : n0 ≤ W.heap.size := by have := hr.1.size; omega
    rcases hi with rfl | rfl | rfl | rfl | rfl | rfl | rfl | rfl | rfl | rfl | rfl | rfl | rfl | rfl | rfl | rfl | rfl | rfl | rfl | rfl
    · refine wpOp_of rfl rfl ?_
      generalize hK : (fun (a' : Act) (W' : World) => _) = K
      go_simp
      rw [← hK]
      exact ⟨sl1 W.heap.size, rfl, Rl14.of_below (below_alloc (Below.refl _ _) _) hsz, (fun h => by cases h), W.heap.size, rfl, hsz, (0, 0), blk_new _ _⟩
    · obtain ⟨b0, h0, h1⟩ := hpre 0 (by simp)
      have h0' : b.tmps[9]?.getD undef = sl1 b0 := by have h_ : b.tmps.getD 9 undef = sl1 b0 := h0; simpa using h_
      obtain ⟨h2, fr, h3⟩ := h1
      have hcv := run_convert_mark (P := Try.prog) 34 1 1 h3 Try.underlying34 Try.underlying5
      refine wpOp_of rfl rfl ?_
      generalize hK : (fun (a' : Act) (W' : World) => _) = K
      go_simp
      rw [← hK]
      exact ⟨sl1 b0, rfl, Rl14.freeze h2, (fun h => by cases h), b0, rfl, BS14.keep ⟨h2, fr, h3⟩ (Rl14.freeze h2)⟩
    · refine wpOp_of rfl rfl (wp_load_row 39 (.tmp 1) rfl w.heap.size ?_ 39 #[.int .u64 1, .bool false, .int .i64 0, .int .u64 0, .int .i64 0, .int .i64 0] (0, 0) _ ((hr.1.block _ (by omega)).trans B1) hu2 rfl (by kernel_rfl) ?_)
      · exact hfr 1 (by decide)
      · exact ⟨_, rfl, Rl14.refl _ _, (fun h => by cases h), rfl⟩
    · obtain ⟨b0, h0, h1⟩ := hpre 1 (by simp)
      have h2 := hpre 2 (by simp)
      have h0' : b.tmps[10]?.getD undef = sl1 b0 := by have h_ : b.tmps.getD 10 undef = sl1 b0 := h0; simpa using h_
      have h2' : b.tmps[11]?.getD undef = .agg #[.int .u64 1, .bool false, .int .i64 0, .int .u64 0, .int .i64 0, .int .i64 0] := by have h_ : b.tmps.getD 11 undef = .agg #[.int .u64 1, .bool false, .int .i64 0, .int .u64 0, .int .i64 0, .int .i64 0] := h2; simpa using h_
      refine wpOp_of rfl rfl ?_
      generalize hK : (fun (a' : Act) (W' : World) => _) = K
      go_simp
      rw [← hK]
      exact ⟨_, rfl, Rl14.refl _ _, (fun h => by cases h), b0, rfl, h1⟩
    · refine wpOp_of rfl rfl ?_
      generalize hK : (fun (a' : Act) (W' : World) => _) = K
      go_simp
      rw [← hK]
      exact ⟨sl1 W.heap.size, rfl, Rl14.of_below (below_alloc (Below.refl _ _) _) hsz, (fun h => by cases h), W.heap.size, rfl, hsz, (0, 0), blk_new _ _⟩
    · obtain ⟨b0, h0, h1⟩ := hpre 4 (by simp)
      have h0' : b.tmps[13]?.getD undef = sl1 b0 := by have h_ : b.tmps.getD 13 undef = sl1 b0 := h0; simpa using h_
      obtain ⟨h2, fr, h3⟩ := h1
      have hcv := run_convert_mark (P := Try.prog) 34 1 1 h3 Try.underlying34 Try.underlying5
      refine wpOp_of rfl rfl ?_
      generalize hK : (fun (a' : Act) (W' : World) => _) = K
      go_simp
      rw [← hK]
      exact ⟨sl1 b0, rfl, Rl14.freeze h2, (fun h => by cases h), b0, rfl, BS14.keep ⟨h2, fr, h3⟩ (Rl14.freeze h2)⟩
    · refine wpOp_of rfl rfl (wp_load_row 39 (.tmp 1) rfl w.heap.size ?_ 39 #[.int .u64 1, .bool false, .int .i64 0, .int .u64 0, .int .i64 0, .int .i64 0] (0, 0) _ ((hr.1.block _ (by omega)).trans B1) hu2 rfl (by kernel_rfl) ?_)
      · exact hfr 1 (by decide)
      · exact ⟨_, rfl, Rl14.refl _ _, (fun h => by cases h), rfl⟩
    · obtain ⟨b0, h0, h1⟩ := hpre 5 (by simp)
      have h2 := hpre 6 (by simp)
      have h0' : b.tmps[14]?.getD undef = sl1 b0 := by have h_ : b.tmps.getD 14 undef = sl1 b0 := h0; simpa using h_
      have h2' : b.tmps[15]?.getD undef = .agg #[.int .u64 1, .bool false, .int .i64 0, .int .u64 0, .int .i64 0, .int .i64 0] := by have h_ : b.tmps.getD 15 undef = .agg #[.int .u64 1, .bool false, .int .i64 0, .int .u64 0, .int .i64 0, .int .i64 0] := h2; simpa using h_
      refine wpOp_of rfl rfl ?_
      generalize hK : (fun (a' : Act) (W' : World) => _) = K
      go_simp
      rw [← hK]
      exact ⟨_, rfl, Rl14.refl _ _, (fun h => by cases h), b0, rfl, h1⟩
    · obtain ⟨b0, h0, h1⟩ := hpre 3 (by simp)
      obtain ⟨b1, h2, h3⟩ := hpre 7 (by simp)
      have h0' : b.tmps[12]?.getD undef = .agg #[sl1 b0, .int .u64 1, .bool false, .int .i64 0, .int .u64 0, .int .i64 0, .int .i64 0] := by have h_ : b.tmps.getD 12 undef = .agg #[sl1 b0, .int .u64 1, .bool false, .int .i64 0, .int .u64 0, .int .i64 0, .int .i64 0] := h0; simpa using h_
      have h2' : b.tmps[16]?.getD undef = .agg #[sl1 b1, .int .u64 1, .bool false, .int .i64 0, .int .u64 0, .int .i64 0, .int .i64 0] := by have h_ : b.tmps.getD 16 undef = .agg #[sl1 b1, .int .u64 1, .bool false, .int .i64 0, .int .u64 0, .int .i64 0, .int .i64 0] := h2; simpa using h_
      refine wpOp_of rfl rfl ?_
      generalize hK : (fun (a' : Act) (W' : World) => _) = K
      go_simp
      rw [← hK]
      have hr2 := Rl14.of_below (n0 := n0) (below_alloc (Below.refl W.heap.size W) (.cells #[sl1 b0, .int .u64 1, .bool false, .int .i64 0, .int .u64 0, .int .i64 0, .int .i64 0, sl1 b1, .int .u64 1, .bool false, .int .i64 0, .int .u64 0, .int .i64 0, .int .i64 0] 41)) hsz
      exact ⟨.slice (some ⟨W.heap.size, 0, none⟩) 2 2, rfl, hr2, (fun h => by cases h), W.heap.size, rfl, b0, b1, (0, 0), h1.keep hr2, h3.keep hr2, blk_new _ _⟩
    · refine wpOp_of rfl rfl ?_
      generalize hK : (fun (a' : Act) (W' : World) => _) = K
      go_simp
      rw [← hK]
      exact ⟨sl1 W.heap.size, rfl, Rl14.of_below (below_alloc (Below.refl _ _) _) hsz, (fun h => by cases h), W.heap.size, rfl, hsz, (0, 0), blk_new _ _⟩
    · obtain ⟨b0, h0, h1⟩ := hpre 9 (by simp)
      have h0' : b.tmps[18]?.getD undef = sl1 b0 := by have h_ : b.tmps.getD 18 undef = sl1 b0 := h0; simpa using h_
      obtain ⟨h2, fr, h3⟩ := h1
      have hcv := run_convert_mark (P := Try.prog) 34 1 1 h3 Try.underlying34 Try.underlying5
      refine wpOp_of rfl rfl ?_
      generalize hK : (fun (a' : Act) (W' : World) => _) = K
      go_simp
      rw [← hK]
      exact ⟨sl1 b0, rfl, Rl14.freeze h2, (fun h => by cases h), b0, rfl, BS14.keep ⟨h2, fr, h3⟩ (Rl14.freeze h2)⟩
    · refine wpOp_of rfl rfl (wp_load_row 39 (.tmp 1) rfl w.heap.size ?_ 39 #[.int .u64 1, .bool false, .int .i64 0, .int .u64 0, .int .i64 0, .int .i64 0] (0, 0) _ ((hr.1.block _ (by omega)).trans B1) hu2 rfl (by kernel_rfl) ?_)
      · exact hfr 1 (by decide)
      · exact ⟨_, rfl, Rl14.refl _ _, (fun h => by cases h), rfl⟩
    · obtain ⟨b0, h0, h1⟩ := hpre 10 (by simp)
      have h2 := hpre 11 (by simp)
      have h0' : b.tmps[19]?.getD undef = sl1 b0 := by have h_ : b.tmps.getD 19 undef = sl1 b0 := h0; simpa using h_
      have h2' : b.tmps[20]?.getD undef = .agg #[.int .u64 1, .bool false, .int .i64 0, .int .u64 0, .int .i64 0, .int .i64 0] := by have h_ : b.tmps.getD 20 undef = .agg #[.int .u64 1, .bool false, .int .i64 0, .int .u64 0, .int .i64 0, .int .i64 0] := h2; simpa using h_
      refine wpOp_of rfl rfl ?_
      generalize hK : (fun (a' : Act) (W' : World) => _) = K
      go_simp
      rw [← hK]
      exact ⟨_, rfl, Rl14.refl _ _, (fun h => by cases h), b0, rfl, h1⟩
    · refine wpOp_of rfl rfl ?_
      generalize hK : (fun (a' : Act) (W' : World) => _) = K
      go_simp
      rw [← hK]
      exact ⟨sl1 W.heap.size, rfl, Rl14.of_below (below_alloc (Below.refl _ _) _) hsz, (fun h => by cases h), W.heap.size, rfl, hsz, (0, 0), blk_new _ _⟩
    · obtain ⟨b0, h0, h1⟩ := hpre 13 (by simp)
      have h0' : b.tmps[22]?.getD undef = sl1 b0 := by have h_ : b.tmps.getD 22 undef = sl1 b0 := h0; simpa using h_
      obtain ⟨h2, fr, h3⟩ := h1
      have hcv := run_convert_mark (P := Try.prog) 34 1 1 h3 Try.underlying34 Try.underlying5
      refine wpOp_of rfl rfl ?_
      generalize hK : (fun (a' : Act) (W' : World) => _) = K
      go_simp
      rw [← hK]
      exact ⟨sl1 b0, rfl, Rl14.freeze h2, (fun h => by cases h), b0, rfl, BS14.keep ⟨h2, fr, h3⟩ (Rl14.freeze h2)⟩
    · refine wpOp_of rfl rfl (wp_load_row 39 (.tmp 1) rfl w.heap.size ?_ 39 #[.int .u64 1, .bool false, .int .i64 0, .int .u64 0, .int .i64 0, .int .i64 0] (0, 0) _ ((hr.1.block _ (by omega)).trans B1) hu2 rfl (by kernel_rfl) ?_)
      · exact hfr 1 (by decide)
      · exact ⟨_, rfl, Rl14.refl _ _, (fun h => by cases h), rfl⟩
    · obtain ⟨b0, h0, h1⟩ := hpre 14 (by simp)
      have h2 := hpre 15 (by simp)
      have h0' : b.tmps[23]?.getD undef = sl1 b0 := by have h_ : b.tmps.getD 23 undef = sl1 b0 := h0; simpa using h_
      have h2' : b.tmps[24]?.getD undef = .agg #[.int .u64 1, .bool false, .int .i64 0, .int .u64 0, .int .i64 0, .int .i64 0] := by have h_ : b.tmps.getD 24 undef = .agg #[.int .u64 1, .bool false, .int .i64 0, .int .u64 0, .int .i64 0, .int .i64 0] := h2; simpa using h_
      refine wpOp_of rfl rfl ?_
      generalize hK : (fun (a' : Act) (W' : World) => _) = K
      go_simp
      rw [← hK]
      exact ⟨_, rfl, Rl14.refl _ _, (fun h => by cases h), b0, rfl, h1⟩
    · obtain ⟨b0, h0, h1⟩ := hpre 12 (by simp)
      obtain ⟨b1, h2, h3⟩ := hpre 16 (by simp)
      have h0' : b.tmps[21]?.getD undef = .agg #[sl1 b0, .int .u64 1, .bool false, .int .i64 0, .int .u64 0, .int .i64 0, .int .i64 0] := by have h_ : b.tmps.getD 21 undef = .agg #[sl1 b0, .int .u64 1, .bool false, .int .i64 0, .int .u64 0, .int .i64 0, .int .i64 0] := h0; simpa using h_
      have h2' : b.tmps[25]?.getD undef = .agg #[sl1 b1, .int .u64 1, .bool false, .int .i64 0, .int .u64 0, .int .i64 0, .int .i64 0] := by have h_ : b.tmps.getD 25 undef = .agg #[sl1 b1, .int .u64 1, .bool false, .int .i64 0, .int .u64 0, .int .i64 0, .int .i64 0] := h2; simpa using h_
      refine wpOp_of rfl rfl ?_
      generalize hK : (fun (a' : Act) (W' : World) => _) = K
      go_simp
      rw [← hK]
      have hr2 := Rl14.of_below (n0 := n0) (below_alloc (Below.refl W.heap.size W) (.cells #[sl1 b0, .int .u64 1, .bool false, .int .i64 0, .int .u64 0, .int .i64 0, .int .i64 0, sl1 b1, .int .u64 1, .bool false, .int .i64 0, .int .u64 0, .int .i64 0, .int .i64 0] 41)) hsz
      exact ⟨.slice (some ⟨W.heap.size, 0, none⟩) 2 2, rfl, hr2, (fun h => by cases h), W.heap.size, rfl, b0, b1, (0, 0), h1.keep hr2, h3.keep hr2, blk_new _ _⟩
    · obtain ⟨g, h0, h1⟩ := hpre 8 (by simp)
      have h0' : b.tmps[17]?.getD undef = .slice (some ⟨g, 0, none⟩) 2 2 := by have h_ : b.tmps.getD 17 undef = .slice (some ⟨g, 0, none⟩) 2 2 := h0; simpa using h_
      refine wpOp_of rfl rfl ?_
      generalize hK : (fun (a' : Act) (W' : World) => _) = K
      go_simp
      rw [← hK]
      exact ⟨_, rfl, Rl14.refl _ _, (fun h => by cases h), g, rfl, h1⟩
    · obtain ⟨g, h0, h1⟩ := hpre 17 (by simp)
      have h0' : b.tmps[26]?.getD undef = .slice (some ⟨g, 0, none⟩) 2 2 := by have h_ : b.tmps.getD 26 undef = .slice (some ⟨g, 0, none⟩) 2 2 := h0; simpa using h_
      refine wpOp_of rfl rfl ?_
      generalize hK : (fun (a' : Act) (W' : World) => _) = K
      go_simp
      rw [← hK]
      exact ⟨_, rfl, Rl14.refl _ _, (fun h => by cases h), g, rfl, h1⟩
  case fin =>
    intro vals W hr hF
    obtain ⟨ga, e18, ra⟩ := hF 18 (by simp)
    obtain ⟨gb, e19, rb⟩ := hF 19 (by simp)
    clear hF
    simp only [List.map_cons, List.map_nil, List.zip_cons_cons, List.zip_nil_left, putsL, Act.put]
    rw [e18, e19]
    simp only [List.setIfInBounds_toArray, List.set_cons_zero, List.set_cons_succ]
    refine wpAny_done (by kernel_rfl) ?_ _
    have hbw : Below w.heap.size w W := hb1.trans (hr.1.mono (by omega))
    have HB := Aside0.mk hbw
    have HRA := Aside0.mk ra
    have HRB := Aside0.mk rb
    have HN0 := Aside0.mk (show n0 ≤ W.heap.size by have := hr.1.size; omega)
    clear e18 e19 hbw ra rb hr B1 hb1 hs1 hn0
    have HAL := Aside0.mk (show ∀ V, V = W.alloc (.cells #[.slice (some ⟨ga, 0, none⟩) 2 2, .slice (some ⟨gb, 0, none⟩) 2 2] 44) → Calls Try.prog 16 #[.slice (some ⟨W.heap.size, 0, none⟩) 2 2] V fun e w' => ∃ v0_, e = .returned (.tuple #[v0_, .int .i64 0]) ∧ Kd.S k41 41 w' V.heap.size (fun _ => True) v0_ [⟨[97], ag1⟩, ⟨[98], ag1⟩, ⟨[99], ag2⟩] ∧ Below V.heap.size V w' from by
      rintro V rfl
      refine merge_All.calls _ 2 [[⟨[97], ag1⟩, ⟨[99], ag1⟩], [⟨[98], ag1⟩, ⟨[99], ag1⟩]] _ _ _ ?_ (Nat.le_refl 2) alive14_all
      exact C_rows2 (c := 2) (d := 2) (HRA.out.C) (HRB.out.C) (Nat.le_refl 2) (Nat.le_refl 2))
    go_upto_region 4 with (first
      | (go_at_call 16; refine (HAL.out _ rfl).mono ?_; rintro e w9 ⟨v9, rfl, ho9, hb9⟩; obtain ⟨A9, c9, rfl⟩ := Kd.S_slice ho9; have HO9 := Aside0.mk ho9; have HB9 := Aside0.mk (show Below W.heap.size W w9 from (below_alloc (Below.refl _ _) _).trans (hb9.mono (by simp))); clear ho9 hb9))
    obtain ⟨b1, b2, fr, p1, p2, p3⟩ := HRA.out.keep (Rl14.of_below HB9.out HN0.out)
    have HP := Aside0.mk (And.intro p1 p2)
    have HS0 := Aside0.mk (show ∀ V, Below w9.heap.size w9 V → V.cell? ⟨ga, 0, none⟩ = some (sl1 b1) ∧ V.cell? ⟨ga, 1, none⟩ = some (.int .u64 1) ∧ V.cell? ⟨ga, 2, none⟩ = some (.bool false) ∧ V.cell? ⟨ga, 3, none⟩ = some (.int .i64 0) ∧ V.cell? ⟨ga, 4, none⟩ = some (.int .u64 0) ∧ V.cell? ⟨ga, 5, none⟩ = some (.int .i64 0) ∧ V.cell? ⟨ga, 6, none⟩ = some (.int .i64 0) ∧ V.cell? ⟨ga, 7, none⟩ = some (sl1 b2) ∧ V.cell? ⟨ga, 8, none⟩ = some (.int .u64 1) ∧ V.cell? ⟨ga, 9, none⟩ = some (.bool false) ∧ V.cell? ⟨ga, 10, none⟩ = some (.int .i64 0) ∧ V.cell? ⟨ga, 11, none⟩ = some (.int .u64 0) ∧ V.cell? ⟨ga, 12, none⟩ = some (.int .i64 0) ∧ V.cell? ⟨ga, 13, none⟩ = some (.int .i64 0) from fun V hb => by
      have h := (hb.block ga (Array.getElem?_eq_some_iff.1 p3).1).trans p3
      exact ⟨(blk_cellF h 0).trans rfl, (blk_cellF h 1).trans rfl, (blk_cellF h 2).trans rfl, (blk_cellF h 3).trans rfl, (blk_cellF h 4).trans rfl, (blk_cellF h 5).trans rfl, (blk_cellF h 6).trans rfl, (blk_cellF h 7).trans rfl, (blk_cellF h 8).trans rfl, (blk_cellF h 9).trans rfl, (blk_cellF h 10).trans rfl, (blk_cellF h 11).trans rfl, (blk_cellF h 12).trans rfl, (blk_cellF h 13).trans rfl⟩)
    have HNW := Aside0.mk (show ∀ V, Below w9.heap.size w9 V → Calls Try.prog 12 #[.slice (some ⟨V.heap.size + 1, 0, none⟩) 1 1] ((V.alloc (.cells #[sl1 b2, .int .u64 1, .bool false, .int .i64 0, .int .u64 0, .int .i64 0, .int .i64 0, sl1 b1, .int .u64 1, .bool false, .int .i64 0, .int .u64 0, .int .i64 0, .int .i64 0] 41)).alloc (.cells #[.slice (some ⟨V.heap.size, 0, none⟩) 2 2] 44)) fun e w' => e = .returned (.tuple #[.pointer none, .int .i64 50]) ∧ Below w9.heap.size w9 w' from by
      intro V hb
      have hr2 := Rl14.of_below (n0 := n0) (hb.trans ((below_alloc (Below.refl V.heap.size V) (.cells #[sl1 b2, .int .u64 1, .bool false, .int .i64 0, .int .u64 0, .int .i64 0, .int .i64 0, sl1 b1, .int .u64 1, .bool false, .int .i64 0, .int .u64 0, .int .i64 0, .int .i64 0] 41)).mono hb.size)) (by have := HN0.out; have := HB9.out.size; omega)
      have hrow : RW14 n0 99 97 V.heap.size (V.alloc (.cells #[sl1 b2, .int .u64 1, .bool false, .int .i64 0, .int .u64 0, .int .i64 0, .int .i64 0, sl1 b1, .int .u64 1, .bool false, .int .i64 0, .int .u64 0, .int .i64 0, .int .i64 0] 41)) := ⟨b2, b1, (0, 0), HP.out.2.keep hr2, HP.out.1.keep hr2, blk_new _ _⟩
      have hc := C_rows1 (c := 2) hrow.C (Nat.le_refl 2)
      rw [World.size_alloc] at hc
      refine (New_S _ 1 [[⟨[99], ag1⟩, ⟨[97], ag1⟩]] _ hc (by decide) (by decide)).mono ?_
      rintro e w' (⟨_, rfl, hb2⟩ | ⟨h0, _⟩)
      · rw [alive14_new]
        exact ⟨rfl, hb.trans (((below_alloc (below_alloc (Below.refl _ _) _) _).trans (hb2.mono (by simp; omega))).mono hb.size)⟩
      · rw [alive14_new] at h0; cases h0)
    clear p1 p2 p3
    go_wp2
    go_region_held3 (fun W' => W'.cell? ⟨ga, 0, none⟩ = some (sl1 b1) ∧ W'.cell? ⟨ga, 1, none⟩ = some (.int .u64 1) ∧ W'.cell? ⟨ga, 2, none⟩ = some (.bool false) ∧ W'.cell? ⟨ga, 3, none⟩ = some (.int .i64 0) ∧ W'.cell? ⟨ga, 4, none⟩ = some (.int .u64 0) ∧ W'.cell? ⟨ga, 5, none⟩ = some (.int .i64 0) ∧ W'.cell? ⟨ga, 6, none⟩ = some (.int .i64 0) ∧ W'.cell? ⟨ga, 7, none⟩ = some (sl1 b2) ∧ W'.cell? ⟨ga, 8, none⟩ = some (.int .u64 1) ∧ W'.cell? ⟨ga, 9, none⟩ = some (.bool false) ∧ W'.cell? ⟨ga, 10, none⟩ = some (.int .i64 0) ∧ W'.cell? ⟨ga, 11, none⟩ = some (.int .u64 0) ∧ W'.cell? ⟨ga, 12, none⟩ = some (.int .i64 0) ∧ W'.cell? ⟨ga, 13, none⟩ = some (.int .i64 0)) (first | exact HS0.out _ (below_drew (Below.refl _ _)) | exact HS0.out _ (below_alloc (below_drew (Below.refl _ _)) _) | exact HS0.out _ (below_alloc (below_alloc (below_drew (Below.refl _ _)) _) _) | exact HS0.out _ HB10.out) (first
      | (go_at_call 12; refine (HNW.out _ (below_drew (Below.refl _ _))).mono ?_; rintro e w10 ⟨rfl, hb⟩; have HB10 := Aside0.mk hb; clear hb))
    have hC9 := Kd.C_below (Kd.S_reads' HO9.out).2.2 (HB10.out)
    obtain ⟨ad, B, d, hA, k0, k1, _⟩ := at_en (i := 2) hC9 rfl
    subst hA
    have k1' : w10.cell? ⟨ad.block, ad.off + 15, none⟩ = some (.int .u64 2) := by simpa [Addr.add] using k1
    have HB11 := Aside0.mk (HB.out.trans ((HB9.out.trans (HB10.out.mono HB9.out.size)).mono HB.out.size))
    clear hC9 k0
    go_wp2
    refine bodyPost_ret (results_tmp rfl _ _ _) rfl ?_
    exact ⟨rfl, HB11.out⟩
end Go.Proofs.Ytihdomhiiolojaa.P
