/- SkipNobody: the walk. No conditions. -/
import Derived.Test.YteomanpaladdjaaSkRefSeek
import Derived.Deep.RegionHeld3
namespace Go.Proofs.Yteomanpaladdjaa.P
open Go.RowKit Go.Proofs.Yteomanpaladdjaa.Pure Go.Proofs.YteomanpaladdjaaW.PrintWords Go.Proofs.YteomanpaladdjaaW.PrintLast Go.Proofs.YteomanpaladdjaaW.PrintMore
set_option linter.unusedVariables false
set_option linter.unusedSimpArgs false
theorem Size_nil (W : World) : Calls Try.prog 13 #[.pointer none] W fun e w' => e = .returned (.int .i64 0) ∧ Below W.heap.size W w' := by
  go_enter Try.func13, Try.ntmps13
  go_wp2
  go_ret
  exact ⟨rfl, Below.refl _ _⟩
/-- What lies there: an empty list, the document's empty list, an entry. -/
def NB (w W : World) (gm gy : Nat) (A : Option Addr) (c : Nat) (x : En) : Prop :=
  SkS W w.heap.size (fun k => k = gm) gm [] false ∧ DL W w.heap.size (fun k => k = gy) gy [] false ∧ W.heap[w.heap.size]? = some (.cells (bxC A c x).toArray 38 (0, 0)) ∧ Below w.heap.size w W
theorem NB.below {w W W' : World} {gm gy : Nat} {A : Option Addr} {c : Nat} {x : En} (h : NB w W gm gy A c x) (hb : Below W.heap.size W W') : NB w W' gm gy A c x :=
  ⟨h.1.below hb, h.2.1.below hb, blk_below h.2.2.1 hb, h.2.2.2.trans (hb.mono h.2.2.2.size)⟩
theorem NB.cells {w W : World} {gm gy : Nat} {A : Option Addr} {c : Nat} {x : En} (h : NB w W gm gy A c x) : SnX W w.heap.size A c x :=
  ⟨(blk_cell h.2.2.1 0).trans rfl, (blk_cell h.2.2.1 1).trans rfl, (blk_cell h.2.2.1 2).trans rfl, (blk_cell h.2.2.1 3).trans rfl, (blk_cell h.2.2.1 4).trans rfl, (blk_cell h.2.2.1 5).trans rfl, (blk_cell h.2.2.1 6).trans rfl⟩
/-- The document's empty list, and an entry. -/
def NC (w W : World) (gy : Nat) (A : Option Addr) (c : Nat) (x : En) : Prop :=
  DL W w.heap.size (fun k => k = gy) gy [] false ∧ W.heap[w.heap.size]? = some (.cells (bxC A c x).toArray 38 (0, 0)) ∧ Below w.heap.size w W
theorem NC.cells {w W : World} {gy : Nat} {A : Option Addr} {c : Nat} {x : En} (h : NC w W gy A c x) : SnX W w.heap.size A c x :=
  ⟨(blk_cell h.2.1 0).trans rfl, (blk_cell h.2.1 1).trans rfl, (blk_cell h.2.1 2).trans rfl, (blk_cell h.2.1 3).trans rfl, (blk_cell h.2.1 4).trans rfl, (blk_cell h.2.1 5).trans rfl, (blk_cell h.2.1 6).trans rfl⟩
theorem NB.put {w W : World} {gm gy : Nat} {A : Option Addr} {c : Nat} {x : En} (h : NB w W gm gy A c x) (h1 : w.heap.size < gm) (h2 : gm < gy) (hx : Kd.C (Kd.int .u8) w A x.f0.length x.f0) (hc : x.f0.length ≤ c) (hok : OkEn x) (height : Int) :
    Calls Try.prog 18 #[.pointer (some ⟨gm, 0, none⟩), enV A c x, .int .i64 height] W fun e w' => e = .returned (.int .i64 (skErr [] false x height)) ∧ NC w w' gy A c x := by
  obtain ⟨hS, hD, hX, hB⟩ := h
  refine (Put_S W w.heap.size _ gm [] false hS good0 A c x height (Kd.C_below hx hB) hc hok.1 hok.2).mono ?_
  rintro e w' ⟨rfl, _, hz, hio, hf⟩
  have hl := blk_lt hX
  exact ⟨rfl, hD.step (fun k hk hlt => hf k hlt (by omega)), (hf _ hl (by omega)).trans hX, hB.trans (hio.below hz (fun k hk => hf k (by omega) (by omega)))⟩
theorem NC.put {w W : World} {gy : Nat} {A : Option Addr} {c : Nat} {x : En} (h : NC w W gy A c x) (h1 : w.heap.size < gy) (hx : Kd.C (Kd.int .u8) w A x.f0.length x.f0) (hc : x.f0.length ≤ c) (hok : OkEn x) (height : Int) :
    Calls Try.prog 22 #[.pointer (some ⟨gy, 0, none⟩), enV A c x, .int .i64 height] W fun e w' => e = .returned (.int .i64 (skErr [] false x height)) ∧ SnX w' w.heap.size A c x ∧ Below w.heap.size w w' := by
  obtain ⟨hD, hX, hB⟩ := h
  refine (RPut_calls W w.heap.size _ gy [] false hD good0 A c x height (Kd.C_below hx hB) hc hok.1 hok.2).mono ?_
  rintro e w' ⟨rfl, _, hz, hio, hf⟩
  have hl := blk_lt hX
  have hX' := (hf _ hl (by omega)).trans hX
  exact ⟨rfl, ⟨(blk_cell hX' 0).trans rfl, (blk_cell hX' 1).trans rfl, (blk_cell hX' 2).trans rfl, (blk_cell hX' 3).trans rfl, (blk_cell hX' 4).trans rfl, (blk_cell hX' 5).trans rfl, (blk_cell hX' 6).trans rfl⟩, hB.trans (hio.below hz (fun k hk => hf k (by omega) (by omega)))⟩
set_option maxHeartbeats 8000000 in
set_option maxRecDepth 100000 in
theorem SkipNobody_walk (A : Option Addr) (c : Nat) (x : En) (height most : Int) (w : World) (hx : Kd.C (Kd.int .u8) w A x.f0.length x.f0) (hc : x.f0.length ≤ c) (hok : OkEn x) :
    Calls Try.prog 8 #[enV A c x, .int .i64 height, .int .i64 most] w fun e w' => e = .returned (.bool true) ∧ Below w.heap.size w w' := by
  have hu4 := Try.underlying38
  have hu5 := Try.underlying36
  have hu6 := Try.underlying61
  have hu7 := Try.underlying51
  have HAL := Aside0.mk alive_calls
  by_cases hko : 1000 < x.f0.length
  · have d2 : decide ((1000 : Int) < (x.f0.length : Int)) = true := decide_eq_true (by omega)
    have d2b : decide (1000 < x.f0.length) = true := decide_eq_true hko
    clear hx hc hok hko
    go_enter Try.func8, Try.ntmps8
    go_wp2_with (first | (go_at_call 9; refine (HAL.out _).mono ?_; rintro e w1 ⟨rfl, hb⟩; have HB1 := Aside0.mk (show Below w.heap.size w w1 from (below_alloc (Below.refl _ _) _).trans (hb.mono (by rw [World.size_alloc]; omega))); clear hb))
    go_ret
    exact ⟨rfl, HB1.out⟩
  have d2 : decide ((1000 : Int) < (x.f0.length : Int)) = false := decide_eq_false (by omega)
  have d2b : decide (1000 < x.f0.length) = false := decide_eq_false hko
  have HX := Aside0.mk hx
  have HCC := Aside0.mk hc
  have HOK := Aside0.mk hok
  clear hx hc hok hko
  go_enter Try.func8, Try.ntmps8
  go_upto_region 5 with (fail)
  obtain ⟨W1, hW1⟩ : ∃ W1, (w.alloc (.cells (bxC A c x).toArray 38)).alloc (.cells (hdC [] 0 false).toArray 61) = W1 := ⟨_, rfl⟩
  have v1 : Below w.heap.size w W1 := by rw [← hW1]; exact (below_alloc (Below.refl _ _) _).trans (below_alloc (Below.refl _ _) _ |>.mono (by rw [World.size_alloc]; omega))
  have HV1 := Aside0.mk v1
  have HX1 := Aside0.mk (show W1.heap[w.heap.size]? = some (.cells (bxC A c x).toArray 38 (0, 0)) by rw [← hW1]; exact blk_alloc (blk_new w _) _)
  have HM1 := Aside0.mk (show W1.heap[w.heap.size + 1]? = some (.cells (hdC [] 0 false).toArray 61 (0, 0)) by rw [← hW1]; exact (by rw [World.size_alloc] : (w.alloc (.cells (bxC A c x).toArray 38)).heap.size = w.heap.size + 1) ▸ blk_new (w.alloc (.cells (bxC A c x).toArray 38)) _)
  have HS1 := Aside0.mk (show SkS W1 w.heap.size (fun k => k = w.heap.size + 1) (w.heap.size + 1) [] false from SkS.empty HM1.out (by omega) rfl)
  have m0 : W1.cell? ⟨w.heap.size, 0, none⟩ = some (.slice A x.f0.length c) := (blk_cell HX1.out 0).trans rfl
  first | rw [hW1] | (change Code.wp _ _ _ _ ((w.alloc (.cells (bxC A c x).toArray 38)).alloc (.cells (hdC [] 0 false).toArray 61)); rw [hW1])
  clear hW1 v1
  go_upto_region 6 with (first | (go_at_call 16; refine (Get_nil W1 A c x.f0 (Kd.C_below HX.out HV1.out) HCC.out).mono ?_; rintro e w2 ⟨rfl, hb⟩; have HB2 := Aside0.mk hb; clear hb))
  obtain ⟨W3, hW3⟩ : ∃ W3, w2.alloc (.cells (agCs zAg) 36) = W3 := ⟨_, rfl⟩
  have v3 : Below W1.heap.size W1 W3 := by rw [← hW3]; exact HB2.out.trans (below_alloc (Below.refl _ _) _ |>.mono HB2.out.size)
  have HV3 := Aside0.mk (show Below w.heap.size w W3 from HV1.out.trans (v3.mono HV1.out.size))
  have HX3 := Aside0.mk (blk_below HX1.out v3)
  have HS3 := Aside0.mk (HS1.out.below v3)
  have m0' : W3.cell? ⟨w.heap.size, 0, none⟩ = some (.slice A x.f0.length c) := (blk_cell HX3.out 0).trans rfl
  first | rw [hW3] | (change Code.wp _ _ _ _ (w2.alloc (.cells (agCs zAg) 36)); rw [hW3])
  clear hW3 v3 m0 HX1 HM1 HS1 HB2
  have hgb : gB (fromE x.f0 []) x.f0 = false := rfl
  go_upto_region 8 with (first | (go_at_call 16; refine (Get_S HS3.out good0 A c x.f0 (Kd.C_below HX.out HV3.out) HCC.out).mono ?_; rintro e w4 ⟨rfl, hb⟩; rw [hgb]; have HB4 := Aside0.mk hb; clear hb))
  obtain ⟨za, hza⟩ : ∃ z, gA (fromE x.f0 []) x.f0 = z := ⟨_, rfl⟩
  rw [hza]
  clear hza
  obtain ⟨W5, hW5⟩ : ∃ W5, (w4.alloc (.cells (agCs za) 36)).alloc (.cells #[.slice none 0 0, .bool false] 51) = W5 := ⟨_, rfl⟩
  have v5 : Below W3.heap.size W3 W5 := by rw [← hW5]; exact (HB4.out.trans (below_alloc (Below.refl _ _) _ |>.mono HB4.out.size)).trans (below_alloc (Below.refl _ _) _ |>.mono (by have h_ := HB4.out.size; rw [World.size_alloc]; omega))
  have hy5 : W5.heap[w4.heap.size + 1]? = some (.cells #[.slice none 0 0, .bool false] 51 (0, 0)) := by rw [← hW5]; exact (by rw [World.size_alloc] : (w4.alloc (.cells (agCs za) 36)).heap.size = w4.heap.size + 1) ▸ blk_new (w4.alloc (.cells (agCs za) 36)) _
  have HGG := Aside0.mk (show w.heap.size < w.heap.size + 1 ∧ w.heap.size + 1 < w4.heap.size + 1 from ⟨by omega, by have h_ := HB4.out.size; have h2_ := blk_lt HX3.out; have h3_ := HS3.out; obtain ⟨ns, hns, hl⟩ := h3_; have h4_ := blk_lt hl.mid.head; omega⟩)
  first | rw [hW5] | (change Code.wp _ _ _ _ ((w4.alloc (.cells (agCs za) 36)).alloc (.cells #[.slice none 0 0, .bool false] 51)); rw [hW5])
  obtain ⟨gy, hgy⟩ : ∃ k, w4.heap.size + 1 = k := ⟨_, rfl⟩
  obtain ⟨gm, hgm⟩ : ∃ k, w.heap.size + 1 = k := ⟨_, rfl⟩
  rw [hgy] at hy5 HGG ⊢
  rw [hgm] at HGG HS3 ⊢
  have HN5 := Aside0.mk (show NB w W5 gm gy A c x from ⟨HS3.out.below v5, ⟨none, 0, hy5, by have := HGG.out; omega, rfl, Kd.N_nil _ _ _ _ _⟩, blk_below HX3.out v5, HV3.out.trans (v5.mono HV3.out.size)⟩)
  have HND := Aside0.mk (show NB w W5.drew gm gy A c x from HN5.out.below (below_drew (Below.refl _ _)))
  have HSD := Aside0.mk (show SnX W5.drew w.heap.size A c x from HN5.out.cells)
  have hw0 : wrap64 0 = 0 := by unfold wrap64; omega
  have kb : ∀ a : Int, (a == a) = true := fun a => beq_self_eq_true a
  clear hW5 v5 hy5 hgy hgm hgb m0' HX3 HS3 HB4 HV3 HV1
  refine wp_region_last_drew (ds := []) (S := fun W' => W'.cell? ⟨w.heap.size, 0, none⟩ = some (.slice A x.f0.length c) ∧ W'.cell? ⟨w.heap.size, 1, none⟩ = some (.int .u64 x.f1.f0) ∧ W'.cell? ⟨w.heap.size, 2, none⟩ = some (.bool x.f1.f1) ∧ W'.cell? ⟨w.heap.size, 3, none⟩ = some (.int .i64 x.f1.f2.f0) ∧ W'.cell? ⟨w.heap.size, 4, none⟩ = some (.int .u64 x.f1.f2.f1) ∧ W'.cell? ⟨w.heap.size, 5, none⟩ = some (.int .i64 x.f1.f3) ∧ W'.cell? ⟨w.heap.size, 6, none⟩ = some (.int .i64 x.f1.f4)) (by kernel_rfl) ?_ (fun hS0 => ?_);
  focus exact HSD.out
  refine wpAnyLast_ready (rs := [0]) (by kernel_rfl) (by simp) (AllReadyL.cons rfl (by decide) (fun K hK => ?_) AllReadyL.nil)
  go_simp
  refine (HAL.out _).mono ?_
  rintro e w10 ⟨rfl, hb⟩; have HN10 := Aside0.mk (HND.out.below hb); have HS10 := Aside0.mk HN10.out.cells; clear hb
  refine hK _ _ HS10.out (fun hS1 => ?_)
  clear hK K
  (refine wpAnyLast_take (i := 1) (v := ?_) rfl (by kernel_rfl) (by kernel_rfl) (by kernel_rfl) (by kernel_rfl) (by kernel_rfl) (fun _ _ _ h => h) (Or.inl ⟨by rfl, ?_⟩) (by assumption) ?_; rotate_left 1; focus (intro ww hSw; (try dsimp only at hSw); go_simp; try with_reducible rfl)); try simp only [Act.put, List.setIfInBounds_toArray, List.set_cons_zero, List.set_cons_succ]
  try simp only [List.getElem_toArray, List.getElem_cons_zero, List.getElem_cons_succ, Act.put, List.setIfInBounds_toArray, List.set_cons_zero, List.set_cons_succ]
  (refine wpAnyLast_take (i := 2) (v := ?_) rfl (by kernel_rfl) (by kernel_rfl) (by kernel_rfl) (by kernel_rfl) (by kernel_rfl) (fun _ _ _ h => h) (Or.inl ⟨by rfl, ?_⟩) (by assumption) ?_; rotate_left 1; focus (intro ww hSw; (try dsimp only at hSw); go_simp; try with_reducible rfl)); try simp only [Act.put, List.setIfInBounds_toArray, List.set_cons_zero, List.set_cons_succ]
  try simp only [List.getElem_toArray, List.getElem_cons_zero, List.getElem_cons_succ, Act.put, List.setIfInBounds_toArray, List.set_cons_zero, List.set_cons_succ]
  (refine wpAnyLast_take (i := 3) (v := ?_) rfl (by kernel_rfl) (by kernel_rfl) (by kernel_rfl) (by kernel_rfl) (by kernel_rfl) (fun _ _ _ h => h) (Or.inl ⟨by rfl, ?_⟩) (by assumption) ?_; rotate_left 1; focus (intro ww hSw; (try dsimp only at hSw); go_simp; try with_reducible rfl)); try simp only [Act.put, List.setIfInBounds_toArray, List.set_cons_zero, List.set_cons_succ]
  try simp only [List.getElem_toArray, List.getElem_cons_zero, List.getElem_cons_succ, Act.put, List.setIfInBounds_toArray, List.set_cons_zero, List.set_cons_succ]
  (refine wpAnyLast_take (i := 4) (v := ?_) rfl (by kernel_rfl) (by kernel_rfl) (by kernel_rfl) (by kernel_rfl) (by kernel_rfl) (fun _ _ _ h => h) (Or.inl ⟨by rfl, ?_⟩) (by assumption) ?_; rotate_left 1; focus (intro ww hSw; (try dsimp only at hSw); go_simp; try with_reducible rfl)); try simp only [Act.put, List.setIfInBounds_toArray, List.set_cons_zero, List.set_cons_succ]
  try simp only [List.getElem_toArray, List.getElem_cons_zero, List.getElem_cons_succ, Act.put, List.setIfInBounds_toArray, List.set_cons_zero, List.set_cons_succ]
  (refine wpAnyLast_take (i := 5) (v := ?_) rfl (by kernel_rfl) (by kernel_rfl) (by kernel_rfl) (by kernel_rfl) (by kernel_rfl) (fun _ _ _ h => h) (Or.inl ⟨by rfl, ?_⟩) (by assumption) ?_; rotate_left 1; focus (intro ww hSw; (try dsimp only at hSw); go_simp; try with_reducible rfl)); try simp only [Act.put, List.setIfInBounds_toArray, List.set_cons_zero, List.set_cons_succ]
  try simp only [List.getElem_toArray, List.getElem_cons_zero, List.getElem_cons_succ, Act.put, List.setIfInBounds_toArray, List.set_cons_zero, List.set_cons_succ]
  (refine wpAnyLast_take (i := 6) (v := ?_) rfl (by kernel_rfl) (by kernel_rfl) (by kernel_rfl) (by kernel_rfl) (by kernel_rfl) (fun _ _ _ h => h) (Or.inl ⟨by rfl, ?_⟩) (by assumption) ?_; rotate_left 1; focus (intro ww hSw; (try dsimp only at hSw); go_simp; try with_reducible rfl)); try simp only [Act.put, List.setIfInBounds_toArray, List.set_cons_zero, List.set_cons_succ]
  try simp only [List.getElem_toArray, List.getElem_cons_zero, List.getElem_cons_succ, Act.put, List.setIfInBounds_toArray, List.set_cons_zero, List.set_cons_succ]
  (refine wpAnyLast_take (i := 7) (v := ?_) rfl (by kernel_rfl) (by kernel_rfl) (by kernel_rfl) (by kernel_rfl) (by kernel_rfl) (fun _ _ _ h => h) (Or.inl ⟨by rfl, ?_⟩) (by assumption) ?_; rotate_left 1; focus (intro ww hSw; (try dsimp only at hSw); go_simp; try with_reducible rfl)); try simp only [Act.put, List.setIfInBounds_toArray, List.set_cons_zero, List.set_cons_succ]
  try simp only [List.getElem_toArray, List.getElem_cons_zero, List.getElem_cons_succ, Act.put, List.setIfInBounds_toArray, List.set_cons_zero, List.set_cons_succ]
  (refine wpAnyLast_take (i := 8) (v := ?_) rfl (by kernel_rfl) (by kernel_rfl) (by kernel_rfl) (by kernel_rfl) (by kernel_rfl) (fun _ _ _ h => h) (Or.inl ⟨by rfl, ?_⟩) (by assumption) ?_; rotate_left 1; focus (intro ww hSw; (try dsimp only at hSw); go_simp; try with_reducible rfl)); try simp only [Act.put, List.setIfInBounds_toArray, List.set_cons_zero, List.set_cons_succ]
  try simp only [List.getElem_toArray, List.getElem_cons_zero, List.getElem_cons_succ, Act.put, List.setIfInBounds_toArray, List.set_cons_zero, List.set_cons_succ]
  (refine wpAnyLast_take (i := 9) (v := ?_) rfl (by kernel_rfl) (by kernel_rfl) (by kernel_rfl) (by kernel_rfl) (by kernel_rfl) (fun _ _ _ h => h) (Or.inl ⟨by rfl, ?_⟩) (by assumption) ?_; rotate_left 1; focus (intro ww hSw; (try dsimp only at hSw); go_simp; try with_reducible rfl)); try simp only [Act.put, List.setIfInBounds_toArray, List.set_cons_zero, List.set_cons_succ]
  try simp only [List.getElem_toArray, List.getElem_cons_zero, List.getElem_cons_succ, Act.put, List.setIfInBounds_toArray, List.set_cons_zero, List.set_cons_succ]
  (refine wpAnyLast_take (i := 10) (v := ?_) rfl (by kernel_rfl) (by kernel_rfl) (by kernel_rfl) (by kernel_rfl) (by kernel_rfl) (fun _ _ _ h => h) (Or.inl ⟨by rfl, ?_⟩) (by assumption) ?_; rotate_left 1; focus (intro ww hSw; (try dsimp only at hSw); go_simp; try with_reducible rfl)); try simp only [Act.put, List.setIfInBounds_toArray, List.set_cons_zero, List.set_cons_succ]
  try simp only [List.getElem_toArray, List.getElem_cons_zero, List.getElem_cons_succ, Act.put, List.setIfInBounds_toArray, List.set_cons_zero, List.set_cons_succ]
  (refine wpAnyLast_take (i := 11) (v := ?_) rfl (by kernel_rfl) (by kernel_rfl) (by kernel_rfl) (by kernel_rfl) (by kernel_rfl) (fun _ _ _ h => h) (Or.inl ⟨by rfl, ?_⟩) (by assumption) ?_; rotate_left 1; focus (intro ww hSw; (try dsimp only at hSw); go_simp; try with_reducible rfl)); try simp only [Act.put, List.setIfInBounds_toArray, List.set_cons_zero, List.set_cons_succ]
  try simp only [List.getElem_toArray, List.getElem_cons_zero, List.getElem_cons_succ, Act.put, List.setIfInBounds_toArray, List.set_cons_zero, List.set_cons_succ]
  (refine wpAnyLast_take (i := 12) (v := ?_) rfl (by kernel_rfl) (by kernel_rfl) (by kernel_rfl) (by kernel_rfl) (by kernel_rfl) (fun _ _ _ h => h) (Or.inl ⟨by rfl, ?_⟩) (by assumption) ?_; rotate_left 1; focus (intro ww hSw; (try dsimp only at hSw); go_simp; try with_reducible rfl)); try simp only [Act.put, List.setIfInBounds_toArray, List.set_cons_zero, List.set_cons_succ]
  try simp only [List.getElem_toArray, List.getElem_cons_zero, List.getElem_cons_succ, Act.put, List.setIfInBounds_toArray, List.set_cons_zero, List.set_cons_succ]
  refine wpAnyLast_ready (rs := [13]) (by kernel_rfl) (by simp) (AllReadyL.cons rfl (by decide) (fun K hK => ?_) AllReadyL.nil)
  go_simp
  refine (Put_nil _ A c x height).mono ?_
  rintro e w11 ⟨rfl, hb⟩; have HN11 := Aside0.mk (HN10.out.below hb); have HS11 := Aside0.mk HN11.out.cells; clear hb
  refine hK _ _ HS11.out (fun hS1 => ?_)
  clear hK K
  (refine wpAnyLast_take (i := 14) (v := ?_) rfl (by kernel_rfl) (by kernel_rfl) (by kernel_rfl) (by kernel_rfl) (by kernel_rfl) (fun _ _ _ h => h) (Or.inl ⟨by rfl, ?_⟩) (by assumption) ?_; rotate_left 1; focus (intro ww hSw; (try dsimp only at hSw); go_simp; try with_reducible rfl)); try simp only [Act.put, List.setIfInBounds_toArray, List.set_cons_zero, List.set_cons_succ]
  try simp only [List.getElem_toArray, List.getElem_cons_zero, List.getElem_cons_succ, Act.put, List.setIfInBounds_toArray, List.set_cons_zero, List.set_cons_succ]
  (refine wpAnyLast_take (i := 15) (v := ?_) rfl (by kernel_rfl) (by kernel_rfl) (by kernel_rfl) (by kernel_rfl) (by kernel_rfl) (fun _ _ _ h => h) (Or.inl ⟨by rfl, ?_⟩) (by assumption) ?_; rotate_left 1; focus (intro ww hSw; (try dsimp only at hSw); go_simp; try with_reducible rfl)); try simp only [Act.put, List.setIfInBounds_toArray, List.set_cons_zero, List.set_cons_succ]
  try simp only [List.getElem_toArray, List.getElem_cons_zero, List.getElem_cons_succ, Act.put, List.setIfInBounds_toArray, List.set_cons_zero, List.set_cons_succ]
  (refine wpAnyLast_take (i := 16) (v := ?_) rfl (by kernel_rfl) (by kernel_rfl) (by kernel_rfl) (by kernel_rfl) (by kernel_rfl) (fun _ _ _ h => h) (Or.inl ⟨by rfl, ?_⟩) (by assumption) ?_; rotate_left 1; focus (intro ww hSw; (try dsimp only at hSw); go_simp; try with_reducible rfl)); try simp only [Act.put, List.setIfInBounds_toArray, List.set_cons_zero, List.set_cons_succ]
  try simp only [List.getElem_toArray, List.getElem_cons_zero, List.getElem_cons_succ, Act.put, List.setIfInBounds_toArray, List.set_cons_zero, List.set_cons_succ]
  (refine wpAnyLast_take (i := 17) (v := ?_) rfl (by kernel_rfl) (by kernel_rfl) (by kernel_rfl) (by kernel_rfl) (by kernel_rfl) (fun _ _ _ h => h) (Or.inl ⟨by rfl, ?_⟩) (by assumption) ?_; rotate_left 1; focus (intro ww hSw; (try dsimp only at hSw); go_simp; try with_reducible rfl)); try simp only [Act.put, List.setIfInBounds_toArray, List.set_cons_zero, List.set_cons_succ]
  try simp only [List.getElem_toArray, List.getElem_cons_zero, List.getElem_cons_succ, Act.put, List.setIfInBounds_toArray, List.set_cons_zero, List.set_cons_succ]
  refine wpAnyLast_ready (rs := [18]) (by kernel_rfl) (by simp) (AllReadyL.cons rfl (by decide) (fun K hK => ?_) AllReadyL.nil)
  go_simp
  refine (Freeze_nil _).mono ?_
  rintro e w12 ⟨rfl, hb⟩; have HN12 := Aside0.mk (HN11.out.below hb); have HS12 := Aside0.mk HN12.out.cells; clear hb
  refine hK _ _ HS12.out (fun hS1 => ?_)
  clear hK K
  (refine wpAnyLast_take (i := 19) (v := ?_) rfl (by kernel_rfl) (by kernel_rfl) (by kernel_rfl) (by kernel_rfl) (by kernel_rfl) (fun _ _ _ h => h) (Or.inl ⟨by rfl, ?_⟩) (by assumption) ?_; rotate_left 1; focus (intro ww hSw; (try dsimp only at hSw); go_simp; try with_reducible rfl)); try simp only [Act.put, List.setIfInBounds_toArray, List.set_cons_zero, List.set_cons_succ]
  try simp only [List.getElem_toArray, List.getElem_cons_zero, List.getElem_cons_succ, Act.put, List.setIfInBounds_toArray, List.set_cons_zero, List.set_cons_succ]
  (refine wpAnyLast_take (i := 20) (v := ?_) rfl (by kernel_rfl) (by kernel_rfl) (by kernel_rfl) (by kernel_rfl) (by kernel_rfl) (fun _ _ _ h => h) (Or.inl ⟨by rfl, ?_⟩) (by assumption) ?_; rotate_left 1; focus (intro ww hSw; (try dsimp only at hSw); go_simp; try with_reducible rfl)); try simp only [Act.put, List.setIfInBounds_toArray, List.set_cons_zero, List.set_cons_succ]
  try simp only [List.getElem_toArray, List.getElem_cons_zero, List.getElem_cons_succ, Act.put, List.setIfInBounds_toArray, List.set_cons_zero, List.set_cons_succ]
  (refine wpAnyLast_take (i := 21) (v := ?_) rfl (by kernel_rfl) (by kernel_rfl) (by kernel_rfl) (by kernel_rfl) (by kernel_rfl) (fun _ _ _ h => h) (Or.inl ⟨by rfl, ?_⟩) (by assumption) ?_; rotate_left 1; focus (intro ww hSw; (try dsimp only at hSw); go_simp; try with_reducible rfl)); try simp only [Act.put, List.setIfInBounds_toArray, List.set_cons_zero, List.set_cons_succ]
  try simp only [List.getElem_toArray, List.getElem_cons_zero, List.getElem_cons_succ, Act.put, List.setIfInBounds_toArray, List.set_cons_zero, List.set_cons_succ]
  (refine wpAnyLast_take (i := 22) (v := ?_) rfl (by kernel_rfl) (by kernel_rfl) (by kernel_rfl) (by kernel_rfl) (by kernel_rfl) (fun _ _ _ h => h) (Or.inl ⟨by rfl, ?_⟩) (by assumption) ?_; rotate_left 1; focus (intro ww hSw; (try dsimp only at hSw); go_simp; try with_reducible rfl)); try simp only [Act.put, List.setIfInBounds_toArray, List.set_cons_zero, List.set_cons_succ]
  try simp only [List.getElem_toArray, List.getElem_cons_zero, List.getElem_cons_succ, Act.put, List.setIfInBounds_toArray, List.set_cons_zero, List.set_cons_succ]
  refine wpAnyLast_ready (rs := [23]) (by kernel_rfl) (by simp) (AllReadyL.cons rfl (by decide) (fun K hK => ?_) AllReadyL.nil)
  go_simp
  refine (Frozen_nil _).mono ?_
  rintro e w13 ⟨rfl, hb⟩; have HN13 := Aside0.mk (HN12.out.below hb); have HS13 := Aside0.mk HN13.out.cells; clear hb
  refine hK _ _ HS13.out (fun hS1 => ?_)
  clear hK K
  (refine wpAnyLast_take (i := 24) (v := ?_) rfl (by kernel_rfl) (by kernel_rfl) (by kernel_rfl) (by kernel_rfl) (by kernel_rfl) (fun _ _ _ h => h) (Or.inl ⟨by rfl, ?_⟩) (by assumption) ?_; rotate_left 1; focus (intro ww hSw; (try dsimp only at hSw); go_simp; try with_reducible rfl)); try simp only [Act.put, List.setIfInBounds_toArray, List.set_cons_zero, List.set_cons_succ]
  try simp only [List.getElem_toArray, List.getElem_cons_zero, List.getElem_cons_succ, Act.put, List.setIfInBounds_toArray, List.set_cons_zero, List.set_cons_succ]
  (refine wpAnyLast_take (i := 25) (v := ?_) rfl (by kernel_rfl) (by kernel_rfl) (by kernel_rfl) (by kernel_rfl) (by kernel_rfl) (fun _ _ _ h => h) (Or.inl ⟨by rfl, ?_⟩) (by assumption) ?_; rotate_left 1; focus (intro ww hSw; (try dsimp only at hSw); go_simp; try with_reducible rfl)); try simp only [Act.put, List.setIfInBounds_toArray, List.set_cons_zero, List.set_cons_succ]
  try simp only [List.getElem_toArray, List.getElem_cons_zero, List.getElem_cons_succ, Act.put, List.setIfInBounds_toArray, List.set_cons_zero, List.set_cons_succ]
  (refine wpAnyLast_take (i := 26) (v := ?_) rfl (by kernel_rfl) (by kernel_rfl) (by kernel_rfl) (by kernel_rfl) (by kernel_rfl) (fun _ _ _ h => h) (Or.inl ⟨by rfl, ?_⟩) (by assumption) ?_; rotate_left 1; focus (intro ww hSw; (try dsimp only at hSw); go_simp; try with_reducible rfl)); try simp only [Act.put, List.setIfInBounds_toArray, List.set_cons_zero, List.set_cons_succ]
  try simp only [List.getElem_toArray, List.getElem_cons_zero, List.getElem_cons_succ, Act.put, List.setIfInBounds_toArray, List.set_cons_zero, List.set_cons_succ]
  (refine wpAnyLast_take (i := 27) (v := ?_) rfl (by kernel_rfl) (by kernel_rfl) (by kernel_rfl) (by kernel_rfl) (by kernel_rfl) (fun _ _ _ h => h) (Or.inl ⟨by rfl, ?_⟩) (by assumption) ?_; rotate_left 1; focus (intro ww hSw; (try dsimp only at hSw); go_simp; try with_reducible rfl)); try simp only [Act.put, List.setIfInBounds_toArray, List.set_cons_zero, List.set_cons_succ]
  try simp only [List.getElem_toArray, List.getElem_cons_zero, List.getElem_cons_succ, Act.put, List.setIfInBounds_toArray, List.set_cons_zero, List.set_cons_succ]
  (refine wpAnyLast_take (i := 30) (v := ?_) rfl (by kernel_rfl) (by kernel_rfl) (by kernel_rfl) (by kernel_rfl) (by kernel_rfl) (fun _ _ _ h => h) (Or.inl ⟨by rfl, ?_⟩) (by assumption) ?_; rotate_left 1; focus (intro ww hSw; (try dsimp only at hSw); go_simp; try with_reducible rfl)); try simp only [Act.put, List.setIfInBounds_toArray, List.set_cons_zero, List.set_cons_succ]
  try simp only [List.getElem_toArray, List.getElem_cons_zero, List.getElem_cons_succ, Act.put, List.setIfInBounds_toArray, List.set_cons_zero, List.set_cons_succ]
  (refine wpAnyLast_take (i := 31) (v := ?_) rfl (by kernel_rfl) (by kernel_rfl) (by kernel_rfl) (by kernel_rfl) (by kernel_rfl) (fun _ _ _ h => h) (Or.inl ⟨by rfl, ?_⟩) (by assumption) ?_; rotate_left 1; focus (intro ww hSw; (try dsimp only at hSw); go_simp; try with_reducible rfl)); try simp only [Act.put, List.setIfInBounds_toArray, List.set_cons_zero, List.set_cons_succ]
  try simp only [List.getElem_toArray, List.getElem_cons_zero, List.getElem_cons_succ, Act.put, List.setIfInBounds_toArray, List.set_cons_zero, List.set_cons_succ]
  (refine wpAnyLast_take (i := 32) (v := ?_) rfl (by kernel_rfl) (by kernel_rfl) (by kernel_rfl) (by kernel_rfl) (by kernel_rfl) (fun _ _ _ h => h) (Or.inl ⟨by rfl, ?_⟩) (by assumption) ?_; rotate_left 1; focus (intro ww hSw; (try dsimp only at hSw); go_simp; try with_reducible rfl)); try simp only [Act.put, List.setIfInBounds_toArray, List.set_cons_zero, List.set_cons_succ]
  try simp only [List.getElem_toArray, List.getElem_cons_zero, List.getElem_cons_succ, Act.put, List.setIfInBounds_toArray, List.set_cons_zero, List.set_cons_succ]
  (refine wpAnyLast_take (i := 33) (v := ?_) rfl (by kernel_rfl) (by kernel_rfl) (by kernel_rfl) (by kernel_rfl) (by kernel_rfl) (fun _ _ _ h => h) (Or.inl ⟨by rfl, ?_⟩) (by assumption) ?_; rotate_left 1; focus (intro ww hSw; (try dsimp only at hSw); go_simp; try with_reducible rfl)); try simp only [Act.put, List.setIfInBounds_toArray, List.set_cons_zero, List.set_cons_succ]
  try simp only [List.getElem_toArray, List.getElem_cons_zero, List.getElem_cons_succ, Act.put, List.setIfInBounds_toArray, List.set_cons_zero, List.set_cons_succ]
  (refine wpAnyLast_take (i := 37) (v := ?_) rfl (by kernel_rfl) (by kernel_rfl) (by kernel_rfl) (by kernel_rfl) (by kernel_rfl) (fun _ _ _ h => h) (Or.inl ⟨by rfl, ?_⟩) (by assumption) ?_; rotate_left 1; focus (intro ww hSw; (try dsimp only at hSw); go_simp; try with_reducible rfl)); try simp only [Act.put, List.setIfInBounds_toArray, List.set_cons_zero, List.set_cons_succ]
  try simp only [List.getElem_toArray, List.getElem_cons_zero, List.getElem_cons_succ, Act.put, List.setIfInBounds_toArray, List.set_cons_zero, List.set_cons_succ]
  (refine wpAnyLast_take (i := 40) (v := ?_) rfl (by kernel_rfl) (by kernel_rfl) (by kernel_rfl) (by kernel_rfl) (by kernel_rfl) (fun _ _ _ h => h) (Or.inl ⟨by rfl, ?_⟩) (by assumption) ?_; rotate_left 1; focus (intro ww hSw; (try dsimp only at hSw); go_simp; try with_reducible rfl)); try simp only [Act.put, List.setIfInBounds_toArray, List.set_cons_zero, List.set_cons_succ]
  try simp only [List.getElem_toArray, List.getElem_cons_zero, List.getElem_cons_succ, Act.put, List.setIfInBounds_toArray, List.set_cons_zero, List.set_cons_succ]
  refine wpAnyLast_ready (rs := [28]) (by kernel_rfl) (by simp) (AllReadyL.cons rfl (by decide) (fun K hK => ?_) AllReadyL.nil)
  go_simp
  refine (All_nil _).mono ?_
  rintro e w14 ⟨rfl, hb⟩; have HN14 := Aside0.mk (HN13.out.below hb); have HS14 := Aside0.mk HN14.out.cells; clear hb
  refine hK _ _ HS14.out (fun hS1 => ?_)
  clear hK K
  (refine wpAnyLast_take (i := 29) (v := ?_) rfl (by kernel_rfl) (by kernel_rfl) (by kernel_rfl) (by kernel_rfl) (by kernel_rfl) (fun _ _ _ h => h) (Or.inl ⟨by rfl, ?_⟩) (by assumption) ?_; rotate_left 1; focus (intro ww hSw; (try dsimp only at hSw); go_simp; try with_reducible rfl)); try simp only [Act.put, List.setIfInBounds_toArray, List.set_cons_zero, List.set_cons_succ]
  try simp only [List.getElem_toArray, List.getElem_cons_zero, List.getElem_cons_succ, Act.put, List.setIfInBounds_toArray, List.set_cons_zero, List.set_cons_succ]
  refine wpAnyLast_ready (rs := [34]) (by kernel_rfl) (by simp) (AllReadyL.cons rfl (by decide) (fun K hK => ?_) AllReadyL.nil)
  go_simp
  refine (Seek_none _ A x.f0.length c most).mono ?_
  rintro e w15 ⟨rfl, hb⟩; have HN15 := Aside0.mk (HN14.out.below hb); have HS15 := Aside0.mk HN15.out.cells; clear hb
  refine hK _ _ HS15.out (fun hS1 => ?_)
  clear hK K
  (refine wpAnyLast_take (i := 35) (v := ?_) rfl (by kernel_rfl) (by kernel_rfl) (by kernel_rfl) (by kernel_rfl) (by kernel_rfl) (fun _ _ _ h => h) (Or.inl ⟨by rfl, ?_⟩) (by assumption) ?_; rotate_left 1; focus (intro ww hSw; (try dsimp only at hSw); go_simp; try with_reducible rfl)); try simp only [Act.put, List.setIfInBounds_toArray, List.set_cons_zero, List.set_cons_succ]
  try simp only [List.getElem_toArray, List.getElem_cons_zero, List.getElem_cons_succ, Act.put, List.setIfInBounds_toArray, List.set_cons_zero, List.set_cons_succ]
  (refine wpAnyLast_take (i := 36) (v := ?_) rfl (by kernel_rfl) (by kernel_rfl) (by kernel_rfl) (by kernel_rfl) (by kernel_rfl) (fun _ _ _ h => h) (Or.inl ⟨by rfl, ?_⟩) (by assumption) ?_; rotate_left 1; focus (intro ww hSw; (try dsimp only at hSw); go_simp; try with_reducible rfl)); try simp only [Act.put, List.setIfInBounds_toArray, List.set_cons_zero, List.set_cons_succ]
  try simp only [List.getElem_toArray, List.getElem_cons_zero, List.getElem_cons_succ, Act.put, List.setIfInBounds_toArray, List.set_cons_zero, List.set_cons_succ]
  refine wpAnyLast_ready (rs := [38]) (by kernel_rfl) (by simp) (AllReadyL.cons rfl (by decide) (fun K hK => ?_) AllReadyL.nil)
  go_simp
  refine (Len_nil _).mono ?_
  rintro e w16 ⟨rfl, hb⟩; have HN16 := Aside0.mk (HN15.out.below hb); have HS16 := Aside0.mk HN16.out.cells; clear hb
  refine hK _ _ HS16.out (fun hS1 => ?_)
  clear hK K
  (refine wpAnyLast_take (i := 39) (v := ?_) rfl (by kernel_rfl) (by kernel_rfl) (by kernel_rfl) (by kernel_rfl) (by kernel_rfl) (fun _ _ _ h => h) (Or.inl ⟨by rfl, ?_⟩) (by assumption) ?_; rotate_left 1; focus (intro ww hSw; (try dsimp only at hSw); go_simp; try with_reducible rfl)); try simp only [Act.put, List.setIfInBounds_toArray, List.set_cons_zero, List.set_cons_succ]
  try simp only [List.getElem_toArray, List.getElem_cons_zero, List.getElem_cons_succ, Act.put, List.setIfInBounds_toArray, List.set_cons_zero, List.set_cons_succ]
  refine wpAnyLast_ready (rs := [41]) (by kernel_rfl) (by simp) (AllReadyL.cons rfl (by decide) (fun K hK => ?_) AllReadyL.nil)
  go_simp
  refine (Size_nil _).mono ?_
  rintro e w17 ⟨rfl, hb⟩; have HN17 := Aside0.mk (HN16.out.below hb); have HS17 := Aside0.mk HN17.out.cells; clear hb
  refine hK _ _ HS17.out (fun hS1 => ?_)
  clear hK K
  (refine wpAnyLast_take (i := 42) (v := ?_) rfl (by kernel_rfl) (by kernel_rfl) (by kernel_rfl) (by kernel_rfl) (by kernel_rfl) (fun _ _ _ h => h) (Or.inl ⟨by rfl, ?_⟩) (by assumption) ?_; rotate_left 1; focus (intro ww hSw; (try dsimp only at hSw); go_simp; try with_reducible rfl)); try simp only [Act.put, List.setIfInBounds_toArray, List.set_cons_zero, List.set_cons_succ]
  try simp only [List.getElem_toArray, List.getElem_cons_zero, List.getElem_cons_succ, Act.put, List.setIfInBounds_toArray, List.set_cons_zero, List.set_cons_succ]
  refine wpAnyLast_ready (rs := [43]) (by kernel_rfl) (by simp) (AllReadyL.cons rfl (by decide) (fun K hK => ?_) AllReadyL.nil)
  go_simp
  refine (All_S HN17.out.1 good0).mono ?_
  rintro e w18 ⟨v18, rfl, hs, hb⟩; obtain ⟨A18, c18, hv18⟩ := Kd.S_slice hs; subst hv18; have HN18 := Aside0.mk (HN17.out.below hb); have HS18 := Aside0.mk HN18.out.cells; clear hb hs
  refine hK _ _ HS18.out (fun hS1 => ?_)
  clear hK K
  (refine wpAnyLast_take (i := 44) (v := ?_) rfl (by kernel_rfl) (by kernel_rfl) (by kernel_rfl) (by kernel_rfl) (by kernel_rfl) (fun _ _ _ h => h) (Or.inl ⟨by rfl, ?_⟩) (by assumption) ?_; rotate_left 1; focus (intro ww hSw; (try dsimp only at hSw); go_simp; try with_reducible rfl)); try simp only [Act.put, List.setIfInBounds_toArray, List.set_cons_zero, List.set_cons_succ]
  try simp only [List.getElem_toArray, List.getElem_cons_zero, List.getElem_cons_succ, Act.put, List.setIfInBounds_toArray, List.set_cons_zero, List.set_cons_succ]
  (refine wpAnyLast_take (i := 45) (v := ?_) rfl (by kernel_rfl) (by kernel_rfl) (by kernel_rfl) (by kernel_rfl) (by kernel_rfl) (fun _ _ _ h => h) (Or.inl ⟨by rfl, ?_⟩) (by assumption) ?_; rotate_left 1; focus (intro ww hSw; (try dsimp only at hSw); go_simp; try with_reducible rfl)); try simp only [Act.put, List.setIfInBounds_toArray, List.set_cons_zero, List.set_cons_succ]
  try simp only [List.getElem_toArray, List.getElem_cons_zero, List.getElem_cons_succ, Act.put, List.setIfInBounds_toArray, List.set_cons_zero, List.set_cons_succ]
  (refine wpAnyLast_take (i := 46) (v := ?_) rfl (by kernel_rfl) (by kernel_rfl) (by kernel_rfl) (by kernel_rfl) (by kernel_rfl) (fun _ _ _ h => h) (Or.inl ⟨by rfl, ?_⟩) (by assumption) ?_; rotate_left 1; focus (intro ww hSw; (try dsimp only at hSw); go_simp; try with_reducible rfl)); try simp only [Act.put, List.setIfInBounds_toArray, List.set_cons_zero, List.set_cons_succ]
  try simp only [List.getElem_toArray, List.getElem_cons_zero, List.getElem_cons_succ, Act.put, List.setIfInBounds_toArray, List.set_cons_zero, List.set_cons_succ]
  (refine wpAnyLast_take (i := 47) (v := ?_) rfl (by kernel_rfl) (by kernel_rfl) (by kernel_rfl) (by kernel_rfl) (by kernel_rfl) (fun _ _ _ h => h) (Or.inl ⟨by rfl, ?_⟩) (by assumption) ?_; rotate_left 1; focus (intro ww hSw; (try dsimp only at hSw); go_simp; try with_reducible rfl)); try simp only [Act.put, List.setIfInBounds_toArray, List.set_cons_zero, List.set_cons_succ]
  try simp only [List.getElem_toArray, List.getElem_cons_zero, List.getElem_cons_succ, Act.put, List.setIfInBounds_toArray, List.set_cons_zero, List.set_cons_succ]
  (refine wpAnyLast_take (i := 48) (v := ?_) rfl (by kernel_rfl) (by kernel_rfl) (by kernel_rfl) (by kernel_rfl) (by kernel_rfl) (fun _ _ _ h => h) (Or.inl ⟨by rfl, ?_⟩) (by assumption) ?_; rotate_left 1; focus (intro ww hSw; (try dsimp only at hSw); go_simp; try with_reducible rfl)); try simp only [Act.put, List.setIfInBounds_toArray, List.set_cons_zero, List.set_cons_succ]
  try simp only [List.getElem_toArray, List.getElem_cons_zero, List.getElem_cons_succ, Act.put, List.setIfInBounds_toArray, List.set_cons_zero, List.set_cons_succ]
  (refine wpAnyLast_take (i := 49) (v := ?_) rfl (by kernel_rfl) (by kernel_rfl) (by kernel_rfl) (by kernel_rfl) (by kernel_rfl) (fun _ _ _ h => h) (Or.inl ⟨by rfl, ?_⟩) (by assumption) ?_; rotate_left 1; focus (intro ww hSw; (try dsimp only at hSw); go_simp; try with_reducible rfl)); try simp only [Act.put, List.setIfInBounds_toArray, List.set_cons_zero, List.set_cons_succ]
  try simp only [List.getElem_toArray, List.getElem_cons_zero, List.getElem_cons_succ, Act.put, List.setIfInBounds_toArray, List.set_cons_zero, List.set_cons_succ]
  (refine wpAnyLast_take (i := 50) (v := ?_) rfl (by kernel_rfl) (by kernel_rfl) (by kernel_rfl) (by kernel_rfl) (by kernel_rfl) (fun _ _ _ h => h) (Or.inl ⟨by rfl, ?_⟩) (by assumption) ?_; rotate_left 1; focus (intro ww hSw; (try dsimp only at hSw); go_simp; try with_reducible rfl)); try simp only [Act.put, List.setIfInBounds_toArray, List.set_cons_zero, List.set_cons_succ]
  try simp only [List.getElem_toArray, List.getElem_cons_zero, List.getElem_cons_succ, Act.put, List.setIfInBounds_toArray, List.set_cons_zero, List.set_cons_succ]
  (refine wpAnyLast_take (i := 52) (v := ?_) rfl (by kernel_rfl) (by kernel_rfl) (by kernel_rfl) (by kernel_rfl) (by kernel_rfl) (fun _ _ _ h => h) (Or.inl ⟨by rfl, ?_⟩) (by assumption) ?_; rotate_left 1; focus (intro ww hSw; (try dsimp only at hSw); go_simp; try with_reducible rfl)); try simp only [Act.put, List.setIfInBounds_toArray, List.set_cons_zero, List.set_cons_succ]
  try simp only [List.getElem_toArray, List.getElem_cons_zero, List.getElem_cons_succ, Act.put, List.setIfInBounds_toArray, List.set_cons_zero, List.set_cons_succ]
  (refine wpAnyLast_take (i := 53) (v := ?_) rfl (by kernel_rfl) (by kernel_rfl) (by kernel_rfl) (by kernel_rfl) (by kernel_rfl) (fun _ _ _ h => h) (Or.inl ⟨by rfl, ?_⟩) (by assumption) ?_; rotate_left 1; focus (intro ww hSw; (try dsimp only at hSw); go_simp; try with_reducible rfl)); try simp only [Act.put, List.setIfInBounds_toArray, List.set_cons_zero, List.set_cons_succ]
  try simp only [List.getElem_toArray, List.getElem_cons_zero, List.getElem_cons_succ, Act.put, List.setIfInBounds_toArray, List.set_cons_zero, List.set_cons_succ]
  (refine wpAnyLast_take (i := 54) (v := ?_) rfl (by kernel_rfl) (by kernel_rfl) (by kernel_rfl) (by kernel_rfl) (by kernel_rfl) (fun _ _ _ h => h) (Or.inl ⟨by rfl, ?_⟩) (by assumption) ?_; rotate_left 1; focus (intro ww hSw; (try dsimp only at hSw); go_simp; try with_reducible rfl)); try simp only [Act.put, List.setIfInBounds_toArray, List.set_cons_zero, List.set_cons_succ]
  try simp only [List.getElem_toArray, List.getElem_cons_zero, List.getElem_cons_succ, Act.put, List.setIfInBounds_toArray, List.set_cons_zero, List.set_cons_succ]
  refine wpAnyLast_ready (rs := [51]) (by kernel_rfl) (by simp) (AllReadyL.cons rfl (by decide) (fun K hK => ?_) AllReadyL.nil)
  go_simp
  refine (HN18.out.put HGG.out.1 HGG.out.2 HX.out HCC.out HOK.out height).mono ?_
  rintro e w19 ⟨rfl, hb⟩; have HN19 := Aside0.mk hb; have HS19 := Aside0.mk HN19.out.cells; clear hb
  refine hK _ _ HS19.out (fun hS1 => ?_)
  clear hK K
  refine wpAnyLast_ready (rs := [55]) (by kernel_rfl) (by simp) (AllReadyL.cons rfl (by decide) (fun K hK => ?_) AllReadyL.nil)
  go_simp
  refine (HN19.out.put (Nat.lt_trans HGG.out.1 HGG.out.2) HX.out HCC.out HOK.out height).mono ?_
  rintro e w20 ⟨rfl, hs, hb⟩; have HS20 := Aside0.mk hs; have HB20 := Aside0.mk hb; clear hb hs
  refine hK _ _ HS20.out (fun hS1 => ?_)
  clear hK K
  (refine wpAnyLast_take (i := 56) (v := ?_) rfl (by kernel_rfl) (by kernel_rfl) (by kernel_rfl) (by kernel_rfl) (by kernel_rfl) (fun _ _ _ h => h) (Or.inl ⟨by rfl, ?_⟩) (by assumption) ?_; rotate_left 1; focus (intro ww hSw; (try dsimp only at hSw); go_simp; try with_reducible rfl)); try simp only [Act.put, List.setIfInBounds_toArray, List.set_cons_zero, List.set_cons_succ]
  try simp only [List.getElem_toArray, List.getElem_cons_zero, List.getElem_cons_succ, Act.put, List.setIfInBounds_toArray, List.set_cons_zero, List.set_cons_succ]
  (refine wpAnyLast_take (i := 57) (v := ?_) rfl (by kernel_rfl) (by kernel_rfl) (by kernel_rfl) (by kernel_rfl) (by kernel_rfl) (fun _ _ _ h => h) (Or.inl ⟨by rfl, ?_⟩) (by assumption) ?_; rotate_left 1; focus (intro ww hSw; (try dsimp only at hSw); go_simp; try with_reducible rfl)); try simp only [Act.put, List.setIfInBounds_toArray, List.set_cons_zero, List.set_cons_succ]
  try simp only [List.getElem_toArray, List.getElem_cons_zero, List.getElem_cons_succ, Act.put, List.setIfInBounds_toArray, List.set_cons_zero, List.set_cons_succ]
  (refine wpAnyLast_take (i := 58) (v := ?_) rfl (by kernel_rfl) (by kernel_rfl) (by kernel_rfl) (by kernel_rfl) (by kernel_rfl) (fun _ _ _ h => h) (Or.inl ⟨by rfl, ?_⟩) (by assumption) ?_; rotate_left 1; focus (intro ww hSw; (try dsimp only at hSw); go_simp; try with_reducible rfl)); try simp only [Act.put, List.setIfInBounds_toArray, List.set_cons_zero, List.set_cons_succ]
  try simp only [List.getElem_toArray, List.getElem_cons_zero, List.getElem_cons_succ, Act.put, List.setIfInBounds_toArray, List.set_cons_zero, List.set_cons_succ]
  refine wpAnyLast_done (by kernel_rfl) ?_ _;
  have hwb : (IntKind.i64.wrap (IntKind.i64.wrap (IntKind.i64.wrap (IntKind.i64.wrap 0))) == (0 : Int)) = true := by kernel_rfl
  rw [hwb]
  go_wp2
  go_ret
  exact ⟨rfl, HB20.out⟩
theorem SkipNobody_row (A : Option Addr) (c : Nat) (x : En) (height most : Int) (w : World) (hx : Kd.C (Kd.int .u8) w A x.f0.length x.f0) (hc : x.f0.length ≤ c) (hok : OkEn x) (_ : (Lit.int .i64 height).wf = true) (_ : (Lit.int .i64 most).wf = true) :
    Calls Try.prog 8 #[enV A c x, .int .i64 height, .int .i64 most] w fun e w' => e = .returned (.bool true) ∧ Below w.heap.size w w' := SkipNobody_walk A c x height most w hx hc hok
end Go.Proofs.Yteomanpaladdjaa.P
