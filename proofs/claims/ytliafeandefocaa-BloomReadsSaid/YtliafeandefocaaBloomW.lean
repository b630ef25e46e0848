/- bloom's Write, Read, and what a filter that is none answers. No conditions. -/
import Derived.Test.YtliafeandefocaaBloomM
import Derived.Laws.CopyOwn
namespace Go.Proofs.Ytliafeandefocaa.P
open Go.RowKit Go.Proofs.YtliafeandefocaaW.PrintWords Go.Proofs.YtliafeandefocaaW.PrintLast Go.Proofs.YtliafeandefocaaW.PrintMore
set_option linter.unusedVariables false
set_option linter.unusedSimpArgs false

/-- A byte in a block of its own. -/
theorem R_one (W : World) (x : Int) (base : Nat) (ok : Nat → Prop) (hb : base ≤ W.heap.size) (hok : ok W.heap.size) :
    (Kd.int .u8).R 5 (W.alloc (.cells #[.int .u8 x] 5)) base ok (.slice (some ⟨W.heap.size, 0, none⟩) 1 1) [x] := by
  refine ⟨fun k hk => ?_, [.int .u8 x], ?_, ?_⟩
  · have : W.heap.size = k := by simpa [Value.ownBlock] using hk
    subst this
    exact hok
  · have h2 := World.ownsRow_lit (base := base) (e := 5) (size := 1) W #[.int .u8 x] 1 hb (by decide) (by rfl)
    exact h2
  · refine ⟨rfl, fun j p hj => ?_⟩
    have hi : j = 0 ∧ x = p := by
      cases j with
      | zero => simp at hj; exact ⟨rfl, hj⟩
      | succ i => simp at hj
    obtain ⟨rfl, rfl⟩ := hi
    rfl

set_option maxHeartbeats 2000000 in
set_option maxRecDepth 100000 in
theorem write_calls (g b : Nat) (h : Int) (l : List Int) (w : World) (hF : Flt w g b h l) (hh : 1 ≤ h) (hh2 : h ≤ 255) (hl2 : l.length ≤ 8192) :
    Calls Try.prog 18 #[ptr g] w fun e w' => ∃ v, e = .returned (.tuple #[v, .int .i64 0]) ∧ (Kd.int .u8).R 5 w' w.heap.size (fun _ => True) v (h :: l) ∧ Below w.heap.size w w' := by
  have HF := Aside0.mk hF
  have HH := Aside0.mk hh
  have HH2 := Aside0.mk hh2
  have HL2 := Aside0.mk hl2
  have f1 := hF.bits
  have f2 := hF.hashes
  have hw8 : IntKind.u8.wrap h = h := by rw [IntKind.wrap_u8]; omega
  clear hF hh hh2 hl2
  go_enter Try.func18, Try.ntmps18
  go_wp2_with (first
    | ((with_reducible refine gate_callee (f := 24) rfl ?_); refine goesL_ (some 5) rfl rfl Try.func24 (by kernel_rfl) rfl #[ptr g] rfl (by (try simp only [List.map_toArray, List.map_cons, List.map_nil]); first | done | rfl | (simp only [List.length_drop, List.length_take]; rfl)) ?_; refine (made_calls g b h l _ HF.out HH.out).mono ?_; rintro e w1 ⟨rfl, hd⟩; have HD := Aside0.mk hd; clear hd; refine ⟨_, rfl, ?_⟩))
  have h0 : Below w.heap.size w w1 := HD.out.below
  have hs1 : w1.heap.size = w.heap.size := by obtain ⟨m, rfl⟩ := HD.out; rfl
  have h1 : Below w.heap.size w w1.drew := h0.drew
  have HF1 := Aside0.mk (HF.out.below h0)
  have H1 := Aside0.mk h1
  have HS1 := Aside0.mk hs1
  have g1 : w1.drew.cell? ⟨g, 0, none⟩ = _ := HF1.out.bits
  have g2 : w1.drew.cell? ⟨g, 1, none⟩ = _ := HF1.out.hashes
  have g01 := HF1.out.bits
  have g02 := HF1.out.hashes
  have g3 : ∀ o, (w1.drew.alloc o).cell? ⟨g, 0, none⟩ = some (.slice (some ⟨b, 0, none⟩) l.length l.length) := fun o => (World.cell?_of_block (Below.heap_alloc _ o g HF1.out.gt)).trans g1
  have hlt : g < w1.heap.size := HF1.out.gt
  have hne : (g = w1.heap.size) = False := eq_false (by omega)
  have hne2 : (w1.heap.size = g) = False := eq_false (by omega)
  have hne3 : (g == w1.heap.size) = false := beq_eq_false_iff_ne.mpr (by omega)
  clear h0 h1 hs1 f1 f2
  refine wp_region_any (by kernel_rfl) ?_; change wpAny _ _ _ _ _ _ _ (World.drew _); (refine wpAny_take (i := 0) (v := ?_) rfl (by kernel_rfl) (by kernel_rfl) (by kernel_rfl) (fun _ _ _ h => h) (Or.inl ⟨by rfl, ?_⟩) ?_; rotate_left 1; focus (intro ww; go_simp; try with_reducible rfl)); (refine wpAny_take (i := 1) (v := ?_) rfl (by kernel_rfl) (by kernel_rfl) (by kernel_rfl) (fun _ _ _ h => h) (Or.inl ⟨by rfl, ?_⟩) ?_; rotate_left 1; focus (intro ww; go_simp; try with_reducible rfl)); (refine wpAny_take (i := 2) (v := ?_) rfl (by kernel_rfl) (by kernel_rfl) (by kernel_rfl) (fun _ _ _ h => h) (Or.inl ⟨by rfl, ?_⟩) ?_; rotate_left 1; focus (intro ww; go_simp; try with_reducible rfl)); (refine wpAny_take (i := 6) (v := ?_) rfl (by kernel_rfl) (by kernel_rfl) (by kernel_rfl) (fun _ _ _ h => h) (Or.inl ⟨by rfl, ?_⟩) ?_; rotate_left 1; focus (intro ww; go_simp; try with_reducible rfl)); (refine wpAny_take (i := 7) (v := ?_) rfl (by kernel_rfl) (by kernel_rfl) (by kernel_rfl) (fun _ _ _ h => h) (Or.inl ⟨by rfl, ?_⟩) ?_; rotate_left 1; focus (intro ww; go_simp; try with_reducible rfl)); (refine wpAny_take (i := 8) (v := ?_) rfl (by kernel_rfl) (by kernel_rfl) (by kernel_rfl) (fun _ _ _ h => h) (Or.inl ⟨by rfl, ?_⟩) ?_; rotate_left 1; focus (intro ww; go_simp; try with_reducible rfl)); refine wpAny_ready (rs := [3, 9]) (by kernel_rfl) (by simp) ?_
  refine AllReady.cons rfl (fun K hK => ?_) ?_;
  · (go_simp; refine hK _ _ ?_; clear hK K); (refine wpAny_take (i := 4) (v := ?_) rfl (by kernel_rfl) (by kernel_rfl) (by kernel_rfl) (fun _ _ _ h => h) (Or.inl ⟨by rfl, ?_⟩) ?_; rotate_left 1; focus (intro ww; go_simp; try with_reducible rfl)); refine wpAny_ready (rs := [5, 9]) (by kernel_rfl) (by simp) ?_
    refine AllReady.cons rfl (fun K hK => ?_) ?_;
    · (go_simp; refine hK _ _ ?_; clear hK K); refine wpAny_ready (rs := [9]) (by kernel_rfl) (by simp) ?_
      refine AllReady.cons rfl (fun K hK => ?_) ?_;
      · (go_simp; refine hK _ _ ?_; clear hK K); refine wpAny_ready (rs := [10]) (by kernel_rfl) (by simp) ?_; refine AllReady.cons rfl (fun K hK => ?_) ?_; rotate_left 1; exact AllReady.nil; refine Kd.R_append_rows_step (Kd.int .u8) (w0 := w) w.heap.size (by rfl) (.tmp 12) (.tmp 16) 23 5 (.int .u8 0) 1 rfl Try.underlying23 info5 rfl (by decide) (by omega) (.slice (some ⟨w1.heap.size, 0, none⟩) 1 1) [h] l _ _ _ (fun _ => True) (fun _ => False) rfl rfl ?aO ?aR (fun _ _ h => h) (fun _ h => h.elim) ?aF ?aB ?aS ?aL ?_; (case aO => exact R_one _ _ _ _ (by have := HS1.out; show _ ≤ w1.heap.size; omega) trivial); (case aR => exact (HF1.out.below (((Below.refl _ w1).drew).alloc (Nat.le_refl _) _)).reads (by have := HL2.out; omega)); (case aF => exact fun _ _ => trivial); (case aB => exact H1.out.alloc (by have := HS1.out; show _ ≤ w1.heap.size; omega) _); (case aS => have := HS1.out; show _ ≤ (w1.alloc _).heap.size; rw [World.size_alloc]; omega); (case aL => have := HL2.out; simp; omega); intro v1 w2 ho hb hg hat; have HO := Aside0.mk ho; have HB := Aside0.mk hb; clear ho hb hg hat; refine hK _ _ ?_; clear hK K; (refine wpAny_take (i := 11) (v := ?_) rfl (by kernel_rfl) (by kernel_rfl) (by kernel_rfl) (fun _ _ _ h => h) (Or.inl ⟨by rfl, ?_⟩) ?_; rotate_left 1; focus (intro ww; go_simp; try with_reducible rfl)); (refine wpAny_take (i := 12) (v := ?_) rfl (by kernel_rfl) (by kernel_rfl) (by kernel_rfl) (fun _ _ _ h => h) (Or.inl ⟨by rfl, ?_⟩) ?_; rotate_left 1; focus (intro ww; go_simp; try with_reducible rfl)); refine wpAny_done (by kernel_rfl) ?_ _; go_wp2; refine bodyPost_ret (results_tmp2 rfl _ _ _) rfl ?_; exact ⟨_, rfl, HO.out, HB.out⟩
      · exact AllReady.nil
    · refine AllReady.cons rfl (fun K hK => ?_) ?_;
      · (go_simp; refine hK _ _ ?_; clear hK K); refine wpAny_ready (rs := [5]) (by kernel_rfl) (by simp) ?_
        refine AllReady.cons rfl (fun K hK => ?_) ?_;
        · (go_simp; refine hK _ _ ?_; clear hK K); refine wpAny_ready (rs := [10]) (by kernel_rfl) (by simp) ?_; refine AllReady.cons rfl (fun K hK => ?_) ?_; rotate_left 1; exact AllReady.nil; refine Kd.R_append_rows_step (Kd.int .u8) (w0 := w) w.heap.size (by rfl) (.tmp 12) (.tmp 16) 23 5 (.int .u8 0) 1 rfl Try.underlying23 info5 rfl (by decide) (by omega) (.slice (some ⟨w1.heap.size, 0, none⟩) 1 1) [h] l _ _ _ (fun _ => True) (fun _ => False) rfl rfl ?aO ?aR (fun _ _ h => h) (fun _ h => h.elim) ?aF ?aB ?aS ?aL ?_; (case aO => exact R_one _ _ _ _ (by have := HS1.out; show _ ≤ w1.heap.size; omega) trivial); (case aR => exact (HF1.out.below (((Below.refl _ w1).drew).alloc (Nat.le_refl _) _)).reads (by have := HL2.out; omega)); (case aF => exact fun _ _ => trivial); (case aB => exact H1.out.alloc (by have := HS1.out; show _ ≤ w1.heap.size; omega) _); (case aS => have := HS1.out; show _ ≤ (w1.alloc _).heap.size; rw [World.size_alloc]; omega); (case aL => have := HL2.out; simp; omega); intro v1 w2 ho hb hg hat; have HO := Aside0.mk ho; have HB := Aside0.mk hb; clear ho hb hg hat; refine hK _ _ ?_; clear hK K; (refine wpAny_take (i := 11) (v := ?_) rfl (by kernel_rfl) (by kernel_rfl) (by kernel_rfl) (fun _ _ _ h => h) (Or.inl ⟨by rfl, ?_⟩) ?_; rotate_left 1; focus (intro ww; go_simp; try with_reducible rfl)); (refine wpAny_take (i := 12) (v := ?_) rfl (by kernel_rfl) (by kernel_rfl) (by kernel_rfl) (fun _ _ _ h => h) (Or.inl ⟨by rfl, ?_⟩) ?_; rotate_left 1; focus (intro ww; go_simp; try with_reducible rfl)); refine wpAny_done (by kernel_rfl) ?_ _; go_wp2; refine bodyPost_ret (results_tmp2 rfl _ _ _) rfl ?_; exact ⟨_, rfl, HO.out, HB.out⟩
        · exact AllReady.nil
      · exact AllReady.nil
  · refine AllReady.cons rfl (fun K hK => ?_) ?_;
    · (go_simp; refine hK _ _ ?_; clear hK K); refine wpAny_ready (rs := [3]) (by kernel_rfl) (by simp) ?_
      refine AllReady.cons rfl (fun K hK => ?_) ?_;
      · (go_simp; refine hK _ _ ?_; clear hK K); (refine wpAny_take (i := 4) (v := ?_) rfl (by kernel_rfl) (by kernel_rfl) (by kernel_rfl) (fun _ _ _ h => h) (Or.inl ⟨by rfl, ?_⟩) ?_; rotate_left 1; focus (intro ww; go_simp; try with_reducible rfl)); refine wpAny_ready (rs := [5]) (by kernel_rfl) (by simp) ?_
        refine AllReady.cons rfl (fun K hK => ?_) ?_;
        · (go_simp; refine hK _ _ ?_; clear hK K); refine wpAny_ready (rs := [10]) (by kernel_rfl) (by simp) ?_; refine AllReady.cons rfl (fun K hK => ?_) ?_; rotate_left 1; exact AllReady.nil; refine Kd.R_append_rows_step (Kd.int .u8) (w0 := w) w.heap.size (by rfl) (.tmp 12) (.tmp 16) 23 5 (.int .u8 0) 1 rfl Try.underlying23 info5 rfl (by decide) (by omega) (.slice (some ⟨w1.heap.size, 0, none⟩) 1 1) [h] l _ _ _ (fun _ => True) (fun _ => False) rfl rfl ?aO ?aR (fun _ _ h => h) (fun _ h => h.elim) ?aF ?aB ?aS ?aL ?_; (case aO => exact R_one _ _ _ _ (by have := HS1.out; show _ ≤ w1.heap.size; omega) trivial); (case aR => exact (HF1.out.below (((Below.refl _ w1).drew).alloc (Nat.le_refl _) _)).reads (by have := HL2.out; omega)); (case aF => exact fun _ _ => trivial); (case aB => exact H1.out.alloc (by have := HS1.out; show _ ≤ w1.heap.size; omega) _); (case aS => have := HS1.out; show _ ≤ (w1.alloc _).heap.size; rw [World.size_alloc]; omega); (case aL => have := HL2.out; simp; omega); intro v1 w2 ho hb hg hat; have HO := Aside0.mk ho; have HB := Aside0.mk hb; clear ho hb hg hat; refine hK _ _ ?_; clear hK K; (refine wpAny_take (i := 11) (v := ?_) rfl (by kernel_rfl) (by kernel_rfl) (by kernel_rfl) (fun _ _ _ h => h) (Or.inl ⟨by rfl, ?_⟩) ?_; rotate_left 1; focus (intro ww; go_simp; try with_reducible rfl)); (refine wpAny_take (i := 12) (v := ?_) rfl (by kernel_rfl) (by kernel_rfl) (by kernel_rfl) (fun _ _ _ h => h) (Or.inl ⟨by rfl, ?_⟩) ?_; rotate_left 1; focus (intro ww; go_simp; try with_reducible rfl)); refine wpAny_done (by kernel_rfl) ?_ _; go_wp2; refine bodyPost_ret (results_tmp2 rfl _ _ _) rfl ?_; exact ⟨_, rfl, HO.out, HB.out⟩
        · exact AllReady.nil
      · exact AllReady.nil
    · exact AllReady.nil

theorem write_nil (w : World) :
    Calls Try.prog 18 #[.pointer none] w fun e w' => e = .returned (.tuple #[.slice none 0 0, .int .i64 6]) ∧ Drawn0 w w' := by
  go_enter Try.func18, Try.ntmps18
  go_wp2_with (first
    | ((with_reducible refine gate_callee (f := 24) rfl ?_); refine goesL_ (some 5) rfl rfl Try.func24 (by kernel_rfl) rfl #[.pointer none] rfl (by (try simp only [List.map_toArray, List.map_cons, List.map_nil]); first | done | rfl | (simp only [List.length_drop, List.length_take]; rfl)) ?_; refine (made_nil _).mono ?_; rintro e w1 ⟨rfl, hd⟩; have HD := Aside0.mk hd; clear hd; refine ⟨_, rfl, ?_⟩))
  refine bodyPost_ret (results_tmp2 rfl _ _ _) rfl ?_
  exact ⟨rfl, HD.out⟩

theorem block_of_cell {w : World} {a : Addr} {v : Value} (h : w.cell? a = some v) : a.block < w.heap.size := by
  by_cases hlt : a.block < w.heap.size
  · exact hlt
  · have : w.heap[a.block]? = none := Array.getElem?_eq_none (by omega)
    simp [World.cell?, this] at h
/-- What Read takes. -/
def okRead (l : List Int) : Prop := 2 ≤ l.length ∧ l.length ≤ 8193 ∧ 1 ≤ l.getD 0 0 ∧ l.getD 0 0 ≤ 8

theorem read_ok (A0 : Option Addr) (c0 : Nat) (l : List Int) (w : World) (hr : Kd.C (Kd.int .u8) w A0 l.length l) (hc0 : l.length ≤ c0) (hB : IsB l) (hok : okRead l) :
    Calls Try.prog 20 #[.slice A0 l.length c0] w fun e w' => ∃ g b, e = .returned (.tuple #[ptr g, .int .i64 0]) ∧ Flt w' g b (l.getD 0 0) (l.drop 1) ∧ Below w.heap.size w w' ∧ w.heap.size ≤ g ∧ w.heap.size ≤ b := by
  have HR := Aside0.mk hr
  have HC := Aside0.mk hc0
  have HBY := Aside0.mk hB
  have HOK := Aside0.mk hok
  obtain ⟨k1, k2, k3, k4⟩ := hok
  have d1 : decide ((l.length : Int) < 2) = false := decide_eq_false (by omega)
  have d2 : decide (8193 < (l.length : Int)) = false := decide_eq_false (by omega)
  have d3 : decide (l.getD 0 0 < 1) = false := decide_eq_false (by omega)
  have d4 : decide (8 < l.getD 0 0) = false := decide_eq_false (by omega)
  have d1b : decide (l.length < 2) = false := decide_eq_false (by omega)
  have d2b : decide (8193 < l.length) = false := decide_eq_false (by omega)
  have i1 : (0 < l.length) = True := eq_true (by omega)
  have i2 : ((0 : Int) < (l.length : Int)) = True := eq_true (by omega)
  have w1 : IntKind.i64.wrap ((l.length : Int) - 1) = ((l.length - 1 : Nat) : Int) := by rw [IntKind.wrap_i64]; omega
  obtain ⟨ad, hA, hcell⟩ := (Kd.reads_of_C hr).2.2 (by omega)
  subst hA
  have hz := hcell 0 (by omega)
  have ead : ad.add 0 = ad := by simp [Addr.add]
  rw [ead] at hz
  have hz' : w.cell? ad = some (.int .u8 (l.getD 0 0)) := hz
  obtain ⟨x, hx⟩ : ∃ x, l.getD 0 0 = x := ⟨_, rfl⟩
  rw [hx] at hz' d3 d4
  have w9 : wrap64 x = x := by unfold wrap64; omega
  have HX := Aside0.mk hx
  have HCL := Aside0.mk hcell
  clear hr hc0 hB hcell hz hx k1 k2 k3 k4
  go_enter Try.func20, Try.ntmps20
  have hblk : ad.block < w.heap.size := block_of_cell hz'
  have HSRC := Aside0.mk (show ∀ (j : Nat) v, ((l.drop 1).map (Value.int .u8))[j]? = some v → (w.alloc (.cells (List.replicate (l.length - 1) (Value.int .u8 0)).toArray 5)).cell? ((ad.add 1).add j) = some v from fun j v hj => by
    rw [List.getElem?_map, Option.map_eq_some_iff] at hj
    obtain ⟨z, hz, rfl⟩ := hj
    rw [List.getElem?_drop] at hz
    obtain ⟨hl1, hl2⟩ := List.getElem?_eq_some_iff.1 hz
    have h_ := HCL.out (1 + j) hl1
    rw [List.getD_eq_getElem?_getD, hz] at h_
    rw [show (ad.add 1).add j = ad.add (1 + j) by simp [Addr.add]; split <;> simp [Nat.add_assoc]]
    exact (World.cell?_of_block (Below.heap_alloc _ _ _ (by unfold Addr.add; split <;> exact hblk))).trans h_)
  have HCB := Aside0.mk (show ∀ w2, Below w.heap.size w w2 → w2.cell? ad = some (.int .u8 x) from fun w2 hb => (World.cell?_of_block (hb.block _ hblk)).trans hz')
  clear hblk
  have s1 : ((1 : Int) ≤ (l.length : Int)) = True := eq_true (by have := HOK.out.1; omega)
  have s2 : (l.length ≤ c0) = True := eq_true HC.out
  have s4 : (c0 = 1) = False := eq_false (by have := HC.out; have := HOK.out.1; omega)
  have s5 : (1 = c0) = False := eq_false (by have := HC.out; have := HOK.out.1; omega)
  have s6 : (c0 - 1 = 0) = False := eq_false (by have := HC.out; have := HOK.out.1; omega)
  have s7 : (1 ≤ c0) = True := eq_true (by have := HC.out; have := HOK.out.1; omega)
  have s8 : (1 ≤ l.length) = True := eq_true (by have := HOK.out.1; omega)
  have s9 : (c0 ≤ 1) = False := eq_false (by have := HC.out; have := HOK.out.1; omega)
  have s3 : ((l.length : Int) ≤ (c0 : Int)) = True := eq_true (by have := HC.out; omega)
  go_wp2_with (first
    | ((with_reducible refine gate_dst (N := 28) rfl ?_); refine wpList_make rfl rfl 23 5 _ _ rfl (l.length - 1) rfl rfl Try.underlying23 (.int .u8 0) 1 info5 rfl (by decide) (by have := HOK.out.2.1; omega) ?_)
    | ((with_reducible refine gate_builtin (b := .copy) (xs := #[.tmp 29, .tmp 31]) rfl ?_); refine wpList_copy_splice rfl (.tmp 29) (.tmp 31) 23 23 rfl 5 Try.underlying23 (by kernel_rfl) _ _ _ _ _ _ rfl rfl w.heap.size 0 (List.replicate (l.length - 1) (Value.int .u8 0)) 5 ?hg ((l.drop 1).map (Value.int .u8)) ?hn ?hpos ?hfit ?h1 w.heap.size w ?hb (Nat.le_refl _) ?_; (case hg => have h_ := World.alloc_heap_new w (.cells (List.replicate (l.length - 1) (Value.int .u8 0)).toArray 5); simpa using h_); (case hn => have := HOK.out.1; simp); (case hfit => simp); (case h1 => intro v hv; obtain ⟨z, _, rfl⟩ := List.mem_map.1 hv; rfl); (case hb => exact (Below.refl _ w).alloc (Nat.le_refl _) _); (case hpos => intro h0; refine ⟨rfl, _, rfl, fun j v hj => ?_⟩; exact HSRC.out j v hj); intro w2 hg2 hb2; have HG2 := Aside0.mk hg2; have HB2 := Aside0.mk hb2; have hz2 := HCB.out w2 hb2; clear hg2 hb2))
  refine bodyPost_ret (results_tmp2 rfl _ _ _) rfl ?_
  have hlen : (l.drop 1).length = l.length - 1 := List.length_drop
  have hg3 : w2.heap[w.heap.size]? = some (.cells ((l.drop 1).map (Value.int .u8)).toArray 5 (0, 0)) := by
    have h_ := HG2.out.out
    rwa [show splice (List.replicate (l.length - 1) (Value.int .u8 0)) 0 ((l.drop 1).map (Value.int .u8)) = (l.drop 1).map (Value.int .u8) by simp [splice]] at h_
  have hlt := (Array.getElem?_eq_some_iff.1 hg3).1
  refine ⟨_, _, rfl, ⟨?_, ?_⟩, HB2.out.alloc HB2.out.size _, HB2.out.size, Nat.le_refl _⟩
  · rw [HX.out, hlen]
    exact World.alloc_heap_new w2 _
  · exact (Below.heap_alloc _ _ _ hlt).trans hg3

theorem read_bad (A0 : Option Addr) (c0 : Nat) (l : List Int) (w : World) (hr : Kd.C (Kd.int .u8) w A0 l.length l) (hc0 : l.length ≤ c0) (hok : ¬ okRead l) :
    Calls Try.prog 20 #[.slice A0 l.length c0] w fun e w' => e = .returned (.tuple #[.pointer none, .int .i64 3]) ∧ Drawn0 w w' := by
  unfold okRead at hok
  by_cases c1 : l.length < 2
  · have d1 : decide ((l.length : Int) < 2) = true := decide_eq_true (by omega)
    have d1b : decide (l.length < 2) = true := decide_eq_true c1
    clear c1 hr hc0 hok
    go_enter Try.func20, Try.ntmps20
    go_wp2
    refine bodyPost_ret (results_tmp2 rfl _ _ _) rfl ?_
    exact ⟨rfl, Drawn0.refl _⟩
  have d1 : decide ((l.length : Int) < 2) = false := decide_eq_false (by omega)
  have d1b : decide (l.length < 2) = false := decide_eq_false c1
  by_cases c2 : 8193 < l.length
  · have d2 : decide (8193 < (l.length : Int)) = true := decide_eq_true (by omega)
    have d2b : decide (8193 < l.length) = true := decide_eq_true c2
    clear c1 c2 hr hc0 hok
    go_enter Try.func20, Try.ntmps20
    go_wp2
    refine bodyPost_ret (results_tmp2 rfl _ _ _) rfl ?_
    exact ⟨rfl, Drawn0.refl _⟩
  have d2 : decide (8193 < (l.length : Int)) = false := decide_eq_false (by omega)
  have d2b : decide (8193 < l.length) = false := decide_eq_false c2
  have i1 : (0 < l.length) = True := eq_true (by omega)
  have i2 : ((0 : Int) < (l.length : Int)) = True := eq_true (by omega)
  obtain ⟨ad, hA, hcell⟩ := (Kd.reads_of_C hr).2.2 (by omega)
  subst hA
  have hz := hcell 0 (by omega)
  have ead : ad.add 0 = ad := by simp [Addr.add]
  rw [ead] at hz
  have hz' : w.cell? ad = some (.int .u8 (l.getD 0 0)) := hz
  obtain ⟨x, hx⟩ : ∃ x, l.getD 0 0 = x := ⟨_, rfl⟩
  rw [hx] at hz' hok
  by_cases c3 : x < 1
  · have d3 := decide_eq_true c3
    clear c1 c2 c3 hr hc0 hok hcell hz hx ead
    go_enter Try.func20, Try.ntmps20
    go_wp2
    refine bodyPost_ret (results_tmp2 rfl _ _ _) rfl ?_
    exact ⟨rfl, Drawn0.refl _⟩
  have d3 := decide_eq_false c3
  have c4 : 8 < x := by omega
  have d4 := decide_eq_true c4
  clear c1 c2 c3 c4 hr hc0 hok hcell hz hx ead
  go_enter Try.func20, Try.ntmps20
  go_wp2
  refine bodyPost_ret (results_tmp2 rfl _ _ _) rfl ?_
  exact ⟨rfl, Drawn0.refl _⟩

theorem add_nil (v : Value) (w : World) :
    Calls Try.prog 13 #[.pointer none, v] w fun e w' => e = .returned (.int .i64 6) ∧ Below w.heap.size w w' := by
  go_enter Try.func13, Try.ntmps13
  go_wp2_with (first
    | ((with_reducible refine gate_callee (f := 24) rfl ?_); refine goesL_ (some 7) rfl rfl Try.func24 (by kernel_rfl) rfl #[.pointer none] rfl (by (try simp only [List.map_toArray, List.map_cons, List.map_nil]); first | done | rfl | (simp only [List.length_drop, List.length_take]; rfl)) ?_; refine (made_nil _).mono ?_; rintro e w1 ⟨rfl, ⟨m1, rfl⟩⟩; refine ⟨_, rfl, ?_⟩))
  go_ret
  exact ⟨rfl, below_drewN ((Below.refl _ w).alloc (Nat.le_refl _) _) _⟩

theorem may_nil (v : Value) (w : World) :
    Calls Try.prog 14 #[.pointer none, v] w fun e w' => e = .returned (.bool true) ∧ Below w.heap.size w w' := by
  go_enter Try.func14, Try.ntmps14
  go_wp2_with (first
    | ((with_reducible refine gate_callee (f := 24) rfl ?_); refine goesL_ (some 7) rfl rfl Try.func24 (by kernel_rfl) rfl #[.pointer none] rfl (by (try simp only [List.map_toArray, List.map_cons, List.map_nil]); first | done | rfl | (simp only [List.length_drop, List.length_take]; rfl)) ?_; refine (made_nil _).mono ?_; rintro e w1 ⟨rfl, ⟨m1, rfl⟩⟩; refine ⟨_, rfl, ?_⟩))
  have h1 := Boxed.new (w.alloc (.cells #[.pointer none] 24)) 4 (.bool false)
  rw [World.size_alloc] at h1
  have h2 := (boxed_drewN h1 m1).set (.bool true)
  refine bodyPost_ret (results_cell1 rfl _ _ _ _ rfl h2.cell Try.underlying4) rfl ?_
  exact ⟨rfl, (below_drewN (((Below.refl _ w).alloc (Nat.le_refl _) _).alloc (by simp) _) m1).setCell (by simp) _⟩

/-- A filter that no call made: its zero. -/
def Zero (W : World) (g : Nat) : Prop := W.heap[g]? = some (.cells #[.slice none 0 0, .int .i64 0] 42 (0, 0))
theorem made_zero (g : Nat) (w : World) (hz : Zero w g) :
    Calls Try.prog 24 #[ptr g] w fun e w' => e = .returned (.bool false) ∧ Drawn0 w w' := by
  have hc1 : w.cell? ⟨g, 1, none⟩ = some (.int .i64 0) := by simp [World.cell?, show w.heap[g]? = _ from hz]
  clear hz
  go_enter Try.func24, Try.ntmps24
  go_wp2
  go_ret
  exact ⟨rfl, Drawn0.refl _⟩
theorem Zero.below {A C : World} {g : Nat} (h : Zero A g) (hb : Below A.heap.size A C) : Zero C g := (hb.block _ (Array.getElem?_eq_some_iff.1 h).1).trans h
theorem add_zero (g : Nat) (v : Value) (w : World) (hz : Zero w g) :
    Calls Try.prog 13 #[ptr g, v] w fun e w' => e = .returned (.int .i64 6) ∧ Below w.heap.size w w' := by
  have HZ := Aside0.mk hz
  clear hz
  go_enter Try.func13, Try.ntmps13
  go_wp2_with (first
    | ((with_reducible refine gate_callee (f := 24) rfl ?_); refine goesL_ (some 7) rfl rfl Try.func24 (by kernel_rfl) rfl #[ptr g] rfl (by (try simp only [List.map_toArray, List.map_cons, List.map_nil]); first | done | rfl | (simp only [List.length_drop, List.length_take]; rfl)) ?_; refine (made_zero g _ (HZ.out.below ((Below.refl _ w).alloc (Nat.le_refl _) _))).mono ?_; rintro e w1 ⟨rfl, ⟨m1, rfl⟩⟩; refine ⟨_, rfl, ?_⟩))
  go_ret
  exact ⟨rfl, below_drewN ((Below.refl _ w).alloc (Nat.le_refl _) _) _⟩
theorem may_zero_calls (g : Nat) (v : Value) (w : World) (hz : Zero w g) :
    Calls Try.prog 14 #[ptr g, v] w fun e w' => e = .returned (.bool true) ∧ Below w.heap.size w w' := by
  have HZ := Aside0.mk hz
  clear hz
  go_enter Try.func14, Try.ntmps14
  go_wp2_with (first
    | ((with_reducible refine gate_callee (f := 24) rfl ?_); refine goesL_ (some 7) rfl rfl Try.func24 (by kernel_rfl) rfl #[ptr g] rfl (by (try simp only [List.map_toArray, List.map_cons, List.map_nil]); first | done | rfl | (simp only [List.length_drop, List.length_take]; rfl)) ?_; refine (made_zero g _ (HZ.out.below (((Below.refl _ w).alloc (Nat.le_refl _) _).alloc (by simp) _))).mono ?_; rintro e w1 ⟨rfl, ⟨m1, rfl⟩⟩; refine ⟨_, rfl, ?_⟩))
  have h1 := Boxed.new (w.alloc (.cells #[ptr g] 24)) 4 (.bool false)
  rw [World.size_alloc] at h1
  have h2 := (boxed_drewN h1 m1).set (.bool true)
  refine bodyPost_ret (results_cell1 rfl _ _ _ _ rfl h2.cell Try.underlying4) rfl ?_
  exact ⟨rfl, (below_drewN (((Below.refl _ w).alloc (Nat.le_refl _) _).alloc (by simp) _) m1).setCell (by simp) _⟩
theorem write_zero (g : Nat) (w : World) (hz : Zero w g) :
    Calls Try.prog 18 #[ptr g] w fun e w' => e = .returned (.tuple #[.slice none 0 0, .int .i64 6]) ∧ Drawn0 w w' := by
  have HZ := Aside0.mk hz
  clear hz
  go_enter Try.func18, Try.ntmps18
  go_wp2_with (first
    | ((with_reducible refine gate_callee (f := 24) rfl ?_); refine goesL_ (some 5) rfl rfl Try.func24 (by kernel_rfl) rfl #[ptr g] rfl (by (try simp only [List.map_toArray, List.map_cons, List.map_nil]); first | done | rfl | (simp only [List.length_drop, List.length_take]; rfl)) ?_; refine (made_zero g _ HZ.out).mono ?_; rintro e w1 ⟨rfl, hd⟩; have HD := Aside0.mk hd; clear hd; refine ⟨_, rfl, ?_⟩))
  refine bodyPost_ret (results_tmp2 rfl _ _ _) rfl ?_
  exact ⟨rfl, HD.out⟩

end Go.Proofs.Ytliafeandefocaa.P
