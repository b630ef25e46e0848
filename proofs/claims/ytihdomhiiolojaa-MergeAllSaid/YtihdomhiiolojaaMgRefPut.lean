/- The document's Put. No conditions. -/
import Derived.Test.YtihdomhiiolojaaMgPut
import Derived.Test.YtihdomhiiolojaaStrGe
namespace Go.Proofs.Ytihdomhiiolojaa.P
open Go.RowKit Go.Proofs.YtihdomhiiolojaaW.PrintWords Go.Proofs.YtihdomhiiolojaaW.PrintLast Go.Proofs.YtihdomhiiolojaaW.PrintMore
set_option linter.unusedVariables false
set_option linter.unusedSimpArgs false
open Go.Proofs.Ytihdomhiiolojaa.Pure
theorem cmp_gt {a b : List Int} (h1 : ¬ cmpI a b < 0) (h2 : cmpI a b ≠ 0) : 0 < cmpI a b := by omega
abbrev boxE (B : Option Addr) (d : Nat) (x : En) : Obj := .cells #[.slice B x.f0.length d, .int .u64 x.f1.f0, .bool x.f1.f1, .int .i64 x.f1.f2.f0, .int .u64 x.f1.f2.f1, .int .i64 x.f1.f3, .int .i64 x.f1.f4] 41
theorem boxE_cells {W : World} {g : Nat} {B : Option Addr} {d : Nat} {x : En} (h : W.heap[g]? = some (boxE B d x)) : W.cell? ⟨g, 0, none⟩ = some (.slice B x.f0.length d) ∧ W.cell? ⟨g, 1, none⟩ = some (.int .u64 x.f1.f0) ∧ W.cell? ⟨g, 2, none⟩ = some (.bool x.f1.f1) ∧ W.cell? ⟨g, 3, none⟩ = some (.int .i64 x.f1.f2.f0) ∧ W.cell? ⟨g, 4, none⟩ = some (.int .u64 x.f1.f2.f1) ∧ W.cell? ⟨g, 5, none⟩ = some (.int .i64 x.f1.f3) ∧ W.cell? ⟨g, 6, none⟩ = some (.int .i64 x.f1.f4) :=
  ⟨(blk_cell h 0).trans rfl, (blk_cell h 1).trans rfl, (blk_cell h 2).trans rfl, (blk_cell h 3).trans rfl, (blk_cell h 4).trans rfl, (blk_cell h 5).trans rfl, (blk_cell h 6).trans rfl⟩
set_option maxHeartbeats 4000000 in
set_option maxRecDepth 100000 in
theorem Put_calls (W : World) (ok : Nat → Prop) (A : Option Addr) (c : Nat) (l : List En) (B : Option Addr) (d : Nat) (x : En) (hl : Kd.F k41 W ok A l.length l) (hc : l.length ≤ c) (hx : Kd.F (Kd.int .u8) W ok B x.f0.length x.f0) (hd : x.f0.length ≤ d)
    (hg : ∀ y ∈ l, GoodA y.f1) (hgx : GoodA x.f1) (hn : l.length ≤ 5000) (hok : ∀ k, W.heap.size ≤ k → ok k) :
    Calls Try.prog 25 #[.slice A l.length c, enV B d x] W fun e w' => ∃ v, e = .returned v ∧ Kd.N k41 41 w' W.heap.size ok v (putL l x) ∧ Below W.heap.size W w' := by
  have hu3 := Try.underlying41
  have hu4 := Try.underlying39
  have HFL := Aside0.mk (Kd.F_bound hl)
  have HFX := Aside0.mk (Kd.F_bound hx)
  have HC := Aside0.mk hc
  have HD := Aside0.mk hd
  have HGL := Aside0.mk hg
  have HGX := Aside0.mk hgx
  have HN := Aside0.mk hn
  have HOK := Aside0.mk hok
  obtain ⟨i0, hi0⟩ : ∃ i, Try.prog.info? 41 = some i := ⟨_, rfl⟩
  have hi0s : i0.size = 7 := by
    have : (Try.prog.info? 41).map (·.size) = some 7 := by kernel_rfl
    rw [hi0] at this; exact Option.some.inj this
  clear hl hc hx hd hg hgx hn hok
  go_enter Try.func25, Try.ntmps25
  go_upto_region 1 with (fail)
  obtain ⟨V, hV⟩ : ∃ V, W.alloc (boxE B d x) = V := ⟨_, rfl⟩
  have HVB := Aside0.mk (show Below W.heap.size W V by rw [← hV]; exact below_alloc (Below.refl _ _) _)
  have HVX := Aside0.mk (show V.heap[W.heap.size]? = some (boxE B d x) by rw [← hV]; exact blk_new W _)
  change Code.wp _ _ _ _ (W.alloc (boxE B d x))
  rw [hV]
  clear hV
  go_wp2
  go_loopg [5] (l.length) (fun kq v5 w' => ∃ (i : Nat), v5 = .int .i64 (i : Int) ∧ Aside0 (i ≤ l.length ∧ kq = l.length - i) ∧ Aside0 (putL l x = l.take i ++ putL (l.drop i) x) ∧ Aside0 (Below W.heap.size W w') ∧ Aside0 (w'.heap[W.heap.size]? = some (boxE B d x)))
  case atStart => exact ⟨0, rfl, ⟨Nat.zero_le _, rfl⟩, ⟨rfl⟩, HVB, HVX⟩
  case round =>
    obtain ⟨i, rfl, HI, HP, HBW, HBX⟩ := hrel
    obtain ⟨x0, x1, x2, x3, x4, x5, x6⟩ := boxE_cells HBX.out
    have hcx := fun n_ : Nat => Kd.C_string (P := Try.prog) (A := B) (c := d) Try.underlying34 Try.underlying5 Try.underlying9 (Kd.C_drewN (Kd.F_now (Kd.F_below HFX.out HBW.out)) n_)
    by_cases hi : i < l.length
    · have d3 : decide ((i : Int) < (l.length : Int)) = true := decide_eq_true (by omega)
      have d3b : decide (i < l.length) = true := decide_eq_true hi
      have hw1 : wrap64 ((i : Int) + 1) = ((i + 1 : Nat) : Int) := w64_up (by have := HN.out; omega)
      have i1 : (0 ≤ (i : Int)) = True := eq_true (Int.natCast_nonneg _)
      have i2 : ((i : Int) < (l.length : Int)) = True := eq_true (Int.ofNat_lt.2 hi)
      have i3 : (i < l.length) = True := eq_true hi
      obtain ⟨y, hy⟩ : ∃ y, l[i]? = some y := ⟨_, List.getElem?_eq_getElem hi⟩
      obtain ⟨ae, Bx, dx, hA, k0, k1, k2, k3, k4, k5, k6, hlx, hCx⟩ := at_en (Kd.F_now (Kd.F_below HFL.out HBW.out)) hy
      subst hA
      have hcy := fun n_ : Nat => Kd.C_string (P := Try.prog) (A := Bx) (c := dx) Try.underlying34 Try.underlying5 Try.underlying9 (Kd.C_drewN hCx n_)
      have hst := str_lt y.f0 x.f0
      have hls := fun W_ => lss_run (P := Try.prog) 9 (strOfNums y.f0) (strOfNums x.f0) W_
      have HII := Aside0.mk hi
      have HYY := Aside0.mk hy
      by_cases hlt : cmpI y.f0 x.f0 < 0
      · rw [decide_eq_true hlt] at hst
        have HP1 := Aside0.mk (show putL l x = l.take (i + 1) ++ putL (l.drop (i + 1)) x by
          rw [HP.out, putL_lt hy hlt, List.take_add_one, hy]
          simp)
        clear hi hy hlt hCx hlx
        go_wp2
        go_quiet (fail)
        go_wp2
        go_roundg (l.length - (i + 1))
        case measure => have := HI.out; have := HII.out; omega
        case rel => exact ⟨i + 1, by first | rfl | rw [hw1], ⟨HII.out, rfl⟩, HP1, ⟨pw_below_drewN HBW.out _⟩, ⟨HBX.out⟩⟩
      · rw [decide_eq_false hlt] at hst
        have hse := str_beq y.f0 x.f0
        by_cases heq : cmpI y.f0 x.f0 = 0
        · rw [decide_eq_true heq] at hse
          have HP1 := Aside0.mk (show putL l x = l.take i ++ ([⟨x.f0, mgA y.f1 x.f1⟩] ++ l.drop (i + 1)) by rw [HP.out, putL_eq hy heq])
          clear hi hy hlt heq hlx hCx
          go_wp2
          go_quiet (fail)
          clear hcy k0 k1 k2 k3 k4 k5 k6
          obtain ⟨W2, hW2⟩ : ∃ W2, wr.drewN nq = W2 := ⟨_, rfl⟩
          have HBW2 := Aside0.mk (show Below W.heap.size W W2 by rw [← hW2]; exact pw_below_drewN HBW.out _)
          have HBX2 := Aside0.mk (show W2.heap[W.heap.size]? = some (boxE B d x) by rw [← hW2]; exact HBX.out)
          rw [hW2]
          clear hW2 x0 x1 x2 x3 x4 x5 x6 hcx
          have hsl1 := fun AA => cut_to (P := Try.prog) 44 41 .i64 Try.underlying44 hi0 AA l.length c (i : Int) (Int.natCast_nonneg _) (Int.ofNat_le.2 HI.out.1) HC.out
          simp only [Int.toNat_natCast] at hsl1
          have hft := Kd.F_take (m := i) (Kd.F_below HFL.out HBW2.out) HI.out.1
          rw [List.length_take, Nat.min_eq_left HI.out.1] at hft
          have HFT := Aside0.mk hft
          clear hft
          go_upto_region 6 with (first
            | ((with_reducible refine gate_builtin (b := .append) (xs := #[.tmp 25, .tmp 28]) rfl ?_); at_builtin; refine Kd.N_append_rows k41 (w0 := W) W.heap.size rfl (.tmp 25) (.tmp 28) 44 41 (.agg #[.slice none 0 0, .int .u64 0, .bool false, .int .i64 0, .int .u64 0, .int .i64 0, .int .i64 0]) 72 rfl Try.underlying44 info41 rfl (by decide) (by omega) (.slice none 0 0) [] (l.take i) _ i c ok (fun k => ok k ∧ k < W.heap.size) rfl rfl (Kd.N_nil _ _ _ _ _) ?HR ?hokp ?hf ?HB ?hbase ?hl ?_; (case HR => exact HFT.out); (case hokp => exact fun k hk => ⟨hk.1, by simp [Value.ownBlock]⟩); (case hf => exact fun k hk => HOK.out k (Nat.le_trans HBW2.out.size hk)); (case HB => exact HBW2.out); (case hbase => exact HBW2.out.size); (case hl => have := HN.out; have := HI.out.1; simp only [List.length_nil]; omega); intro v1 w1 r1 r2 r3 r4; rw [List.nil_append] at r1; obtain ⟨A1, c1, hv1⟩ := Kd.N_slice r1; rw [List.length_take, Nat.min_eq_left HI.out.1] at hv1; subst hv1; have HN1 := Aside0.mk r1; have HB1 := Aside0.mk r2; have HG1 := Aside0.mk (show w1.heap[W.heap.size]? = some (boxE B d x) from blk_grown HBX2.out r3 (by simp [Value.ownBlock])); clear r1 r2 r3 r4))
          obtain ⟨x0, x1, x2, x3, x4, x5, x6⟩ := boxE_cells HG1.out
          have hcx := fun n_ : Nat => Kd.C_string (P := Try.prog) (A := B) (c := d) Try.underlying34 Try.underlying5 Try.underlying9 (Kd.C_drewN (Kd.F_now (Kd.F_below HFX.out HB1.out)) n_)
          clear hsl1
          obtain ⟨ae2, Bx, dx, hA2, k0, k1, k2, k3, k4, k5, k6, hlx, hCx⟩ := at_en (Kd.F_now (Kd.F_below HFL.out HB1.out)) HYY.out
          cases hA2
          have hcy := fun n_ : Nat => Kd.C_string (P := Try.prog) (A := Bx) (c := dx) Try.underlying34 Try.underlying5 Try.underlying9 (Kd.C_drewN hCx n_)
          go_wp2
          go_quiet (fail)
          obtain ⟨W3, hW3⟩ : ∃ W3, w1.drewN nq = W3 := ⟨_, rfl⟩
          have b3 : Below w1.heap.size w1 W3 := by rw [← hW3]; exact pw_below_drewN (Below.refl _ _) _
          have HB3 := Aside0.mk (HB1.out.trans (b3.mono HB1.out.size))
          have HN3 := Aside0.mk (Kd.N_below HN1.out b3)
          have HSN := Aside0.mk (show W3.cell? ⟨W.heap.size, 0, none⟩ = some (.slice B x.f0.length d) ∧ W3.cell? ⟨W.heap.size, 1, none⟩ = some (.int .u64 x.f1.f0) ∧ W3.cell? ⟨W.heap.size, 2, none⟩ = some (.bool x.f1.f1) ∧ W3.cell? ⟨W.heap.size, 3, none⟩ = some (.int .i64 x.f1.f2.f0) ∧ W3.cell? ⟨W.heap.size, 4, none⟩ = some (.int .u64 x.f1.f2.f1) ∧ W3.cell? ⟨W.heap.size, 5, none⟩ = some (.int .i64 x.f1.f3) ∧ W3.cell? ⟨W.heap.size, 6, none⟩ = some (.int .i64 x.f1.f4) ∧ W3.cell? ⟨(ae.add (i * 7)).block, (ae.add (i * 7)).off + 1, none⟩ = some (.int .u64 y.f1.f0) ∧ W3.cell? ⟨(ae.add (i * 7)).block, (ae.add (i * 7)).off + 2, none⟩ = some (.bool y.f1.f1) ∧ W3.cell? ⟨(ae.add (i * 7)).block, (ae.add (i * 7)).off + 3, none⟩ = some (.int .i64 y.f1.f2.f0) ∧ W3.cell? ⟨(ae.add (i * 7)).block, (ae.add (i * 7)).off + 4, none⟩ = some (.int .u64 y.f1.f2.f1) ∧ W3.cell? ⟨(ae.add (i * 7)).block, (ae.add (i * 7)).off + 5, none⟩ = some (.int .i64 y.f1.f3) ∧ W3.cell? ⟨(ae.add (i * 7)).block, (ae.add (i * 7)).off + 6, none⟩ = some (.int .i64 y.f1.f4) from ⟨cell_bl' x0 b3, cell_bl' x1 b3, cell_bl' x2 b3, cell_bl' x3 b3, cell_bl' x4 b3, cell_bl' x5 b3, cell_bl' x6 b3, cell_bl' k1 b3, cell_bl' k2 b3, cell_bl' k3 b3, cell_bl' k4 b3, cell_bl' k5 b3, cell_bl' k6 b3⟩)
          clear x0 x1 x2 x3 x4 x5 x6 hcx k0 k1 k2 k3 k4 k5 k6 hcy hlx hCx b3 hst hls hse
          go_upto_region 7 with (fail)
          rw [hW3]
          clear hW3
          obtain ⟨z, hz⟩ : ∃ z, mgA y.f1 x.f1 = z := ⟨_, rfl⟩
          have hrm := refMerge_mg 0 (HGL.out y (List.mem_of_getElem? HYY.out)) HGX.out
          rw [hz] at hrm HP1
          have HMG := Aside0.mk (fun W_ => rickyardref02_Merge.calls 1 _ _ _ _ _ _ _ _ _ _ _ _ z.f0 z.f1 z.f2.f0 z.f2.f1 z.f3 z.f4 W_ hrm)
          clear hz hrm
          have HTI := Aside0.mk (show (l.take i).length = i by rw [List.length_take, Nat.min_eq_left HI.out.1])
          have HS0 := Aside0.mk (show W3.drew.cell? ⟨W.heap.size, 0, none⟩ = some (.slice B x.f0.length d) ∧ W3.drew.cell? ⟨W.heap.size, 1, none⟩ = some (.int .u64 x.f1.f0) ∧ W3.drew.cell? ⟨W.heap.size, 2, none⟩ = some (.bool x.f1.f1) ∧ W3.drew.cell? ⟨W.heap.size, 3, none⟩ = some (.int .i64 x.f1.f2.f0) ∧ W3.drew.cell? ⟨W.heap.size, 4, none⟩ = some (.int .u64 x.f1.f2.f1) ∧ W3.drew.cell? ⟨W.heap.size, 5, none⟩ = some (.int .i64 x.f1.f3) ∧ W3.drew.cell? ⟨W.heap.size, 6, none⟩ = some (.int .i64 x.f1.f4) ∧ W3.drew.cell? ⟨(ae.add (i * 7)).block, (ae.add (i * 7)).off + 1, none⟩ = some (.int .u64 y.f1.f0) ∧ W3.drew.cell? ⟨(ae.add (i * 7)).block, (ae.add (i * 7)).off + 2, none⟩ = some (.bool y.f1.f1) ∧ W3.drew.cell? ⟨(ae.add (i * 7)).block, (ae.add (i * 7)).off + 3, none⟩ = some (.int .i64 y.f1.f2.f0) ∧ W3.drew.cell? ⟨(ae.add (i * 7)).block, (ae.add (i * 7)).off + 4, none⟩ = some (.int .u64 y.f1.f2.f1) ∧ W3.drew.cell? ⟨(ae.add (i * 7)).block, (ae.add (i * 7)).off + 5, none⟩ = some (.int .i64 y.f1.f3) ∧ W3.drew.cell? ⟨(ae.add (i * 7)).block, (ae.add (i * 7)).off + 6, none⟩ = some (.int .i64 y.f1.f4) from HSN.out)
          refine wp_region_last_drew (ds := [12, 13, 14]) (S := fun W' => W'.cell? ⟨W.heap.size, 0, none⟩ = some (.slice B x.f0.length d) ∧ W'.cell? ⟨W.heap.size, 1, none⟩ = some (.int .u64 x.f1.f0) ∧ W'.cell? ⟨W.heap.size, 2, none⟩ = some (.bool x.f1.f1) ∧ W'.cell? ⟨W.heap.size, 3, none⟩ = some (.int .i64 x.f1.f2.f0) ∧ W'.cell? ⟨W.heap.size, 4, none⟩ = some (.int .u64 x.f1.f2.f1) ∧ W'.cell? ⟨W.heap.size, 5, none⟩ = some (.int .i64 x.f1.f3) ∧ W'.cell? ⟨W.heap.size, 6, none⟩ = some (.int .i64 x.f1.f4) ∧ W'.cell? ⟨(ae.add (i * 7)).block, (ae.add (i * 7)).off + 1, none⟩ = some (.int .u64 y.f1.f0) ∧ W'.cell? ⟨(ae.add (i * 7)).block, (ae.add (i * 7)).off + 2, none⟩ = some (.bool y.f1.f1) ∧ W'.cell? ⟨(ae.add (i * 7)).block, (ae.add (i * 7)).off + 3, none⟩ = some (.int .i64 y.f1.f2.f0) ∧ W'.cell? ⟨(ae.add (i * 7)).block, (ae.add (i * 7)).off + 4, none⟩ = some (.int .u64 y.f1.f2.f1) ∧ W'.cell? ⟨(ae.add (i * 7)).block, (ae.add (i * 7)).off + 5, none⟩ = some (.int .i64 y.f1.f3) ∧ W'.cell? ⟨(ae.add (i * 7)).block, (ae.add (i * 7)).off + 6, none⟩ = some (.int .i64 y.f1.f4)) (by kernel_rfl) ?_ (fun hS0 => ?_);
          focus exact HS0.out
          (refine wpAnyLast_pure (i := 0) (v := ?_) rfl (by kernel_rfl) (by kernel_rfl) (by kernel_rfl) (fun _ _ _ h => h) (Or.inl ⟨by rfl, ?_⟩) ?_; rotate_left 1; focus (intro ww; go_simp; try with_reducible rfl)); try simp only [Act.put, List.setIfInBounds_toArray, List.set_cons_zero, List.set_cons_succ]
          (refine wpAnyLast_take (i := 1) (v := ?_) rfl (by kernel_rfl) (by kernel_rfl) (by kernel_rfl) (by kernel_rfl) (by kernel_rfl) (fun _ _ _ h => h) (Or.inl ⟨by rfl, ?_⟩) (by assumption) ?_; rotate_left 1; focus (intro ww hSw; (try dsimp only at hSw); go_simp; try with_reducible rfl)); try simp only [Act.put, List.setIfInBounds_toArray, List.set_cons_zero, List.set_cons_succ]
          (refine wpAnyLast_take (i := 2) (v := ?_) rfl (by kernel_rfl) (by kernel_rfl) (by kernel_rfl) (by kernel_rfl) (by kernel_rfl) (fun _ _ _ h => h) (Or.inl ⟨by rfl, ?_⟩) (by assumption) ?_; rotate_left 1; focus (intro ww hSw; (try dsimp only at hSw); go_simp; try with_reducible rfl)); try simp only [Act.put, List.setIfInBounds_toArray, List.set_cons_zero, List.set_cons_succ]
          (refine wpAnyLast_take (i := 3) (v := ?_) rfl (by kernel_rfl) (by kernel_rfl) (by kernel_rfl) (by kernel_rfl) (by kernel_rfl) (fun _ _ _ h => h) (Or.inl ⟨by rfl, ?_⟩) (by assumption) ?_; rotate_left 1; focus (intro ww hSw; (try dsimp only at hSw); go_simp; try with_reducible rfl)); try simp only [Act.put, List.setIfInBounds_toArray, List.set_cons_zero, List.set_cons_succ]
          (refine wpAnyLast_take (i := 4) (v := ?_) rfl (by kernel_rfl) (by kernel_rfl) (by kernel_rfl) (by kernel_rfl) (by kernel_rfl) (fun _ _ _ h => h) (Or.inl ⟨by rfl, ?_⟩) (by assumption) ?_; rotate_left 1; focus (intro ww hSw; (try dsimp only at hSw); go_simp; try with_reducible rfl)); try simp only [Act.put, List.setIfInBounds_toArray, List.set_cons_zero, List.set_cons_succ]
          (refine wpAnyLast_take (i := 5) (v := ?_) rfl (by kernel_rfl) (by kernel_rfl) (by kernel_rfl) (by kernel_rfl) (by kernel_rfl) (fun _ _ _ h => h) (Or.inl ⟨by rfl, ?_⟩) (by assumption) ?_; rotate_left 1; focus (intro ww hSw; (try dsimp only at hSw); go_simp; try with_reducible rfl)); try simp only [Act.put, List.setIfInBounds_toArray, List.set_cons_zero, List.set_cons_succ]
          (refine wpAnyLast_take (i := 6) (v := ?_) rfl (by kernel_rfl) (by kernel_rfl) (by kernel_rfl) (by kernel_rfl) (by kernel_rfl) (fun _ _ _ h => h) (Or.inl ⟨by rfl, ?_⟩) (by assumption) ?_; rotate_left 1; focus (intro ww hSw; (try dsimp only at hSw); go_simp; try with_reducible rfl)); try simp only [Act.put, List.setIfInBounds_toArray, List.set_cons_zero, List.set_cons_succ]
          (refine wpAnyLast_take (i := 7) (v := ?_) rfl (by kernel_rfl) (by kernel_rfl) (by kernel_rfl) (by kernel_rfl) (by kernel_rfl) (fun _ _ _ h => h) (Or.inl ⟨by rfl, ?_⟩) (by assumption) ?_; rotate_left 1; focus (intro ww hSw; (try dsimp only at hSw); go_simp; try with_reducible rfl)); try simp only [Act.put, List.setIfInBounds_toArray, List.set_cons_zero, List.set_cons_succ]
          (refine wpAnyLast_take (i := 8) (v := ?_) rfl (by kernel_rfl) (by kernel_rfl) (by kernel_rfl) (by kernel_rfl) (by kernel_rfl) (fun _ _ _ h => h) (Or.inl ⟨by rfl, ?_⟩) (by assumption) ?_; rotate_left 1; focus (intro ww hSw; (try dsimp only at hSw); go_simp; try with_reducible rfl)); try simp only [Act.put, List.setIfInBounds_toArray, List.set_cons_zero, List.set_cons_succ]
          (refine wpAnyLast_take (i := 9) (v := ?_) rfl (by kernel_rfl) (by kernel_rfl) (by kernel_rfl) (by kernel_rfl) (by kernel_rfl) (fun _ _ _ h => h) (Or.inl ⟨by rfl, ?_⟩) (by assumption) ?_; rotate_left 1; focus (intro ww hSw; (try dsimp only at hSw); go_simp; try with_reducible rfl)); try simp only [Act.put, List.setIfInBounds_toArray, List.set_cons_zero, List.set_cons_succ]
          refine wpAnyLast_ready (rs := [10]) (by kernel_rfl) (by simp) (AllReadyL.cons rfl (by decide) (fun K hK => ?_) AllReadyL.nil)
          go_simp
          refine (HMG.out _).mono ?_
          rintro e w10 ⟨rfl, hb⟩
          have HB10 := Aside0.mk (show Below W3.heap.size W3 w10 from (below_drew (Below.refl _ _)).trans hb)
          have HS9 := Aside0.mk (show w10.cell? ⟨W.heap.size, 0, none⟩ = some (.slice B x.f0.length d) ∧ w10.cell? ⟨W.heap.size, 1, none⟩ = some (.int .u64 x.f1.f0) ∧ w10.cell? ⟨W.heap.size, 2, none⟩ = some (.bool x.f1.f1) ∧ w10.cell? ⟨W.heap.size, 3, none⟩ = some (.int .i64 x.f1.f2.f0) ∧ w10.cell? ⟨W.heap.size, 4, none⟩ = some (.int .u64 x.f1.f2.f1) ∧ w10.cell? ⟨W.heap.size, 5, none⟩ = some (.int .i64 x.f1.f3) ∧ w10.cell? ⟨W.heap.size, 6, none⟩ = some (.int .i64 x.f1.f4) ∧ w10.cell? ⟨(ae.add (i * 7)).block, (ae.add (i * 7)).off + 1, none⟩ = some (.int .u64 y.f1.f0) ∧ w10.cell? ⟨(ae.add (i * 7)).block, (ae.add (i * 7)).off + 2, none⟩ = some (.bool y.f1.f1) ∧ w10.cell? ⟨(ae.add (i * 7)).block, (ae.add (i * 7)).off + 3, none⟩ = some (.int .i64 y.f1.f2.f0) ∧ w10.cell? ⟨(ae.add (i * 7)).block, (ae.add (i * 7)).off + 4, none⟩ = some (.int .u64 y.f1.f2.f1) ∧ w10.cell? ⟨(ae.add (i * 7)).block, (ae.add (i * 7)).off + 5, none⟩ = some (.int .i64 y.f1.f3) ∧ w10.cell? ⟨(ae.add (i * 7)).block, (ae.add (i * 7)).off + 6, none⟩ = some (.int .i64 y.f1.f4) from by
            obtain ⟨h0, h1, h2, h3, h4, h5, h6, h7, h8, h9, h10, h11, h12⟩ := HSN.out
            exact ⟨cell_bl' h0 HB10.out, cell_bl' h1 HB10.out, cell_bl' h2 HB10.out, cell_bl' h3 HB10.out, cell_bl' h4 HB10.out, cell_bl' h5 HB10.out, cell_bl' h6 HB10.out, cell_bl' h7 HB10.out, cell_bl' h8 HB10.out, cell_bl' h9 HB10.out, cell_bl' h10 HB10.out, cell_bl' h11 HB10.out, cell_bl' h12 HB10.out⟩)
          refine hK _ _ HS9.out (fun hS1 => ?_)
          clear hK K hb
          (refine wpAnyLast_take (i := 11) (v := ?_) rfl (by kernel_rfl) (by kernel_rfl) (by kernel_rfl) (by kernel_rfl) (by kernel_rfl) (fun _ _ _ h => h) (Or.inl ⟨by rfl, ?_⟩) (by assumption) ?_; rotate_left 1; focus (intro ww hSw; (try dsimp only at hSw); go_simp; try with_reducible rfl)); try simp only [Act.put, List.setIfInBounds_toArray, List.set_cons_zero, List.set_cons_succ]
          refine wpAnyLast_ready (rs := [12]) (by kernel_rfl) (by simp) (AllReadyL.cons_last rfl (by decide) (fun K hK => ?_) AllReadyL.nil)
          (go_simp; refine hK _ _ ?_; clear hK K)
          have HB11 := Aside0.mk (show Below W.heap.size W w10 from HB3.out.trans (HB10.out.mono HB3.out.size))
          have HN11 := Aside0.mk (show (k41).N 41 w10 W.heap.size ok (.slice A1 i c1) (l.take i) from Kd.N_below HN3.out HB10.out)
          refine wpAnyLast_ready (rs := [13]) (by kernel_rfl) (by simp) (AllReadyL.cons_last rfl (by decide) (fun K hK => ?_) AllReadyL.nil)
          refine Kd.N_append_step k41 (w0 := W) (W := w10) W.heap.size (by rfl) (.tmp 46) (.tmp 58) 44 41 (.agg #[.slice none 0 0, .int .u64 0, .bool false, .int .i64 0, .int .u64 0, .int .i64 0, .int .i64 0]) 72 rfl Try.underlying44 info41 rfl (by decide) (by omega) (.slice A1 i c1) (l.take i) (⟨x.f0, z⟩ : En) [.slice B x.f0.length d, .int .u64 z.f0, .bool z.f1, .int .i64 z.f2.f0, .int .u64 z.f2.f1, .int .i64 z.f3, .int .i64 z.f4] ok (fun k => ok k ∧ k < W.heap.size) rfl rfl ?hp ?hokp ?hf ?HO ?HB ?hbase ?hl ?_
          case hp => exact k41_mkF w10 _ (⟨x.f0, z⟩ : En) HD.out (Kd.F_below HFX.out HB11.out)
          case hokp => exact fun k hk => ⟨hk.1, fun e_ => by have h_ := Kd.N_base HN11.out k e_.symm; omega⟩
          case hf => exact fun k hk => HOK.out k (Nat.le_trans HB11.out.size hk)
          case HO => exact HN11.out
          case HB => exact HB11.out
          case hbase => exact HB11.out.size
          case hl => rw [HTI.out]; have := HN.out; have := HI.out.1; omega
          intro v4 w4 r1 r2 r3 r4
          obtain ⟨A4, c4, hv4⟩ := Kd.N_slice r1
          rw [List.length_append, HTI.out, List.length_singleton] at hv4
          subst hv4
          have HN4 := Aside0.mk r1
          have HB4 := Aside0.mk r2
          clear r1 r2 r3 r4
          refine hK _ _ ?_
          clear hK K
          refine wpAnyLast_ready (rs := [14]) (by kernel_rfl) (by simp) (AllReadyL.cons_last rfl (by decide) (fun K hK => ?_) AllReadyL.nil)
          (go_simp; refine hK _ _ ?_; clear hK K)
          refine wpAnyLast_done (by kernel_rfl) ?_ _;
          try simp only [Act.put, List.setIfInBounds_toArray, List.set_cons_zero, List.set_cons_succ]
          have hjj : i + 1 ≤ l.length := HII.out
          clear hw1
          have hw1 : wrap64 ((i : Int) + 1) = ((i + 1 : Nat) : Int) := w64_up (by have := HN.out; omega)
          obtain ⟨JJ, hJJ⟩ : ∃ JJ, i + 1 = JJ := ⟨_, rfl⟩
          rw [hJJ] at hjj hw1 HP1
          have HJI := Aside0.mk hJJ
          have HJL := Aside0.mk hjj
          obtain ⟨AX, hAX⟩ : ∃ AX, AX = (some ae : Option Addr) := ⟨_, rfl⟩
          rw [← hAX] at HFL ⊢
          clear hAX hJJ
          obtain ⟨AD, hAD⟩ : ∃ A', (if c = JJ then AX else AX.map (·.add (JJ * 7))) = A' := ⟨_, rfl⟩
          obtain ⟨nD, hnD⟩ : ∃ k, l.length - JJ = k := ⟨_, rfl⟩
          obtain ⟨cD, hcD⟩ : ∃ k, c - JJ = k := ⟨_, rfl⟩
          have hsl2 := cut_from (P := Try.prog) 44 41 .i64 Try.underlying44 hi0 7 hi0s AX l.length c (JJ : Int) (Int.natCast_nonneg _) (Int.ofNat_le.2 hjj)
          rw [Int.toNat_natCast, hAD, hnD, hcD] at hsl2
          have hfc := Kd.F_cut (m := JJ) HFL.out hjj HC.out
          have hs7 : (k41).sz = 7 := rfl
          rw [hs7, hAD, List.length_drop, hnD] at hfc
          have HFC := Aside0.mk hfc
          have HND := Aside0.mk hnD
          clear hAD hnD hcD hfc hs7 hjj
          go_wp2_with (first
            | ((with_reducible refine gate_builtin (b := .append) (xs := #[.tmp 60, .tmp 64]) rfl ?_); at_builtin; refine Kd.N_append_rows k41 (w0 := W) W.heap.size rfl (.tmp 60) (.tmp 64) 44 41 (.agg #[.slice none 0 0, .int .u64 0, .bool false, .int .i64 0, .int .u64 0, .int .i64 0, .int .i64 0]) 72 rfl Try.underlying44 info41 rfl (by decide) (by omega) _ (l.take i ++ [(⟨x.f0, z⟩ : En)]) (l.drop JJ) AD nD cD ok (fun k => ok k ∧ k < W.heap.size) rfl rfl ?HO ?HR ?hokp ?hf ?HB ?hbase ?hl ?_; (case HO => exact HN4.out); (case HR => exact Kd.F_below HFC.out HB4.out); (case hokp => exact fun k hk => ⟨hk.1, fun e_ => by have h_ := Kd.N_base HN4.out k e_.symm; omega⟩); (case hf => exact fun k hk => HOK.out k (Nat.le_trans HB4.out.size hk)); (case HB => exact HB4.out); (case hbase => exact HB4.out.size); (case hl => rw [List.length_append, HTI.out, List.length_singleton]; have := HN.out; have := HJL.out; have := HND.out; have := HJI.out; omega); intro v5 w5 r1 r2 r3 r4; have HN5 := Aside0.mk r1; have HB5 := Aside0.mk r2; clear r1 r2 r3 r4))
          refine bodyPost_ret (results_tmp rfl _ _ _) rfl ?_
          exact ⟨v5, rfl, by rw [HP1.out, ← List.append_assoc]; exact HN5.out, HB5.out⟩
        · rw [decide_eq_false heq] at hse
          have HP1 := Aside0.mk (show putL l x = l.take i ++ ([x] ++ l.drop i) by rw [HP.out, putL_gt hy (cmp_gt hlt heq)])
          clear hi hy hlt heq hlx hCx
          go_wp2
          go_quiet (fail)
          clear hcy k0 k1 k2 k3 k4 k5 k6
          obtain ⟨W2, hW2⟩ : ∃ W2, wr.drewN nq = W2 := ⟨_, rfl⟩
          have HBW2 := Aside0.mk (show Below W.heap.size W W2 by rw [← hW2]; exact pw_below_drewN HBW.out _)
          have HBX2 := Aside0.mk (show W2.heap[W.heap.size]? = some (boxE B d x) by rw [← hW2]; exact HBX.out)
          rw [hW2]
          clear hW2 x0 x1 x2 x3 x4 x5 x6 hcx
          have hsl1 := fun AA => cut_to (P := Try.prog) 44 41 .i64 Try.underlying44 hi0 AA l.length c (i : Int) (Int.natCast_nonneg _) (Int.ofNat_le.2 HI.out.1) HC.out
          simp only [Int.toNat_natCast] at hsl1
          have hft := Kd.F_take (m := i) (Kd.F_below HFL.out HBW2.out) HI.out.1
          rw [List.length_take, Nat.min_eq_left HI.out.1] at hft
          have HFT := Aside0.mk hft
          clear hft
          go_upto_region 6 with (first
            | ((with_reducible refine gate_builtin (b := .append) (xs := #[.tmp 25, .tmp 28]) rfl ?_); at_builtin; refine Kd.N_append_rows k41 (w0 := W) W.heap.size rfl (.tmp 25) (.tmp 28) 44 41 (.agg #[.slice none 0 0, .int .u64 0, .bool false, .int .i64 0, .int .u64 0, .int .i64 0, .int .i64 0]) 72 rfl Try.underlying44 info41 rfl (by decide) (by omega) (.slice none 0 0) [] (l.take i) _ i c ok (fun k => ok k ∧ k < W.heap.size) rfl rfl (Kd.N_nil _ _ _ _ _) ?HR ?hokp ?hf ?HB ?hbase ?hl ?_; (case HR => exact HFT.out); (case hokp => exact fun k hk => ⟨hk.1, by simp [Value.ownBlock]⟩); (case hf => exact fun k hk => HOK.out k (Nat.le_trans HBW2.out.size hk)); (case HB => exact HBW2.out); (case hbase => exact HBW2.out.size); (case hl => have := HN.out; have := HI.out.1; simp only [List.length_nil]; omega); intro v1 w1 r1 r2 r3 r4; rw [List.nil_append] at r1; obtain ⟨A1, c1, hv1⟩ := Kd.N_slice r1; rw [List.length_take, Nat.min_eq_left HI.out.1] at hv1; subst hv1; have HN1 := Aside0.mk r1; have HB1 := Aside0.mk r2; have HG1 := Aside0.mk (show w1.heap[W.heap.size]? = some (boxE B d x) from blk_grown HBX2.out r3 (by simp [Value.ownBlock])); clear r1 r2 r3 r4))
          obtain ⟨x0, x1, x2, x3, x4, x5, x6⟩ := boxE_cells HG1.out
          have hcx := fun n_ : Nat => Kd.C_string (P := Try.prog) (A := B) (c := d) Try.underlying34 Try.underlying5 Try.underlying9 (Kd.C_drewN (Kd.F_now (Kd.F_below HFX.out HB1.out)) n_)
          clear hsl1
          obtain ⟨ae2, Bx, dx, hA2, k0, k1, k2, k3, k4, k5, k6, hlx, hCx⟩ := at_en (Kd.F_now (Kd.F_below HFL.out HB1.out)) HYY.out
          cases hA2
          have hcy := fun n_ : Nat => Kd.C_string (P := Try.prog) (A := Bx) (c := dx) Try.underlying34 Try.underlying5 Try.underlying9 (Kd.C_drewN hCx n_)
          go_wp2
          go_quiet (fail)
          obtain ⟨AX, hAX⟩ : ∃ AX, AX = (some ae : Option Addr) := ⟨_, rfl⟩
          rw [← hAX] at HFL ⊢
          clear hAX
          clear hcy k0 k1 k2 k3 k4 k5 k6 hlx hCx
          obtain ⟨W3, hW3⟩ : ∃ W3, w1.drewN nq = W3 := ⟨_, rfl⟩
          have b3 : Below w1.heap.size w1 W3 := by rw [← hW3]; exact pw_below_drewN (Below.refl _ _) _
          have HB3 := Aside0.mk (HB1.out.trans (b3.mono HB1.out.size))
          have HG3 := Aside0.mk ((b3.block _ (blk_lt HG1.out)).trans HG1.out)
          have HN3 := Aside0.mk (Kd.N_below HN1.out b3)
          clear x0 x1 x2 x3 x4 x5 x6 hcx b3
          go_upto_region 9 with (fail)
          rw [hW3]
          clear hW3
          obtain ⟨x0, x1, x2, x3, x4, x5, x6⟩ := boxE_cells HG3.out
          have hjj := HI.out.1
          obtain ⟨JJ, hJJ⟩ : ∃ JJ, i = JJ := ⟨_, rfl⟩
          rw [hJJ] at hjj HP1 HN3 ⊢
          have HTJ := Aside0.mk (show (l.take JJ).length = JJ by rw [List.length_take, Nat.min_eq_left hjj])
          have HJL := Aside0.mk hjj
          obtain ⟨AD, hAD⟩ : ∃ A', (if c = JJ then AX else AX.map (·.add (JJ * 7))) = A' := ⟨_, rfl⟩
          obtain ⟨nD, hnD⟩ : ∃ k, l.length - JJ = k := ⟨_, rfl⟩
          obtain ⟨cD, hcD⟩ : ∃ k, c - JJ = k := ⟨_, rfl⟩
          have hsl2 := cut_from (P := Try.prog) 44 41 .i64 Try.underlying44 hi0 7 hi0s AX l.length c (JJ : Int) (Int.natCast_nonneg _) (Int.ofNat_le.2 hjj)
          rw [Int.toNat_natCast, hAD, hnD, hcD] at hsl2
          have hfc := Kd.F_cut (m := JJ) HFL.out hjj HC.out
          have hs7 : (k41).sz = 7 := rfl
          rw [hs7, hAD, List.length_drop, hnD] at hfc
          have HFC := Aside0.mk hfc
          have HND := Aside0.mk hnD
          clear hAD hnD hcD hfc hs7 hjj
          go_wp2_with (first
            | ((with_reducible refine gate_builtin (b := .append) (xs := #[.tmp 66, .tmp 68]) rfl ?_); at_builtin; refine Kd.N_append k41 (w0 := W) (W := W3) W.heap.size rfl (.tmp 66) (.tmp 68) 44 41 (.agg #[.slice none 0 0, .int .u64 0, .bool false, .int .i64 0, .int .u64 0, .int .i64 0, .int .i64 0]) 72 rfl Try.underlying44 info41 rfl (by decide) (by omega) _ (l.take JJ) x _ ok (fun k => ok k ∧ k < W.heap.size) rfl rfl ?hp ?hokp ?hf ?HO ?HB ?hbase ?hl ?_; (case hp => exact k41_mkF W3 _ x HD.out (Kd.F_below HFX.out HB3.out)); (case hokp => exact fun k hk => ⟨hk.1, fun e_ => by have h_ := Kd.N_base HN3.out k e_.symm; omega⟩); (case hf => exact fun k hk => HOK.out k (Nat.le_trans HB3.out.size hk)); (case HO => exact HN3.out); (case HB => exact HB3.out); (case hbase => exact HB3.out.size); (case hl => rw [HTJ.out]; have := HN.out; have := HJL.out; omega); intro v4 w4 r1 r2 r3 r4; obtain ⟨A4, c4, hv4⟩ := Kd.N_slice r1; rw [List.length_append, HTJ.out, List.length_singleton] at hv4; subst hv4; have HN4 := Aside0.mk r1; have HB4 := Aside0.mk r2; clear r1 r2 r3 r4)
            | ((with_reducible refine gate_builtin (b := .append) (xs := #[.tmp 70, .tmp 73]) rfl ?_); at_builtin; refine Kd.N_append_rows k41 (w0 := W) W.heap.size rfl (.tmp 70) (.tmp 73) 44 41 (.agg #[.slice none 0 0, .int .u64 0, .bool false, .int .i64 0, .int .u64 0, .int .i64 0, .int .i64 0]) 72 rfl Try.underlying44 info41 rfl (by decide) (by omega) _ (l.take JJ ++ [x]) (l.drop JJ) AD nD cD ok (fun k => ok k ∧ k < W.heap.size) rfl rfl ?HO ?HR ?hokp ?hf ?HB ?hbase ?hl ?_; (case HO => exact HN4.out); (case HR => exact Kd.F_below HFC.out HB4.out); (case hokp => exact fun k hk => ⟨hk.1, fun e_ => by have h_ := Kd.N_base HN4.out k e_.symm; omega⟩); (case hf => exact fun k hk => HOK.out k (Nat.le_trans HB4.out.size hk)); (case HB => exact HB4.out); (case hbase => exact HB4.out.size); (case hl => rw [List.length_append, HTJ.out, List.length_singleton]; have := HN.out; have := HJL.out; have := HND.out; omega); intro v5 w5 r1 r2 r3 r4; have HN5 := Aside0.mk r1; have HB5 := Aside0.mk r2; clear r1 r2 r3 r4))
          refine bodyPost_ret (results_tmp rfl _ _ _) rfl ?_
          exact ⟨v5, rfl, by rw [HP1.out, ← List.append_assoc]; exact HN5.out, HB5.out⟩
    · have d3 : decide ((i : Int) < (l.length : Int)) = false := decide_eq_false (by omega)
      have d3b : decide (i < l.length) = false := decide_eq_false hi
      have HP1 := Aside0.mk (show putL l x = l.take i ++ ([x] ++ l.drop i) by rw [HP.out, putL_end (by omega)])
      clear hi
      obtain ⟨AA, hAA⟩ : ∃ AA, A = AA := ⟨_, rfl⟩
      subst hAA
      go_wp2
      go_quiet (fail)
      obtain ⟨W2, hW2⟩ : ∃ W2, wr.drewN nq = W2 := ⟨_, rfl⟩
      have HBW2 := Aside0.mk (show Below W.heap.size W W2 by rw [← hW2]; exact pw_below_drewN HBW.out _)
      have HBX2 := Aside0.mk (show W2.heap[W.heap.size]? = some (boxE B d x) by rw [← hW2]; exact HBX.out)
      rw [hW2]
      clear hW2 x0 x1 x2 x3 x4 x5 x6 hcx
      have hsl1 := fun AA => cut_to (P := Try.prog) 44 41 .i64 Try.underlying44 hi0 AA l.length c (i : Int) (Int.natCast_nonneg _) (Int.ofNat_le.2 HI.out.1) HC.out
      simp only [Int.toNat_natCast] at hsl1
      have hft := Kd.F_take (m := i) (Kd.F_below HFL.out HBW2.out) HI.out.1
      rw [List.length_take, Nat.min_eq_left HI.out.1] at hft
      have HFT := Aside0.mk hft
      clear hft
      go_upto_region 6 with (first
        | ((with_reducible refine gate_builtin (b := .append) (xs := #[.tmp 25, .tmp 28]) rfl ?_); at_builtin; refine Kd.N_append_rows k41 (w0 := W) W.heap.size rfl (.tmp 25) (.tmp 28) 44 41 (.agg #[.slice none 0 0, .int .u64 0, .bool false, .int .i64 0, .int .u64 0, .int .i64 0, .int .i64 0]) 72 rfl Try.underlying44 info41 rfl (by decide) (by omega) (.slice none 0 0) [] (l.take i) _ i c ok (fun k => ok k ∧ k < W.heap.size) rfl rfl (Kd.N_nil _ _ _ _ _) ?HR ?hokp ?hf ?HB ?hbase ?hl ?_; (case HR => exact HFT.out); (case hokp => exact fun k hk => ⟨hk.1, by simp [Value.ownBlock]⟩); (case hf => exact fun k hk => HOK.out k (Nat.le_trans HBW2.out.size hk)); (case HB => exact HBW2.out); (case hbase => exact HBW2.out.size); (case hl => have := HN.out; have := HI.out.1; simp only [List.length_nil]; omega); intro v1 w1 r1 r2 r3 r4; rw [List.nil_append] at r1; obtain ⟨A1, c1, hv1⟩ := Kd.N_slice r1; rw [List.length_take, Nat.min_eq_left HI.out.1] at hv1; subst hv1; have HN1 := Aside0.mk r1; have HB1 := Aside0.mk r2; have HG1 := Aside0.mk (show w1.heap[W.heap.size]? = some (boxE B d x) from blk_grown HBX2.out r3 (by simp [Value.ownBlock])); clear r1 r2 r3 r4))
      obtain ⟨x0, x1, x2, x3, x4, x5, x6⟩ := boxE_cells HG1.out
      have hcx := fun n_ : Nat => Kd.C_string (P := Try.prog) (A := B) (c := d) Try.underlying34 Try.underlying5 Try.underlying9 (Kd.C_drewN (Kd.F_now (Kd.F_below HFX.out HB1.out)) n_)
      clear hsl1
      go_wp2
      go_quiet (fail)
      obtain ⟨AX, hAX⟩ : ∃ AX, AX = A := ⟨_, rfl⟩
      rw [← hAX] at HFL ⊢
      clear hAX
      obtain ⟨W3, hW3⟩ : ∃ W3, w1.drewN nq = W3 := ⟨_, rfl⟩
      have b3 : Below w1.heap.size w1 W3 := by rw [← hW3]; exact pw_below_drewN (Below.refl _ _) _
      have HB3 := Aside0.mk (HB1.out.trans (b3.mono HB1.out.size))
      have HG3 := Aside0.mk ((b3.block _ (blk_lt HG1.out)).trans HG1.out)
      have HN3 := Aside0.mk (Kd.N_below HN1.out b3)
      clear x0 x1 x2 x3 x4 x5 x6 hcx b3
      go_upto_region 9 with (fail)
      rw [hW3]
      clear hW3
      obtain ⟨x0, x1, x2, x3, x4, x5, x6⟩ := boxE_cells HG3.out
      have hjj := HI.out.1
      obtain ⟨JJ, hJJ⟩ : ∃ JJ, i = JJ := ⟨_, rfl⟩
      rw [hJJ] at hjj HP1 HN3 ⊢
      have HTJ := Aside0.mk (show (l.take JJ).length = JJ by rw [List.length_take, Nat.min_eq_left hjj])
      have HJL := Aside0.mk hjj
      obtain ⟨AD, hAD⟩ : ∃ A', (if c = JJ then AX else AX.map (·.add (JJ * 7))) = A' := ⟨_, rfl⟩
      obtain ⟨nD, hnD⟩ : ∃ k, l.length - JJ = k := ⟨_, rfl⟩
      obtain ⟨cD, hcD⟩ : ∃ k, c - JJ = k := ⟨_, rfl⟩
      have hsl2 := cut_from (P := Try.prog) 44 41 .i64 Try.underlying44 hi0 7 hi0s AX l.length c (JJ : Int) (Int.natCast_nonneg _) (Int.ofNat_le.2 hjj)
      rw [Int.toNat_natCast, hAD, hnD, hcD] at hsl2
      have hfc := Kd.F_cut (m := JJ) HFL.out hjj HC.out
      have hs7 : (k41).sz = 7 := rfl
      rw [hs7, hAD, List.length_drop, hnD] at hfc
      have HFC := Aside0.mk hfc
      have HND := Aside0.mk hnD
      clear hAD hnD hcD hfc hs7 hjj
      go_wp2_with (first
        | ((with_reducible refine gate_builtin (b := .append) (xs := #[.tmp 66, .tmp 68]) rfl ?_); at_builtin; refine Kd.N_append k41 (w0 := W) (W := W3) W.heap.size rfl (.tmp 66) (.tmp 68) 44 41 (.agg #[.slice none 0 0, .int .u64 0, .bool false, .int .i64 0, .int .u64 0, .int .i64 0, .int .i64 0]) 72 rfl Try.underlying44 info41 rfl (by decide) (by omega) _ (l.take JJ) x _ ok (fun k => ok k ∧ k < W.heap.size) rfl rfl ?hp ?hokp ?hf ?HO ?HB ?hbase ?hl ?_; (case hp => exact k41_mkF W3 _ x HD.out (Kd.F_below HFX.out HB3.out)); (case hokp => exact fun k hk => ⟨hk.1, fun e_ => by have h_ := Kd.N_base HN3.out k e_.symm; omega⟩); (case hf => exact fun k hk => HOK.out k (Nat.le_trans HB3.out.size hk)); (case HO => exact HN3.out); (case HB => exact HB3.out); (case hbase => exact HB3.out.size); (case hl => rw [HTJ.out]; have := HN.out; have := HJL.out; omega); intro v4 w4 r1 r2 r3 r4; obtain ⟨A4, c4, hv4⟩ := Kd.N_slice r1; rw [List.length_append, HTJ.out, List.length_singleton] at hv4; subst hv4; have HN4 := Aside0.mk r1; have HB4 := Aside0.mk r2; clear r1 r2 r3 r4)
        | ((with_reducible refine gate_builtin (b := .append) (xs := #[.tmp 70, .tmp 73]) rfl ?_); at_builtin; refine Kd.N_append_rows k41 (w0 := W) W.heap.size rfl (.tmp 70) (.tmp 73) 44 41 (.agg #[.slice none 0 0, .int .u64 0, .bool false, .int .i64 0, .int .u64 0, .int .i64 0, .int .i64 0]) 72 rfl Try.underlying44 info41 rfl (by decide) (by omega) _ (l.take JJ ++ [x]) (l.drop JJ) AD nD cD ok (fun k => ok k ∧ k < W.heap.size) rfl rfl ?HO ?HR ?hokp ?hf ?HB ?hbase ?hl ?_; (case HO => exact HN4.out); (case HR => exact Kd.F_below HFC.out HB4.out); (case hokp => exact fun k hk => ⟨hk.1, fun e_ => by have h_ := Kd.N_base HN4.out k e_.symm; omega⟩); (case hf => exact fun k hk => HOK.out k (Nat.le_trans HB4.out.size hk)); (case HB => exact HB4.out); (case hbase => exact HB4.out.size); (case hl => rw [List.length_append, HTJ.out, List.length_singleton]; have := HN.out; have := HJL.out; have := HND.out; omega); intro v5 w5 r1 r2 r3 r4; have HN5 := Aside0.mk r1; have HB5 := Aside0.mk r2; clear r1 r2 r3 r4))
      refine bodyPost_ret (results_tmp rfl _ _ _) rfl ?_
      exact ⟨v5, rfl, by rw [HP1.out, ← List.append_assoc]; exact HN5.out, HB5.out⟩
end Go.Proofs.Ytihdomhiiolojaa.P
