/- slices.Clone, bytes.Equal and what a store of an Agg makes. (Turned from the texts of the seat merge.) No conditions. -/
import Derived.Test.YteomanpaladdjaaPx0
import Derived.Test.YteomanpaladdjaaSkBase
import Derived.Lib.SliceRun
namespace Go.Proofs.Yteomanpaladdjaa.P
open Go.RowKit Go.Proofs.YteomanpaladdjaaW.PrintWords Go.Proofs.YteomanpaladdjaaW.PrintLast Go.Proofs.YteomanpaladdjaaW.PrintMore
attribute [local go_sem] max2_int min2_int max_two min_two max_three min_three max_four min_four   -- for this text's walks alone
set_option linter.unusedVariables false
set_option linter.unusedSimpArgs false

/-! ### bytes_Equal: function 31 -/
def bytes_Equal.f (l0 : List Int) (l1 : List Int) : Option (Bool) := some ((strOfNums l0).toList == (strOfNums l1).toList)
set_option maxHeartbeats 8000000 in
set_option maxRecDepth 100000 in
theorem bytes_Equal.calls (A0 : Option Addr) (c0 : Nat) (l0 : List Int) (A1 : Option Addr) (c1 : Nat) (l1 : List Int) (r : Bool) (w : World) (hr0 : Kd.C (Kd.int .u8) w A0 l0.length l0) (hc0 : l0.length ≤ c0) (hr1 : Kd.C (Kd.int .u8) w A1 l1.length l1) (hc1 : l1.length ≤ c1) (h : bytes_Equal.f l0 l1 = some r) :
    Calls Try.prog 31 #[.slice A0 l0.length c0, .slice A1 l1.length c1] w fun e w' => e = .returned (.bool r) ∧ Drawn0 w w' := by
  have HR0 := Aside0.mk hr0
  have HC0 := Aside0.mk hc0
  clear hr0 hc0
  have HR1 := Aside0.mk hr1
  have HC1 := Aside0.mk hc1
  clear hr1 hc1
  have H : (some ((strOfNums l0).toList == (strOfNums l1).toList)) = some r := h
  clear h
  obtain rfl := Option.some.inj H
  have hcv3 := Kd.C_string (P := Try.prog) (A := A0) (c := c0) Try.underlying23 Try.underlying5 Try.underlying9 HR0.out
  have hcv3n := fun n_ : Nat => Kd.C_string (P := Try.prog) (A := A0) (c := c0) Try.underlying23 Try.underlying5 Try.underlying9 (Kd.C_drewN HR0.out n_)
  (try simp only [World.drewN_drewN] at hcv3n)
  have hcv4 := Kd.C_string (P := Try.prog) (A := A1) (c := c1) Try.underlying23 Try.underlying5 Try.underlying9 HR1.out
  have hcv4n := fun n_ : Nat => Kd.C_string (P := Try.prog) (A := A1) (c := c1) Try.underlying23 Try.underlying5 Try.underlying9 (Kd.C_drewN HR1.out n_)
  (try simp only [World.drewN_drewN] at hcv4n)
  go_enter Try.func31, Try.ntmps31
  go_wp2
  go_ret
  exact ⟨by first | rfl | (simp; done) | (simp [*]; done), by repeat (first | exact Drawn0.refl _ | apply Drawn0.step)⟩

end Go.Proofs.Yteomanpaladdjaa.P
namespace Go.Proofs.Yteomanpaladdjaa.P
open Go.RowKit Go.Proofs.YteomanpaladdjaaW.PrintWords Go.Proofs.YteomanpaladdjaaW.PrintLast Go.Proofs.YteomanpaladdjaaW.PrintMore
set_option linter.unusedVariables false
set_option linter.unusedSimpArgs false
theorem info_u8c : (Try.prog.info? 5).map (fun i => (i.zero, i.size, i.bytes)) = some (some (.int .u8 0), 1, 1) := by kernel_rfl
def slices_Clone_byte_byte.f (l0 : List Int) : Option (List Int) := if l0.length < 140737488355328 then some l0 else none
set_option maxHeartbeats 1000000 in
set_option maxRecDepth 100000 in
theorem slices_Clone_byte_byte.calls (A0 : Option Addr) (c0 : Nat) (l0 : List Int) (r : List Int) (w : World) (hr0 : Kd.C (Kd.int .u8) w A0 l0.length l0) (hc0 : l0.length ≤ c0) (h : slices_Clone_byte_byte.f l0 = some r) :
    Calls Try.prog 34 #[.slice A0 l0.length c0] w fun e w' => ∃ v0_ : Value, e = .returned (v0_) ∧ Kd.R (Kd.int .u8) 5 w' w.heap.size (fun _ => True) v0_ r ∧ Below w.heap.size w w' := by
  have HR0 := Aside0.mk hr0
  have HC0 := Aside0.mk hc0
  have hnil := fun w => Lib.run_eql_slice_nil (P := Try.prog) w 23 5 A0 l0.length c0 0 0 Try.underlying23
  unfold slices_Clone_byte_byte.f at h
  by_cases hl : l0.length < 140737488355328
  · rw [if_pos hl] at h
    obtain rfl := Option.some.inj h
    have LM := Aside0.mk hl
    have hz : A0 = none → l0 = [] := fun e => by
      cases l0 with
      | nil => rfl
      | cons x l =>
        obtain ⟨_, _, hh⟩ := hr0
        obtain ⟨ad, e', _⟩ := hh (by simp)
        rw [e] at e'; cases e'
    have HZ := Aside0.mk hz
    have HB := Aside0.mk (Below.refl w.heap.size w)
    clear hz hr0 hc0 h hl
    cases A0 with
    | none =>
      have hn : (none : Option Addr).isNone = true := rfl
      rw [hn] at hnil
      go_enter Try.func34, Try.ntmps34
      go_wp2
      go_ret
      exact ⟨_, rfl, by rw [HZ.out trivial]; exact Kd.R_nil _ _ _ _ _, Below.refl _ _⟩
    | some a =>
      have hn : (some a : Option Addr).isNone = false := rfl
      rw [hn] at hnil
      go_enter Try.func34, Try.ntmps34
      go_wp2_with (first | ((with_reducible refine gate_dst (N := 5) rfl ?_); refine Kd.R_lit (Kd.int .u8) w.heap.size 5 ?hg (N := 5) ?hd (xs := ([] : List Int)) (inner := []) (ok := fun _ => True) (okp := fun _ => True) ?hr ?hp (fun _ hk => hk) trivial (Below.refl _ _) (Nat.le_refl _) (by simp) ?_; (case hd => rfl); (case hg => rfl); (case hr => first | (go_simp; done) | (go_simp; rfl)); (case hp => exact Reps.none _ _); intro v1 w1 ho hb hg_ hnew_; clear hg_ hnew_; have HO1 := Aside0.mk ho; have HB1 := Aside0.mk hb; clear ho hb) | ((with_reducible refine gate_builtin (b := .append) (xs := #[.tmp 5, .tmp 6]) rfl ?_); at_builtin; refine Kd.R_append_rows (Kd.int .u8) (w0 := w) w.heap.size rfl (.tmp 5) (.tmp 6) 23 5 (.int .u8 0) 1 rfl Try.underlying23 info_u8c rfl (by decide) (by omega) _ ([] : List Int) l0 _ _ _ (fun _ => True) (fun _ => False) rfl rfl ?aO ?aR (fun _ _ h => h) (fun _ h => h.elim) ?aF ?aB ?aS ?aL ?_; (case aR => exact Kd.C_below HR0.out HB1.out); (case aB => exact HB1.out); (case aF => exact (fun _ _ => trivial)); (case aO => exact HO1.out); (case aS => exact HB1.out.size); (case aL => have := LM.out; simp; omega); intro v2 w2 ho hb hg hat; have HO2 := Aside0.mk ho; have HB2 := Aside0.mk hb; clear ho hb hg hat))
      go_ret
      exact ⟨_, rfl, HO2.out, HB2.out⟩
  · rw [if_neg hl] at h
    exact absurd h (by simp)
theorem blkN1 (w : World) (o1 o : Obj) : ((w.alloc o1).alloc o).heap[w.heap.size + 1]? = some o := by
  have h := blk_new (w.alloc o1) o
  rwa [World.size_alloc] at h
abbrev zEn : Value := .agg #[.slice none 0 0, .int .u64 0, .bool false, .int .i64 0, .int .u64 0, .int .i64 0, .int .i64 0]
theorem cell_set_far {w : World} {p a : Addr} {u v : Value} (h : w.cell? a = some v) (hn : a.block ≠ p.block) : (w.setCell p u).cell? a = some v := (World.cell?_of_block (Below.heap_setCell w p u a.block hn)).trans h
theorem eq_quiet {A0 : Option Addr} {c0 : Nat} {l0 : List Int} {A1 : Option Addr} {c1 : Nat} {l1 : List Int} {w : World} (hr0 : Kd.C (Kd.int .u8) w A0 l0.length l0) (hc0 : l0.length ≤ c0) (hr1 : Kd.C (Kd.int .u8) w A1 l1.length l1) (hc1 : l1.length ≤ c1) (n : Nat) :
    Calls Try.prog 31 #[.slice A0 l0.length c0, .slice A1 l1.length c1] (w.drewN n) fun e w'' => e = .returned (.bool (decide (cmpI l0 l1 = 0))) ∧ ∃ m, w'' = w.drewN m := by
  refine Calls.quiet_of ?_
  refine (bytes_Equal.calls A0 c0 l0 A1 c1 l1 (decide (cmpI l0 l1 = 0)) (w.drewN n) (Kd.C_below hr0 (pw_below_drewN (Below.refl _ _) n)) hc0 (Kd.C_below hr1 (pw_below_drewN (Below.refl _ _) n)) hc1 (by unfold bytes_Equal.f; rw [str_beq])).mono ?_
  rintro e w' ⟨rfl, hd⟩
  exact ⟨rfl, hd.out⟩
theorem block_of_cell' {w : World} {a : Addr} {v : Value} (h : w.cell? a = some v) : a.block < w.heap.size := by
  by_cases hl : a.block < w.heap.size
  · exact hl
  · have : w.heap[a.block]? = none := Array.getElem?_eq_none (by omega)
    simp [World.cell?, this] at h
theorem cell_bl' {w C : World} {a : Addr} {v : Value} (h : w.cell? a = some v) (hb : Below w.heap.size w C) : C.cell? a = some v := (World.cell?_of_block (hb.block _ (block_of_cell' h))).trans h
abbrev SnA (W' : World) (gx : Nat) (a : Addr) (x y : Ag) : Prop := W'.cell? ⟨a.block, a.off + 1, none⟩ = some (.int .u64 y.f0) ∧ W'.cell? ⟨a.block, a.off + 2, none⟩ = some (.bool y.f1) ∧ W'.cell? ⟨a.block, a.off + 3, none⟩ = some (.int .i64 y.f2.f0) ∧ W'.cell? ⟨a.block, a.off + 4, none⟩ = some (.int .u64 y.f2.f1) ∧ W'.cell? ⟨a.block, a.off + 5, none⟩ = some (.int .i64 y.f3) ∧ W'.cell? ⟨a.block, a.off + 6, none⟩ = some (.int .i64 y.f4) ∧
  W'.cell? ⟨gx, 1, none⟩ = some (.int .u64 x.f0) ∧ W'.cell? ⟨gx, 2, none⟩ = some (.bool x.f1) ∧ W'.cell? ⟨gx, 3, none⟩ = some (.int .i64 x.f2.f0) ∧ W'.cell? ⟨gx, 4, none⟩ = some (.int .u64 x.f2.f1) ∧ W'.cell? ⟨gx, 5, none⟩ = some (.int .i64 x.f3) ∧ W'.cell? ⟨gx, 6, none⟩ = some (.int .i64 x.f4)
theorem SnA.below {W W' : World} {gx : Nat} {a : Addr} {x y : Ag} (h : SnA W gx a x y) (hb : Below W.heap.size W W') : SnA W' gx a x y := by
  obtain ⟨h1, h2, h3, h4, h5, h6, h7, h8, h9, h10, h11, h12⟩ := h
  exact ⟨cell_bl' h1 hb, cell_bl' h2 hb, cell_bl' h3 hb, cell_bl' h4 hb, cell_bl' h5 hb, cell_bl' h6 hb, cell_bl' h7 hb, cell_bl' h8 hb, cell_bl' h9 hb, cell_bl' h10 hb, cell_bl' h11 hb, cell_bl' h12 hb⟩
abbrev stA (W : World) (a : Addr) (z : Ag) : World := (((((W.setCell ⟨a.block, a.off + 1, none⟩ (.int .u64 z.f0)).setCell ⟨a.block, a.off + 1 + 1, none⟩ (.bool z.f1)).setCell ⟨a.block, a.off + 1 + 2, none⟩ (.int .i64 z.f2.f0)).setCell ⟨a.block, a.off + 1 + 3, none⟩ (.int .u64 z.f2.f1)).setCell ⟨a.block, a.off + 1 + 4, none⟩ (.int .i64 z.f3)).setCell ⟨a.block, a.off + 1 + 5, none⟩ (.int .i64 z.f4)
end Go.Proofs.Yteomanpaladdjaa.P
