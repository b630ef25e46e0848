/- slices.Clone at []byte: the clone is a row of the call's own with the same bytes. No conditions. -/
import Derived.Test.YtihdomhiiolojaaPx0
import Derived.Lib.SliceRun
import Derived.Test.YtihdomhiiolojaaMgNew
import Derived.Test.YtihdomhiiolojaaMgHeap
namespace Go.Proofs.Ytihdomhiiolojaa.P
open Go.RowKit Go.Proofs.YtihdomhiiolojaaW.PrintWords Go.Proofs.YtihdomhiiolojaaW.PrintLast Go.Proofs.YtihdomhiiolojaaW.PrintMore
set_option linter.unusedVariables false
set_option linter.unusedSimpArgs false

theorem info_u8c : (Try.prog.info? 5).map (fun i => (i.zero, i.size, i.bytes)) = some (some (.int .u8 0), 1, 1) := by kernel_rfl
def slices_Clone_byte_byte.f (l0 : List Int) : Option (List Int) := if l0.length < 140737488355328 then some l0 else none

set_option maxHeartbeats 1000000 in
set_option maxRecDepth 100000 in
theorem slices_Clone_byte_byte.calls (A0 : Option Addr) (c0 : Nat) (l0 : List Int) (r : List Int) (w : World) (hr0 : Kd.C (Kd.int .u8) w A0 l0.length l0) (hc0 : l0.length ≤ c0) (h : slices_Clone_byte_byte.f l0 = some r) :
    Calls Try.prog 23 #[.slice A0 l0.length c0] w fun e w' => ∃ v0_ : Value, e = .returned (v0_) ∧ Kd.R (Kd.int .u8) 5 w' w.heap.size (fun _ => True) v0_ r ∧ Below w.heap.size w w' := by
  have HR0 := Aside0.mk hr0
  have HC0 := Aside0.mk hc0
  have hnil := fun w => Lib.run_eql_slice_nil (P := Try.prog) w 34 5 A0 l0.length c0 0 0 Try.underlying34
  unfold slices_Clone_byte_byte.f at h
  by_cases hl : l0.length < 140737488355328
  · rw [if_pos hl] at h
    obtain rfl := Option.some.inj h
    have LM := Aside0.mk hl
    have hz : A0 = none → l0 = [] := fun e => by
      cases l0 with
      | nil => rfl
      | cons x l =>
        obtain ⟨_, _, hh⟩ := hr0
        obtain ⟨ad, e', _⟩ := hh (by simp)
        rw [e] at e'; cases e'
    have HZ := Aside0.mk hz
    have HB := Aside0.mk (Below.refl w.heap.size w)
    clear hz hr0 hc0 h hl
    cases A0 with
    | none =>
      have hn : (none : Option Addr).isNone = true := rfl
      rw [hn] at hnil
      go_enter Try.func23, Try.ntmps23
      go_wp2
      go_ret
      exact ⟨_, rfl, by rw [HZ.out trivial]; exact Kd.R_nil _ _ _ _ _, Below.refl _ _⟩
    | some a =>
      have hn : (some a : Option Addr).isNone = false := rfl
      rw [hn] at hnil
      go_enter Try.func23, Try.ntmps23
      go_wp2_with (first | ((with_reducible refine gate_dst (N := 5) rfl ?_); refine Kd.R_lit (Kd.int .u8) w.heap.size 5 ?hg (N := 5) ?hd (xs := ([] : List Int)) (inner := []) (ok := fun _ => True) (okp := fun _ => True) ?hr ?hp (fun _ hk => hk) trivial (Below.refl _ _) (Nat.le_refl _) (by simp) ?_; (case hd => rfl); (case hg => rfl); (case hr => first | (go_simp; done) | (go_simp; rfl)); (case hp => exact Reps.none _ _); intro v1 w1 ho hb hg_ hnew_; clear hg_ hnew_; have HO1 := Aside0.mk ho; have HB1 := Aside0.mk hb; clear ho hb) | ((with_reducible refine gate_builtin (b := .append) (xs := #[.tmp 5, .tmp 6]) rfl ?_); at_builtin; refine Kd.R_append_rows (Kd.int .u8) (w0 := w) w.heap.size rfl (.tmp 5) (.tmp 6) 34 5 (.int .u8 0) 1 rfl Try.underlying34 info_u8c rfl (by decide) (by omega) _ ([] : List Int) l0 _ _ _ (fun _ => True) (fun _ => False) rfl rfl ?aO ?aR (fun _ _ h => h) (fun _ h => h.elim) ?aF ?aB ?aS ?aL ?_; (case aR => exact Kd.C_below HR0.out HB1.out); (case aB => exact HB1.out); (case aF => exact (fun _ _ => trivial)); (case aO => exact HO1.out); (case aS => exact HB1.out.size); (case aL => have := LM.out; simp; omega); intro v2 w2 ho hb hg hat; have HO2 := Aside0.mk ho; have HB2 := Aside0.mk hb; clear ho hb hg hat))
      go_ret
      exact ⟨_, rfl, HO2.out, HB2.out⟩
  · rw [if_neg hl] at h
    exact absurd h (by simp)

end Go.Proofs.Ytihdomhiiolojaa.P

namespace Go.Proofs.Ytihdomhiiolojaa.P
open Go.RowKit Go.Proofs.YtihdomhiiolojaaW.PrintWords Go.Proofs.YtihdomhiiolojaaW.PrintLast Go.Proofs.YtihdomhiiolojaaW.PrintMore
set_option linter.unusedVariables false
set_option linter.unusedSimpArgs false

theorem blkN1 (w : World) (o1 o : Obj) : ((w.alloc o1).alloc o).heap[w.heap.size + 1]? = some o := by
  have h := blk_new (w.alloc o1) o
  rwa [World.size_alloc] at h
abbrev zEn : Value := .agg #[.slice none 0 0, .int .u64 0, .bool false, .int .i64 0, .int .u64 0, .int .i64 0, .int .i64 0]
set_option maxHeartbeats 2000000 in
/-- Of no heap nothing is told. -/
theorem Next_none (w : World) : Calls Try.prog 14 #[.pointer none] w fun e w' => e = .returned (.tuple #[zEn, .int .i64 0, .bool false]) ∧ Below w.heap.size w w' := by
  have hu2 := Try.underlying50
  have hu := Try.underlying41
  have hu3 := Try.underlying39
  go_enter Try.func14, Try.ntmps14
  go_wp2
  refine bodyPost_ret (results_ctt rfl _ _ w.heap.size 41 #[.slice none 0 0, .int .u64 0, .bool false, .int .i64 0, .int .u64 0, .int .i64 0, .int .i64 0] (0, 0) _ rfl (blk_new w _) Try.underlying41 rfl (by kernel_rfl)) rfl ?_
  exact ⟨rfl, (Below.refl _ _).alloc (Nat.le_refl _) _⟩
set_option maxHeartbeats 2000000 in
theorem Next_empty (g : Nat) (A : Option Addr) (cap : Nat) (w : World) (hH : w.heap[g]? = some (.cells #[.slice A 0 cap] 50 (0, 0))) :
    Calls Try.prog 14 #[.pointer (some ⟨g, 0, none⟩)] w fun e w' => e = .returned (.tuple #[zEn, .int .i64 0, .bool false]) ∧ Below w.heap.size w w' := by
  have hhead : w.cell? ⟨g, 0, none⟩ = some (.slice A 0 cap) := (blk_cell hH 0).trans rfl
  have hu2 := Try.underlying50
  have hu := Try.underlying41
  have hu3 := Try.underlying39
  have hha : ∀ o : Obj, (w.alloc o).cell? ⟨g, 0, none⟩ = some (.slice A 0 cap) := fun o => cell_bl' hhead ((Below.refl w.heap.size w).alloc (Nat.le_refl _) o)
  clear hH
  go_enter Try.func14, Try.ntmps14
  go_wp2
  refine bodyPost_ret (results_ctt rfl _ _ w.heap.size 41 #[.slice none 0 0, .int .u64 0, .bool false, .int .i64 0, .int .u64 0, .int .i64 0, .int .i64 0] (0, 0) _ rfl (blk_new w _) Try.underlying41 rfl (by kernel_rfl)) rfl ?_
  exact ⟨rfl, (Below.refl _ _).alloc (Nat.le_refl _) _⟩
theorem cell_set_far {w : World} {p a : Addr} {u v : Value} (h : w.cell? a = some v) (hn : a.block ≠ p.block) : (w.setCell p u).cell? a = some v := (World.cell?_of_block (Below.heap_setCell w p u a.block hn)).trans h
abbrev SnE (W' : World) (gx : Nat) (ad : Addr) (f : Fr) (x : En) (B : Option Addr) (d : Nat) : Prop := W'.cell? ⟨gx, 0, none⟩ = some (.slice (some ad) f.l.length f.c) ∧ W'.cell? ⟨gx, 1, none⟩ = some (.int .i64 (f.p : Int)) ∧ W'.cell? ad = some (.slice B x.f0.length d) ∧ W'.cell? ⟨ad.block, ad.off + 1, none⟩ = some (.int .u64 x.f1.f0) ∧ W'.cell? ⟨ad.block, ad.off + 2, none⟩ = some (.bool x.f1.f1) ∧ W'.cell? ⟨ad.block, ad.off + 3, none⟩ = some (.int .i64 x.f1.f2.f0) ∧ W'.cell? ⟨ad.block, ad.off + 4, none⟩ = some (.int .u64 x.f1.f2.f1) ∧ W'.cell? ⟨ad.block, ad.off + 5, none⟩ = some (.int .i64 x.f1.f3) ∧ W'.cell? ⟨ad.block, ad.off + 6, none⟩ = some (.int .i64 x.f1.f4)
abbrev stE (W : World) (g : Nat) (A : Option Addr) (c n : Nat) (y : S39) : World :=
  ((((((W.setCell ⟨g, 0, none⟩ (.slice A n c)).setCell ⟨g, 1, none⟩ (.int .u64 y.f0)).setCell ⟨g, 2, none⟩ (.bool y.f1)).setCell ⟨g, 3, none⟩ (.int .i64 y.f2.f0)).setCell ⟨g, 4, none⟩ (.int .u64 y.f2.f1)).setCell ⟨g, 5, none⟩ (.int .i64 y.f3)).setCell ⟨g, 6, none⟩ (.int .i64 y.f4)
theorem stE_far {W : World} {g : Nat} {A : Option Addr} {c n : Nat} {y : S39} {a : Addr} {v : Value} (h : W.cell? a = some v) (hn : a.block ≠ g) : (stE W g A c n y).cell? a = some v := by
  have h0 := cell_set_far (p := ⟨g, 0, none⟩) (u := .slice A n c) h hn
  have h1 := cell_set_far (p := ⟨g, 1, none⟩) (u := .int .u64 y.f0) h0 hn
  have h2 := cell_set_far (p := ⟨g, 2, none⟩) (u := .bool y.f1) h1 hn
  have h3 := cell_set_far (p := ⟨g, 3, none⟩) (u := .int .i64 y.f2.f0) h2 hn
  have h4 := cell_set_far (p := ⟨g, 4, none⟩) (u := .int .u64 y.f2.f1) h3 hn
  have h5 := cell_set_far (p := ⟨g, 5, none⟩) (u := .int .i64 y.f3) h4 hn
  exact cell_set_far (p := ⟨g, 6, none⟩) (u := .int .i64 y.f4) h5 hn
theorem snE_st {W : World} {gx g2 : Nat} {ad : Addr} {f : Fr} {x : En} {B : Option Addr} {d : Nat} (h : SnE W gx ad f x B d) (h1 : gx ≠ g2) (h2 : ad.block ≠ g2) (A : Option Addr) (c n : Nat) (y : S39) : SnE (stE W g2 A c n y) gx ad f x B d :=
  ⟨stE_far h.1 h1, stE_far h.2.1 h1, stE_far h.2.2.1 h2, stE_far h.2.2.2.1 h2, stE_far h.2.2.2.2.1 h2, stE_far h.2.2.2.2.2.1 h2, stE_far h.2.2.2.2.2.2.1 h2, stE_far h.2.2.2.2.2.2.2.1 h2, stE_far h.2.2.2.2.2.2.2.2 h2⟩
/-- What is neither a heap nor a front lies as it lay. -/
def Kp (A B : World) : Prop := ∀ (k : Nat) (cs : Array Value) (t : TypeId) (fr : Nat × Nat), A.heap[k]? = some (Obj.cells cs t fr) → t ≠ 56 → t ≠ 50 → B.heap[k]? = A.heap[k]?
theorem Kp.of_below {A B : World} (h : Below A.heap.size A B) : Kp A B := fun k cs t fr hk _ _ => h.block k (Array.getElem?_eq_some_iff.1 hk).1
theorem Kp.trans {A B C : World} (h1 : Kp A B) (h2 : Kp B C) : Kp A C := fun k cs t fr hk n1 n2 => (h2 k cs t fr ((h1 k cs t fr hk n1 n2).trans hk) n1 n2).trans (h1 k cs t fr hk n1 n2)
/-- As HpS, the fronts at block b. -/
structure HpB (w0 W : World) (g b : Nat) (F : List Fr) : Prop where
  be : Below w0.heap.size w0 W
  gt : w0.heap.size ≤ g
  bt : w0.heap.size ≤ b
  ro : RowsOk w0 F
  st : (F = [] ∧ ∃ A cap, W.heap[g]? = some (.cells #[.slice A 0 cap] 50 (0, 0))) ∨ (F ≠ [] ∧ ∃ cap J, Hp W g b cap F J)
theorem HpB.s {w W : World} {g b : Nat} {F : List Fr} (h : HpB w W g b F) : HpS w W g F := by
  refine ⟨h.be, h.gt, h.ro, ?_⟩
  rcases h.st with h1 | ⟨h1, cap, J, h2⟩
  · exact .inl h1
  · exact .inr ⟨h1, b, cap, J, h.bt, h2⟩
theorem HpB.drewd {w W W' : World} {g b : Nat} {F : List Fr} (h : HpB w W g b F) (hb : Below W.heap.size W W') : HpB w W' g b F := by
  refine ⟨h.be.trans (hb.mono h.be.size), h.gt, h.bt, h.ro, ?_⟩
  rcases h.st with ⟨h1, A, cap, h2⟩ | ⟨h1, cap, J, h3⟩
  · exact .inl ⟨h1, A, cap, (hb.block _ (Array.getElem?_eq_some_iff.1 h2).1).trans h2⟩
  · exact .inr ⟨h1, cap, J, h3.below hb⟩
theorem sinkB {w W : World} {g b : Nat} {F : List Fr} (h : HpB w W g b F) (a : Nat) (ha : a < F.length ∨ F.length = 0 ∧ a = 0) (hn : F.length ≤ 1000000000) :
    Calls Try.prog 21 #[.pointer (some ⟨g, 0, none⟩), .int .i64 (a : Int)] W fun e w' => (∃ v, e = .returned v) ∧ HpB w w' g b (sinkL (F.length + 1) F a) ∧ Kp W w' ∧ W.heap.size ≤ w'.heap.size ∧ ∀ k, k < W.heap.size → k ≠ b → w'.heap[k]? = W.heap[k]? := by
  rcases h.st with ⟨rfl, A, cap, h2⟩ | ⟨h1, cap, J, h3⟩
  · obtain rfl : a = 0 := by rcases ha with ha | ha; exact absurd ha (Nat.not_lt_zero _); exact ha.2
    refine (sink_nil g A cap W h2).mono ?_
    rintro e w' ⟨he, hd⟩
    exact ⟨he, h.drewd hd.below, Kp.of_below hd.below, hd.below.size, fun k hk _ => hd.below.block k hk⟩
  · have hl : 0 < F.length := List.length_pos_iff.2 h1
    refine (sink_calls w g b cap F J a W h3 h.be h.gt h.bt h.ro (by omega) hn).mono ?_
    rintro e w' ⟨he, hs⟩
    refine ⟨he, ⟨hs.2.1, h.gt, h.bt, fun f hf => h.ro f (mem_sinkL hf), .inr ⟨List.length_pos_iff.1 (by rw [sinkL_len]; exact hl), cap, J, hs.1⟩⟩, fun k cs t fr hk n1 n2 => hs.2.2.2 k (Array.getElem?_eq_some_iff.1 hk).1 ?_, hs.2.2.1, hs.2.2.2⟩
    rintro rfl
    have := hk.symm.trans h3.fr
    injection this with this
    injection this with _ ht
    exact n1 ht
theorem rest_one {w V : World} {g b cap : Nat} {f : Fr} {F : List Fr} {J : List Value} (hV : Hp V g b cap (f :: F) J) (hw : Below w.heap.size w V) (hg : w.heap.size ≤ g) (hb : w.heap.size ≤ b) (hR : RowsOk w (f :: F)) (h1 : 1 < f.l.length) {A' : Option Addr} {c' n1 : Nat}
    (hA : (if f.c = (1 : Int).toNat then f.A else f.A.map (·.add ((1 : Int).toNat * 7))) = A' ∧ f.l.length - (1 : Int).toNat = n1 ∧ f.c - (1 : Int).toNat = c') : HpB w (V.setCell ⟨b, 0, none⟩ (.slice A' n1 c')) g b (restF A' c' f F) := by
  obtain ⟨rfl, hn, rfl⟩ := hA
  have hfm := hR f (List.mem_cons_self ..)
  unfold restF
  rw [if_pos h1]
  refine ⟨hw.setCell hb _, hg, hb, ?_, .inr ⟨by simp, cap, J, ?_, ?_, hV.le⟩⟩
  · intro x hx
    rcases List.mem_cons.1 hx with rfl | hx
    · refine ⟨fun e => ?_, ?_, fun X hX => ?_⟩
      · have := congrArg List.length e
        rw [List.length_tail, List.length_nil] at this
        omega
      · show f.l.tail.length ≤ f.c - 1
        rw [List.length_tail]
        have := hfm.2.1
        omega
      · have := Kd.C_drop (m := 1) (hfm.2.2 X hX) (by omega) hfm.2.1
        rw [List.drop_one] at this
        exact this
    · exact hR x (List.mem_cons_of_mem _ hx)
  · exact blk_far hV.hp hV.ne _
  · refine (blk_set hV.fr 0 _).trans ?_
    rw [← hn]
    have e : f.l.tail.length = f.l.length - (1 : Int).toNat := List.length_tail
    show some (Obj.cells ((Value.slice f.A f.l.length f.c :: .int .i64 (f.p : Int) :: (cellsF F ++ J)).toArray.setIfInBounds 0 _) _ _) = some (Obj.cells (Value.slice _ f.l.tail.length _ :: .int .i64 (f.p : Int) :: (cellsF F ++ J)).toArray _ _)
    rw [e, List.setIfInBounds_toArray]
    rfl
theorem at_lit {A : World} {g b cap : Nat} {F : List Fr} {J : List Value} (h : Hp A g b cap F J) {i : Nat} {f : Fr} (hf : F[i]? = some f) : A.cell? ⟨b, i * 2, none⟩ = some (.slice f.A f.l.length f.c) ∧ A.cell? ⟨b, i * 2 + 1, none⟩ = some (.int .i64 (f.p : Int)) := by
  have hc := cellsF_at J hf
  exact ⟨(blk_cell h.fr _).trans (by simpa using hc.1), (blk_cell h.fr _).trans (by simpa using hc.2)⟩
theorem put_lit {A : World} {g b cap : Nat} {f : Fr} {F : List Fr} {J : List Value} (h : Hp A g b cap (f :: F) J) (y : Fr) : Hp ((A.setCell ⟨b, 0, none⟩ (.slice y.A y.l.length y.c)).setCell ⟨b, 1, none⟩ (.int .i64 (y.p : Int))) g b cap ((f :: F).set 0 y) J := by
  have := h.put (i := 0) (by simp) y (ad := ⟨b, 0, none⟩) rfl
  rw [add_mk] at this
  exact this
theorem cellsF_app : ∀ (F G : List Fr), cellsF (F ++ G) = cellsF F ++ cellsF G
  | [], G => rfl
  | f :: F, G => by rw [List.cons_append, cellsF, cellsF, cellsF_app F G]; rfl
theorem rest_last {w V : World} {g b cap : Nat} {f y : Fr} {F : List Fr} {J : List Value} (hV : Hp V g b cap (f :: F) J) (hw : Below w.heap.size w V) (hg : w.heap.size ≤ g) (hb : w.heap.size ≤ b) (hR : RowsOk w (f :: F)) (h1 : ¬ 1 < f.l.length) (hy : (f :: F)[F.length]? = some y) (A' : Option Addr) (c' : Nat) :
    HpB w ((((V.setCell ⟨b, 0, none⟩ (.slice y.A y.l.length y.c)).setCell ⟨b, 1, none⟩ (.int .i64 (y.p : Int)))).setCell ⟨g, 0, none⟩ (.slice (some ⟨b, 0, none⟩) F.length cap)) g b (restF A' c' f F) := by
  have hbe : Below w.heap.size w ((((V.setCell ⟨b, 0, none⟩ (.slice y.A y.l.length y.c)).setCell ⟨b, 1, none⟩ (.int .i64 (y.p : Int)))).setCell ⟨g, 0, none⟩ (.slice (some ⟨b, 0, none⟩) F.length cap)) := ((hw.setCell hb _).setCell hb _).setCell hg _
  have hgc : ((((V.setCell ⟨b, 0, none⟩ (.slice y.A y.l.length y.c)).setCell ⟨b, 1, none⟩ (.int .i64 (y.p : Int)))).setCell ⟨g, 0, none⟩ (.slice (some ⟨b, 0, none⟩) F.length cap)).heap[g]? = some (.cells #[.slice (some ⟨b, 0, none⟩) F.length cap] 50 (0, 0)) :=
    (blk_set (blk_far (blk_far hV.hp hV.ne _) hV.ne _) 0 _).trans rfl
  have hbc := blk_far (blk_set (blk_set hV.fr 0 (.slice y.A y.l.length y.c)) 1 (.int .i64 (y.p : Int))) (p := ⟨g, 0, none⟩) hV.ne.symm (.slice (some ⟨b, 0, none⟩) F.length cap)
  unfold restF
  rw [if_neg h1]
  cases hF : F.getLast? with
  | none =>
    have : F = [] := by simpa using hF
    subst this
    exact ⟨hbe, hg, hb, fun x hx => by simp at hx, .inl ⟨rfl, _, _, hgc⟩⟩
  | some z =>
    have hne : F ≠ [] := by rintro rfl; simp at hF
    have hl : 0 < F.length := List.length_pos_iff.2 hne
    have hzy : z = y := by
      obtain ⟨k, hk⟩ : ∃ k, F.length = k + 1 := ⟨F.length - 1, by omega⟩
      rw [List.getLast?_eq_getElem?, hk] at hF
      rw [hk, List.getElem?_cons_succ] at hy
      exact Option.some.inj (hF.symm.trans hy)
    subst hzy
    have e : F = F.dropLast ++ [z] := by
      have := List.dropLast_concat_getLast hne
      rw [List.getLast?_eq_some_getLast hne] at hF
      rw [← Option.some.inj hF]; exact this.symm
    have hm : ∀ x, x ∈ z :: F.dropLast → x ∈ f :: F := by
      intro x hx
      rcases List.mem_cons.1 hx with rfl | hx
      · exact List.mem_cons_of_mem _ (by rw [e]; simp)
      · exact List.mem_cons_of_mem _ (List.dropLast_subset F hx)
    have hln : (z :: F.dropLast).length = F.length := by rw [List.length_cons, List.length_dropLast]; omega
    refine ⟨hbe, hg, hb, fun x hx => hR x (hm x hx), .inr ⟨by simp, cap, cellsF [z] ++ J, ?_, ?_, by rw [hln]; have := hV.le; rw [List.length_cons] at this; omega⟩⟩
    · rw [hln]; exact hgc
    · refine hbc.trans ?_
      rw [List.setIfInBounds_toArray, List.setIfInBounds_toArray]
      have e2 : cellsF (z :: F.dropLast) ++ (cellsF [z] ++ J) = .slice z.A z.l.length z.c :: .int .i64 (z.p : Int) :: (cellsF F ++ J) := by
        conv => rhs; rw [e, cellsF_app]
        rw [cellsF, List.cons_append, List.cons_append, List.append_assoc]
      rw [e2]
      rfl
theorem restF_le (A' : Option Addr) (c' : Nat) (f : Fr) (F : List Fr) : (restF A' c' f F).length ≤ (f :: F).length := by
  unfold restF
  split
  · simp
  · split
    · rw [List.length_cons, List.length_dropLast, List.length_cons]; omega
    · simp
theorem Kp.set {A B : World} {g b cap : Nat} {F : List Fr} {J : List Value} (h : Kp A B) (hH : Hp A g b cap F J) (j : Nat) (u : Value) : Kp A (B.setCell ⟨b, j, none⟩ u) := fun k cs t fr hk n1 n2 => by
  refine (Below.heap_setCell _ _ _ _ ?_).trans (h k cs t fr hk n1 n2)
  rintro rfl
  have := hk.symm.trans hH.fr
  injection this with this
  injection this with _ ht
  exact n1 ht
theorem Kp.set2 {A B : World} {g b cap : Nat} {F : List Fr} {J : List Value} (h : Kp A B) (hH : Hp A g b cap F J) (j : Nat) (u : Value) : Kp A (B.setCell ⟨g, j, none⟩ u) := fun k cs t fr hk n1 n2 => by
  refine (Below.heap_setCell _ _ _ _ ?_).trans (h k cs t fr hk n1 n2)
  rintro rfl
  have := hk.symm.trans hH.hp
  injection this with this
  injection this with _ ht
  exact n2 ht
theorem stE_blk {W : World} {g : Nat} {A : Option Addr} {c n : Nat} {y : S39} (h : W.heap[g]? = some (.cells #[.slice none 0 0, .int .u64 0, .bool false, .int .i64 0, .int .u64 0, .int .i64 0, .int .i64 0] 41 (0, 0))) :
    (stE W g A c n y).heap[g]? = some (.cells #[.slice A n c, .int .u64 y.f0, .bool y.f1, .int .i64 y.f2.f0, .int .u64 y.f2.f1, .int .i64 y.f3, .int .i64 y.f4] 41 (0, 0)) :=
  (blk_set (blk_set (blk_set (blk_set (blk_set (blk_set (blk_set h 0 _) 1 _) 2 _) 3 _) 4 _) 5 _) 6 _).trans rfl
theorem HpB.far {w W : World} {g b q : Nat} {F : List Fr} (h : HpB w W g b F) (hq : w.heap.size ≤ q) (h1 : g ≠ q) (h2 : b ≠ q) (j : Nat) (u : Value) : HpB w (W.setCell ⟨q, j, none⟩ u) g b F := by
  refine ⟨h.be.setCell hq _, h.gt, h.bt, h.ro, ?_⟩
  rcases h.st with ⟨e, A, cap, h3⟩ | ⟨e, cap, J, h3⟩
  · exact .inl ⟨e, A, cap, blk_far h3 h1 _⟩
  · exact .inr ⟨e, cap, J, blk_far h3.hp h1 _, blk_far h3.fr h2 _, h3.le⟩
theorem HpB.stE {w W : World} {g b q : Nat} {F : List Fr} (h : HpB w W g b F) (hq : w.heap.size ≤ q) (h1 : g ≠ q) (h2 : b ≠ q) (A : Option Addr) (c n : Nat) (y : S39) : HpB w (stE W q A c n y) g b F :=
  ((((((h.far hq h1 h2 0 _).far hq h1 h2 1 _).far hq h1 h2 2 _).far hq h1 h2 3 _).far hq h1 h2 4 _).far hq h1 h2 5 _).far hq h1 h2 6 _
theorem Kp.new {A B : World} (h : Kp A B) {q : Nat} (hq : A.heap.size ≤ q) (j : Nat) (u : Value) : Kp A (B.setCell ⟨q, j, none⟩ u) := fun k cs t fr hk n1 n2 => by
  refine (Below.heap_setCell _ _ _ _ ?_).trans (h k cs t fr hk n1 n2)
  have := (Array.getElem?_eq_some_iff.1 hk).1
  show k ≠ q
  omega
theorem Kp.stE {A B : World} (h : Kp A B) {q : Nat} (hq : A.heap.size ≤ q) (A1 : Option Addr) (c n : Nat) (y : S39) : Kp A (stE B q A1 c n y) :=
  ((((((h.new hq 0 _).new hq 1 _).new hq 2 _).new hq 3 _).new hq 4 _).new hq 5 _).new hq 6 _
theorem R_stE {W : World} {base g : Nat} {ok : Nat → Prop} {v : Value} {xs : List Int} {cs : Array Value} (h : Kd.R (Kd.int .u8) 5 W base ok v xs) (hb : W.heap[g]? = some (.cells cs 41 (0, 0))) (A : Option Addr) (c n : Nat) (y : S39) : Kd.R (Kd.int .u8) 5 (stE W g A c n y) base ok v xs := by
  have ht : ∀ q, q ∈ 5 :: (Kd.int .u8).E → q ≠ 41 := by
    intro q hq
    obtain rfl : q = 5 := List.mem_singleton.1 hq
    decide
  have b1 := blk_set hb 0 (.slice A n c)
  have b2 := blk_set b1 1 (.int .u64 y.f0)
  have b3 := blk_set b2 2 (.bool y.f1)
  have b4 := blk_set b3 3 (.int .i64 y.f2.f0)
  have b5 := blk_set b4 4 (.int .u64 y.f2.f1)
  have b6 := blk_set b5 5 (.int .i64 y.f3)
  exact Kd.R_set (Kd.R_set (Kd.R_set (Kd.R_set (Kd.R_set (Kd.R_set (Kd.R_set h hb ht 0 _) b1 ht 1 _) b2 ht 2 _) b3 ht 3 _) b4 ht 4 _) b5 ht 5 _) b6 ht 6 _
/-- What Next tells of a heap that has something. -/
def NextP (w W : World) (g : Nat) (f : Fr) (F : List Fr) (e : Ending) (w' : World) : Prop :=
  ∃ (x : En) (A5 : Option Addr) (c5 : Nat) (A' : Option Addr) (c' : Nat), f.l[0]? = some x ∧ e = .returned (.tuple #[enV A5 c5 x, .int .i64 (f.p : Int), .bool true]) ∧
    Kd.R (Kd.int .u8) 5 w' W.heap.size (fun _ => True) (.slice A5 x.f0.length c5) x.f0 ∧ HpS w w' g (nextF A' c' f F) ∧ Kp W w' ∧ W.heap.size ≤ w'.heap.size
set_option maxHeartbeats 4000000 in
set_option maxRecDepth 100000 in
theorem Next_calls (w W : World) (g b cap : Nat) (f : Fr) (F : List Fr) (J : List Value) (hH : Hp W g b cap (f :: F) J) (hB : Below w.heap.size w W) (hg : w.heap.size ≤ g) (hb : w.heap.size ≤ b) (hR : RowsOk w (f :: F)) (hn : (f :: F).length ≤ 1000000000) (hk : ∀ x ∈ f.l, x.f0.length < 140737488355328) :
    Calls Try.prog 14 #[.pointer (some ⟨g, 0, none⟩)] W fun e w' => NextP w W g f F e w' := by
  have hu := Try.underlying56
  have hu2 := Try.underlying50
  have hu3 := Try.underlying41
  have hu4 := Try.underlying39
  have hhead := hH.head
  have hf0 : W.cell? ⟨b, 0, none⟩ = some (.slice f.A f.l.length f.c) := (blk_cell hH.fr 0).trans rfl
  have hf1 : W.cell? ⟨b, 1, none⟩ = some (.int .i64 (f.p : Int)) := (blk_cell hH.fr 1).trans rfl
  obtain ⟨n, hnn⟩ : ∃ n, (f :: F).length = n := ⟨_, rfl⟩
  have hn1 : n = F.length + 1 := by rw [← hnn]; rfl
  rw [hnn] at hhead
  have b1 : ∀ o : Obj, Below W.heap.size W (W.alloc o) := fun o => (Below.refl W.heap.size W).alloc (Nat.le_refl _) o
  have b2 : ∀ o o' : Obj, Below W.heap.size W ((W.alloc o).alloc o') := fun o o' => (b1 o).alloc (b1 o).size o'
  have a1 : ∀ o : Obj, (W.alloc o).cell? ⟨g, 0, none⟩ = some (.slice (some ⟨b, 0, none⟩) n cap) := fun o => cell_bl' hhead (b1 o)
  have a2 : ∀ o : Obj, (W.alloc o).cell? ⟨b, 0, none⟩ = some (.slice f.A f.l.length f.c) := fun o => cell_bl' hf0 (b1 o)
  have a3 : ∀ o : Obj, (W.alloc o).cell? ⟨b, 1, none⟩ = some (.int .i64 (f.p : Int)) := fun o => cell_bl' hf1 (b1 o)
  have a4 : ∀ o o' : Obj, ((W.alloc o).alloc o').cell? ⟨g, 0, none⟩ = some (.slice (some ⟨b, 0, none⟩) n cap) := fun o o' => cell_bl' hhead (b2 o o')
  have a5 : ∀ o : Obj, ((W.alloc o).alloc (.cells #[.slice f.A f.l.length f.c, .int .i64 (f.p : Int)] 56)).cell? ⟨W.heap.size + 1, 0, none⟩ = some (.slice f.A f.l.length f.c) := fun o => (blk_cell (blkN1 W o _) 0).trans rfl
  have HH := Aside0.mk hH
  have HB := Aside0.mk hB
  have HGB := Aside0.mk (And.intro hg hb)
  have HR := Aside0.mk hR
  have HN := Aside0.mk hn
  have HK := Aside0.mk hk
  have HNN := Aside0.mk (And.intro hnn hn1)
  have z1 : ((n : Int) == 0) = false := beq_eq_false_iff_ne.2 (by omega)
  have i1 : ((0 : Int) < (n : Int)) = True := eq_true (by omega)
  have i2 : (0 < n) = True := eq_true (by omega)
  clear hH hB hg hb hR hn hk hnn hn1 b1 b2
  go_enter Try.func14, Try.ntmps14
  go_upto_if 27 with (fail)
  obtain ⟨g2, hg2⟩ : ∃ k, W.heap.size = k := ⟨_, rfl⟩
  obtain ⟨gx, hgx⟩ : ∃ k, W.heap.size + 1 = k := ⟨_, rfl⟩
  obtain ⟨V, hV⟩ : ∃ V, ((W.alloc (.cells #[.slice none 0 0, .int .u64 0, .bool false, .int .i64 0, .int .u64 0, .int .i64 0, .int .i64 0] 41)).alloc (.cells #[.slice f.A f.l.length f.c, .int .i64 (f.p : Int)] 56)) = V := ⟨_, rfl⟩
  have V2 : V.heap[g2]? = some (.cells #[.slice none 0 0, .int .u64 0, .bool false, .int .i64 0, .int .u64 0, .int .i64 0, .int .i64 0] 41 (0, 0)) := by
    rw [← hV, ← hg2]
    exact (((Below.refl _ _).alloc (Nat.le_refl _) _).block _ (by simp)).trans (blk_new W _)
  have VX : V.heap[gx]? = some (.cells #[.slice f.A f.l.length f.c, .int .i64 (f.p : Int)] 56 (0, 0)) := by rw [← hV, ← hgx]; exact blkN1 W _ _
  have VB : Below W.heap.size W V := by
    rw [← hV]
    have b1 := (Below.refl W.heap.size W).alloc (Nat.le_refl _) (.cells #[.slice none 0 0, .int .u64 0, .bool false, .int .i64 0, .int .u64 0, .int .i64 0, .int .i64 0] 41)
    exact b1.alloc b1.size _
  have VH := HH.out.below VB
  have HV2 := Aside0.mk V2
  have HVX := Aside0.mk VX
  have HVB := Aside0.mk VB
  have HVH := Aside0.mk VH
  have HG2 := Aside0.mk (show W.heap.size ≤ g2 ∧ W.heap.size ≤ gx ∧ g < W.heap.size ∧ b < W.heap.size from ⟨by omega, by omega, HH.out.gt, HH.out.bt⟩)
  have HG3 := Aside0.mk (show gx ≠ g2 by omega)
  have v1 : V.cell? ⟨g, 0, none⟩ = some (.slice (some ⟨b, 0, none⟩) n cap) := by rw [← HNN.out.1]; exact VH.head
  have v2 : V.cell? ⟨gx, 0, none⟩ = some (.slice f.A f.l.length f.c) := (blk_cell VX 0).trans rfl
  have v3 : V.cell? ⟨b, 0, none⟩ = some (.slice f.A f.l.length f.c) := (blk_cell VH.fr 0).trans rfl
  have v4 : V.cell? ⟨b, 1, none⟩ = some (.int .i64 (f.p : Int)) := (blk_cell VH.fr 1).trans rfl
  have v5 : V.frozen? ⟨b, 0, none⟩ = false := blk_frozen VH.fr 0
  have v6 : V.frozen? ⟨b, 1, none⟩ = false := blk_frozen VH.fr 1
  rw [hV, hgx, hg2]
  clear hg2 hgx hV V2 VX VB VH a1 a2 a3 a4 a5 hf0 hf1 hhead
  go_cut [6] (fun v6 wc => ∃ (A' : Option Addr) (c' : Nat), Aside0 (HpB w wc g b (restF A' c' f F)) ∧ Aside0 (wc.heap[g2]? = some (.cells #[.slice none 0 0, .int .u64 0, .bool false, .int .i64 0, .int .u64 0, .int .i64 0, .int .i64 0] 41 (0, 0))) ∧ Aside0 (wc.heap[gx]? = some (.cells #[.slice f.A f.l.length f.c, .int .i64 (f.p : Int)] 56 (0, 0))) ∧ Aside0 (Kp W wc) ∧ Aside0 (W.heap.size ≤ wc.heap.size))
  case first =>
    by_cases h1 : 1 < f.l.length
    · have hd : decide ((1 : Int) < (f.l.length : Int)) = true := decide_eq_true (by omega)
      rw [hd]
      have hfm := HR.out f (List.mem_cons_self ..)
      obtain ⟨i0, hi0⟩ : ∃ i, Try.prog.info? 41 = some i := ⟨_, rfl⟩
      have hi0s : i0.size = 7 := by
        have : (Try.prog.info? 41).map (·.size) = some 7 := by kernel_rfl
        rw [hi0] at this; exact Option.some.inj this
      have hsl := cut_from (P := Try.prog) 44 41 .i64 Try.underlying44 hi0 7 hi0s f.A f.l.length f.c 1 (by decide) (by omega)
      obtain ⟨A', hA'⟩ : ∃ A', (if f.c = (1 : Int).toNat then f.A else f.A.map (·.add ((1 : Int).toNat * 7))) = A' := ⟨_, rfl⟩
      rw [hA'] at hsl
      obtain ⟨n1, hn1⟩ : ∃ n1, f.l.length - (1 : Int).toNat = n1 := ⟨_, rfl⟩
      obtain ⟨c', hc'⟩ : ∃ c', f.c - (1 : Int).toNat = c' := ⟨_, rfl⟩
      rw [hn1, hc'] at hsl
      have HF1 := Aside0.mk h1
      have HA' := Aside0.mk (And.intro hA' (And.intro hn1 hc'))
      have HFM := Aside0.mk hfm
      clear h1 hd hi0 hi0s hA' hn1 hc' hfm
      go_wp2
      have hvd3 : V.drew.cell? ⟨b, 0, none⟩ = some (.slice f.A f.l.length f.c) := v3
      have hvd5 : V.drew.frozen? ⟨b, 0, none⟩ = false := v5
      have HS0 := Aside0.mk (show V.drew.cell? ⟨g, 0, none⟩ = some (.slice (some ⟨b, 0, none⟩) n cap) ∧ V.drew.cell? ⟨gx, 0, none⟩ = some (.slice f.A f.l.length f.c) from ⟨v1, v2⟩)
      have HSS := Aside0.mk (show (V.setCell ⟨b, 0, none⟩ (.slice A' n1 c')).drew.cell? ⟨g, 0, none⟩ = some (.slice (some ⟨b, 0, none⟩) n cap) ∧ (V.setCell ⟨b, 0, none⟩ (.slice A' n1 c')).drew.cell? ⟨gx, 0, none⟩ = some (.slice f.A f.l.length f.c) from
        ⟨by rw [← HNN.out.1]; exact (blk_cell (blk_drew (blk_far HVH.out.hp HVH.out.ne (.slice A' n1 c'))) 0).trans rfl, (blk_cell (blk_drew (blk_far HVX.out (show gx ≠ b by have := HG2.out; omega) (.slice A' n1 c'))) 0).trans rfl⟩)
      go_region_held3 (fun W' => W'.cell? ⟨g, 0, none⟩ = some (.slice (some ⟨b, 0, none⟩) n cap) ∧ W'.cell? ⟨gx, 0, none⟩ = some (.slice f.A f.l.length f.c)) (first | (with_reducible exact HS0.out) | (with_reducible exact HSS.out)) (fail)
      all_goals clear hvd3 hvd5
      all_goals go_wp2
      all_goals go_meet
      all_goals refine ⟨A', c', ⟨(rest_one HVH.out (HB.out.trans (HVB.out.mono HB.out.size)) HGB.out.1 HGB.out.2 HR.out HF1.out HA'.out).drewd (Below.refl _ _).drew⟩, ⟨blk_drew (blk_far HV2.out (show g2 ≠ b by have := HG2.out; omega) _)⟩, ⟨blk_drew (blk_far HVX.out (show gx ≠ b by have := HG2.out; omega) _)⟩, ⟨((Kp.of_below HVB.out).set HH.out 0 _).trans (Kp.of_below (Below.refl _ _).drew)⟩, ⟨by have := HVB.out.size; simpa using this⟩⟩
    · have hd : decide ((1 : Int) < (f.l.length : Int)) = false := decide_eq_false (by omega)
      rw [hd]
      obtain ⟨m, hm⟩ : ∃ m, F.length = m := ⟨_, rfl⟩
      obtain ⟨y, hy⟩ : ∃ y, (f :: F)[F.length]? = some y := ⟨_, List.getElem?_eq_getElem (by simp)⟩
      have hnm : n = m + 1 := by rw [← hm]; exact HNN.out.2
      have hw : wrap64 ((n : Int) - 1) = (m : Int) := by have := HN.out; rw [HNN.out.1] at this; unfold wrap64; omega
      have HY := Aside0.mk hy
      have hat := at_lit HVH.out hy
      rw [hm] at hat
      have hX := put_lit HVH.out y
      have hyX : ((f :: F).set 0 y)[F.length]? = some y := by
        by_cases h0 : F.length = 0
        · rw [h0]; rfl
        · obtain ⟨q, hq⟩ : ∃ q, F.length = q + 1 := ⟨F.length - 1, by omega⟩
          rw [hq, List.getElem?_cons_succ] at hy
          rw [hq]; exact hy
      have hatX := at_lit hX hyX
      rw [hm] at hatX
      have HXH := Aside0.mk hX
      have i5 : (0 ≤ (m : Int)) = True := eq_true (by omega)
      have i6 : ((m : Int) < (n : Int)) = True := eq_true (by omega)
      have i7 : (m < n) = True := eq_true (by omega)
      have HM := Aside0.mk hm
      have HF1 := Aside0.mk h1
      have y1 := hat.1
      have y2 := hat.2
      clear h1 hd hy hnm hm hat hyX hX
      go_wp2
      have hvd1 : V.drew.cell? ⟨b, 0, none⟩ = some (.slice f.A f.l.length f.c) := v3
      have hvd2 : V.drew.cell? ⟨b, 1, none⟩ = some (.int .i64 (f.p : Int)) := v4
      have hvd3 : V.drew.frozen? ⟨b, 0, none⟩ = false := v5
      have hvd4 : V.drew.frozen? ⟨b, 1, none⟩ = false := v6
      rw [hw]
      have HS0 := Aside0.mk (show V.drew.cell? ⟨g, 0, none⟩ = some (.slice (some ⟨b, 0, none⟩) n cap) ∧ V.drew.cell? ⟨b, m * 2, none⟩ = some (.slice y.A y.l.length y.c) ∧ V.drew.cell? ⟨b, m * 2 + 1, none⟩ = some (.int .i64 (y.p : Int)) from ⟨v1, y1, y2⟩)
      have hhp := blk_drew (blk_far (blk_far HVH.out.hp HVH.out.ne (p := ⟨b, 0, none⟩) (.slice y.A y.l.length y.c)) HVH.out.ne (p := ⟨b, 1, none⟩) (.int .i64 (y.p : Int)))
      have hss : ((V.setCell ⟨b, 0, none⟩ (.slice y.A y.l.length y.c)).setCell ⟨b, 1, none⟩ (.int .i64 (y.p : Int))).drew.cell? ⟨g, 0, none⟩ = some (.slice (some ⟨b, 0, none⟩) n cap) := by
        rw [← HNN.out.1]; exact (blk_cell hhp 0).trans rfl
      have hsf : ((V.setCell ⟨b, 0, none⟩ (.slice y.A y.l.length y.c)).setCell ⟨b, 1, none⟩ (.int .i64 (y.p : Int))).drew.frozen? ⟨g, 0, none⟩ = false := blk_frozen hhp 0
      have HSS := Aside0.mk (show ((V.setCell ⟨b, 0, none⟩ (.slice y.A y.l.length y.c)).setCell ⟨b, 1, none⟩ (.int .i64 (y.p : Int))).drew.cell? ⟨g, 0, none⟩ = some (.slice (some ⟨b, 0, none⟩) n cap) ∧ ((V.setCell ⟨b, 0, none⟩ (.slice y.A y.l.length y.c)).setCell ⟨b, 1, none⟩ (.int .i64 (y.p : Int))).drew.cell? ⟨b, m * 2, none⟩ = some (.slice y.A y.l.length y.c) ∧ ((V.setCell ⟨b, 0, none⟩ (.slice y.A y.l.length y.c)).setCell ⟨b, 1, none⟩ (.int .i64 (y.p : Int))).drew.cell? ⟨b, m * 2 + 1, none⟩ = some (.int .i64 (y.p : Int)) from ⟨hss, hatX⟩)
      obtain ⟨i0, hi0⟩ : ∃ i, Try.prog.info? 56 = some i := ⟨_, rfl⟩
      have hsl := cut_to (P := Try.prog) 48 56 .i64 Try.underlying48 hi0 (some ⟨b, 0, none⟩) n cap (m : Int) (by omega) (by have := HNN.out.2; have := HM.out; omega) (by rw [← HNN.out.1]; exact HVH.out.le)
      rw [Int.toNat_natCast] at hsl
      clear hi0 hhp
      clear hatX y1 y2
      go_region_held3 (fun W' => W'.cell? ⟨g, 0, none⟩ = some (.slice (some ⟨b, 0, none⟩) n cap) ∧ W'.cell? ⟨b, m * 2, none⟩ = some (.slice y.A y.l.length y.c) ∧ W'.cell? ⟨b, m * 2 + 1, none⟩ = some (.int .i64 (y.p : Int))) (first | (with_reducible exact HS0.out) | (with_reducible exact HSS.out)) (fail)
      all_goals clear hvd1 hvd2 hvd3 hvd4
      all_goals go_wp2
      all_goals go_meet
      all_goals
        have hr := rest_last HVH.out (HB.out.trans (HVB.out.mono HB.out.size)) HGB.out.1 HGB.out.2 HR.out HF1.out HY.out none 0
        rw [HM.out] at hr
        exact ⟨none, 0, ⟨hr.drewd (Below.refl _ _).drew⟩, ⟨blk_drew (blk_far (blk_far (blk_far HV2.out (show g2 ≠ b by have := HG2.out; omega) _) (show g2 ≠ b by have := HG2.out; omega) _) (show g2 ≠ g by have := HG2.out; omega) _)⟩, ⟨blk_drew (blk_far (blk_far (blk_far HVX.out (show gx ≠ b by have := HG2.out; omega) _) (show gx ≠ b by have := HG2.out; omega) _) (show gx ≠ g by have := HG2.out; omega) _)⟩, ⟨((((Kp.of_below HVB.out).set HH.out 0 _).set HH.out 1 _).set2 HH.out 0 _).trans (Kp.of_below (Below.refl _ _).drew)⟩, ⟨by have := HVB.out.size; simpa using this⟩⟩
  case rest =>
    obtain ⟨A', c', HP, H2, HX, HKP, HSZ⟩ := hcut
    have HCALL := Aside0.mk (sinkB HP.out 0 (by omega) (by have := restF_le A' c' f F; have := HN.out; omega))
    go_wp2_with (first
      | (go_at_call 21; refine (HCALL.out).mono ?_; rintro e w9 ⟨⟨u9, rfl⟩, hb9⟩; have HP9 := Aside0.mk hb9; clear hb9))
    have hp9 := HP9.out
    have hbe : Below w.heap.size w w9 := hp9.1.be
    have hfm := HR.out f (List.mem_cons_self ..)
    obtain ⟨x, hx⟩ : ∃ x, f.l[0]? = some x := ⟨_, List.getElem?_eq_getElem (List.length_pos_iff.2 hfm.1)⟩
    obtain ⟨ad, B, d, hA, k0, k1, k2, k3, k4, k5, k6, hl0, hC0⟩ := at_en (hfm.2.2 w9 hbe) hx
    have hxb : w9.heap[gx]? = some (.cells #[.slice f.A f.l.length f.c, .int .i64 (f.p : Int)] 56 (0, 0)) := (hp9.2.2.2 gx (Array.getElem?_eq_some_iff.1 HX.out).1 (by have := HG2.out; omega)).trans HX.out
    have h2b : w9.heap[g2]? = some (.cells #[.slice none 0 0, .int .u64 0, .bool false, .int .i64 0, .int .u64 0, .int .i64 0, .int .i64 0] 41 (0, 0)) := (hp9.2.2.2 g2 (Array.getElem?_eq_some_iff.1 H2.out).1 (by have := HG2.out; omega)).trans H2.out
    have x0 : w9.cell? ⟨gx, 0, none⟩ = some (.slice (some ad) f.l.length f.c) := by rw [← hA]; exact (blk_cell hxb 0).trans rfl
    have x1 : w9.cell? ⟨gx, 1, none⟩ = some (.int .i64 (f.p : Int)) := (blk_cell hxb 1).trans rfl
    rw [Nat.zero_mul] at k0 k1 k2 k3 k4 k5 k6
    have ez : ad.add 0 = ad := by simp [Addr.add]
    rw [ez] at k0 k1 k2 k3 k4 k5 k6
    have HNEQ : gx ≠ g2 ∧ ad.block ≠ g2 := by
      refine ⟨HG3.out, ?_⟩
      obtain ⟨ad2, B2, d2, hA2, kk, _⟩ := at_en (hfm.2.2 w (Below.refl _ _)) hx
      obtain rfl : ad = ad2 := Option.some.inj (hA.symm.trans hA2)
      have hlt := block_of_cell' kk
      have e2 : (ad.add (0 * 7)).block = ad.block := by rw [Nat.zero_mul, ez]
      rw [e2] at hlt
      have := HG2.out
      have := HB.out.size
      omega
    have HCL := Aside0.mk (fun W hC => slices_Clone_byte_byte.calls B d x.f0 x.f0 W hC hl0 (by unfold slices_Clone_byte_byte.f; rw [if_pos (HK.out x (List.mem_of_getElem? hx))]))
    have i8 : ((0 : Int) < (f.l.length : Int)) = True := eq_true (by have := List.length_pos_iff.2 hfm.1; omega)
    have i9 : (0 < f.l.length) = True := eq_true (List.length_pos_iff.2 hfm.1)
    have HXX := Aside0.mk hx
    have HC0 := Aside0.mk hC0
    have H2B := Aside0.mk h2b
    have HX0 := Aside0.mk (And.intro hx hxb)
    clear hp9 hbe hfm hx hA hl0 hC0 hxb h2b ez
    have HS0 := Aside0.mk (show SnE w9.drew gx ad f x B d from ⟨x0, x1, k0, k1, k2, k3, k4, k5, k6⟩)
    have HNE2 := Aside0.mk (show gx ≠ g2 ∧ ad.block ≠ g2 from HNEQ)
    clear HNEQ
    go_region_held3 (fun W' => W'.cell? ⟨gx, 0, none⟩ = some (.slice (some ad) f.l.length f.c) ∧ W'.cell? ⟨gx, 1, none⟩ = some (.int .i64 (f.p : Int)) ∧ W'.cell? ad = some (.slice B x.f0.length d) ∧ W'.cell? ⟨ad.block, ad.off + 1, none⟩ = some (.int .u64 x.f1.f0) ∧ W'.cell? ⟨ad.block, ad.off + 2, none⟩ = some (.bool x.f1.f1) ∧ W'.cell? ⟨ad.block, ad.off + 3, none⟩ = some (.int .i64 x.f1.f2.f0) ∧ W'.cell? ⟨ad.block, ad.off + 4, none⟩ = some (.int .u64 x.f1.f2.f1) ∧ W'.cell? ⟨ad.block, ad.off + 5, none⟩ = some (.int .i64 x.f1.f3) ∧ W'.cell? ⟨ad.block, ad.off + 6, none⟩ = some (.int .i64 x.f1.f4)) (first | (with_reducible exact HS0.out) | (with_reducible exact HS9.out) | (with_reducible exact HS10.out)) (first
      | (go_at_call 23; refine (HCL.out _ (Kd.C_below HC0.out (Below.refl _ _).drew)).mono ?_; rintro e w10 ⟨v5, rfl, ho, hb⟩; obtain ⟨A5, c5, hv5⟩ := Kd.R_slice ho; subst hv5; have hs9 := HS0.out; have HS9 := Aside0.mk (show SnE w10 gx ad f x B d from ⟨cell_bl' hs9.1 hb, cell_bl' hs9.2.1 hb, cell_bl' hs9.2.2.1 hb, cell_bl' hs9.2.2.2.1 hb, cell_bl' hs9.2.2.2.2.1 hb, cell_bl' hs9.2.2.2.2.2.1 hb, cell_bl' hs9.2.2.2.2.2.2.1 hb, cell_bl' hs9.2.2.2.2.2.2.2.1 hb, cell_bl' hs9.2.2.2.2.2.2.2.2 hb⟩); have h2c := (hb.block g2 (Array.getElem?_eq_some_iff.1 H2B.out).1).trans H2B.out; have r0 : w10.cell? ⟨g2, 0, none⟩ = some (.slice none 0 0) := (blk_cell h2c 0).trans rfl; have q0 : w10.frozen? ⟨g2, 0, none⟩ = false := blk_frozen h2c 0; have r1 : w10.cell? ⟨g2, 1, none⟩ = some (.int .u64 0) := (blk_cell h2c 1).trans rfl; have q1 : w10.frozen? ⟨g2, 1, none⟩ = false := blk_frozen h2c 1; have r2 : w10.cell? ⟨g2, 2, none⟩ = some (.bool false) := (blk_cell h2c 2).trans rfl; have q2 : w10.frozen? ⟨g2, 2, none⟩ = false := blk_frozen h2c 2; have r3 : w10.cell? ⟨g2, 3, none⟩ = some (.int .i64 0) := (blk_cell h2c 3).trans rfl; have q3 : w10.frozen? ⟨g2, 3, none⟩ = false := blk_frozen h2c 3; have r4 : w10.cell? ⟨g2, 4, none⟩ = some (.int .u64 0) := (blk_cell h2c 4).trans rfl; have q4 : w10.frozen? ⟨g2, 4, none⟩ = false := blk_frozen h2c 4; have r5 : w10.cell? ⟨g2, 5, none⟩ = some (.int .i64 0) := (blk_cell h2c 5).trans rfl; have q5 : w10.frozen? ⟨g2, 5, none⟩ = false := blk_frozen h2c 5; have r6 : w10.cell? ⟨g2, 6, none⟩ = some (.int .i64 0) := (blk_cell h2c 6).trans rfl; have q6 : w10.frozen? ⟨g2, 6, none⟩ = false := blk_frozen h2c 6; have HS10 := Aside0.mk (snE_st HS9.out HNE2.out.1 HNE2.out.2 A5 c5 x.f0.length x.f1); have HO10 := Aside0.mk ho; have HB10 := Aside0.mk hb; have H2C := Aside0.mk h2c; clear ho hb hs9 h2c))
    all_goals go_wp2
    all_goals
      refine bodyPost_ret (results_ctt rfl _ _ g2 41 #[.slice A5 x.f0.length c5, .int .u64 x.f1.f0, .bool x.f1.f1, .int .i64 x.f1.f2.f0, .int .u64 x.f1.f2.f1, .int .i64 x.f1.f3, .int .i64 x.f1.f4] (0, 0) _ rfl (stE_blk H2C.out) Try.underlying41 rfl (by kernel_rfl)) rfl ?_
      have z9 := HP9.out
      have z2 := HG2.out
      have zs := HSZ.out
      have zw := HB.out.size
      have zt := HB10.out.size
      have zd : w9.drew.heap.size = w9.heap.size := rfl
      have z3 := z9.2.2.1
      refine ⟨x, A5, c5, A', c', HXX.out, rfl, Kd.R_lower (R_stE HO10.out H2C.out A5 c5 x.f0.length x.f1) (by omega), ?_, ?_, ?_⟩
      · exact (((z9.1.drewd (Below.refl _ _).drew).drewd HB10.out).stE (by omega) (by omega) (by omega) A5 c5 x.f0.length x.f1).s
      · exact (((HKP.out.trans z9.2.1).trans (Kp.of_below (Below.refl _ _).drew)).trans (Kp.of_below HB10.out)).stE (by omega) A5 c5 x.f0.length x.f1
      · have e : (stE w10 g2 A5 c5 x.f0.length x.f1).heap.size = w10.heap.size := by simp
        rw [e]; omega
end Go.Proofs.Ytihdomhiiolojaa.P

namespace Go.Proofs.Ytihdomhiiolojaa.P
open Go.RowKit Go.Proofs.YtihdomhiiolojaaW.PrintWords Go.Proofs.YtihdomhiiolojaaW.PrintLast Go.Proofs.YtihdomhiiolojaaW.PrintMore
set_option linter.unusedVariables false
set_option linter.unusedSimpArgs false

def keyL (l : List En) : List Int := (rd_T41 l 0).f0
def atL (S : List (List En)) (i : Nat) : List En := S.getD i []
/-- The first of the least fronts of the first i rows. -/
def bestTo (S : List (List En)) : Nat → Option Nat
  | 0 => none
  | i + 1 => if atL S i = [] then bestTo S i else match bestTo S i with
    | none => some i
    | some b => if cmpI (keyL (atL S i)) (keyL (atL S b)) < 0 then some i else some b
theorem bestTo_none {S : List (List En)} : ∀ {i : Nat}, bestTo S i = none → ∀ j, j < i → atL S j = []
  | 0, _, j, hj => absurd hj (Nat.not_lt_zero _)
  | i + 1, h, j, hj => by
    rw [bestTo] at h
    by_cases h0 : atL S i = []
    · rw [if_pos h0] at h
      by_cases hji : j = i
      · rw [hji]; exact h0
      · exact bestTo_none h j (by omega)
    · rw [if_neg h0] at h
      split at h
      · cases h
      · split at h <;> cases h
theorem bestTo_some {S : List (List En)} : ∀ {i b : Nat}, bestTo S i = some b → b < i ∧ atL S b ≠ [] ∧ ∀ j, j < i → atL S j ≠ [] → cmpI (keyL (atL S b)) (keyL (atL S j)) < 0 ∨ (cmpI (keyL (atL S b)) (keyL (atL S j)) = 0 ∧ b ≤ j)
  | 0, b, h => by cases h
  | i + 1, b, h => by
    rw [bestTo] at h
    by_cases h0 : atL S i = []
    · rw [if_pos h0] at h
      obtain ⟨h1, h2, h3⟩ := bestTo_some h
      refine ⟨by omega, h2, fun j hj hne => h3 j ?_ hne⟩
      by_cases hji : j = i
      · rw [hji] at hne; exact absurd h0 hne
      · omega
    · rw [if_neg h0] at h
      split at h
      · next hb =>
        obtain rfl := Option.some.inj h
        refine ⟨by omega, h0, fun j hj hne => ?_⟩
        by_cases hji : j = i
        · rw [hji]; exact .inr ⟨cmpI_self _, Nat.le_refl _⟩
        · exact absurd (bestTo_none hb j (by omega)) hne
      · next b0 hb =>
        obtain ⟨h1, h2, h3⟩ := bestTo_some hb
        split at h
        · next hc =>
          obtain rfl := Option.some.inj h
          refine ⟨by omega, h0, fun j hj hne => ?_⟩
          by_cases hji : j = i
          · rw [hji]; exact .inr ⟨cmpI_self _, Nat.le_refl _⟩
          · rcases h3 j (by omega) hne with h4 | ⟨h4, _⟩
            · exact .inl (cmpI_trans hc h4)
            · exact .inl (cmpI_lt_le hc (by omega))
        · next hc =>
          obtain rfl := Option.some.inj h
          refine ⟨by omega, h2, fun j hj hne => ?_⟩
          by_cases hji : j = i
          · rw [hji]
            have ha := cmpI_anti (keyL (atL S i)) (keyL (atL S b0))
            by_cases h5 : cmpI (keyL (atL S b0)) (keyL (atL S i)) < 0
            · exact .inl h5
            · exact .inr ⟨by omega, by omega⟩
          · exact h3 j (by omega) hne
theorem mem_frsTo {S : List (List En)} {l : List En} {p : Nat} : ∀ {n : Nat}, (l, p) ∈ frsTo S n ↔ p < n ∧ S[p]? = some l ∧ l ≠ []
  | 0 => by simp [frsTo]
  | n + 1 => by
    rw [frsTo]
    cases h : S[n]? with
    | none =>
      simp only []
      rw [mem_frsTo (n := n)]
      constructor
      · rintro ⟨h1, h2⟩; exact ⟨by omega, h2⟩
      · rintro ⟨h1, h2, h3⟩
        refine ⟨?_, h2, h3⟩
        rcases Nat.lt_or_eq_of_le (Nat.lt_succ_iff.1 h1) with h4 | rfl
        · exact h4
        · rw [h] at h2; cases h2
    | some r =>
      simp only []
      by_cases h0 : r = []
      · rw [if_pos h0, mem_frsTo (n := n)]
        constructor
        · rintro ⟨h1, h2⟩; exact ⟨by omega, h2⟩
        · rintro ⟨h1, h2, h3⟩
          refine ⟨?_, h2, h3⟩
          rcases Nat.lt_or_eq_of_le (Nat.lt_succ_iff.1 h1) with h4 | rfl
          · exact h4
          · rw [h] at h2; obtain rfl := Option.some.inj h2; exact absurd h0 h3
      · rw [if_neg h0, List.mem_append, mem_frsTo (n := n), List.mem_singleton]
        constructor
        · rintro (⟨h1, h2⟩ | h1)
          · exact ⟨by omega, h2⟩
          · injection h1 with h1 h2
            subst h1; subst h2
            exact ⟨by omega, h, h0⟩
        · rintro ⟨h1, h2, h3⟩
          rcases Nat.lt_or_eq_of_le (Nat.lt_succ_iff.1 h1) with h4 | rfl
          · exact .inl ⟨h4, h2, h3⟩
          · rw [h] at h2; obtain rfl := Option.some.inj h2; exact .inr rfl
/-- A heap that has nothing stands for rows that have nothing. -/
theorem step_none {S : List (List En)} (h : ([] : List (List En × Nat)).Perm (frsTo S S.length)) : bestTo S S.length = none := by
  cases hb : bestTo S S.length with
  | none => rfl
  | some b =>
    obtain ⟨h1, h2, _⟩ := bestTo_some hb
    obtain ⟨l, hl⟩ : ∃ l, S[b]? = some l := ⟨_, List.getElem?_eq_getElem h1⟩
    have e : atL S b = l := by unfold atL; rw [List.getD_eq_getElem?_getD, hl]; rfl
    rw [e] at h2
    have := h.symm.subset (mem_frsTo.2 ⟨h1, hl, h2⟩)
    simp at this
/-- A heap's first front is the one that the rows tell. -/
theorem step_some {S : List (List En)} {f : Fr} {F : List Fr} (hok : ∀ k, OkAt (f :: F) k) (h : ((f :: F).map prF).Perm (frsTo S S.length)) : bestTo S S.length = some f.p ∧ S[f.p]? = some f.l ∧ f.l ≠ [] := by
  obtain ⟨h1, h2, h3⟩ := mem_frsTo.1 (h.subset (show (f.l, f.p) ∈ (f :: F).map prF by simp [prF]))
  refine ⟨?_, h2, h3⟩
  have ef : atL S f.p = f.l := by unfold atL; rw [List.getD_eq_getElem?_getD, h2]; rfl
  cases hb : bestTo S S.length with
  | none => exact absurd (ef ▸ bestTo_none hb f.p h1) h3
  | some b =>
    obtain ⟨b1, b2, b3⟩ := bestTo_some hb
    obtain ⟨l, hl⟩ : ∃ l, S[b]? = some l := ⟨_, List.getElem?_eq_getElem b1⟩
    have e : atL S b = l := by unfold atL; rw [List.getD_eq_getElem?_getD, hl]; rfl
    have hm := h.symm.subset (mem_frsTo.2 ⟨b1, hl, by rw [← e]; exact b2⟩)
    obtain ⟨y, hy, hyp⟩ := List.mem_map.1 hm
    injection hyp with y1 y2
    obtain ⟨k, hk⟩ := List.getElem?_of_mem hy
    have hle := (leF_iff f y).1 (first_le hok rfl k y hk)
    have hb3 := b3 f.p h1 (by rw [ef]; exact h3)
    rw [e, ef] at hb3
    have ky : keyF y = keyL l := by unfold keyF keyL; rw [y1]
    have kf : keyF f = keyL f.l := rfl
    rw [ky, kf, y2] at hle
    have ha := cmpI_anti (keyL f.l) (keyL l)
    rcases hle with hle | ⟨hle, hp⟩ <;> rcases hb3 with hb3 | ⟨hb3, hq⟩
    · omega
    · omega
    · omega
    · exact congrArg some (by omega)
theorem frsTo_set_lt {S : List (List En)} {p : Nat} {l' : List En} : ∀ {n : Nat}, n ≤ p → frsTo (S.set p l') n = frsTo S n
  | 0, _ => rfl
  | n + 1, h => by
    rw [frsTo, frsTo, frsTo_set_lt (n := n) (by omega), List.getElem?_set_ne (by omega)]
theorem frsTo_set {S : List (List En)} {p : Nat} {l l' : List En} (hl : S[p]? = some l) (h0 : l ≠ []) : ∀ {n : Nat}, p < n → ∃ A B, frsTo S n = A ++ (l, p) :: B ∧ frsTo (S.set p l') n = A ++ ((if l' = [] then [] else [(l', p)]) ++ B)
  | 0, h => absurd h (Nat.not_lt_zero _)
  | n + 1, h => by
    have hp := (List.getElem?_eq_some_iff.1 hl).1
    by_cases e : p = n
    · subst e
      refine ⟨frsTo S p, [], ?_, ?_⟩
      · rw [frsTo_one hl h0]
      · rw [frsTo, frsTo_set_lt (Nat.le_refl _), List.getElem?_set_self hp]
        by_cases h1 : l' = []
        · simp [h1]
        · simp [h1]
    · obtain ⟨A, B, e1, e2⟩ := frsTo_set hl h0 (l' := l') (n := n) (by omega)
      rw [frsTo, frsTo, List.getElem?_set_ne (by omega), e1, e2]
      cases hx : S[n]? with
      | none => exact ⟨A, B, rfl, rfl⟩
      | some r =>
        simp only []
        by_cases h1 : r = []
        · rw [if_pos h1, if_pos h1]; exact ⟨A, B, rfl, rfl⟩
        · rw [if_neg h1, if_neg h1]; exact ⟨A, B ++ [(r, n)], by simp, by simp⟩
/-- Behind a Next the heap stands for the rows without that entry. -/
theorem step_rest {S : List (List En)} {f : Fr} {F : List Fr} (A' : Option Addr) (c' : Nat) (h : ((f :: F).map prF).Perm (frsTo S S.length)) (hp : S[f.p]? = some f.l) (h0 : f.l ≠ []) :
    ((nextF A' c' f F).map prF).Perm (frsTo (S.set f.p f.l.tail) (S.set f.p f.l.tail).length) := by
  obtain ⟨A, B, e1, e2⟩ := frsTo_set hp h0 (l' := f.l.tail) (n := S.length) (List.getElem?_eq_some_iff.1 hp).1
  rw [List.length_set, e2]
  rw [e1] at h
  have h1 : (F.map prF).Perm (A ++ B) := (List.perm_cons (f.l, f.p)).1 (h.trans List.perm_middle)
  refine ((nextF_perm A' c' f F).map prF).trans ?_
  by_cases h2 : 1 < f.l.length
  · rw [if_pos h2]
    have h3 : f.l.tail ≠ [] := by
      intro e
      have := congrArg List.length e
      rw [List.length_tail, List.length_nil] at this
      omega
    rw [if_neg h3, List.map_cons]
    exact (List.Perm.cons _ h1).trans List.perm_middle.symm
  · rw [if_neg h2]
    have h3 : f.l.tail = [] := List.length_eq_zero_iff.1 (by rw [List.length_tail]; omega)
    rw [if_pos h3]
    exact h1
end Go.Proofs.Ytihdomhiiolojaa.P
