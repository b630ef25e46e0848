-- Written by a program of this session out of the translation.
import Derived.Test.YtflmjiadahknkaaPx0
import Derived.Test.YtflmjiadahknkaaPEq1
import Derived.Test.YtflmjiadahknkaaPaggRight
import Derived.Test.YtflmjiadahknkaaPrickyardlaw02alive
import Derived.Test.YtflmjiadahknkaaEMergeD
namespace Go.Proofs.Ytflmjiadahknkaa.P
open Go.RowKit Go.Proofs.YtflmjiadahknkaaW.PrintWords Go.Proofs.YtflmjiadahknkaaW.PrintLast Go.Proofs.YtflmjiadahknkaaW.PrintMore
attribute [local go_sem] max2_int min2_int max_two min_two max_three min_three max_four min_four   -- for this text's walks alone
set_option linter.unusedVariables false
set_option linter.unusedSimpArgs false

attribute [local go_sem high] eqA26
/-! ### rickyardlaw02_AggMonoid: function 3 -/
theorem AK_ {p : Prop} (h : p) : Aside0 p := ⟨h⟩
theorem bN_ {w : World} {g : Nat} {o : Obj} {n : Nat} (h : w.heap[g]? = some o) : (w.drewN n).heap[g]? = some o := h
theorem bD_ {w : World} {g : Nat} {o : Obj} (h : w.heap[g]? = some o) : w.drew.heap[g]? = some o := h
theorem bA_ {w : World} {g : Nat} {o o' : Obj} (h : w.heap[g]? = some o) : (w.alloc o').heap[g]? = some o := blk_alloc h o'

def rickyardlaw02_AggMonoid.j0 : Nat → Bool → Int → Bool → Int → Int → Int → Int → Int → Bool → Int → Int → Int → Int → Int → Bool → Int → Int → Int → Int → Option (Bool)
 | 0, _, _, _, _, _, _, _, _, _, _, _, _, _, _, _, _, _, _, _ => none
 | k + 1, x21, x162000, x162001, x162002, x162003, x162004, x162005, x163000, x163001, x163002, x163003, x163004, x163005, x164000, x164001, x164002, x164003, x164004, x164005 => if x21 = true then ((rickyardlaw02_alive.f k).bind fun t167 => (some t167)) else ((agg_Merge.f x162000 x162001 x162002 x162003 x162004 x162005 x163000 x163001 x163002 x163003 x163004 x163005).bind fun bt168 => ((agg_Merge.f bt168.1 bt168.2.1 bt168.2.2.1 bt168.2.2.2.1 bt168.2.2.2.2.1 bt168.2.2.2.2.2 x164000 x164001 x164002 x164003 x164004 x164005).bind fun bt174 => ((agg_Merge.f x163000 x163001 x163002 x163003 x163004 x163005 x164000 x164001 x164002 x164003 x164004 x164005).bind fun bt180 => ((agg_Merge.f x162000 x162001 x162002 x162003 x162004 x162005 bt180.1 bt180.2.1 bt180.2.2.1 bt180.2.2.2.1 bt180.2.2.2.2.1 bt180.2.2.2.2.2).bind fun bt186 => ((rickyardlaw02_alive.f k).bind fun t194 => (if t194 = true then (if (bt174.1 == bt186.1 && (bt174.2.1 == bt186.2.1 && ((bt174.2.2.1 == bt186.2.2.1 && (bt174.2.2.2.1 == bt186.2.2.2.1)) && (bt174.2.2.2.2.1 == bt186.2.2.2.2.1 && (bt174.2.2.2.2.2 == bt186.2.2.2.2.2))))) = true then ((agg_Merge.f x162000 x162001 x162002 x162003 x162004 x162005 x163000 x163001 x163002 x163003 x163004 x163005).bind fun bt195 => ((agg_Merge.f x163000 x163001 x163002 x163003 x163004 x163005 x162000 x162001 x162002 x162003 x162004 x162005).bind fun bt201 => (if (bt195.1 == bt201.1 && (bt195.2.1 == bt201.2.1 && ((bt195.2.2.1 == bt201.2.2.1 && (bt195.2.2.2.1 == bt201.2.2.2.1)) && (bt195.2.2.2.2.1 == bt201.2.2.2.2.1 && (bt195.2.2.2.2.2 == bt201.2.2.2.2.2))))) = true then ((agg_Merge.f x162000 x162001 x162002 x162003 x162004 x162005 0 false 0 0 0 0).bind fun bt207 => (if (bt207.1 == x162000 && (bt207.2.1 == x162001 && ((bt207.2.2.1 == x162002 && (bt207.2.2.2.1 == x162003)) && (bt207.2.2.2.2.1 == x162004 && (bt207.2.2.2.2.2 == x162005))))) = true then ((agg_Merge.f 0 false 0 0 0 0 x162000 x162001 x162002 x162003 x162004 x162005).bind fun bt213 => (if (bt213.1 == x162000 && (bt213.2.1 == x162001 && ((bt213.2.2.1 == x162002 && (bt213.2.2.2.1 == x162003)) && (bt213.2.2.2.2.1 == x162004 && (bt213.2.2.2.2.2 == x162005))))) = true then ((agg_Right.f bt174.1 bt174.2.1 bt174.2.2.1 bt174.2.2.2.1 bt174.2.2.2.2.1 bt174.2.2.2.2.2).bind fun t219 => (some t219)) else (some false))) else (some false))) else (some false)))) else (some false)) else (some false)))))))
def rickyardlaw02_AggMonoid.f (k : Nat) (a0_0 : Int) (a0_1 : Bool) (a0_2 : Int) (a0_3 : Int) (a0_4 : Int) (a0_5 : Int) (a1_0 : Int) (a1_1 : Bool) (a1_2 : Int) (a1_3 : Int) (a1_4 : Int) (a1_5 : Int) (a2_0 : Int) (a2_1 : Bool) (a2_2 : Int) (a2_3 : Int) (a2_4 : Int) (a2_5 : Int) : Option (Bool) := (agg_Right.f a0_0 a0_1 a0_2 a0_3 a0_4 a0_5).bind fun t164 => (if t164 = true then ((agg_Right.f a1_0 a1_1 a1_2 a1_3 a1_4 a1_5).bind fun t165 => (if t165 = true then ((agg_Right.f a2_0 a2_1 a2_2 a2_3 a2_4 a2_5).bind fun t166 => (rickyardlaw02_AggMonoid.j0 k (!t166) a0_0 a0_1 a0_2 a0_3 a0_4 a0_5 a1_0 a1_1 a1_2 a1_3 a1_4 a1_5 a2_0 a2_1 a2_2 a2_3 a2_4 a2_5)) else (rickyardlaw02_AggMonoid.j0 k true a0_0 a0_1 a0_2 a0_3 a0_4 a0_5 a1_0 a1_1 a1_2 a1_3 a1_4 a1_5 a2_0 a2_1 a2_2 a2_3 a2_4 a2_5))) else (rickyardlaw02_AggMonoid.j0 k true a0_0 a0_1 a0_2 a0_3 a0_4 a0_5 a1_0 a1_1 a1_2 a1_3 a1_4 a1_5 a2_0 a2_1 a2_2 a2_3 a2_4 a2_5))
theorem rickyardlaw02_AggMonoid.mono_l : ∀ k, (∀ y0 y1 y2 y3 y4 y5 y6 y7 y8 y9 y10 y11 y12 y13 y14 y15 y16 y17 y18, LeO (rickyardlaw02_AggMonoid.j0 k y0 y1 y2 y3 y4 y5 y6 y7 y8 y9 y10 y11 y12 y13 y14 y15 y16 y17 y18) (rickyardlaw02_AggMonoid.j0 (k + 1) y0 y1 y2 y3 y4 y5 y6 y7 y8 y9 y10 y11 y12 y13 y14 y15 y16 y17 y18))
 | 0 => fun _ _ _ _ _ _ _ _ _ _ _ _ _ _ _ _ _ _ _ r h => by simp [rickyardlaw02_AggMonoid.j0] at h
 | k + 1 => by
  have ih0 := rickyardlaw02_AggMonoid.mono_l k
  ·intro y0 y1 y2 y3 y4 y5 y6 y7 y8 y9 y10 y11 y12 y13 y14 y15 y16 y17 y18
   unfold rickyardlaw02_AggMonoid.j0
   repeat' first
   | (with_reducible exact ih0 _ _ _ _ _ _ _ _ _ _ _ _ _ _ _ _ _ _ _)
   | (with_reducible exact rickyardlaw02_alive.mono _)
   | (with_reducible exact LeO.refl _)
   | (with_reducible exact LeO.none _)
   | (with_reducible refine LeO.ite ?_ ?_)
   | (with_reducible refine LeO.bind ?_ (fun _ => ?_))
   | exact ih0 _ _ _ _ _ _ _ _ _ _ _ _ _ _ _ _ _ _ _
   | exact rickyardlaw02_alive.mono _
   | exact LeO.none _
   | refine LeO.ite ?_ ?_
   | refine LeO.bind ?_ (fun _ => ?_)
theorem rickyardlaw02_AggMonoid.mono : ∀ a0 a1 a2 a3 a4 a5 a6 a7 a8 a9 a10 a11 a12 a13 a14 a15 a16 a17 k, LeO (rickyardlaw02_AggMonoid.f k a0 a1 a2 a3 a4 a5 a6 a7 a8 a9 a10 a11 a12 a13 a14 a15 a16 a17) (rickyardlaw02_AggMonoid.f (k + 1) a0 a1 a2 a3 a4 a5 a6 a7 a8 a9 a10 a11 a12 a13 a14 a15 a16 a17) := by
 intro a0 a1 a2 a3 a4 a5 a6 a7 a8 a9 a10 a11 a12 a13 a14 a15 a16 a17 k
 have ih0 := rickyardlaw02_AggMonoid.mono_l k
 unfold rickyardlaw02_AggMonoid.f
 repeat' first
   | (with_reducible exact ih0 _ _ _ _ _ _ _ _ _ _ _ _ _ _ _ _ _ _ _)
   | (with_reducible exact rickyardlaw02_alive.mono _)
   | (with_reducible exact LeO.refl _)
   | (with_reducible exact LeO.none _)
   | (with_reducible refine LeO.ite ?_ ?_)
   | (with_reducible refine LeO.bind ?_ (fun _ => ?_))
   | exact ih0 _ _ _ _ _ _ _ _ _ _ _ _ _ _ _ _ _ _ _
   | exact rickyardlaw02_alive.mono _
   | exact LeO.none _
   | refine LeO.ite ?_ ?_
   | refine LeO.bind ?_ (fun _ => ?_)
def rickyardlaw02_AggMonoid.T3 : Bool × List (List Nat × List Nat) := (true, [([], []), ([], []), ([0, 1], [0, 1]), ([], []), ([2, 3, 2], [2, 3]), ([], []), ([], []), ([], []), ([6, 7, 4], [6, 7]), ([5, 8, 8], [5, 8]), ([], []), ([], []), ([10, 4, 9, 0, 1, 2, 3, 4, 10, 11], [4, 10]), ([11, 9, 12, 0, 1, 2, 3, 4, 5, 6, 7, 8, 9, 10, 11, 12], [9, 11])])
def rickyardlaw02_AggMonoid.B3 : List Nat := [0, 0, 3, 0, 15, 0, 0, 0, 223, 511, 0, 0, 4095, 8191]
theorem rickyardlaw02_AggMonoid.tab3 : rtab .any (opsOf Try.f3 3) = rickyardlaw02_AggMonoid.T3 := by kernel_rfl
theorem rickyardlaw02_AggMonoid.bits3 : waitsOk rickyardlaw02_AggMonoid.T3.2 rickyardlaw02_AggMonoid.B3 = true := by kernel_rfl
def rickyardlaw02_AggMonoid.T4 : Bool × List (List Nat × List Nat) := (true, [([], []), ([0, 0], [0]), ([1], [1]), ([1], [1]), ([2, 3, 1], [1, 2, 3]), ([1, 4], [1, 4]), ([5, 1], [5]), ([6], [6]), ([6], [6]), ([7, 8, 6, 6], [6, 7, 8]), ([6], [6]), ([6], [6]), ([10, 11, 9, 6], [6, 10, 11]), ([9, 12, 6], [6, 9, 12]), ([6, 13], [6, 13]), ([14, 12], [14]), ([15], [15]), ([15], [15]), ([16, 17, 15, 15], [15, 16, 17]), ([15], [15]), ([18, 19, 15], [15, 18, 19]), ([15, 20], [15, 20]), ([21, 18], [21]), ([22], [22]), ([22], [22]), ([23, 24, 22, 22], [22, 23, 24]), ([22], [22]), ([25, 26, 22], [22, 25, 26]), ([22, 27], [22, 27]), ([28, 25], [28]), ([29], [29]), ([30, 29, 29], [29, 30]), ([29, 31], [29, 31]), ([32, 31, 0, 1, 2, 3, 4, 5, 6, 7, 8, 9, 10, 11, 12, 13, 14, 15, 16, 17, 18, 19, 20, 21, 22, 23, 24, 25, 26, 27, 28, 29, 30, 31, 32], [32])])
def rickyardlaw02_AggMonoid.B4 : List Nat := [0, 1, 3, 3, 15, 31, 63, 127, 127, 511, 127, 127, 4095, 8191, 16383, 32767, 65535, 65535, 262143, 65535, 1048575, 2097151, 4194303, 8388607, 8388607, 33554431, 8388607, 134217727, 268435455, 536870911, 1073741823, 2147483647, 4294967295, 8589934591]
theorem rickyardlaw02_AggMonoid.tab4 : rtab .any (opsOf Try.f3 4) = rickyardlaw02_AggMonoid.T4 := by kernel_rfl
theorem rickyardlaw02_AggMonoid.bits4 : waitsOk rickyardlaw02_AggMonoid.T4.2 rickyardlaw02_AggMonoid.B4 = true := by kernel_rfl
@[reducible] def cz_ (n : Int) (o : Bool) (x y a b : Int) : Obj := .cells #[.int .u64 n, .bool o, .int .i64 x, .int .u64 y, .int .i64 a, .int .i64 b] 26 (0, 0)
@[reducible] def hc_ (w : World) (g : Nat) (n : Int) (o : Bool) (x y a b : Int) : Prop := w.cell? ⟨g, 0, none⟩ = some (.int .u64 n) ∧ w.cell? ⟨g, 1, none⟩ = some (.bool o) ∧ w.cell? ⟨g, 2, none⟩ = some (.int .i64 x) ∧ w.cell? ⟨g, 3, none⟩ = some (.int .u64 y) ∧ w.cell? ⟨g, 4, none⟩ = some (.int .i64 a) ∧ w.cell? ⟨g, 5, none⟩ = some (.int .i64 b)
@[reducible] def hk_ (w : World) (g : Nat) (n : Int) (o : Bool) (x y a b : Int) (P : Prop) : Prop := w.cell? ⟨g, 0, none⟩ = some (.int .u64 n) ∧ w.cell? ⟨g, 1, none⟩ = some (.bool o) ∧ w.cell? ⟨g, 2, none⟩ = some (.int .i64 x) ∧ w.cell? ⟨g, 3, none⟩ = some (.int .u64 y) ∧ w.cell? ⟨g, 4, none⟩ = some (.int .i64 a) ∧ w.cell? ⟨g, 5, none⟩ = some (.int .i64 b) ∧ P
theorem hL_ {w : World} {g : Nat} {n : Int} {o : Bool} {x y a b : Int} (h : Aside0 (w.heap[g]? = some (cz_ n o x y a b))) : hc_ w g n o x y a b := ⟨(blk_cell h.out 0).trans rfl, (blk_cell h.out 1).trans rfl, (blk_cell h.out 2).trans rfl, (blk_cell h.out 3).trans rfl, (blk_cell h.out 4).trans rfl, (blk_cell h.out 5).trans rfl⟩
theorem hI_ {w : World} {g : Nat} {n : Int} {o : Bool} {x y a b : Int} {P : Prop} (h : Aside0 (w.heap[g]? = some (cz_ n o x y a b))) (p : P) : hk_ w g n o x y a b P := ⟨(blk_cell h.out 0).trans rfl, (blk_cell h.out 1).trans rfl, (blk_cell h.out 2).trans rfl, (blk_cell h.out 3).trans rfl, (blk_cell h.out 4).trans rfl, (blk_cell h.out 5).trans rfl, p⟩
theorem cf_ {W : World} {g k i j : Nat} {u : Value} {r : Option Value} (h : Aside0 (g ≠ k)) (q : W.cell? ⟨g, i, none⟩ = r) : (W.setCell ⟨k, j, none⟩ u).cell? ⟨g, i, none⟩ = r := (cell_far (p := ⟨k, j, none⟩) (a := ⟨g, i, none⟩) h.out u).trans q
theorem sy_ {a b : Nat} (h : Aside0 (a ≠ b)) : Aside0 (b ≠ a) := ⟨fun e => h.out e.symm⟩
theorem sa_ {α : Type} {l : List α} {i : Nat} {a : α} : l.toArray.setIfInBounds i a = (l.set i a).toArray := List.setIfInBounds_toArray ..
theorem sb_ {α : Type} {b a : α} {l : List α} : (b :: l).set 0 a = a :: l := List.set_cons_zero
theorem sc_ {α : Type} {b a : α} {l : List α} {n : Nat} : (b :: l).set (n + 1) a = b :: l.set n a := List.set_cons_succ
theorem bn_ {B : Nat} {w W : World} (h : Below B w W) (n : Nat) : Below B w (W.drewN n) := pw_below_drewN h n
theorem bd_ {base : Nat} {w W : World} (h : Below base w W) : Below base w W.drew := below_drew1 h
theorem ba_ {w W : World} (h : Below w.heap.size w W) (o : Obj) : Below w.heap.size w (W.alloc o) := below_alloc h o
theorem bs_ {w W : World} {g j : Nat} {v : Value} (hg : Aside0 (w.heap.size ≤ g)) (h : Below w.heap.size w W) : Below w.heap.size w (W.setCell ⟨g, j, none⟩ v) := below_set h hg.out
abbrev T : Bool := true
abbrev F : Bool := false
set_option maxHeartbeats 8000000 in
set_option maxRecDepth 100000 in
theorem rickyardlaw02_AggMonoid.calls (k : Nat) (a0_0 : Int) (a0_1 : Bool) (a0_2 : Int) (a0_3 : Int) (a0_4 : Int) (a0_5 : Int) (a1_0 : Int) (a1_1 : Bool) (a1_2 : Int) (a1_3 : Int) (a1_4 : Int) (a1_5 : Int) (a2_0 : Int) (a2_1 : Bool) (a2_2 : Int) (a2_3 : Int) (a2_4 : Int) (a2_5 : Int) (r : Bool) (w : World) (h : rickyardlaw02_AggMonoid.f k a0_0 a0_1 a0_2 a0_3 a0_4 a0_5 a1_0 a1_1 a1_2 a1_3 a1_4 a1_5 a2_0 a2_1 a2_2 a2_3 a2_4 a2_5 = some r) (hr_ : r = true) :
  Calls Try.prog 3 #[.agg #[.int .u64 a0_0, .bool a0_1, .int .i64 a0_2, .int .u64 a0_3, .int .i64 a0_4, .int .i64 a0_5], .agg #[.int .u64 a1_0, .bool a1_1, .int .i64 a1_2, .int .u64 a1_3, .int .i64 a1_4, .int .i64 a1_5], .agg #[.int .u64 a2_0, .bool a2_1, .int .i64 a2_2, .int .u64 a2_3, .int .i64 a2_4, .int .i64 a2_5]] w fun e w' => e = .returned (.bool r) ∧ Below w.heap.size w w' := by
 have HR_ := Aside0.mk hr_
 clear hr_
 have hu26 := Try.underlying26
 have HB := AK_ (Below.refl w.heap.size w)
 have H : ((agg_Right.f a0_0 a0_1 a0_2 a0_3 a0_4 a0_5).bind fun t164 => (if t164 = true then ((agg_Right.f a1_0 a1_1 a1_2 a1_3 a1_4 a1_5).bind fun t165 => (if t165 = true then ((agg_Right.f a2_0 a2_1 a2_2 a2_3 a2_4 a2_5).bind fun t166 => (rickyardlaw02_AggMonoid.j0 k (!t166) a0_0 a0_1 a0_2 a0_3 a0_4 a0_5 a1_0 a1_1 a1_2 a1_3 a1_4 a1_5 a2_0 a2_1 a2_2 a2_3 a2_4 a2_5)) else (rickyardlaw02_AggMonoid.j0 k true a0_0 a0_1 a0_2 a0_3 a0_4 a0_5 a1_0 a1_1 a1_2 a1_3 a1_4 a1_5 a2_0 a2_1 a2_2 a2_3 a2_4 a2_5))) else (rickyardlaw02_AggMonoid.j0 k true a0_0 a0_1 a0_2 a0_3 a0_4 a0_5 a1_0 a1_1 a1_2 a1_3 a1_4 a1_5 a2_0 a2_1 a2_2 a2_3 a2_4 a2_5))) = some r := h
 clear h
 have HC4 := Aside0.mk H
 clear H
 go_enter Try.func3, Try.ntmps3
 go_upto_region 1 with (first | ((with_reducible refine gate_dst (N := 3) rfl ?_); refine box_event ?hg (N := 3) ?hd (cs := #[.int .u64 a0_0, .bool a0_1, .int .i64 a0_2, .int .u64 a0_3, .int .i64 a0_4, .int .i64 a0_5]) (t := 26) ?hr ?_; (case hd => rfl); (case hg => rfl); (case hr => first | (go_simp; done) | (go_simp; rfl)); intro g1 hg w5 hbox hb; have n0_ := AK_ (below_step (by repeat (first | (with_reducible first | exact HB.out | apply ba_ | apply bn_ | apply bd_) | exact HB.out)) hb); have n1_ := AK_ (hbox); have n2_ := AK_ ((by rw [hg]; exact (below_size (by repeat (first | (with_reducible first | exact HB.out | apply ba_ | apply bn_ | apply bd_) | exact HB.out))) : w.heap.size ≤ g1)); have n3_ := AK_ ((by rw [hg]; exact (below_size (by repeat (first | (with_reducible first | exact HB.out | apply ba_ | apply bn_ | apply bd_) | exact HB.out))) : w.heap.size ≤ g1)); clear HB; have HB := n0_; have K1 := n1_; have G1 := n2_; have E1 := n3_; clear n0_ n1_ n2_ n3_; clear hb hbox hg) | ((with_reducible refine gate_dst (N := 4) rfl ?_); refine box_event ?hg (N := 4) ?hd (cs := #[.int .u64 a1_0, .bool a1_1, .int .i64 a1_2, .int .u64 a1_3, .int .i64 a1_4, .int .i64 a1_5]) (t := 26) ?hr ?_; (case hd => rfl); (case hg => rfl); (case hr => first | (go_simp; done) | (go_simp; rfl)); intro g2 hg w6 hbox hb; have n0_ := AK_ (blk_below (by apply_rules [K1.out, bN_, bD_, bA_]) hb); have n1_ := AK_ (below_step (by repeat (first | (with_reducible first | exact HB.out | apply ba_ | apply bn_ | apply bd_ | refine bs_ E1 ?_) | exact HB.out)) hb); have n2_ := AK_ (hbox); have n3_ := AK_ ((by rw [hg]; exact (below_size (by repeat (first | (with_reducible first | exact HB.out | apply ba_ | apply bn_ | apply bd_ | refine bs_ E1 ?_) | exact HB.out))) : w.heap.size ≤ g2)); have n4_ := n3_; have n5_ := AK_ ((by rw [hg]; exact Nat.ne_of_lt (blk_lt (g := g1) (o := cz_ a0_0 a0_1 a0_2 a0_3 a0_4 a0_5) (by apply_rules [K1.out, bN_, bD_, bA_])) : g1 ≠ g2)); have n6_ := AK_ ((by rw [hg]; exact Nat.ne_of_gt (blk_lt (g := g1) (o := cz_ a0_0 a0_1 a0_2 a0_3 a0_4 a0_5) (by apply_rules [K1.out, bN_, bD_, bA_])) : g2 ≠ g1)); clear K1; clear HB; have K1 := n0_; have HB := n1_; have K2 := n2_; have G2 := n3_; have E2 := n4_; have N1_2 := n5_; have N2_1 := n6_; clear n0_ n1_ n2_ n3_ n4_ n5_ n6_; clear hb hbox hg) | ((with_reducible refine gate_dst (N := 5) rfl ?_); refine box_event ?hg (N := 5) ?hd (cs := #[.int .u64 a2_0, .bool a2_1, .int .i64 a2_2, .int .u64 a2_3, .int .i64 a2_4, .int .i64 a2_5]) (t := 26) ?hr ?_; (case hd => rfl); (case hg => rfl); (case hr => first | (go_simp; done) | (go_simp; rfl)); intro g3 hg w7 hbox hb; have n0_ := AK_ (blk_below (by apply_rules [K1.out, bN_, bD_, bA_]) hb); have n1_ := AK_ (blk_below (by apply_rules [K2.out, bN_, bD_, bA_]) hb); have n2_ := AK_ (below_step (by repeat (first | (with_reducible first | exact HB.out | apply ba_ | apply bn_ | apply bd_ | refine bs_ E1 ?_ | refine bs_ E2 ?_) | exact HB.out)) hb); have n3_ := AK_ (hbox); have n4_ := AK_ ((by rw [hg]; exact (below_size (by repeat (first | (with_reducible first | exact HB.out | apply ba_ | apply bn_ | apply bd_ | refine bs_ E1 ?_ | refine bs_ E2 ?_) | exact HB.out))) : w.heap.size ≤ g3)); have n5_ := n4_; have n6_ := AK_ ((by rw [hg]; exact Nat.ne_of_lt (blk_lt (g := g1) (o := cz_ a0_0 a0_1 a0_2 a0_3 a0_4 a0_5) (by apply_rules [K1.out, bN_, bD_, bA_])) : g1 ≠ g3)); have n7_ := sy_ n6_; have n8_ := AK_ ((by rw [hg]; exact Nat.ne_of_lt (blk_lt (g := g2) (o := cz_ a1_0 a1_1 a1_2 a1_3 a1_4 a1_5) (by apply_rules [K2.out, bN_, bD_, bA_])) : g2 ≠ g3)); have n9_ := sy_ n8_; clear K1; clear K2; clear HB; have K1 := n0_; have K2 := n1_; have HB := n2_; have K3 := n3_; have G3 := n4_; have E3 := n5_; have N1_3 := n6_; have N3_1 := n7_; have N2_3 := n8_; have N3_2 := n9_; clear n0_ n1_ n2_ n3_ n4_ n5_ n6_ n7_ n8_ n9_; clear hb hbox hg))
 (try simp only [Act.put, sa_, sb_, sc_])
 go_cut [21] (fun v21 wc => ∃ (kq : Nat) (x21_3 : Bool), v21 = .bool x21_3 ∧ Aside0 (rickyardlaw02_AggMonoid.j0 kq x21_3 a0_0 a0_1 a0_2 a0_3 a0_4 a0_5 a1_0 a1_1 a1_2 a1_3 a1_4 a1_5 a2_0 a2_1 a2_2 a2_3 a2_4 a2_5 = some r) ∧ Aside0 (kq ≤ k) ∧ Aside0 (wc.heap[g1]? = some (cz_ a0_0 a0_1 a0_2 a0_3 a0_4 a0_5)) ∧ Aside0 (wc.heap[g2]? = some (cz_ a1_0 a1_1 a1_2 a1_3 a1_4 a1_5)) ∧ Aside0 (wc.heap[g3]? = some (cz_ a2_0 a2_1 a2_2 a2_3 a2_4 a2_5)) ∧ Aside0 (Below w.heap.size w wc))
 case first =>
  have H := HC4.out
  clear HC4
  replace H := Option.bind_eq_some_iff.mp H
  obtain ⟨t164, A80, H⟩ := H
  replace H : (if t164 = true then ((agg_Right.f a1_0 a1_1 a1_2 a1_3 a1_4 a1_5).bind fun t165 => (if t165 = true then ((agg_Right.f a2_0 a2_1 a2_2 a2_3 a2_4 a2_5).bind fun t166 => (rickyardlaw02_AggMonoid.j0 k (!t166) a0_0 a0_1 a0_2 a0_3 a0_4 a0_5 a1_0 a1_1 a1_2 a1_3 a1_4 a1_5 a2_0 a2_1 a2_2 a2_3 a2_4 a2_5)) else (rickyardlaw02_AggMonoid.j0 k true a0_0 a0_1 a0_2 a0_3 a0_4 a0_5 a1_0 a1_1 a1_2 a1_3 a1_4 a1_5 a2_0 a2_1 a2_2 a2_3 a2_4 a2_5))) else (rickyardlaw02_AggMonoid.j0 k true a0_0 a0_1 a0_2 a0_3 a0_4 a0_5 a1_0 a1_1 a1_2 a1_3 a1_4 a1_5 a2_0 a2_1 a2_2 a2_3 a2_4 a2_5)) = some r := H
  have A8 := Aside0.mk A80
  clear A80
  by_cases c9 : t164 = true
  ·subst c9
   have H1 : ((agg_Right.f a1_0 a1_1 a1_2 a1_3 a1_4 a1_5).bind fun t165 => (if t165 = true then ((agg_Right.f a2_0 a2_1 a2_2 a2_3 a2_4 a2_5).bind fun t166 => (rickyardlaw02_AggMonoid.j0 k (!t166) a0_0 a0_1 a0_2 a0_3 a0_4 a0_5 a1_0 a1_1 a1_2 a1_3 a1_4 a1_5 a2_0 a2_1 a2_2 a2_3 a2_4 a2_5)) else (rickyardlaw02_AggMonoid.j0 k true a0_0 a0_1 a0_2 a0_3 a0_4 a0_5 a1_0 a1_1 a1_2 a1_3 a1_4 a1_5 a2_0 a2_1 a2_2 a2_3 a2_4 a2_5))) = some r := by rw [if_pos rfl] at H; exact H
   clear H
   have H := H1
   clear H1
   replace H := Option.bind_eq_some_iff.mp H
   obtain ⟨t165, A100, H⟩ := H
   replace H : (if t165 = true then ((agg_Right.f a2_0 a2_1 a2_2 a2_3 a2_4 a2_5).bind fun t166 => (rickyardlaw02_AggMonoid.j0 k (!t166) a0_0 a0_1 a0_2 a0_3 a0_4 a0_5 a1_0 a1_1 a1_2 a1_3 a1_4 a1_5 a2_0 a2_1 a2_2 a2_3 a2_4 a2_5)) else (rickyardlaw02_AggMonoid.j0 k true a0_0 a0_1 a0_2 a0_3 a0_4 a0_5 a1_0 a1_1 a1_2 a1_3 a1_4 a1_5 a2_0 a2_1 a2_2 a2_3 a2_4 a2_5)) = some r := H
   have A10 := Aside0.mk A100
   clear A100
   by_cases c11 : t165 = true
   ·subst c11
    have H1 : ((agg_Right.f a2_0 a2_1 a2_2 a2_3 a2_4 a2_5).bind fun t166 => (rickyardlaw02_AggMonoid.j0 k (!t166) a0_0 a0_1 a0_2 a0_3 a0_4 a0_5 a1_0 a1_1 a1_2 a1_3 a1_4 a1_5 a2_0 a2_1 a2_2 a2_3 a2_4 a2_5)) = some r := by rw [if_pos rfl] at H; exact H
    clear H
    have H := H1
    clear H1
    replace H := Option.bind_eq_some_iff.mp H
    obtain ⟨t166, A120, H⟩ := H
    replace H : (rickyardlaw02_AggMonoid.j0 k (!t166) a0_0 a0_1 a0_2 a0_3 a0_4 a0_5 a1_0 a1_1 a1_2 a1_3 a1_4 a1_5 a2_0 a2_1 a2_2 a2_3 a2_4 a2_5) = some r := H
    have A12 := Aside0.mk A120
    clear A120
    have H' := Aside0.mk H
    clear H
    have hnb13 := N1_2.out
    have hnc13 := N2_1.out
    have hnb14 := N1_3.out
    have hnc14 := N3_1.out
    have hcz15_0 : w7.cell? ⟨g1, 0, none⟩ = some (.int .u64 a0_0) := (blk_cell K1.out 0).trans rfl
    have hcz15_1 : w7.cell? ⟨g1, 1, none⟩ = some (.bool a0_1) := (blk_cell K1.out 1).trans rfl
    have hcz15_2 : w7.cell? ⟨g1, 2, none⟩ = some (.int .i64 a0_2) := (blk_cell K1.out 2).trans rfl
    have hcz15_3 : w7.cell? ⟨g1, 3, none⟩ = some (.int .u64 a0_3) := (blk_cell K1.out 3).trans rfl
    have hcz15_4 : w7.cell? ⟨g1, 4, none⟩ = some (.int .i64 a0_4) := (blk_cell K1.out 4).trans rfl
    have hcz15_5 : w7.cell? ⟨g1, 5, none⟩ = some (.int .i64 a0_5) := (blk_cell K1.out 5).trans rfl
    have hfz15_0 := blk_frozen K1.out 0
    have hfz15_1 := blk_frozen K1.out 1
    have hfz15_2 := blk_frozen K1.out 2
    have hfz15_3 := blk_frozen K1.out 3
    have hfz15_4 := blk_frozen K1.out 4
    have hfz15_5 := blk_frozen K1.out 5
    go_wp2_with (first | ((with_reducible refine gate_callee (f := 9) rfl ?_); refine goesL_ (some 10) rfl rfl Try.func9 (by kernel_rfl) rfl #[.agg #[.int .u64 a0_0, .bool a0_1, .int .i64 a0_2, .int .u64 a0_3, .int .i64 a0_4, .int .i64 a0_5]] rfl (by (try simp only [List.map_toArray, List.map_cons, List.map_nil]); first | done | rfl | (simp only [List.length_drop, List.length_take]; rfl)) ?_; (with_reducible refine (agg_Right.calls a0_0 a0_1 a0_2 a0_3 a0_4 a0_5 true _ A8.out).mono ?_); rintro e w16 ⟨rfl, hb⟩; refine ⟨_, rfl, ?_⟩; have n0_ := AK_ (blk_below (by apply_rules [K1.out, bN_, bD_, bA_]) hb); have n1_ := AK_ (blk_below (by apply_rules [K2.out, bN_, bD_, bA_]) hb); have n2_ := AK_ (blk_below (by apply_rules [K3.out, bN_, bD_, bA_]) hb); have n3_ := AK_ (below_step (by repeat (first | (with_reducible first | exact HB.out | apply ba_ | apply bn_ | apply bd_ | refine bs_ E1 ?_ | refine bs_ E2 ?_ | refine bs_ E3 ?_) | exact HB.out)) hb); clear K1; clear K2; clear K3; clear HB; have K1 := n0_; have K2 := n1_; have K3 := n2_; have HB := n3_; clear n0_ n1_ n2_ n3_; (try clear hb); (try clear hb2); (try clear hk); (try clear hi); have hnb17 := N2_3.out; have hnc17 := N3_2.out; have hcz18_0 : w16.cell? ⟨g2, 0, none⟩ = some (.int .u64 a1_0) := (blk_cell K2.out 0).trans rfl; have hcz18_1 : w16.cell? ⟨g2, 1, none⟩ = some (.bool a1_1) := (blk_cell K2.out 1).trans rfl; have hcz18_2 : w16.cell? ⟨g2, 2, none⟩ = some (.int .i64 a1_2) := (blk_cell K2.out 2).trans rfl; have hcz18_3 : w16.cell? ⟨g2, 3, none⟩ = some (.int .u64 a1_3) := (blk_cell K2.out 3).trans rfl; have hcz18_4 : w16.cell? ⟨g2, 4, none⟩ = some (.int .i64 a1_4) := (blk_cell K2.out 4).trans rfl; have hcz18_5 : w16.cell? ⟨g2, 5, none⟩ = some (.int .i64 a1_5) := (blk_cell K2.out 5).trans rfl; have hfz18_0 := blk_frozen K2.out 0; have hfz18_1 := blk_frozen K2.out 1; have hfz18_2 := blk_frozen K2.out 2; have hfz18_3 := blk_frozen K2.out 3; have hfz18_4 := blk_frozen K2.out 4; have hfz18_5 := blk_frozen K2.out 5) | (go_at_call 9; (with_reducible refine (agg_Right.calls a1_0 a1_1 a1_2 a1_3 a1_4 a1_5 true _ A10.out).mono ?_); rintro e w19 ⟨rfl, hb⟩; have n0_ := AK_ (blk_below (by apply_rules [K1.out, bN_, bD_, bA_]) hb); have n1_ := AK_ (blk_below (by apply_rules [K2.out, bN_, bD_, bA_]) hb); have n2_ := AK_ (blk_below (by apply_rules [K3.out, bN_, bD_, bA_]) hb); have n3_ := AK_ (below_step (by repeat (first | (with_reducible first | exact HB.out | apply ba_ | apply bn_ | apply bd_ | refine bs_ E1 ?_ | refine bs_ E2 ?_ | refine bs_ E3 ?_) | exact HB.out)) hb); clear K1; clear K2; clear K3; clear HB; have K1 := n0_; have K2 := n1_; have K3 := n2_; have HB := n3_; clear n0_ n1_ n2_ n3_; (try clear hb); (try clear hb2); (try clear hk); (try clear hi); have hcz20_0 : w19.cell? ⟨g3, 0, none⟩ = some (.int .u64 a2_0) := (blk_cell K3.out 0).trans rfl; have hcz20_1 : w19.cell? ⟨g3, 1, none⟩ = some (.bool a2_1) := (blk_cell K3.out 1).trans rfl; have hcz20_2 : w19.cell? ⟨g3, 2, none⟩ = some (.int .i64 a2_2) := (blk_cell K3.out 2).trans rfl; have hcz20_3 : w19.cell? ⟨g3, 3, none⟩ = some (.int .u64 a2_3) := (blk_cell K3.out 3).trans rfl; have hcz20_4 : w19.cell? ⟨g3, 4, none⟩ = some (.int .i64 a2_4) := (blk_cell K3.out 4).trans rfl; have hcz20_5 : w19.cell? ⟨g3, 5, none⟩ = some (.int .i64 a2_5) := (blk_cell K3.out 5).trans rfl; have hfz20_0 := blk_frozen K3.out 0; have hfz20_1 := blk_frozen K3.out 1; have hfz20_2 := blk_frozen K3.out 2; have hfz20_3 := blk_frozen K3.out 3; have hfz20_4 := blk_frozen K3.out 4; have hfz20_5 := blk_frozen K3.out 5) | (go_at_call 9; (with_reducible refine (agg_Right.calls a2_0 a2_1 a2_2 a2_3 a2_4 a2_5 t166 _ A12.out).mono ?_); rintro e w21 ⟨rfl, hb⟩; have n0_ := AK_ (blk_below (by apply_rules [K1.out, bN_, bD_, bA_]) hb); have n1_ := AK_ (blk_below (by apply_rules [K2.out, bN_, bD_, bA_]) hb); have n2_ := AK_ (blk_below (by apply_rules [K3.out, bN_, bD_, bA_]) hb); have n3_ := AK_ (below_step (by repeat (first | (with_reducible first | exact HB.out | apply ba_ | apply bn_ | apply bd_ | refine bs_ E1 ?_ | refine bs_ E2 ?_ | refine bs_ E3 ?_) | exact HB.out)) hb); clear K1; clear K2; clear K3; clear HB; have K1 := n0_; have K2 := n1_; have K3 := n2_; have HB := n3_; clear n0_ n1_ n2_ n3_; (try clear hb); (try clear hb2); (try clear hk); (try clear hi)))
    go_meet
    case rel => exact ⟨_, (!t166), (by first | rfl | (simp; done) | (simp [*]; done)), H', ⟨by first | omega | exact Nat.le_refl _⟩, ⟨by (with_reducible repeat (first | refine blk_drewN ?_ _ | refine blk_drew ?_ | refine blk_alloc ?_ _)); exact K1.out⟩, ⟨by (with_reducible repeat (first | refine blk_drewN ?_ _ | refine blk_drew ?_ | refine blk_alloc ?_ _)); exact K2.out⟩, ⟨by (with_reducible repeat (first | refine blk_drewN ?_ _ | refine blk_drew ?_ | refine blk_alloc ?_ _)); exact K3.out⟩, ⟨by repeat (first | (with_reducible first | exact HB.out | apply ba_ | apply bn_ | apply bd_ | refine bs_ E1 ?_ | refine bs_ E2 ?_ | refine bs_ E3 ?_) | exact HB.out)⟩⟩
   ·replace c11 := Bool.eq_false_iff.mpr c11
    subst c11
    have H1 : (rickyardlaw02_AggMonoid.j0 k true a0_0 a0_1 a0_2 a0_3 a0_4 a0_5 a1_0 a1_1 a1_2 a1_3 a1_4 a1_5 a2_0 a2_1 a2_2 a2_3 a2_4 a2_5) = some r := by rw [if_neg (show ¬ (false = true) by decide)] at H; exact H
    clear H
    have H := H1
    clear H1
    have H' := Aside0.mk H
    clear H
    have hnb22 := N1_2.out
    have hnc22 := N2_1.out
    have hnb23 := N1_3.out
    have hnc23 := N3_1.out
    have hcz24_0 : w7.cell? ⟨g1, 0, none⟩ = some (.int .u64 a0_0) := (blk_cell K1.out 0).trans rfl
    have hcz24_1 : w7.cell? ⟨g1, 1, none⟩ = some (.bool a0_1) := (blk_cell K1.out 1).trans rfl
    have hcz24_2 : w7.cell? ⟨g1, 2, none⟩ = some (.int .i64 a0_2) := (blk_cell K1.out 2).trans rfl
    have hcz24_3 : w7.cell? ⟨g1, 3, none⟩ = some (.int .u64 a0_3) := (blk_cell K1.out 3).trans rfl
    have hcz24_4 : w7.cell? ⟨g1, 4, none⟩ = some (.int .i64 a0_4) := (blk_cell K1.out 4).trans rfl
    have hcz24_5 : w7.cell? ⟨g1, 5, none⟩ = some (.int .i64 a0_5) := (blk_cell K1.out 5).trans rfl
    have hfz24_0 := blk_frozen K1.out 0
    have hfz24_1 := blk_frozen K1.out 1
    have hfz24_2 := blk_frozen K1.out 2
    have hfz24_3 := blk_frozen K1.out 3
    have hfz24_4 := blk_frozen K1.out 4
    have hfz24_5 := blk_frozen K1.out 5
    go_wp2_with (first | ((with_reducible refine gate_callee (f := 9) rfl ?_); refine goesL_ (some 10) rfl rfl Try.func9 (by kernel_rfl) rfl #[.agg #[.int .u64 a0_0, .bool a0_1, .int .i64 a0_2, .int .u64 a0_3, .int .i64 a0_4, .int .i64 a0_5]] rfl (by (try simp only [List.map_toArray, List.map_cons, List.map_nil]); first | done | rfl | (simp only [List.length_drop, List.length_take]; rfl)) ?_; (with_reducible refine (agg_Right.calls a0_0 a0_1 a0_2 a0_3 a0_4 a0_5 true _ A8.out).mono ?_); rintro e w25 ⟨rfl, hb⟩; refine ⟨_, rfl, ?_⟩; have n0_ := AK_ (blk_below (by apply_rules [K1.out, bN_, bD_, bA_]) hb); have n1_ := AK_ (blk_below (by apply_rules [K2.out, bN_, bD_, bA_]) hb); have n2_ := AK_ (blk_below (by apply_rules [K3.out, bN_, bD_, bA_]) hb); have n3_ := AK_ (below_step (by repeat (first | (with_reducible first | exact HB.out | apply ba_ | apply bn_ | apply bd_ | refine bs_ E1 ?_ | refine bs_ E2 ?_ | refine bs_ E3 ?_) | exact HB.out)) hb); clear K1; clear K2; clear K3; clear HB; have K1 := n0_; have K2 := n1_; have K3 := n2_; have HB := n3_; clear n0_ n1_ n2_ n3_; (try clear hb); (try clear hb2); (try clear hk); (try clear hi); have hnb26 := N2_3.out; have hnc26 := N3_2.out; have hcz27_0 : w25.cell? ⟨g2, 0, none⟩ = some (.int .u64 a1_0) := (blk_cell K2.out 0).trans rfl; have hcz27_1 : w25.cell? ⟨g2, 1, none⟩ = some (.bool a1_1) := (blk_cell K2.out 1).trans rfl; have hcz27_2 : w25.cell? ⟨g2, 2, none⟩ = some (.int .i64 a1_2) := (blk_cell K2.out 2).trans rfl; have hcz27_3 : w25.cell? ⟨g2, 3, none⟩ = some (.int .u64 a1_3) := (blk_cell K2.out 3).trans rfl; have hcz27_4 : w25.cell? ⟨g2, 4, none⟩ = some (.int .i64 a1_4) := (blk_cell K2.out 4).trans rfl; have hcz27_5 : w25.cell? ⟨g2, 5, none⟩ = some (.int .i64 a1_5) := (blk_cell K2.out 5).trans rfl; have hfz27_0 := blk_frozen K2.out 0; have hfz27_1 := blk_frozen K2.out 1; have hfz27_2 := blk_frozen K2.out 2; have hfz27_3 := blk_frozen K2.out 3; have hfz27_4 := blk_frozen K2.out 4; have hfz27_5 := blk_frozen K2.out 5) | (go_at_call 9; (with_reducible refine (agg_Right.calls a1_0 a1_1 a1_2 a1_3 a1_4 a1_5 false _ A10.out).mono ?_); rintro e w28 ⟨rfl, hb⟩; have n0_ := AK_ (blk_below (by apply_rules [K1.out, bN_, bD_, bA_]) hb); have n1_ := AK_ (blk_below (by apply_rules [K2.out, bN_, bD_, bA_]) hb); have n2_ := AK_ (blk_below (by apply_rules [K3.out, bN_, bD_, bA_]) hb); have n3_ := AK_ (below_step (by repeat (first | (with_reducible first | exact HB.out | apply ba_ | apply bn_ | apply bd_ | refine bs_ E1 ?_ | refine bs_ E2 ?_ | refine bs_ E3 ?_) | exact HB.out)) hb); clear K1; clear K2; clear K3; clear HB; have K1 := n0_; have K2 := n1_; have K3 := n2_; have HB := n3_; clear n0_ n1_ n2_ n3_; (try clear hb); (try clear hb2); (try clear hk); (try clear hi)))
    go_meet
    case rel => exact ⟨_, (true), (by first | rfl | (simp; done) | (simp [*]; done)), H', ⟨by first | omega | exact Nat.le_refl _⟩, ⟨by (with_reducible repeat (first | refine blk_drewN ?_ _ | refine blk_drew ?_ | refine blk_alloc ?_ _)); exact K1.out⟩, ⟨by (with_reducible repeat (first | refine blk_drewN ?_ _ | refine blk_drew ?_ | refine blk_alloc ?_ _)); exact K2.out⟩, ⟨by (with_reducible repeat (first | refine blk_drewN ?_ _ | refine blk_drew ?_ | refine blk_alloc ?_ _)); exact K3.out⟩, ⟨by repeat (first | (with_reducible first | exact HB.out | apply ba_ | apply bn_ | apply bd_ | refine bs_ E1 ?_ | refine bs_ E2 ?_ | refine bs_ E3 ?_) | exact HB.out)⟩⟩
  ·replace c9 := Bool.eq_false_iff.mpr c9
   subst c9
   have H1 : (rickyardlaw02_AggMonoid.j0 k true a0_0 a0_1 a0_2 a0_3 a0_4 a0_5 a1_0 a1_1 a1_2 a1_3 a1_4 a1_5 a2_0 a2_1 a2_2 a2_3 a2_4 a2_5) = some r := by rw [if_neg (show ¬ (false = true) by decide)] at H; exact H
   clear H
   have H := H1
   clear H1
   have H' := Aside0.mk H
   clear H
   have hnb29 := N1_2.out
   have hnc29 := N2_1.out
   have hnb30 := N1_3.out
   have hnc30 := N3_1.out
   have hcz31_0 : w7.cell? ⟨g1, 0, none⟩ = some (.int .u64 a0_0) := (blk_cell K1.out 0).trans rfl
   have hcz31_1 : w7.cell? ⟨g1, 1, none⟩ = some (.bool a0_1) := (blk_cell K1.out 1).trans rfl
   have hcz31_2 : w7.cell? ⟨g1, 2, none⟩ = some (.int .i64 a0_2) := (blk_cell K1.out 2).trans rfl
   have hcz31_3 : w7.cell? ⟨g1, 3, none⟩ = some (.int .u64 a0_3) := (blk_cell K1.out 3).trans rfl
   have hcz31_4 : w7.cell? ⟨g1, 4, none⟩ = some (.int .i64 a0_4) := (blk_cell K1.out 4).trans rfl
   have hcz31_5 : w7.cell? ⟨g1, 5, none⟩ = some (.int .i64 a0_5) := (blk_cell K1.out 5).trans rfl
   have hfz31_0 := blk_frozen K1.out 0
   have hfz31_1 := blk_frozen K1.out 1
   have hfz31_2 := blk_frozen K1.out 2
   have hfz31_3 := blk_frozen K1.out 3
   have hfz31_4 := blk_frozen K1.out 4
   have hfz31_5 := blk_frozen K1.out 5
   go_wp2_with (first | ((with_reducible refine gate_callee (f := 9) rfl ?_); refine goesL_ (some 10) rfl rfl Try.func9 (by kernel_rfl) rfl #[.agg #[.int .u64 a0_0, .bool a0_1, .int .i64 a0_2, .int .u64 a0_3, .int .i64 a0_4, .int .i64 a0_5]] rfl (by (try simp only [List.map_toArray, List.map_cons, List.map_nil]); first | done | rfl | (simp only [List.length_drop, List.length_take]; rfl)) ?_; (with_reducible refine (agg_Right.calls a0_0 a0_1 a0_2 a0_3 a0_4 a0_5 false _ A8.out).mono ?_); rintro e w32 ⟨rfl, hb⟩; refine ⟨_, rfl, ?_⟩; have n0_ := AK_ (blk_below (by apply_rules [K1.out, bN_, bD_, bA_]) hb); have n1_ := AK_ (blk_below (by apply_rules [K2.out, bN_, bD_, bA_]) hb); have n2_ := AK_ (blk_below (by apply_rules [K3.out, bN_, bD_, bA_]) hb); have n3_ := AK_ (below_step (by repeat (first | (with_reducible first | exact HB.out | apply ba_ | apply bn_ | apply bd_ | refine bs_ E1 ?_ | refine bs_ E2 ?_ | refine bs_ E3 ?_) | exact HB.out)) hb); clear K1; clear K2; clear K3; clear HB; have K1 := n0_; have K2 := n1_; have K3 := n2_; have HB := n3_; clear n0_ n1_ n2_ n3_; (try clear hb); (try clear hb2); (try clear hk); (try clear hi)))
   go_meet
   case rel => exact ⟨_, (true), (by first | rfl | (simp; done) | (simp [*]; done)), H', ⟨by first | omega | exact Nat.le_refl _⟩, ⟨by (with_reducible repeat (first | refine blk_drewN ?_ _ | refine blk_drew ?_ | refine blk_alloc ?_ _)); exact K1.out⟩, ⟨by (with_reducible repeat (first | refine blk_drewN ?_ _ | refine blk_drew ?_ | refine blk_alloc ?_ _)); exact K2.out⟩, ⟨by (with_reducible repeat (first | refine blk_drewN ?_ _ | refine blk_drew ?_ | refine blk_alloc ?_ _)); exact K3.out⟩, ⟨by repeat (first | (with_reducible first | exact HB.out | apply ba_ | apply bn_ | apply bd_ | refine bs_ E1 ?_ | refine bs_ E2 ?_ | refine bs_ E3 ?_) | exact HB.out)⟩⟩
 case rest =>
  clear HC4
  try clear c1
  try clear c2
  try clear p2
  try clear c3
  try clear c9
  try clear c11
  try clear c13
  try clear c14
  try clear c17
  try clear c22
  try clear c23
  try clear c26
  try clear c29
  try clear c30
  try clear hcz15_0
  try clear hcz15_1
  try clear hcz15_2
  try clear hcz15_3
  try clear hcz15_4
  try clear hcz15_5
  try clear hcz18_0
  try clear hcz18_1
  try clear hcz18_2
  try clear hcz18_3
  try clear hcz18_4
  try clear hcz18_5
  try clear hcz20_0
  try clear hcz20_1
  try clear hcz20_2
  try clear hcz20_3
  try clear hcz20_4
  try clear hcz20_5
  try clear hcz24_0
  try clear hcz24_1
  try clear hcz24_2
  try clear hcz24_3
  try clear hcz24_4
  try clear hcz24_5
  try clear hcz27_0
  try clear hcz27_1
  try clear hcz27_2
  try clear hcz27_3
  try clear hcz27_4
  try clear hcz27_5
  try clear hcz31_0
  try clear hcz31_1
  try clear hcz31_2
  try clear hcz31_3
  try clear hcz31_4
  try clear hcz31_5
  try clear hfz15_0
  try clear hfz15_1
  try clear hfz15_2
  try clear hfz15_3
  try clear hfz15_4
  try clear hfz15_5
  try clear hfz18_0
  try clear hfz18_1
  try clear hfz18_2
  try clear hfz18_3
  try clear hfz18_4
  try clear hfz18_5
  try clear hfz20_0
  try clear hfz20_1
  try clear hfz20_2
  try clear hfz20_3
  try clear hfz20_4
  try clear hfz20_5
  try clear hfz24_0
  try clear hfz24_1
  try clear hfz24_2
  try clear hfz24_3
  try clear hfz24_4
  try clear hfz24_5
  try clear hfz27_0
  try clear hfz27_1
  try clear hfz27_2
  try clear hfz27_3
  try clear hfz27_4
  try clear hfz27_5
  try clear hfz31_0
  try clear hfz31_1
  try clear hfz31_2
  try clear hfz31_3
  try clear hfz31_4
  try clear hfz31_5
  obtain ⟨kq, x21_3, rfl, HA, HJ3, K1, K2, K3, HB⟩ := hcut
  cases kq with
  | zero => exact absurd HA.out (by simp [rickyardlaw02_AggMonoid.j0])
  | succ kj3 =>
   have H := HA.out
   clear HA
   simp only [rickyardlaw02_AggMonoid.j0] at H
   by_cases c33 : x21_3 = true
   ·subst c33
    have H1 : ((rickyardlaw02_alive.f kj3).bind fun t167 => (some t167)) = some r := by rw [if_pos rfl] at H; exact H
    clear H
    have H := H1
    clear H1
    replace H := Option.bind_eq_some_iff.mp H
    obtain ⟨t167, A340, H⟩ := H
    replace H : (some t167) = some r := H
    have A34 := Aside0.mk A340
    clear A340
    obtain rfl := Option.some.inj H
    go_wp2_with (first | ((with_reducible refine gate_callee (f := 10) rfl ?_); refine goesL_ (some 22) rfl rfl Try.func10 (by kernel_rfl) rfl #[] rfl (by (try simp only [List.map_toArray, List.map_cons, List.map_nil]); first | done | rfl | (simp only [List.length_drop, List.length_take]; rfl)) ?_; (with_reducible refine (rickyardlaw02_alive.calls kj3  t167 _ A34.out).mono ?_); rintro e w35 ⟨rfl, hb⟩; refine ⟨_, rfl, ?_⟩; have n0_ := AK_ (blk_below (by apply_rules [K1.out, bN_, bD_, bA_]) hb); have n1_ := AK_ (blk_below (by apply_rules [K2.out, bN_, bD_, bA_]) hb); have n2_ := AK_ (blk_below (by apply_rules [K3.out, bN_, bD_, bA_]) hb); have n3_ := AK_ (below_step (by repeat (first | (with_reducible first | exact HB.out | apply ba_ | apply bn_ | apply bd_ | refine bs_ E1 ?_ | refine bs_ E2 ?_ | refine bs_ E3 ?_) | exact HB.out)) hb); clear K1; clear K2; clear K3; clear HB; have K1 := n0_; have K2 := n1_; have K3 := n2_; have HB := n3_; clear n0_ n1_ n2_ n3_; (try clear hb); (try clear hb2); (try clear hk); (try clear hi)))
    go_ret
    exact ⟨by first | rfl | (simp [errW_none, errW_some] <;> rfl) | (simp [*, errW_none, errW_some] <;> rfl), by repeat (first | (with_reducible first | exact HB.out | apply ba_ | apply bn_ | apply bd_ | refine bs_ E1 ?_ | refine bs_ E2 ?_ | refine bs_ E3 ?_) | exact HB.out)⟩
   ·replace c33 := Bool.eq_false_iff.mpr c33
    subst c33
    have H1 : ((agg_Merge.f a0_0 a0_1 a0_2 a0_3 a0_4 a0_5 a1_0 a1_1 a1_2 a1_3 a1_4 a1_5).bind fun bt168 => ((agg_Merge.f bt168.1 bt168.2.1 bt168.2.2.1 bt168.2.2.2.1 bt168.2.2.2.2.1 bt168.2.2.2.2.2 a2_0 a2_1 a2_2 a2_3 a2_4 a2_5).bind fun bt174 => ((agg_Merge.f a1_0 a1_1 a1_2 a1_3 a1_4 a1_5 a2_0 a2_1 a2_2 a2_3 a2_4 a2_5).bind fun bt180 => ((agg_Merge.f a0_0 a0_1 a0_2 a0_3 a0_4 a0_5 bt180.1 bt180.2.1 bt180.2.2.1 bt180.2.2.2.1 bt180.2.2.2.2.1 bt180.2.2.2.2.2).bind fun bt186 => ((rickyardlaw02_alive.f kj3).bind fun t194 => (if t194 = true then (if (bt174.1 == bt186.1 && (bt174.2.1 == bt186.2.1 && ((bt174.2.2.1 == bt186.2.2.1 && (bt174.2.2.2.1 == bt186.2.2.2.1)) && (bt174.2.2.2.2.1 == bt186.2.2.2.2.1 && (bt174.2.2.2.2.2 == bt186.2.2.2.2.2))))) = true then ((agg_Merge.f a0_0 a0_1 a0_2 a0_3 a0_4 a0_5 a1_0 a1_1 a1_2 a1_3 a1_4 a1_5).bind fun bt195 => ((agg_Merge.f a1_0 a1_1 a1_2 a1_3 a1_4 a1_5 a0_0 a0_1 a0_2 a0_3 a0_4 a0_5).bind fun bt201 => (if (bt195.1 == bt201.1 && (bt195.2.1 == bt201.2.1 && ((bt195.2.2.1 == bt201.2.2.1 && (bt195.2.2.2.1 == bt201.2.2.2.1)) && (bt195.2.2.2.2.1 == bt201.2.2.2.2.1 && (bt195.2.2.2.2.2 == bt201.2.2.2.2.2))))) = true then ((agg_Merge.f a0_0 a0_1 a0_2 a0_3 a0_4 a0_5 0 false 0 0 0 0).bind fun bt207 => (if (bt207.1 == a0_0 && (bt207.2.1 == a0_1 && ((bt207.2.2.1 == a0_2 && (bt207.2.2.2.1 == a0_3)) && (bt207.2.2.2.2.1 == a0_4 && (bt207.2.2.2.2.2 == a0_5))))) = true then ((agg_Merge.f 0 false 0 0 0 0 a0_0 a0_1 a0_2 a0_3 a0_4 a0_5).bind fun bt213 => (if (bt213.1 == a0_0 && (bt213.2.1 == a0_1 && ((bt213.2.2.1 == a0_2 && (bt213.2.2.2.1 == a0_3)) && (bt213.2.2.2.2.1 == a0_4 && (bt213.2.2.2.2.2 == a0_5))))) = true then ((agg_Right.f bt174.1 bt174.2.1 bt174.2.2.1 bt174.2.2.2.1 bt174.2.2.2.2.1 bt174.2.2.2.2.2).bind fun t219 => (some t219)) else (some false))) else (some false))) else (some false)))) else (some false)) else (some false))))))) = some r := by rw [if_neg (show ¬ (false = true) by decide)] at H; exact H
    clear H
    have H := H1
    clear H1
    replace H := Option.bind_eq_some_iff.mp H
    obtain ⟨⟨t168, t169, t170, t171, t172, t173⟩, A360, H⟩ := H
    replace H : ((agg_Merge.f t168 t169 t170 t171 t172 t173 a2_0 a2_1 a2_2 a2_3 a2_4 a2_5).bind fun bt174 => ((agg_Merge.f a1_0 a1_1 a1_2 a1_3 a1_4 a1_5 a2_0 a2_1 a2_2 a2_3 a2_4 a2_5).bind fun bt180 => ((agg_Merge.f a0_0 a0_1 a0_2 a0_3 a0_4 a0_5 bt180.1 bt180.2.1 bt180.2.2.1 bt180.2.2.2.1 bt180.2.2.2.2.1 bt180.2.2.2.2.2).bind fun bt186 => ((rickyardlaw02_alive.f kj3).bind fun t194 => (if t194 = true then (if (bt174.1 == bt186.1 && (bt174.2.1 == bt186.2.1 && ((bt174.2.2.1 == bt186.2.2.1 && (bt174.2.2.2.1 == bt186.2.2.2.1)) && (bt174.2.2.2.2.1 == bt186.2.2.2.2.1 && (bt174.2.2.2.2.2 == bt186.2.2.2.2.2))))) = true then ((agg_Merge.f a0_0 a0_1 a0_2 a0_3 a0_4 a0_5 a1_0 a1_1 a1_2 a1_3 a1_4 a1_5).bind fun bt195 => ((agg_Merge.f a1_0 a1_1 a1_2 a1_3 a1_4 a1_5 a0_0 a0_1 a0_2 a0_3 a0_4 a0_5).bind fun bt201 => (if (bt195.1 == bt201.1 && (bt195.2.1 == bt201.2.1 && ((bt195.2.2.1 == bt201.2.2.1 && (bt195.2.2.2.1 == bt201.2.2.2.1)) && (bt195.2.2.2.2.1 == bt201.2.2.2.2.1 && (bt195.2.2.2.2.2 == bt201.2.2.2.2.2))))) = true then ((agg_Merge.f a0_0 a0_1 a0_2 a0_3 a0_4 a0_5 0 false 0 0 0 0).bind fun bt207 => (if (bt207.1 == a0_0 && (bt207.2.1 == a0_1 && ((bt207.2.2.1 == a0_2 && (bt207.2.2.2.1 == a0_3)) && (bt207.2.2.2.2.1 == a0_4 && (bt207.2.2.2.2.2 == a0_5))))) = true then ((agg_Merge.f 0 false 0 0 0 0 a0_0 a0_1 a0_2 a0_3 a0_4 a0_5).bind fun bt213 => (if (bt213.1 == a0_0 && (bt213.2.1 == a0_1 && ((bt213.2.2.1 == a0_2 && (bt213.2.2.2.1 == a0_3)) && (bt213.2.2.2.2.1 == a0_4 && (bt213.2.2.2.2.2 == a0_5))))) = true then ((agg_Right.f bt174.1 bt174.2.1 bt174.2.2.1 bt174.2.2.2.1 bt174.2.2.2.2.1 bt174.2.2.2.2.2).bind fun t219 => (some t219)) else (some false))) else (some false))) else (some false)))) else (some false)) else (some false)))))) = some r := H
    have A36 := Aside0.mk A360
    clear A360
    replace H := Option.bind_eq_some_iff.mp H
    obtain ⟨⟨t174, t175, t176, t177, t178, t179⟩, A370, H⟩ := H
    replace H : ((agg_Merge.f a1_0 a1_1 a1_2 a1_3 a1_4 a1_5 a2_0 a2_1 a2_2 a2_3 a2_4 a2_5).bind fun bt180 => ((agg_Merge.f a0_0 a0_1 a0_2 a0_3 a0_4 a0_5 bt180.1 bt180.2.1 bt180.2.2.1 bt180.2.2.2.1 bt180.2.2.2.2.1 bt180.2.2.2.2.2).bind fun bt186 => ((rickyardlaw02_alive.f kj3).bind fun t194 => (if t194 = true then (if (t174 == bt186.1 && (t175 == bt186.2.1 && ((t176 == bt186.2.2.1 && (t177 == bt186.2.2.2.1)) && (t178 == bt186.2.2.2.2.1 && (t179 == bt186.2.2.2.2.2))))) = true then ((agg_Merge.f a0_0 a0_1 a0_2 a0_3 a0_4 a0_5 a1_0 a1_1 a1_2 a1_3 a1_4 a1_5).bind fun bt195 => ((agg_Merge.f a1_0 a1_1 a1_2 a1_3 a1_4 a1_5 a0_0 a0_1 a0_2 a0_3 a0_4 a0_5).bind fun bt201 => (if (bt195.1 == bt201.1 && (bt195.2.1 == bt201.2.1 && ((bt195.2.2.1 == bt201.2.2.1 && (bt195.2.2.2.1 == bt201.2.2.2.1)) && (bt195.2.2.2.2.1 == bt201.2.2.2.2.1 && (bt195.2.2.2.2.2 == bt201.2.2.2.2.2))))) = true then ((agg_Merge.f a0_0 a0_1 a0_2 a0_3 a0_4 a0_5 0 false 0 0 0 0).bind fun bt207 => (if (bt207.1 == a0_0 && (bt207.2.1 == a0_1 && ((bt207.2.2.1 == a0_2 && (bt207.2.2.2.1 == a0_3)) && (bt207.2.2.2.2.1 == a0_4 && (bt207.2.2.2.2.2 == a0_5))))) = true then ((agg_Merge.f 0 false 0 0 0 0 a0_0 a0_1 a0_2 a0_3 a0_4 a0_5).bind fun bt213 => (if (bt213.1 == a0_0 && (bt213.2.1 == a0_1 && ((bt213.2.2.1 == a0_2 && (bt213.2.2.2.1 == a0_3)) && (bt213.2.2.2.2.1 == a0_4 && (bt213.2.2.2.2.2 == a0_5))))) = true then ((agg_Right.f t174 t175 t176 t177 t178 t179).bind fun t219 => (some t219)) else (some false))) else (some false))) else (some false)))) else (some false)) else (some false))))) = some r := H
    have A37 := Aside0.mk A370
    clear A370
    replace H := Option.bind_eq_some_iff.mp H
    obtain ⟨⟨t180, t181, t182, t183, t184, t185⟩, A380, H⟩ := H
    replace H : ((agg_Merge.f a0_0 a0_1 a0_2 a0_3 a0_4 a0_5 t180 t181 t182 t183 t184 t185).bind fun bt186 => ((rickyardlaw02_alive.f kj3).bind fun t194 => (if t194 = true then (if (t174 == bt186.1 && (t175 == bt186.2.1 && ((t176 == bt186.2.2.1 && (t177 == bt186.2.2.2.1)) && (t178 == bt186.2.2.2.2.1 && (t179 == bt186.2.2.2.2.2))))) = true then ((agg_Merge.f a0_0 a0_1 a0_2 a0_3 a0_4 a0_5 a1_0 a1_1 a1_2 a1_3 a1_4 a1_5).bind fun bt195 => ((agg_Merge.f a1_0 a1_1 a1_2 a1_3 a1_4 a1_5 a0_0 a0_1 a0_2 a0_3 a0_4 a0_5).bind fun bt201 => (if (bt195.1 == bt201.1 && (bt195.2.1 == bt201.2.1 && ((bt195.2.2.1 == bt201.2.2.1 && (bt195.2.2.2.1 == bt201.2.2.2.1)) && (bt195.2.2.2.2.1 == bt201.2.2.2.2.1 && (bt195.2.2.2.2.2 == bt201.2.2.2.2.2))))) = true then ((agg_Merge.f a0_0 a0_1 a0_2 a0_3 a0_4 a0_5 0 false 0 0 0 0).bind fun bt207 => (if (bt207.1 == a0_0 && (bt207.2.1 == a0_1 && ((bt207.2.2.1 == a0_2 && (bt207.2.2.2.1 == a0_3)) && (bt207.2.2.2.2.1 == a0_4 && (bt207.2.2.2.2.2 == a0_5))))) = true then ((agg_Merge.f 0 false 0 0 0 0 a0_0 a0_1 a0_2 a0_3 a0_4 a0_5).bind fun bt213 => (if (bt213.1 == a0_0 && (bt213.2.1 == a0_1 && ((bt213.2.2.1 == a0_2 && (bt213.2.2.2.1 == a0_3)) && (bt213.2.2.2.2.1 == a0_4 && (bt213.2.2.2.2.2 == a0_5))))) = true then ((agg_Right.f t174 t175 t176 t177 t178 t179).bind fun t219 => (some t219)) else (some false))) else (some false))) else (some false)))) else (some false)) else (some false)))) = some r := H
    have A38 := Aside0.mk A380
    clear A380
    replace H := Option.bind_eq_some_iff.mp H
    obtain ⟨⟨t186, t187, t188, t189, t190, t191⟩, A390, H⟩ := H
    replace H : ((rickyardlaw02_alive.f kj3).bind fun t194 => (if t194 = true then (if (t174 == t186 && (t175 == t187 && ((t176 == t188 && (t177 == t189)) && (t178 == t190 && (t179 == t191))))) = true then ((agg_Merge.f a0_0 a0_1 a0_2 a0_3 a0_4 a0_5 a1_0 a1_1 a1_2 a1_3 a1_4 a1_5).bind fun bt195 => ((agg_Merge.f a1_0 a1_1 a1_2 a1_3 a1_4 a1_5 a0_0 a0_1 a0_2 a0_3 a0_4 a0_5).bind fun bt201 => (if (bt195.1 == bt201.1 && (bt195.2.1 == bt201.2.1 && ((bt195.2.2.1 == bt201.2.2.1 && (bt195.2.2.2.1 == bt201.2.2.2.1)) && (bt195.2.2.2.2.1 == bt201.2.2.2.2.1 && (bt195.2.2.2.2.2 == bt201.2.2.2.2.2))))) = true then ((agg_Merge.f a0_0 a0_1 a0_2 a0_3 a0_4 a0_5 0 false 0 0 0 0).bind fun bt207 => (if (bt207.1 == a0_0 && (bt207.2.1 == a0_1 && ((bt207.2.2.1 == a0_2 && (bt207.2.2.2.1 == a0_3)) && (bt207.2.2.2.2.1 == a0_4 && (bt207.2.2.2.2.2 == a0_5))))) = true then ((agg_Merge.f 0 false 0 0 0 0 a0_0 a0_1 a0_2 a0_3 a0_4 a0_5).bind fun bt213 => (if (bt213.1 == a0_0 && (bt213.2.1 == a0_1 && ((bt213.2.2.1 == a0_2 && (bt213.2.2.2.1 == a0_3)) && (bt213.2.2.2.2.1 == a0_4 && (bt213.2.2.2.2.2 == a0_5))))) = true then ((agg_Right.f t174 t175 t176 t177 t178 t179).bind fun t219 => (some t219)) else (some false))) else (some false))) else (some false)))) else (some false)) else (some false))) = some r := H
    have A39 := Aside0.mk A390
    clear A390
    replace H := Option.bind_eq_some_iff.mp H
    obtain ⟨t194, A400, H⟩ := H
    replace H : (if t194 = true then (if (t174 == t186 && (t175 == t187 && ((t176 == t188 && (t177 == t189)) && (t178 == t190 && (t179 == t191))))) = true then ((agg_Merge.f a0_0 a0_1 a0_2 a0_3 a0_4 a0_5 a1_0 a1_1 a1_2 a1_3 a1_4 a1_5).bind fun bt195 => ((agg_Merge.f a1_0 a1_1 a1_2 a1_3 a1_4 a1_5 a0_0 a0_1 a0_2 a0_3 a0_4 a0_5).bind fun bt201 => (if (bt195.1 == bt201.1 && (bt195.2.1 == bt201.2.1 && ((bt195.2.2.1 == bt201.2.2.1 && (bt195.2.2.2.1 == bt201.2.2.2.1)) && (bt195.2.2.2.2.1 == bt201.2.2.2.2.1 && (bt195.2.2.2.2.2 == bt201.2.2.2.2.2))))) = true then ((agg_Merge.f a0_0 a0_1 a0_2 a0_3 a0_4 a0_5 0 false 0 0 0 0).bind fun bt207 => (if (bt207.1 == a0_0 && (bt207.2.1 == a0_1 && ((bt207.2.2.1 == a0_2 && (bt207.2.2.2.1 == a0_3)) && (bt207.2.2.2.2.1 == a0_4 && (bt207.2.2.2.2.2 == a0_5))))) = true then ((agg_Merge.f 0 false 0 0 0 0 a0_0 a0_1 a0_2 a0_3 a0_4 a0_5).bind fun bt213 => (if (bt213.1 == a0_0 && (bt213.2.1 == a0_1 && ((bt213.2.2.1 == a0_2 && (bt213.2.2.2.1 == a0_3)) && (bt213.2.2.2.2.1 == a0_4 && (bt213.2.2.2.2.2 == a0_5))))) = true then ((agg_Right.f t174 t175 t176 t177 t178 t179).bind fun t219 => (some t219)) else (some false))) else (some false))) else (some false)))) else (some false)) else (some false)) = some r := H
    have A40 := Aside0.mk A400
    clear A400
    by_cases c41 : t194 = true
    rotate_left
    ·replace c41 := Bool.eq_false_iff.mpr c41
     subst c41
     have H1 : (some false) = some r := by rw [if_neg (show ¬ (false = true) by decide)] at H; exact H
     clear H
     have H := H1
     clear H1
     exact absurd ((Option.some.inj H).trans HR_.out) (by decide)
    subst c41
    have H1 : (if (t174 == t186 && (t175 == t187 && ((t176 == t188 && (t177 == t189)) && (t178 == t190 && (t179 == t191))))) = true then ((agg_Merge.f a0_0 a0_1 a0_2 a0_3 a0_4 a0_5 a1_0 a1_1 a1_2 a1_3 a1_4 a1_5).bind fun bt195 => ((agg_Merge.f a1_0 a1_1 a1_2 a1_3 a1_4 a1_5 a0_0 a0_1 a0_2 a0_3 a0_4 a0_5).bind fun bt201 => (if (bt195.1 == bt201.1 && (bt195.2.1 == bt201.2.1 && ((bt195.2.2.1 == bt201.2.2.1 && (bt195.2.2.2.1 == bt201.2.2.2.1)) && (bt195.2.2.2.2.1 == bt201.2.2.2.2.1 && (bt195.2.2.2.2.2 == bt201.2.2.2.2.2))))) = true then ((agg_Merge.f a0_0 a0_1 a0_2 a0_3 a0_4 a0_5 0 false 0 0 0 0).bind fun bt207 => (if (bt207.1 == a0_0 && (bt207.2.1 == a0_1 && ((bt207.2.2.1 == a0_2 && (bt207.2.2.2.1 == a0_3)) && (bt207.2.2.2.2.1 == a0_4 && (bt207.2.2.2.2.2 == a0_5))))) = true then ((agg_Merge.f 0 false 0 0 0 0 a0_0 a0_1 a0_2 a0_3 a0_4 a0_5).bind fun bt213 => (if (bt213.1 == a0_0 && (bt213.2.1 == a0_1 && ((bt213.2.2.1 == a0_2 && (bt213.2.2.2.1 == a0_3)) && (bt213.2.2.2.2.1 == a0_4 && (bt213.2.2.2.2.2 == a0_5))))) = true then ((agg_Right.f t174 t175 t176 t177 t178 t179).bind fun t219 => (some t219)) else (some false))) else (some false))) else (some false)))) else (some false)) = some r := by rw [if_pos rfl] at H; exact H
    clear H
    have H := H1
    clear H1
    by_cases c42 : (t174 == t186 && (t175 == t187 && ((t176 == t188 && (t177 == t189)) && (t178 == t190 && (t179 == t191))))) = true
    rotate_left
    ·rw [if_neg c42] at H
     have c42b0 : (t174 == t186 && (t175 == t187 && ((t176 == t188 && (t177 == t189)) && (t178 == t190 && (t179 == t191))))) = false := by simpa using c42
     (try (have c42b1 : decide (t174 = t186 && (t175 == t187 && ((t176 == t188 && (t177 == t189)) && (t178 == t190 && (t179 == t191))))) = false := by simpa using c42))
     (try (have c42b2 : (t174 == t186 && (t175 == t187 && ((t176 == t188 && (t177 == t189)) && (t178 == t190 && (t179 == t191))))) = false := by simpa using c42))
     (try (have c42b3 : ¬ (t174 = t186 && (t175 == t187 && ((t176 == t188 && (t177 == t189)) && (t178 == t190 && (t179 == t191))))) := by simpa using c42))
     clear c42
     exact absurd ((Option.some.inj H).trans HR_.out) (by decide)
    rw [if_pos c42] at H
    have c42b0 : (t174 == t186 && (t175 == t187 && ((t176 == t188 && (t177 == t189)) && (t178 == t190 && (t179 == t191))))) = true := c42
    (try (have c42b1 : decide (t174 = t186 && (t175 == t187 && ((t176 == t188 && (t177 == t189)) && (t178 == t190 && (t179 == t191))))) = true := by simpa using c42))
    (try (have c42b2 : (t174 == t186 && (t175 == t187 && ((t176 == t188 && (t177 == t189)) && (t178 == t190 && (t179 == t191))))) = true := by simpa using c42))
    clear c42
    replace H := Option.bind_eq_some_iff.mp H
    obtain ⟨⟨t195, t196, t197, t198, t199, t200⟩, A430, H⟩ := H
    replace H : ((agg_Merge.f a1_0 a1_1 a1_2 a1_3 a1_4 a1_5 a0_0 a0_1 a0_2 a0_3 a0_4 a0_5).bind fun bt201 => (if (t195 == bt201.1 && (t196 == bt201.2.1 && ((t197 == bt201.2.2.1 && (t198 == bt201.2.2.2.1)) && (t199 == bt201.2.2.2.2.1 && (t200 == bt201.2.2.2.2.2))))) = true then ((agg_Merge.f a0_0 a0_1 a0_2 a0_3 a0_4 a0_5 0 false 0 0 0 0).bind fun bt207 => (if (bt207.1 == a0_0 && (bt207.2.1 == a0_1 && ((bt207.2.2.1 == a0_2 && (bt207.2.2.2.1 == a0_3)) && (bt207.2.2.2.2.1 == a0_4 && (bt207.2.2.2.2.2 == a0_5))))) = true then ((agg_Merge.f 0 false 0 0 0 0 a0_0 a0_1 a0_2 a0_3 a0_4 a0_5).bind fun bt213 => (if (bt213.1 == a0_0 && (bt213.2.1 == a0_1 && ((bt213.2.2.1 == a0_2 && (bt213.2.2.2.1 == a0_3)) && (bt213.2.2.2.2.1 == a0_4 && (bt213.2.2.2.2.2 == a0_5))))) = true then ((agg_Right.f t174 t175 t176 t177 t178 t179).bind fun t219 => (some t219)) else (some false))) else (some false))) else (some false))) = some r := H
    have A43 := Aside0.mk A430
    clear A430
    replace H := Option.bind_eq_some_iff.mp H
    obtain ⟨⟨t201, t202, t203, t204, t205, t206⟩, A440, H⟩ := H
    replace H : (if (t195 == t201 && (t196 == t202 && ((t197 == t203 && (t198 == t204)) && (t199 == t205 && (t200 == t206))))) = true then ((agg_Merge.f a0_0 a0_1 a0_2 a0_3 a0_4 a0_5 0 false 0 0 0 0).bind fun bt207 => (if (bt207.1 == a0_0 && (bt207.2.1 == a0_1 && ((bt207.2.2.1 == a0_2 && (bt207.2.2.2.1 == a0_3)) && (bt207.2.2.2.2.1 == a0_4 && (bt207.2.2.2.2.2 == a0_5))))) = true then ((agg_Merge.f 0 false 0 0 0 0 a0_0 a0_1 a0_2 a0_3 a0_4 a0_5).bind fun bt213 => (if (bt213.1 == a0_0 && (bt213.2.1 == a0_1 && ((bt213.2.2.1 == a0_2 && (bt213.2.2.2.1 == a0_3)) && (bt213.2.2.2.2.1 == a0_4 && (bt213.2.2.2.2.2 == a0_5))))) = true then ((agg_Right.f t174 t175 t176 t177 t178 t179).bind fun t219 => (some t219)) else (some false))) else (some false))) else (some false)) = some r := H
    have A44 := Aside0.mk A440
    clear A440
    by_cases c45 : (t195 == t201 && (t196 == t202 && ((t197 == t203 && (t198 == t204)) && (t199 == t205 && (t200 == t206))))) = true
    rotate_left
    ·rw [if_neg c45] at H
     have c45b0 : (t195 == t201 && (t196 == t202 && ((t197 == t203 && (t198 == t204)) && (t199 == t205 && (t200 == t206))))) = false := by simpa using c45
     (try (have c45b1 : decide (t195 = t201 && (t196 == t202 && ((t197 == t203 && (t198 == t204)) && (t199 == t205 && (t200 == t206))))) = false := by simpa using c45))
     (try (have c45b2 : (t195 == t201 && (t196 == t202 && ((t197 == t203 && (t198 == t204)) && (t199 == t205 && (t200 == t206))))) = false := by simpa using c45))
     (try (have c45b3 : ¬ (t195 = t201 && (t196 == t202 && ((t197 == t203 && (t198 == t204)) && (t199 == t205 && (t200 == t206))))) := by simpa using c45))
     clear c45
     exact absurd ((Option.some.inj H).trans HR_.out) (by decide)
    rw [if_pos c45] at H
    have c45b0 : (t195 == t201 && (t196 == t202 && ((t197 == t203 && (t198 == t204)) && (t199 == t205 && (t200 == t206))))) = true := c45
    (try (have c45b1 : decide (t195 = t201 && (t196 == t202 && ((t197 == t203 && (t198 == t204)) && (t199 == t205 && (t200 == t206))))) = true := by simpa using c45))
    (try (have c45b2 : (t195 == t201 && (t196 == t202 && ((t197 == t203 && (t198 == t204)) && (t199 == t205 && (t200 == t206))))) = true := by simpa using c45))
    clear c45
    replace H := Option.bind_eq_some_iff.mp H
    obtain ⟨⟨t207, t208, t209, t210, t211, t212⟩, A460, H⟩ := H
    replace H : (if (t207 == a0_0 && (t208 == a0_1 && ((t209 == a0_2 && (t210 == a0_3)) && (t211 == a0_4 && (t212 == a0_5))))) = true then ((agg_Merge.f 0 false 0 0 0 0 a0_0 a0_1 a0_2 a0_3 a0_4 a0_5).bind fun bt213 => (if (bt213.1 == a0_0 && (bt213.2.1 == a0_1 && ((bt213.2.2.1 == a0_2 && (bt213.2.2.2.1 == a0_3)) && (bt213.2.2.2.2.1 == a0_4 && (bt213.2.2.2.2.2 == a0_5))))) = true then ((agg_Right.f t174 t175 t176 t177 t178 t179).bind fun t219 => (some t219)) else (some false))) else (some false)) = some r := H
    have A46 := Aside0.mk A460
    clear A460
    by_cases c47 : (t207 == a0_0 && (t208 == a0_1 && ((t209 == a0_2 && (t210 == a0_3)) && (t211 == a0_4 && (t212 == a0_5))))) = true
    rotate_left
    ·rw [if_neg c47] at H
     have c47b0 : (t207 == a0_0 && (t208 == a0_1 && ((t209 == a0_2 && (t210 == a0_3)) && (t211 == a0_4 && (t212 == a0_5))))) = false := by simpa using c47
     (try (have c47b1 : decide (t207 = a0_0 && (t208 == a0_1 && ((t209 == a0_2 && (t210 == a0_3)) && (t211 == a0_4 && (t212 == a0_5))))) = false := by simpa using c47))
     (try (have c47b2 : (t207 == a0_0 && (t208 == a0_1 && ((t209 == a0_2 && (t210 == a0_3)) && (t211 == a0_4 && (t212 == a0_5))))) = false := by simpa using c47))
     (try (have c47b3 : ¬ (t207 = a0_0 && (t208 == a0_1 && ((t209 == a0_2 && (t210 == a0_3)) && (t211 == a0_4 && (t212 == a0_5))))) := by simpa using c47))
     clear c47
     exact absurd ((Option.some.inj H).trans HR_.out) (by decide)
    rw [if_pos c47] at H
    have c47b0 : (t207 == a0_0 && (t208 == a0_1 && ((t209 == a0_2 && (t210 == a0_3)) && (t211 == a0_4 && (t212 == a0_5))))) = true := c47
    (try (have c47b1 : decide (t207 = a0_0 && (t208 == a0_1 && ((t209 == a0_2 && (t210 == a0_3)) && (t211 == a0_4 && (t212 == a0_5))))) = true := by simpa using c47))
    (try (have c47b2 : (t207 == a0_0 && (t208 == a0_1 && ((t209 == a0_2 && (t210 == a0_3)) && (t211 == a0_4 && (t212 == a0_5))))) = true := by simpa using c47))
    clear c47
    replace H := Option.bind_eq_some_iff.mp H
    obtain ⟨⟨t213, t214, t215, t216, t217, t218⟩, A480, H⟩ := H
    replace H : (if (t213 == a0_0 && (t214 == a0_1 && ((t215 == a0_2 && (t216 == a0_3)) && (t217 == a0_4 && (t218 == a0_5))))) = true then ((agg_Right.f t174 t175 t176 t177 t178 t179).bind fun t219 => (some t219)) else (some false)) = some r := H
    have A48 := Aside0.mk A480
    clear A480
    by_cases c49 : (t213 == a0_0 && (t214 == a0_1 && ((t215 == a0_2 && (t216 == a0_3)) && (t217 == a0_4 && (t218 == a0_5))))) = true
    rotate_left
    ·rw [if_neg c49] at H
     have c49b0 : (t213 == a0_0 && (t214 == a0_1 && ((t215 == a0_2 && (t216 == a0_3)) && (t217 == a0_4 && (t218 == a0_5))))) = false := by simpa using c49
     (try (have c49b1 : decide (t213 = a0_0 && (t214 == a0_1 && ((t215 == a0_2 && (t216 == a0_3)) && (t217 == a0_4 && (t218 == a0_5))))) = false := by simpa using c49))
     (try (have c49b2 : (t213 == a0_0 && (t214 == a0_1 && ((t215 == a0_2 && (t216 == a0_3)) && (t217 == a0_4 && (t218 == a0_5))))) = false := by simpa using c49))
     (try (have c49b3 : ¬ (t213 = a0_0 && (t214 == a0_1 && ((t215 == a0_2 && (t216 == a0_3)) && (t217 == a0_4 && (t218 == a0_5))))) := by simpa using c49))
     clear c49
     exact absurd ((Option.some.inj H).trans HR_.out) (by decide)
    rw [if_pos c49] at H
    have c49b0 : (t213 == a0_0 && (t214 == a0_1 && ((t215 == a0_2 && (t216 == a0_3)) && (t217 == a0_4 && (t218 == a0_5))))) = true := c49
    (try (have c49b1 : decide (t213 = a0_0 && (t214 == a0_1 && ((t215 == a0_2 && (t216 == a0_3)) && (t217 == a0_4 && (t218 == a0_5))))) = true := by simpa using c49))
    (try (have c49b2 : (t213 == a0_0 && (t214 == a0_1 && ((t215 == a0_2 && (t216 == a0_3)) && (t217 == a0_4 && (t218 == a0_5))))) = true := by simpa using c49))
    clear c49
    replace H := Option.bind_eq_some_iff.mp H
    obtain ⟨t219, A500, H⟩ := H
    replace H : (some t219) = some r := H
    have A50 := Aside0.mk A500
    clear A500
    obtain rfl := Option.some.inj H
    try go_wp2
    have n0_ := AK_ (blk_drew K1.out)
    have n1_ := AK_ (blk_drew K2.out)
    have n2_ := AK_ (blk_drew K3.out)
    have n3_ := AK_ (bd_ HB.out)
    clear K1 K2 K3 HB
    have K1 := n0_
    have K2 := n1_
    have K3 := n2_
    have HB := n3_
    clear n0_ n1_ n2_ n3_
    refine start_ (n := 14) (S := fun w' => hk_ w' g1 a0_0 a0_1 a0_2 a0_3 a0_4 a0_5 (hk_ w' g2 a1_0 a1_1 a1_2 a1_3 a1_4 a1_5 (hc_ w' g3 a2_0 a2_1 a2_2 a2_3 a2_4 a2_5))) (ds := []) #[F,F,F,F,F,F,F,F,F,F,F,F,F,F] (by kernel_rfl) rfl rfl (hI_ K1 (hI_ K2 (hL_ K3))) (fun hHeld => ?_); refine with_tabW rickyardlaw02_AggMonoid.tab3 rickyardlaw02_AggMonoid.bits3 (fun HT_ HW_ => ?_)
    generalize wc.drew = w51 at K1 K2 K3 HB hHeld ⊢
    refine take_ (i := 0) (N := some 23) (v := ?_) (a' := ?_) #[T,F,F,F,F,F,F,F,F,F,F,F,F,F] rfl rfl (take_ofW HT_.out HW_.out (by kernel_rfl)) (fun _ _ _ h => h) (Or.inl ⟨by rfl, ?_⟩) hHeld ?_ ?_
    rotate_left
    ·rintro w' ⟨s0, s1, s2, s3, s4, s5, s6, s7, s8, s9, s10, s11, s12, s13, s14, s15, s16, s17⟩
     go_simp
     with_reducible rfl
    rotate_left
    ·simp only [Act.put, sa_, sb_, sc_, i64_w, i32_w]
     rfl
    refine take_ (i := 1) (N := some 24) (v := ?_) (a' := ?_) #[T,T,F,F,F,F,F,F,F,F,F,F,F,F] rfl rfl (take_ofW HT_.out HW_.out (by kernel_rfl)) (fun _ _ _ h => h) (Or.inl ⟨by rfl, ?_⟩) hHeld ?_ ?_
    rotate_left
    ·rintro w' ⟨s0, s1, s2, s3, s4, s5, s6, s7, s8, s9, s10, s11, s12, s13, s14, s15, s16, s17⟩
     go_simp
     with_reducible rfl
    rotate_left
    ·simp only [Act.put, sa_, sb_, sc_, i64_w, i32_w]
     rfl
    refine take_ (i := 3) (N := some 26) (v := ?_) (a' := ?_) #[T,T,F,T,F,F,F,F,F,F,F,F,F,F] rfl rfl (take_ofW HT_.out HW_.out (by kernel_rfl)) (fun _ _ _ h => h) (Or.inl ⟨by rfl, ?_⟩) hHeld ?_ ?_
    rotate_left
    ·rintro w' ⟨s0, s1, s2, s3, s4, s5, s6, s7, s8, s9, s10, s11, s12, s13, s14, s15, s16, s17⟩
     go_simp
     with_reducible rfl
    rotate_left
    ·simp only [Act.put, sa_, sb_, sc_, i64_w, i32_w]
     rfl
    refine take_ (i := 5) (N := some 28) (v := ?_) (a' := ?_) #[T,T,F,T,F,T,F,F,F,F,F,F,F,F] rfl rfl (take_ofW HT_.out HW_.out (by kernel_rfl)) (fun _ _ _ h => h) (Or.inl ⟨by rfl, ?_⟩) hHeld ?_ ?_
    rotate_left
    ·rintro w' ⟨s0, s1, s2, s3, s4, s5, s6, s7, s8, s9, s10, s11, s12, s13, s14, s15, s16, s17⟩
     go_simp
     with_reducible rfl
    rotate_left
    ·simp only [Act.put, sa_, sb_, sc_, i64_w, i32_w]
     rfl
    refine take_ (i := 6) (N := some 29) (v := ?_) (a' := ?_) #[T,T,F,T,F,T,T,F,F,F,F,F,F,F] rfl rfl (take_ofW HT_.out HW_.out (by kernel_rfl)) (fun _ _ _ h => h) (Or.inl ⟨by rfl, ?_⟩) hHeld ?_ ?_
    rotate_left
    ·rintro w' ⟨s0, s1, s2, s3, s4, s5, s6, s7, s8, s9, s10, s11, s12, s13, s14, s15, s16, s17⟩
     go_simp
     with_reducible rfl
    rotate_left
    ·simp only [Act.put, sa_, sb_, sc_, i64_w, i32_w]
     rfl
    refine take_ (i := 7) (N := some 30) (v := ?_) (a' := ?_) #[T,T,F,T,F,T,T,T,F,F,F,F,F,F] rfl rfl (take_ofW HT_.out HW_.out (by kernel_rfl)) (fun _ _ _ h => h) (Or.inl ⟨by rfl, ?_⟩) hHeld ?_ ?_
    rotate_left
    ·rintro w' ⟨s0, s1, s2, s3, s4, s5, s6, s7, s8, s9, s10, s11, s12, s13, s14, s15, s16, s17⟩
     go_simp
     with_reducible rfl
    rotate_left
    ·simp only [Act.put, sa_, sb_, sc_, i64_w, i32_w]
     rfl
    refine join_ (σ := Nat × Nat) 2 #[T,T,T,T,T,T,T,T,T,T,T,T,F,F] (fun s_ => [(25, .agg #[.int .u64 t168, .bool t169, .int .i64 t170, .int .u64 t171, .int .i64 t172, .int .i64 t173]), (27, .agg #[.int .u64 t174, .bool t175, .int .i64 t176, .int .u64 t177, .int .i64 t178, .int .i64 t179]), (31, .agg #[.int .u64 t180, .bool t181, .int .i64 t182, .int .u64 t183, .int .i64 t184, .int .i64 t185]), (32, .agg #[.int .u64 t186, .bool t187, .int .i64 t188, .int .u64 t189, .int .i64 t190, .int .i64 t191]), (7, .pointer (some ⟨s_.1, 0, none⟩)), (8, .pointer (some ⟨s_.2, 0, none⟩))]) (fun s_ w' => (hk_ w' g1 a0_0 a0_1 a0_2 a0_3 a0_4 a0_5 (hk_ w' g2 a1_0 a1_1 a1_2 a1_3 a1_4 a1_5 (hc_ w' g3 a2_0 a2_1 a2_2 a2_3 a2_4 a2_5))) ∧ (w'.heap[g1]? = some (cz_ a0_0 a0_1 a0_2 a0_3 a0_4 a0_5)) ∧ (w'.heap[g2]? = some (cz_ a1_0 a1_1 a1_2 a1_3 a1_4 a1_5)) ∧ (w'.heap[g3]? = some (cz_ a2_0 a2_1 a2_2 a2_3 a2_4 a2_5)) ∧ (w'.heap[s_.1]? = some (cz_ 0 false 0 0 0 0)) ∧ (w'.heap[s_.2]? = some (cz_ 0 false 0 0 0 0)) ∧ (w.heap.size ≤ s_.1) ∧ (w.heap.size ≤ s_.1) ∧ (g1 ≠ s_.1) ∧ (s_.1 ≠ g1) ∧ (g2 ≠ s_.1) ∧ (s_.1 ≠ g2) ∧ (g3 ≠ s_.1) ∧ (s_.1 ≠ g3) ∧ (s_.2 ≠ s_.1) ∧ (s_.1 ≠ s_.2) ∧ (w.heap.size ≤ s_.2) ∧ (w.heap.size ≤ s_.2) ∧ (g1 ≠ s_.2) ∧ (s_.2 ≠ g1) ∧ (g2 ≠ s_.2) ∧ (s_.2 ≠ g2) ∧ (g3 ≠ s_.2) ∧ (s_.2 ≠ g3) ∧ (Below w.heap.size w w')) ?_ ?_
    rotate_left
    ·intro hJ2_4_8_9_10_11
     refine join_ (σ := Nat) 3 #[T,T,T,T,T,T,T,T,T,T,T,F,F,F] (fun s_ => [(25, .agg #[.int .u64 t168, .bool t169, .int .i64 t170, .int .u64 t171, .int .i64 t172, .int .i64 t173]), (27, .agg #[.int .u64 t174, .bool t175, .int .i64 t176, .int .u64 t177, .int .i64 t178, .int .i64 t179]), (31, .agg #[.int .u64 t180, .bool t181, .int .i64 t182, .int .u64 t183, .int .i64 t184, .int .i64 t185]), (32, .agg #[.int .u64 t186, .bool t187, .int .i64 t188, .int .u64 t189, .int .i64 t190, .int .i64 t191]), (7, .pointer (some ⟨s_, 0, none⟩))]) (fun s_ w' => (hk_ w' g1 a0_0 a0_1 a0_2 a0_3 a0_4 a0_5 (hk_ w' g2 a1_0 a1_1 a1_2 a1_3 a1_4 a1_5 (hc_ w' g3 a2_0 a2_1 a2_2 a2_3 a2_4 a2_5))) ∧ (w'.heap[g1]? = some (cz_ a0_0 a0_1 a0_2 a0_3 a0_4 a0_5)) ∧ (w'.heap[g2]? = some (cz_ a1_0 a1_1 a1_2 a1_3 a1_4 a1_5)) ∧ (w'.heap[g3]? = some (cz_ a2_0 a2_1 a2_2 a2_3 a2_4 a2_5)) ∧ (w'.heap[s_]? = some (cz_ 0 false 0 0 0 0)) ∧ (w.heap.size ≤ s_) ∧ (w.heap.size ≤ s_) ∧ (g1 ≠ s_) ∧ (s_ ≠ g1) ∧ (g2 ≠ s_) ∧ (s_ ≠ g2) ∧ (g3 ≠ s_) ∧ (s_ ≠ g3) ∧ (Below w.heap.size w w')) ?_ ?_
     rotate_left
     ·intro hJ2_4_8_9_10
      refine join_ (σ := Nat) 3 #[T,T,T,T,T,T,T,T,T,T,F,T,F,F] (fun s_ => [(25, .agg #[.int .u64 t168, .bool t169, .int .i64 t170, .int .u64 t171, .int .i64 t172, .int .i64 t173]), (27, .agg #[.int .u64 t174, .bool t175, .int .i64 t176, .int .u64 t177, .int .i64 t178, .int .i64 t179]), (31, .agg #[.int .u64 t180, .bool t181, .int .i64 t182, .int .u64 t183, .int .i64 t184, .int .i64 t185]), (32, .agg #[.int .u64 t186, .bool t187, .int .i64 t188, .int .u64 t189, .int .i64 t190, .int .i64 t191]), (8, .pointer (some ⟨s_, 0, none⟩))]) (fun s_ w' => (hk_ w' g1 a0_0 a0_1 a0_2 a0_3 a0_4 a0_5 (hk_ w' g2 a1_0 a1_1 a1_2 a1_3 a1_4 a1_5 (hc_ w' g3 a2_0 a2_1 a2_2 a2_3 a2_4 a2_5))) ∧ (w'.heap[g1]? = some (cz_ a0_0 a0_1 a0_2 a0_3 a0_4 a0_5)) ∧ (w'.heap[g2]? = some (cz_ a1_0 a1_1 a1_2 a1_3 a1_4 a1_5)) ∧ (w'.heap[g3]? = some (cz_ a2_0 a2_1 a2_2 a2_3 a2_4 a2_5)) ∧ (w'.heap[s_]? = some (cz_ 0 false 0 0 0 0)) ∧ (w.heap.size ≤ s_) ∧ (w.heap.size ≤ s_) ∧ (g1 ≠ s_) ∧ (s_ ≠ g1) ∧ (g2 ≠ s_) ∧ (s_ ≠ g2) ∧ (g3 ≠ s_) ∧ (s_ ≠ g3) ∧ (Below w.heap.size w w')) ?_ ?_
      rotate_left
      ·intro hJ2_4_8_9_11
       refine join_ (σ := Nat × Nat) 3 #[T,T,T,T,T,T,T,T,T,F,T,T,F,F] (fun s_ => [(25, .agg #[.int .u64 t168, .bool t169, .int .i64 t170, .int .u64 t171, .int .i64 t172, .int .i64 t173]), (27, .agg #[.int .u64 t174, .bool t175, .int .i64 t176, .int .u64 t177, .int .i64 t178, .int .i64 t179]), (31, .agg #[.int .u64 t180, .bool t181, .int .i64 t182, .int .u64 t183, .int .i64 t184, .int .i64 t185]), (7, .pointer (some ⟨s_.1, 0, none⟩)), (8, .pointer (some ⟨s_.2, 0, none⟩))]) (fun s_ w' => (hk_ w' g1 a0_0 a0_1 a0_2 a0_3 a0_4 a0_5 (hk_ w' g2 a1_0 a1_1 a1_2 a1_3 a1_4 a1_5 (hc_ w' g3 a2_0 a2_1 a2_2 a2_3 a2_4 a2_5))) ∧ (w'.heap[g1]? = some (cz_ a0_0 a0_1 a0_2 a0_3 a0_4 a0_5)) ∧ (w'.heap[g2]? = some (cz_ a1_0 a1_1 a1_2 a1_3 a1_4 a1_5)) ∧ (w'.heap[g3]? = some (cz_ a2_0 a2_1 a2_2 a2_3 a2_4 a2_5)) ∧ (w'.heap[s_.1]? = some (cz_ 0 false 0 0 0 0)) ∧ (w'.heap[s_.2]? = some (cz_ 0 false 0 0 0 0)) ∧ (w.heap.size ≤ s_.1) ∧ (w.heap.size ≤ s_.1) ∧ (g1 ≠ s_.1) ∧ (s_.1 ≠ g1) ∧ (g2 ≠ s_.1) ∧ (s_.1 ≠ g2) ∧ (g3 ≠ s_.1) ∧ (s_.1 ≠ g3) ∧ (s_.2 ≠ s_.1) ∧ (s_.1 ≠ s_.2) ∧ (w.heap.size ≤ s_.2) ∧ (w.heap.size ≤ s_.2) ∧ (g1 ≠ s_.2) ∧ (s_.2 ≠ g1) ∧ (g2 ≠ s_.2) ∧ (s_.2 ≠ g2) ∧ (g3 ≠ s_.2) ∧ (s_.2 ≠ g3) ∧ (Below w.heap.size w w')) ?_ ?_
       rotate_left
       ·intro hJ2_4_8_10_11
        refine join_ (σ := Unit) 4 #[T,T,T,T,T,T,T,T,T,T,F,F,F,F] (fun s_ => [(25, .agg #[.int .u64 t168, .bool t169, .int .i64 t170, .int .u64 t171, .int .i64 t172, .int .i64 t173]), (27, .agg #[.int .u64 t174, .bool t175, .int .i64 t176, .int .u64 t177, .int .i64 t178, .int .i64 t179]), (31, .agg #[.int .u64 t180, .bool t181, .int .i64 t182, .int .u64 t183, .int .i64 t184, .int .i64 t185]), (32, .agg #[.int .u64 t186, .bool t187, .int .i64 t188, .int .u64 t189, .int .i64 t190, .int .i64 t191])]) (fun s_ w' => (hk_ w' g1 a0_0 a0_1 a0_2 a0_3 a0_4 a0_5 (hk_ w' g2 a1_0 a1_1 a1_2 a1_3 a1_4 a1_5 (hc_ w' g3 a2_0 a2_1 a2_2 a2_3 a2_4 a2_5))) ∧ (w'.heap[g1]? = some (cz_ a0_0 a0_1 a0_2 a0_3 a0_4 a0_5)) ∧ (w'.heap[g2]? = some (cz_ a1_0 a1_1 a1_2 a1_3 a1_4 a1_5)) ∧ (w'.heap[g3]? = some (cz_ a2_0 a2_1 a2_2 a2_3 a2_4 a2_5)) ∧ (Below w.heap.size w w')) ?_ ?_
        rotate_left
        ·intro hJ2_4_8_9
         refine join_ (σ := Nat) 4 #[T,T,T,T,T,T,T,T,T,F,T,F,F,F] (fun s_ => [(25, .agg #[.int .u64 t168, .bool t169, .int .i64 t170, .int .u64 t171, .int .i64 t172, .int .i64 t173]), (27, .agg #[.int .u64 t174, .bool t175, .int .i64 t176, .int .u64 t177, .int .i64 t178, .int .i64 t179]), (31, .agg #[.int .u64 t180, .bool t181, .int .i64 t182, .int .u64 t183, .int .i64 t184, .int .i64 t185]), (7, .pointer (some ⟨s_, 0, none⟩))]) (fun s_ w' => (hk_ w' g1 a0_0 a0_1 a0_2 a0_3 a0_4 a0_5 (hk_ w' g2 a1_0 a1_1 a1_2 a1_3 a1_4 a1_5 (hc_ w' g3 a2_0 a2_1 a2_2 a2_3 a2_4 a2_5))) ∧ (w'.heap[g1]? = some (cz_ a0_0 a0_1 a0_2 a0_3 a0_4 a0_5)) ∧ (w'.heap[g2]? = some (cz_ a1_0 a1_1 a1_2 a1_3 a1_4 a1_5)) ∧ (w'.heap[g3]? = some (cz_ a2_0 a2_1 a2_2 a2_3 a2_4 a2_5)) ∧ (w'.heap[s_]? = some (cz_ 0 false 0 0 0 0)) ∧ (w.heap.size ≤ s_) ∧ (w.heap.size ≤ s_) ∧ (g1 ≠ s_) ∧ (s_ ≠ g1) ∧ (g2 ≠ s_) ∧ (s_ ≠ g2) ∧ (g3 ≠ s_) ∧ (s_ ≠ g3) ∧ (Below w.heap.size w w')) ?_ ?_
         rotate_left
         ·intro hJ2_4_8_10
          refine join_ (σ := Nat) 4 #[T,T,T,T,T,T,T,T,T,F,F,T,F,F] (fun s_ => [(25, .agg #[.int .u64 t168, .bool t169, .int .i64 t170, .int .u64 t171, .int .i64 t172, .int .i64 t173]), (27, .agg #[.int .u64 t174, .bool t175, .int .i64 t176, .int .u64 t177, .int .i64 t178, .int .i64 t179]), (31, .agg #[.int .u64 t180, .bool t181, .int .i64 t182, .int .u64 t183, .int .i64 t184, .int .i64 t185]), (8, .pointer (some ⟨s_, 0, none⟩))]) (fun s_ w' => (hk_ w' g1 a0_0 a0_1 a0_2 a0_3 a0_4 a0_5 (hk_ w' g2 a1_0 a1_1 a1_2 a1_3 a1_4 a1_5 (hc_ w' g3 a2_0 a2_1 a2_2 a2_3 a2_4 a2_5))) ∧ (w'.heap[g1]? = some (cz_ a0_0 a0_1 a0_2 a0_3 a0_4 a0_5)) ∧ (w'.heap[g2]? = some (cz_ a1_0 a1_1 a1_2 a1_3 a1_4 a1_5)) ∧ (w'.heap[g3]? = some (cz_ a2_0 a2_1 a2_2 a2_3 a2_4 a2_5)) ∧ (w'.heap[s_]? = some (cz_ 0 false 0 0 0 0)) ∧ (w.heap.size ≤ s_) ∧ (w.heap.size ≤ s_) ∧ (g1 ≠ s_) ∧ (s_ ≠ g1) ∧ (g2 ≠ s_) ∧ (s_ ≠ g2) ∧ (g3 ≠ s_) ∧ (s_ ≠ g3) ∧ (Below w.heap.size w w')) ?_ ?_
          rotate_left
          ·intro hJ2_4_8_11
           refine join_ (σ := Nat × Nat) 4 #[T,T,T,T,T,T,T,T,F,F,T,T,F,F] (fun s_ => [(25, .agg #[.int .u64 t168, .bool t169, .int .i64 t170, .int .u64 t171, .int .i64 t172, .int .i64 t173]), (27, .agg #[.int .u64 t174, .bool t175, .int .i64 t176, .int .u64 t177, .int .i64 t178, .int .i64 t179]), (7, .pointer (some ⟨s_.1, 0, none⟩)), (8, .pointer (some ⟨s_.2, 0, none⟩))]) (fun s_ w' => (hk_ w' g1 a0_0 a0_1 a0_2 a0_3 a0_4 a0_5 (hk_ w' g2 a1_0 a1_1 a1_2 a1_3 a1_4 a1_5 (hc_ w' g3 a2_0 a2_1 a2_2 a2_3 a2_4 a2_5))) ∧ (w'.heap[g1]? = some (cz_ a0_0 a0_1 a0_2 a0_3 a0_4 a0_5)) ∧ (w'.heap[g2]? = some (cz_ a1_0 a1_1 a1_2 a1_3 a1_4 a1_5)) ∧ (w'.heap[g3]? = some (cz_ a2_0 a2_1 a2_2 a2_3 a2_4 a2_5)) ∧ (w'.heap[s_.1]? = some (cz_ 0 false 0 0 0 0)) ∧ (w'.heap[s_.2]? = some (cz_ 0 false 0 0 0 0)) ∧ (w.heap.size ≤ s_.1) ∧ (w.heap.size ≤ s_.1) ∧ (g1 ≠ s_.1) ∧ (s_.1 ≠ g1) ∧ (g2 ≠ s_.1) ∧ (s_.1 ≠ g2) ∧ (g3 ≠ s_.1) ∧ (s_.1 ≠ g3) ∧ (s_.2 ≠ s_.1) ∧ (s_.1 ≠ s_.2) ∧ (w.heap.size ≤ s_.2) ∧ (w.heap.size ≤ s_.2) ∧ (g1 ≠ s_.2) ∧ (s_.2 ≠ g1) ∧ (g2 ≠ s_.2) ∧ (s_.2 ≠ g2) ∧ (g3 ≠ s_.2) ∧ (s_.2 ≠ g3) ∧ (Below w.heap.size w w')) ?_ ?_
           rotate_left
           ·intro hJ2_4_10_11
            refine join_ (σ := Unit) 5 #[T,T,T,T,T,T,T,T,T,F,F,F,F,F] (fun s_ => [(25, .agg #[.int .u64 t168, .bool t169, .int .i64 t170, .int .u64 t171, .int .i64 t172, .int .i64 t173]), (27, .agg #[.int .u64 t174, .bool t175, .int .i64 t176, .int .u64 t177, .int .i64 t178, .int .i64 t179]), (31, .agg #[.int .u64 t180, .bool t181, .int .i64 t182, .int .u64 t183, .int .i64 t184, .int .i64 t185])]) (fun s_ w' => (hk_ w' g1 a0_0 a0_1 a0_2 a0_3 a0_4 a0_5 (hk_ w' g2 a1_0 a1_1 a1_2 a1_3 a1_4 a1_5 (hc_ w' g3 a2_0 a2_1 a2_2 a2_3 a2_4 a2_5))) ∧ (w'.heap[g1]? = some (cz_ a0_0 a0_1 a0_2 a0_3 a0_4 a0_5)) ∧ (w'.heap[g2]? = some (cz_ a1_0 a1_1 a1_2 a1_3 a1_4 a1_5)) ∧ (w'.heap[g3]? = some (cz_ a2_0 a2_1 a2_2 a2_3 a2_4 a2_5)) ∧ (Below w.heap.size w w')) ?_ ?_
            rotate_left
            ·intro hJ2_4_8
             refine join_ (σ := Nat) 5 #[T,T,T,T,T,T,T,T,F,F,T,F,F,F] (fun s_ => [(25, .agg #[.int .u64 t168, .bool t169, .int .i64 t170, .int .u64 t171, .int .i64 t172, .int .i64 t173]), (27, .agg #[.int .u64 t174, .bool t175, .int .i64 t176, .int .u64 t177, .int .i64 t178, .int .i64 t179]), (7, .pointer (some ⟨s_, 0, none⟩))]) (fun s_ w' => (hk_ w' g1 a0_0 a0_1 a0_2 a0_3 a0_4 a0_5 (hk_ w' g2 a1_0 a1_1 a1_2 a1_3 a1_4 a1_5 (hc_ w' g3 a2_0 a2_1 a2_2 a2_3 a2_4 a2_5))) ∧ (w'.heap[g1]? = some (cz_ a0_0 a0_1 a0_2 a0_3 a0_4 a0_5)) ∧ (w'.heap[g2]? = some (cz_ a1_0 a1_1 a1_2 a1_3 a1_4 a1_5)) ∧ (w'.heap[g3]? = some (cz_ a2_0 a2_1 a2_2 a2_3 a2_4 a2_5)) ∧ (w'.heap[s_]? = some (cz_ 0 false 0 0 0 0)) ∧ (w.heap.size ≤ s_) ∧ (w.heap.size ≤ s_) ∧ (g1 ≠ s_) ∧ (s_ ≠ g1) ∧ (g2 ≠ s_) ∧ (s_ ≠ g2) ∧ (g3 ≠ s_) ∧ (s_ ≠ g3) ∧ (Below w.heap.size w w')) ?_ ?_
             rotate_left
             ·intro hJ2_4_10
              refine join_ (σ := Nat) 5 #[T,T,T,T,T,T,T,T,F,F,F,T,F,F] (fun s_ => [(25, .agg #[.int .u64 t168, .bool t169, .int .i64 t170, .int .u64 t171, .int .i64 t172, .int .i64 t173]), (27, .agg #[.int .u64 t174, .bool t175, .int .i64 t176, .int .u64 t177, .int .i64 t178, .int .i64 t179]), (8, .pointer (some ⟨s_, 0, none⟩))]) (fun s_ w' => (hk_ w' g1 a0_0 a0_1 a0_2 a0_3 a0_4 a0_5 (hk_ w' g2 a1_0 a1_1 a1_2 a1_3 a1_4 a1_5 (hc_ w' g3 a2_0 a2_1 a2_2 a2_3 a2_4 a2_5))) ∧ (w'.heap[g1]? = some (cz_ a0_0 a0_1 a0_2 a0_3 a0_4 a0_5)) ∧ (w'.heap[g2]? = some (cz_ a1_0 a1_1 a1_2 a1_3 a1_4 a1_5)) ∧ (w'.heap[g3]? = some (cz_ a2_0 a2_1 a2_2 a2_3 a2_4 a2_5)) ∧ (w'.heap[s_]? = some (cz_ 0 false 0 0 0 0)) ∧ (w.heap.size ≤ s_) ∧ (w.heap.size ≤ s_) ∧ (g1 ≠ s_) ∧ (s_ ≠ g1) ∧ (g2 ≠ s_) ∧ (s_ ≠ g2) ∧ (g3 ≠ s_) ∧ (s_ ≠ g3) ∧ (Below w.heap.size w w')) ?_ ?_
              rotate_left
              ·intro hJ2_4_11
               refine join_ (σ := Nat × Nat) 5 #[T,T,T,T,F,T,T,T,F,F,T,T,F,F] (fun s_ => [(25, .agg #[.int .u64 t168, .bool t169, .int .i64 t170, .int .u64 t171, .int .i64 t172, .int .i64 t173]), (7, .pointer (some ⟨s_.1, 0, none⟩)), (8, .pointer (some ⟨s_.2, 0, none⟩))]) (fun s_ w' => (hk_ w' g1 a0_0 a0_1 a0_2 a0_3 a0_4 a0_5 (hk_ w' g2 a1_0 a1_1 a1_2 a1_3 a1_4 a1_5 (hc_ w' g3 a2_0 a2_1 a2_2 a2_3 a2_4 a2_5))) ∧ (w'.heap[g1]? = some (cz_ a0_0 a0_1 a0_2 a0_3 a0_4 a0_5)) ∧ (w'.heap[g2]? = some (cz_ a1_0 a1_1 a1_2 a1_3 a1_4 a1_5)) ∧ (w'.heap[g3]? = some (cz_ a2_0 a2_1 a2_2 a2_3 a2_4 a2_5)) ∧ (w'.heap[s_.1]? = some (cz_ 0 false 0 0 0 0)) ∧ (w'.heap[s_.2]? = some (cz_ 0 false 0 0 0 0)) ∧ (w.heap.size ≤ s_.1) ∧ (w.heap.size ≤ s_.1) ∧ (g1 ≠ s_.1) ∧ (s_.1 ≠ g1) ∧ (g2 ≠ s_.1) ∧ (s_.1 ≠ g2) ∧ (g3 ≠ s_.1) ∧ (s_.1 ≠ g3) ∧ (s_.2 ≠ s_.1) ∧ (s_.1 ≠ s_.2) ∧ (w.heap.size ≤ s_.2) ∧ (w.heap.size ≤ s_.2) ∧ (g1 ≠ s_.2) ∧ (s_.2 ≠ g1) ∧ (g2 ≠ s_.2) ∧ (s_.2 ≠ g2) ∧ (g3 ≠ s_.2) ∧ (s_.2 ≠ g3) ∧ (Below w.heap.size w w')) ?_ ?_
               rotate_left
               ·intro hJ2_10_11
                refine join_ (σ := Unit) 6 #[T,T,T,T,T,T,T,T,F,F,F,F,F,F] (fun s_ => [(25, .agg #[.int .u64 t168, .bool t169, .int .i64 t170, .int .u64 t171, .int .i64 t172, .int .i64 t173]), (27, .agg #[.int .u64 t174, .bool t175, .int .i64 t176, .int .u64 t177, .int .i64 t178, .int .i64 t179])]) (fun s_ w' => (hk_ w' g1 a0_0 a0_1 a0_2 a0_3 a0_4 a0_5 (hk_ w' g2 a1_0 a1_1 a1_2 a1_3 a1_4 a1_5 (hc_ w' g3 a2_0 a2_1 a2_2 a2_3 a2_4 a2_5))) ∧ (w'.heap[g1]? = some (cz_ a0_0 a0_1 a0_2 a0_3 a0_4 a0_5)) ∧ (w'.heap[g2]? = some (cz_ a1_0 a1_1 a1_2 a1_3 a1_4 a1_5)) ∧ (w'.heap[g3]? = some (cz_ a2_0 a2_1 a2_2 a2_3 a2_4 a2_5)) ∧ (Below w.heap.size w w')) ?_ ?_
                rotate_left
                ·intro hJ2_4
                 refine join_ (σ := Nat) 6 #[T,T,T,T,F,T,T,T,F,F,T,F,F,F] (fun s_ => [(25, .agg #[.int .u64 t168, .bool t169, .int .i64 t170, .int .u64 t171, .int .i64 t172, .int .i64 t173]), (7, .pointer (some ⟨s_, 0, none⟩))]) (fun s_ w' => (hk_ w' g1 a0_0 a0_1 a0_2 a0_3 a0_4 a0_5 (hk_ w' g2 a1_0 a1_1 a1_2 a1_3 a1_4 a1_5 (hc_ w' g3 a2_0 a2_1 a2_2 a2_3 a2_4 a2_5))) ∧ (w'.heap[g1]? = some (cz_ a0_0 a0_1 a0_2 a0_3 a0_4 a0_5)) ∧ (w'.heap[g2]? = some (cz_ a1_0 a1_1 a1_2 a1_3 a1_4 a1_5)) ∧ (w'.heap[g3]? = some (cz_ a2_0 a2_1 a2_2 a2_3 a2_4 a2_5)) ∧ (w'.heap[s_]? = some (cz_ 0 false 0 0 0 0)) ∧ (w.heap.size ≤ s_) ∧ (w.heap.size ≤ s_) ∧ (g1 ≠ s_) ∧ (s_ ≠ g1) ∧ (g2 ≠ s_) ∧ (s_ ≠ g2) ∧ (g3 ≠ s_) ∧ (s_ ≠ g3) ∧ (Below w.heap.size w w')) ?_ ?_
                 rotate_left
                 ·intro hJ2_10
                  refine join_ (σ := Nat) 6 #[T,T,T,T,F,T,T,T,F,F,F,T,F,F] (fun s_ => [(25, .agg #[.int .u64 t168, .bool t169, .int .i64 t170, .int .u64 t171, .int .i64 t172, .int .i64 t173]), (8, .pointer (some ⟨s_, 0, none⟩))]) (fun s_ w' => (hk_ w' g1 a0_0 a0_1 a0_2 a0_3 a0_4 a0_5 (hk_ w' g2 a1_0 a1_1 a1_2 a1_3 a1_4 a1_5 (hc_ w' g3 a2_0 a2_1 a2_2 a2_3 a2_4 a2_5))) ∧ (w'.heap[g1]? = some (cz_ a0_0 a0_1 a0_2 a0_3 a0_4 a0_5)) ∧ (w'.heap[g2]? = some (cz_ a1_0 a1_1 a1_2 a1_3 a1_4 a1_5)) ∧ (w'.heap[g3]? = some (cz_ a2_0 a2_1 a2_2 a2_3 a2_4 a2_5)) ∧ (w'.heap[s_]? = some (cz_ 0 false 0 0 0 0)) ∧ (w.heap.size ≤ s_) ∧ (w.heap.size ≤ s_) ∧ (g1 ≠ s_) ∧ (s_ ≠ g1) ∧ (g2 ≠ s_) ∧ (s_ ≠ g2) ∧ (g3 ≠ s_) ∧ (s_ ≠ g3) ∧ (Below w.heap.size w w')) ?_ ?_
                  rotate_left
                  ·intro hJ2_11
                   refine join_ (σ := Nat × Nat) 6 #[T,T,F,T,F,T,T,T,F,F,T,T,F,F] (fun s_ => [(7, .pointer (some ⟨s_.1, 0, none⟩)), (8, .pointer (some ⟨s_.2, 0, none⟩))]) (fun s_ w' => (hk_ w' g1 a0_0 a0_1 a0_2 a0_3 a0_4 a0_5 (hk_ w' g2 a1_0 a1_1 a1_2 a1_3 a1_4 a1_5 (hc_ w' g3 a2_0 a2_1 a2_2 a2_3 a2_4 a2_5))) ∧ (w'.heap[g1]? = some (cz_ a0_0 a0_1 a0_2 a0_3 a0_4 a0_5)) ∧ (w'.heap[g2]? = some (cz_ a1_0 a1_1 a1_2 a1_3 a1_4 a1_5)) ∧ (w'.heap[g3]? = some (cz_ a2_0 a2_1 a2_2 a2_3 a2_4 a2_5)) ∧ (w'.heap[s_.1]? = some (cz_ 0 false 0 0 0 0)) ∧ (w'.heap[s_.2]? = some (cz_ 0 false 0 0 0 0)) ∧ (w.heap.size ≤ s_.1) ∧ (w.heap.size ≤ s_.1) ∧ (g1 ≠ s_.1) ∧ (s_.1 ≠ g1) ∧ (g2 ≠ s_.1) ∧ (s_.1 ≠ g2) ∧ (g3 ≠ s_.1) ∧ (s_.1 ≠ g3) ∧ (s_.2 ≠ s_.1) ∧ (s_.1 ≠ s_.2) ∧ (w.heap.size ≤ s_.2) ∧ (w.heap.size ≤ s_.2) ∧ (g1 ≠ s_.2) ∧ (s_.2 ≠ g1) ∧ (g2 ≠ s_.2) ∧ (s_.2 ≠ g2) ∧ (g3 ≠ s_.2) ∧ (s_.2 ≠ g3) ∧ (Below w.heap.size w w')) ?_ ?_
                   rotate_left
                   ·intro hJ10_11
                    refine join_ (σ := Unit) 7 #[T,T,T,T,F,T,T,T,F,F,F,F,F,F] (fun s_ => [(25, .agg #[.int .u64 t168, .bool t169, .int .i64 t170, .int .u64 t171, .int .i64 t172, .int .i64 t173])]) (fun s_ w' => (hk_ w' g1 a0_0 a0_1 a0_2 a0_3 a0_4 a0_5 (hk_ w' g2 a1_0 a1_1 a1_2 a1_3 a1_4 a1_5 (hc_ w' g3 a2_0 a2_1 a2_2 a2_3 a2_4 a2_5))) ∧ (w'.heap[g1]? = some (cz_ a0_0 a0_1 a0_2 a0_3 a0_4 a0_5)) ∧ (w'.heap[g2]? = some (cz_ a1_0 a1_1 a1_2 a1_3 a1_4 a1_5)) ∧ (w'.heap[g3]? = some (cz_ a2_0 a2_1 a2_2 a2_3 a2_4 a2_5)) ∧ (Below w.heap.size w w')) ?_ ?_
                    rotate_left
                    ·intro hJ2
                     refine join_ (σ := Nat) 7 #[T,T,F,T,F,T,T,T,F,F,T,F,F,F] (fun s_ => [(7, .pointer (some ⟨s_, 0, none⟩))]) (fun s_ w' => (hk_ w' g1 a0_0 a0_1 a0_2 a0_3 a0_4 a0_5 (hk_ w' g2 a1_0 a1_1 a1_2 a1_3 a1_4 a1_5 (hc_ w' g3 a2_0 a2_1 a2_2 a2_3 a2_4 a2_5))) ∧ (w'.heap[g1]? = some (cz_ a0_0 a0_1 a0_2 a0_3 a0_4 a0_5)) ∧ (w'.heap[g2]? = some (cz_ a1_0 a1_1 a1_2 a1_3 a1_4 a1_5)) ∧ (w'.heap[g3]? = some (cz_ a2_0 a2_1 a2_2 a2_3 a2_4 a2_5)) ∧ (w'.heap[s_]? = some (cz_ 0 false 0 0 0 0)) ∧ (w.heap.size ≤ s_) ∧ (w.heap.size ≤ s_) ∧ (g1 ≠ s_) ∧ (s_ ≠ g1) ∧ (g2 ≠ s_) ∧ (s_ ≠ g2) ∧ (g3 ≠ s_) ∧ (s_ ≠ g3) ∧ (Below w.heap.size w w')) ?_ ?_
                     rotate_left
                     ·intro hJ10
                      refine join_ (σ := Nat) 7 #[T,T,F,T,F,T,T,T,F,F,F,T,F,F] (fun s_ => [(8, .pointer (some ⟨s_, 0, none⟩))]) (fun s_ w' => (hk_ w' g1 a0_0 a0_1 a0_2 a0_3 a0_4 a0_5 (hk_ w' g2 a1_0 a1_1 a1_2 a1_3 a1_4 a1_5 (hc_ w' g3 a2_0 a2_1 a2_2 a2_3 a2_4 a2_5))) ∧ (w'.heap[g1]? = some (cz_ a0_0 a0_1 a0_2 a0_3 a0_4 a0_5)) ∧ (w'.heap[g2]? = some (cz_ a1_0 a1_1 a1_2 a1_3 a1_4 a1_5)) ∧ (w'.heap[g3]? = some (cz_ a2_0 a2_1 a2_2 a2_3 a2_4 a2_5)) ∧ (w'.heap[s_]? = some (cz_ 0 false 0 0 0 0)) ∧ (w.heap.size ≤ s_) ∧ (w.heap.size ≤ s_) ∧ (g1 ≠ s_) ∧ (s_ ≠ g1) ∧ (g2 ≠ s_) ∧ (s_ ≠ g2) ∧ (g3 ≠ s_) ∧ (s_ ≠ g3) ∧ (Below w.heap.size w w')) ?_ ?_
                      rotate_left
                      ·intro hJ11
                       refine three_ (i := 2) (j := 10) (k := 11) (Ni := some 25) (Nj := some 7) (Nk := some 8) #[T,T,T,T,F,T,T,T,F,F,F,F,F,F] #[T,T,F,T,F,T,T,T,F,F,T,F,F,F] #[T,T,F,T,F,T,T,T,F,F,F,T,F,F] rfl rfl rfl rfl rfl rfl (three_of HT_.out (by kernel_rfl)) (by decide) (by decide) (by decide) (fun K hK => ?_) (fun K hK => ?_) (fun K hK => ?_)
                       ·skip
                        refine goes_ Try.func11 (by kernel_rfl) rfl #[.agg #[.int .u64 a0_0, .bool a0_1, .int .i64 a0_2, .int .u64 a0_3, .int .i64 a0_4, .int .i64 a0_5], .agg #[.int .u64 a1_0, .bool a1_1, .int .i64 a1_2, .int .u64 a1_3, .int .i64 a1_4, .int .i64 a1_5]] (by rfl) rfl rfl (by (try simp only [List.map_toArray, List.map_cons, List.map_nil]); first | done | rfl | (simp only [List.length_drop, List.length_take]; rfl)) ?_
                        with_reducible refine (agg_Merge.calls a0_0 a0_1 a0_2 a0_3 a0_4 a0_5 a1_0 a1_1 a1_2 a1_3 a1_4 a1_5 t168 t169 t170 t171 t172 t173 _ A36.out).mono ?_
                        rintro e w52 ⟨rfl, hb⟩
                        refine ⟨_, rfl, ?_⟩
                        have n0_ := AK_ (blk_below (by apply_rules [K1.out, bN_, bD_, bA_]) hb)
                        have n1_ := AK_ (blk_below (by apply_rules [K2.out, bN_, bD_, bA_]) hb)
                        have n2_ := AK_ (blk_below (by apply_rules [K3.out, bN_, bD_, bA_]) hb)
                        have n3_ := AK_ (below_step (by repeat (first | (with_reducible first | exact HB.out | apply ba_ | apply bn_ | apply bd_ | refine bs_ E1 ?_ | refine bs_ E2 ?_ | refine bs_ E3 ?_) | exact HB.out)) hb)
                        clear K1 K2 K3 HB
                        have K1 := n0_
                        have K2 := n1_
                        have K3 := n2_
                        have HB := n3_
                        clear n0_ n1_ n2_ n3_
                        (try clear hb)
                        (try clear hb2)
                        (try clear hk)
                        (try clear hi)
                        refine hK.out _ _ (hI_ K1 (hI_ K2 (hL_ K3))) (fun hHeld => ?_)
                        clear hK K
                        refine norm_ (a' := ?_) ?_ ?_
                        rotate_left
                        ·show Act.put _ (some 25) _ = _
                         simp only [Act.put, sa_, sb_, sc_, i64_w, i32_w]
                         rfl
                        exact norm_ (by simp only [putAll, Act.put, sa_, sb_, sc_] <;> rfl) (hJ2 () _ ⟨hHeld, (by apply_rules [K1.out, bN_, bD_, bA_]), (by apply_rules [K2.out, bN_, bD_, bA_]), (by apply_rules [K3.out, bN_, bD_, bA_]), (by repeat (first | (with_reducible first | exact HB.out | apply ba_ | apply bn_ | apply bd_ | refine bs_ E1 ?_ | refine bs_ E2 ?_ | refine bs_ E3 ?_) | exact HB.out))⟩)
                       ·skip
                        refine box_step ?hg (N := 7) ?hd (cs := #[.int .u64 0, .bool false, .int .i64 0, .int .u64 0, .int .i64 0, .int .i64 0]) (t := 26) ?hr ?_; (case hd => rfl); (case hg => rfl); (case hr => first | (go_simp; done) | (go_simp; rfl))
                        intro g4 hg w52 hbox hb
                        have n0_ := AK_ (blk_below (by apply_rules [K1.out, bN_, bD_, bA_]) hb)
                        have n1_ := AK_ (blk_below (by apply_rules [K2.out, bN_, bD_, bA_]) hb)
                        have n2_ := AK_ (blk_below (by apply_rules [K3.out, bN_, bD_, bA_]) hb)
                        have n3_ := AK_ (below_step (by repeat (first | (with_reducible first | exact HB.out | apply ba_ | apply bn_ | apply bd_ | refine bs_ E1 ?_ | refine bs_ E2 ?_ | refine bs_ E3 ?_) | exact HB.out)) hb)
                        have n4_ := AK_ (hbox)
                        have n5_ := AK_ ((by rw [hg]; exact (below_size (by repeat (first | (with_reducible first | exact HB.out | apply ba_ | apply bn_ | apply bd_ | refine bs_ E1 ?_ | refine bs_ E2 ?_ | refine bs_ E3 ?_) | exact HB.out))) : w.heap.size ≤ g4))
                        have n6_ := n5_
                        have n7_ := AK_ ((by rw [hg]; exact Nat.ne_of_lt (blk_lt (g := g1) (o := cz_ a0_0 a0_1 a0_2 a0_3 a0_4 a0_5) (by apply_rules [K1.out, bN_, bD_, bA_])) : g1 ≠ g4))
                        have n8_ := sy_ n7_
                        have n9_ := AK_ ((by rw [hg]; exact Nat.ne_of_lt (blk_lt (g := g2) (o := cz_ a1_0 a1_1 a1_2 a1_3 a1_4 a1_5) (by apply_rules [K2.out, bN_, bD_, bA_])) : g2 ≠ g4))
                        have n10_ := sy_ n9_
                        have n11_ := AK_ ((by rw [hg]; exact Nat.ne_of_lt (blk_lt (g := g3) (o := cz_ a2_0 a2_1 a2_2 a2_3 a2_4 a2_5) (by apply_rules [K3.out, bN_, bD_, bA_])) : g3 ≠ g4))
                        have n12_ := sy_ n11_
                        clear K1 K2 K3 HB
                        have K1 := n0_
                        have K2 := n1_
                        have K3 := n2_
                        have HB := n3_
                        have K4 := n4_
                        have G4 := n5_
                        have E4 := n6_
                        have N1_4 := n7_
                        have N4_1 := n8_
                        have N2_4 := n9_
                        have N4_2 := n10_
                        have N3_4 := n11_
                        have N4_3 := n12_
                        clear n0_ n1_ n2_ n3_ n4_ n5_ n6_ n7_ n8_ n9_ n10_ n11_ n12_
                        clear hb hbox hg
                        refine hK.out _ _ (hI_ K1 (hI_ K2 (hL_ K3))) (fun hHeld => ?_)
                        clear hK K
                        refine norm_ (a' := ?_) ?_ ?_
                        rotate_left
                        ·show Act.put _ (some 7) _ = _
                         simp only [Act.put, sa_, sb_, sc_, i64_w, i32_w]
                         rfl
                        exact norm_ (by simp only [putAll, Act.put, sa_, sb_, sc_] <;> rfl) (hJ10 (g4) _ ⟨hHeld, (by apply_rules [K1.out, bN_, bD_, bA_]), (by apply_rules [K2.out, bN_, bD_, bA_]), (by apply_rules [K3.out, bN_, bD_, bA_]), (by apply_rules [K4.out, bN_, bD_, bA_]), G4.out, E4.out, N1_4.out, N4_1.out, N2_4.out, N4_2.out, N3_4.out, N4_3.out, (by repeat (first | (with_reducible first | exact HB.out | apply ba_ | apply bn_ | apply bd_ | refine bs_ E1 ?_ | refine bs_ E2 ?_ | refine bs_ E3 ?_ | refine bs_ E4 ?_) | exact HB.out))⟩)
                       ·skip
                        refine box_step ?hg (N := 8) ?hd (cs := #[.int .u64 0, .bool false, .int .i64 0, .int .u64 0, .int .i64 0, .int .i64 0]) (t := 26) ?hr ?_; (case hd => rfl); (case hg => rfl); (case hr => first | (go_simp; done) | (go_simp; rfl))
                        intro g5 hg w52 hbox hb
                        have n0_ := AK_ (blk_below (by apply_rules [K1.out, bN_, bD_, bA_]) hb)
                        have n1_ := AK_ (blk_below (by apply_rules [K2.out, bN_, bD_, bA_]) hb)
                        have n2_ := AK_ (blk_below (by apply_rules [K3.out, bN_, bD_, bA_]) hb)
                        have n3_ := AK_ (below_step (by repeat (first | (with_reducible first | exact HB.out | apply ba_ | apply bn_ | apply bd_ | refine bs_ E1 ?_ | refine bs_ E2 ?_ | refine bs_ E3 ?_) | exact HB.out)) hb)
                        have n4_ := AK_ (hbox)
                        have n5_ := AK_ ((by rw [hg]; exact (below_size (by repeat (first | (with_reducible first | exact HB.out | apply ba_ | apply bn_ | apply bd_ | refine bs_ E1 ?_ | refine bs_ E2 ?_ | refine bs_ E3 ?_) | exact HB.out))) : w.heap.size ≤ g5))
                        have n6_ := n5_
                        have n7_ := AK_ ((by rw [hg]; exact Nat.ne_of_lt (blk_lt (g := g1) (o := cz_ a0_0 a0_1 a0_2 a0_3 a0_4 a0_5) (by apply_rules [K1.out, bN_, bD_, bA_])) : g1 ≠ g5))
                        have n8_ := sy_ n7_
                        have n9_ := AK_ ((by rw [hg]; exact Nat.ne_of_lt (blk_lt (g := g2) (o := cz_ a1_0 a1_1 a1_2 a1_3 a1_4 a1_5) (by apply_rules [K2.out, bN_, bD_, bA_])) : g2 ≠ g5))
                        have n10_ := sy_ n9_
                        have n11_ := AK_ ((by rw [hg]; exact Nat.ne_of_lt (blk_lt (g := g3) (o := cz_ a2_0 a2_1 a2_2 a2_3 a2_4 a2_5) (by apply_rules [K3.out, bN_, bD_, bA_])) : g3 ≠ g5))
                        have n12_ := sy_ n11_
                        clear K1 K2 K3 HB
                        have K1 := n0_
                        have K2 := n1_
                        have K3 := n2_
                        have HB := n3_
                        have K5 := n4_
                        have G5 := n5_
                        have E5 := n6_
                        have N1_5 := n7_
                        have N5_1 := n8_
                        have N2_5 := n9_
                        have N5_2 := n10_
                        have N3_5 := n11_
                        have N5_3 := n12_
                        clear n0_ n1_ n2_ n3_ n4_ n5_ n6_ n7_ n8_ n9_ n10_ n11_ n12_
                        clear hb hbox hg
                        refine hK.out _ _ (hI_ K1 (hI_ K2 (hL_ K3))) (fun hHeld => ?_)
                        clear hK K
                        refine norm_ (a' := ?_) ?_ ?_
                        rotate_left
                        ·show Act.put _ (some 8) _ = _
                         simp only [Act.put, sa_, sb_, sc_, i64_w, i32_w]
                         rfl
                        exact norm_ (by simp only [putAll, Act.put, sa_, sb_, sc_] <;> rfl) (hJ11 (g5) _ ⟨hHeld, (by apply_rules [K1.out, bN_, bD_, bA_]), (by apply_rules [K2.out, bN_, bD_, bA_]), (by apply_rules [K3.out, bN_, bD_, bA_]), (by apply_rules [K5.out, bN_, bD_, bA_]), G5.out, E5.out, N1_5.out, N5_1.out, N2_5.out, N5_2.out, N3_5.out, N5_3.out, (by repeat (first | (with_reducible first | exact HB.out | apply ba_ | apply bn_ | apply bd_ | refine bs_ E1 ?_ | refine bs_ E2 ?_ | refine bs_ E3 ?_ | refine bs_ E5 ?_) | exact HB.out))⟩)
                      ·skip
                       rintro g5 w53 ⟨hS_, h0_, h1_, h2_, h3_, h4_, h5_, h6_, h7_, h8_, h9_, h10_, h11_, h12_⟩
                       have n0_ : Aside0 (w53.heap[g1]? = some (cz_ a0_0 a0_1 a0_2 a0_3 a0_4 a0_5)) := ⟨h0_⟩
                       have n1_ : Aside0 (w53.heap[g2]? = some (cz_ a1_0 a1_1 a1_2 a1_3 a1_4 a1_5)) := ⟨h1_⟩
                       have n2_ : Aside0 (w53.heap[g3]? = some (cz_ a2_0 a2_1 a2_2 a2_3 a2_4 a2_5)) := ⟨h2_⟩
                       have n3_ : Aside0 (w53.heap[g5]? = some (cz_ 0 false 0 0 0 0)) := ⟨h3_⟩
                       have n4_ : Aside0 (w.heap.size ≤ g5) := ⟨h4_⟩
                       have n5_ : Aside0 (w.heap.size ≤ g5) := ⟨h5_⟩
                       have n6_ : Aside0 (g1 ≠ g5) := ⟨h6_⟩
                       have n7_ : Aside0 (g5 ≠ g1) := ⟨h7_⟩
                       have n8_ : Aside0 (g2 ≠ g5) := ⟨h8_⟩
                       have n9_ : Aside0 (g5 ≠ g2) := ⟨h9_⟩
                       have n10_ : Aside0 (g3 ≠ g5) := ⟨h10_⟩
                       have n11_ : Aside0 (g5 ≠ g3) := ⟨h11_⟩
                       have n12_ : Aside0 (Below w.heap.size w w53) := ⟨h12_⟩
                       clear K1 K2 K3 HB h0_ h1_ h2_ h3_ h4_ h5_ h6_ h7_ h8_ h9_ h10_ h11_ h12_
                       have K1 := n0_
                       have K2 := n1_
                       have K3 := n2_
                       have K5 := n3_
                       have G5 := n4_
                       have E5 := n5_
                       have N1_5 := n6_
                       have N5_1 := n7_
                       have N2_5 := n8_
                       have N5_2 := n9_
                       have N3_5 := n10_
                       have N5_3 := n11_
                       have HB := n12_
                       clear n0_ n1_ n2_ n3_ n4_ n5_ n6_ n7_ n8_ n9_ n10_ n11_ n12_
                       have hHeld : hk_ w53 g1 a0_0 a0_1 a0_2 a0_3 a0_4 a0_5 (hk_ w53 g2 a1_0 a1_1 a1_2 a1_3 a1_4 a1_5 (hc_ w53 g3 a2_0 a2_1 a2_2 a2_3 a2_4 a2_5)) := hS_
                       refine norm_ (a' := ?_) ?_ ?_
                       rotate_left
                       ·simp only [putAll, Act.put, sa_, sb_, sc_]
                        rfl
                       refine two_ (i := 2) (j := 10) (Ni := some 25) (Nj := some 7) #[T,T,T,T,F,T,T,T,F,F,F,T,F,F] #[T,T,F,T,F,T,T,T,F,F,T,T,F,F] rfl rfl rfl rfl (two_of HT_.out (by kernel_rfl)) (by decide) (by decide) (fun K hK => ?_) (fun K hK => ?_)
                       ·skip
                        refine goes_ Try.func11 (by kernel_rfl) rfl #[.agg #[.int .u64 a0_0, .bool a0_1, .int .i64 a0_2, .int .u64 a0_3, .int .i64 a0_4, .int .i64 a0_5], .agg #[.int .u64 a1_0, .bool a1_1, .int .i64 a1_2, .int .u64 a1_3, .int .i64 a1_4, .int .i64 a1_5]] (by rfl) rfl rfl (by (try simp only [List.map_toArray, List.map_cons, List.map_nil]); first | done | rfl | (simp only [List.length_drop, List.length_take]; rfl)) ?_
                        with_reducible refine (agg_Merge.calls a0_0 a0_1 a0_2 a0_3 a0_4 a0_5 a1_0 a1_1 a1_2 a1_3 a1_4 a1_5 t168 t169 t170 t171 t172 t173 _ A36.out).mono ?_
                        rintro e w54 ⟨rfl, hb⟩
                        refine ⟨_, rfl, ?_⟩
                        have n0_ := AK_ (blk_below (by apply_rules [K1.out, bN_, bD_, bA_]) hb)
                        have n1_ := AK_ (blk_below (by apply_rules [K2.out, bN_, bD_, bA_]) hb)
                        have n2_ := AK_ (blk_below (by apply_rules [K3.out, bN_, bD_, bA_]) hb)
                        have n3_ := AK_ (blk_below (by apply_rules [K5.out, bN_, bD_, bA_]) hb)
                        have n4_ := AK_ (below_step (by repeat (first | (with_reducible first | exact HB.out | apply ba_ | apply bn_ | apply bd_ | refine bs_ E1 ?_ | refine bs_ E2 ?_ | refine bs_ E3 ?_ | refine bs_ E5 ?_) | exact HB.out)) hb)
                        clear K1 K2 K3 K5 HB
                        have K1 := n0_
                        have K2 := n1_
                        have K3 := n2_
                        have K5 := n3_
                        have HB := n4_
                        clear n0_ n1_ n2_ n3_ n4_
                        (try clear hb)
                        (try clear hb2)
                        (try clear hk)
                        (try clear hi)
                        refine hK.out _ _ (hI_ K1 (hI_ K2 (hL_ K3))) (fun hHeld => ?_)
                        clear hK K
                        refine norm_ (a' := ?_) ?_ ?_
                        rotate_left
                        ·show Act.put _ (some 25) _ = _
                         simp only [Act.put, sa_, sb_, sc_, i64_w, i32_w]
                         rfl
                        exact norm_ (by simp only [putAll, Act.put, sa_, sb_, sc_] <;> rfl) (hJ2_11 (g5) _ ⟨hHeld, (by apply_rules [K1.out, bN_, bD_, bA_]), (by apply_rules [K2.out, bN_, bD_, bA_]), (by apply_rules [K3.out, bN_, bD_, bA_]), (by apply_rules [K5.out, bN_, bD_, bA_]), G5.out, E5.out, N1_5.out, N5_1.out, N2_5.out, N5_2.out, N3_5.out, N5_3.out, (by repeat (first | (with_reducible first | exact HB.out | apply ba_ | apply bn_ | apply bd_ | refine bs_ E1 ?_ | refine bs_ E2 ?_ | refine bs_ E3 ?_ | refine bs_ E5 ?_) | exact HB.out))⟩)
                       ·skip
                        refine box_step ?hg (N := 7) ?hd (cs := #[.int .u64 0, .bool false, .int .i64 0, .int .u64 0, .int .i64 0, .int .i64 0]) (t := 26) ?hr ?_; (case hd => rfl); (case hg => rfl); (case hr => first | (go_simp; done) | (go_simp; rfl))
                        intro g4 hg w54 hbox hb
                        have n0_ := AK_ (blk_below (by apply_rules [K1.out, bN_, bD_, bA_]) hb)
                        have n1_ := AK_ (blk_below (by apply_rules [K2.out, bN_, bD_, bA_]) hb)
                        have n2_ := AK_ (blk_below (by apply_rules [K3.out, bN_, bD_, bA_]) hb)
                        have n3_ := AK_ (blk_below (by apply_rules [K5.out, bN_, bD_, bA_]) hb)
                        have n4_ := AK_ (below_step (by repeat (first | (with_reducible first | exact HB.out | apply ba_ | apply bn_ | apply bd_ | refine bs_ E1 ?_ | refine bs_ E2 ?_ | refine bs_ E3 ?_ | refine bs_ E5 ?_) | exact HB.out)) hb)
                        have n5_ := AK_ (hbox)
                        have n6_ := AK_ ((by rw [hg]; exact (below_size (by repeat (first | (with_reducible first | exact HB.out | apply ba_ | apply bn_ | apply bd_ | refine bs_ E1 ?_ | refine bs_ E2 ?_ | refine bs_ E3 ?_ | refine bs_ E5 ?_) | exact HB.out))) : w.heap.size ≤ g4))
                        have n7_ := n6_
                        have n8_ := AK_ ((by rw [hg]; exact Nat.ne_of_lt (blk_lt (g := g1) (o := cz_ a0_0 a0_1 a0_2 a0_3 a0_4 a0_5) (by apply_rules [K1.out, bN_, bD_, bA_])) : g1 ≠ g4))
                        have n9_ := sy_ n8_
                        have n10_ := AK_ ((by rw [hg]; exact Nat.ne_of_lt (blk_lt (g := g2) (o := cz_ a1_0 a1_1 a1_2 a1_3 a1_4 a1_5) (by apply_rules [K2.out, bN_, bD_, bA_])) : g2 ≠ g4))
                        have n11_ := sy_ n10_
                        have n12_ := AK_ ((by rw [hg]; exact Nat.ne_of_lt (blk_lt (g := g3) (o := cz_ a2_0 a2_1 a2_2 a2_3 a2_4 a2_5) (by apply_rules [K3.out, bN_, bD_, bA_])) : g3 ≠ g4))
                        have n13_ := sy_ n12_
                        have n14_ := AK_ ((by rw [hg]; exact Nat.ne_of_lt (blk_lt (g := g5) (o := cz_ 0 false 0 0 0 0) (by apply_rules [K5.out, bN_, bD_, bA_])) : g5 ≠ g4))
                        have n15_ := sy_ n14_
                        clear K1 K2 K3 K5 HB
                        have K1 := n0_
                        have K2 := n1_
                        have K3 := n2_
                        have K5 := n3_
                        have HB := n4_
                        have K4 := n5_
                        have G4 := n6_
                        have E4 := n7_
                        have N1_4 := n8_
                        have N4_1 := n9_
                        have N2_4 := n10_
                        have N4_2 := n11_
                        have N3_4 := n12_
                        have N4_3 := n13_
                        have N5_4 := n14_
                        have N4_5 := n15_
                        clear n0_ n1_ n2_ n3_ n4_ n5_ n6_ n7_ n8_ n9_ n10_ n11_ n12_ n13_ n14_ n15_
                        clear hb hbox hg
                        refine hK.out _ _ (hI_ K1 (hI_ K2 (hL_ K3))) (fun hHeld => ?_)
                        clear hK K
                        refine norm_ (a' := ?_) ?_ ?_
                        rotate_left
                        ·show Act.put _ (some 7) _ = _
                         simp only [Act.put, sa_, sb_, sc_, i64_w, i32_w]
                         rfl
                        exact norm_ (by simp only [putAll, Act.put, sa_, sb_, sc_] <;> rfl) (hJ10_11 (g4, g5) _ ⟨hHeld, (by apply_rules [K1.out, bN_, bD_, bA_]), (by apply_rules [K2.out, bN_, bD_, bA_]), (by apply_rules [K3.out, bN_, bD_, bA_]), (by apply_rules [K4.out, bN_, bD_, bA_]), (by apply_rules [K5.out, bN_, bD_, bA_]), G4.out, E4.out, N1_4.out, N4_1.out, N2_4.out, N4_2.out, N3_4.out, N4_3.out, N5_4.out, N4_5.out, G5.out, E5.out, N1_5.out, N5_1.out, N2_5.out, N5_2.out, N3_5.out, N5_3.out, (by repeat (first | (with_reducible first | exact HB.out | apply ba_ | apply bn_ | apply bd_ | refine bs_ E1 ?_ | refine bs_ E2 ?_ | refine bs_ E3 ?_ | refine bs_ E5 ?_ | refine bs_ E4 ?_) | exact HB.out))⟩)
                     ·skip
                      rintro g4 w53 ⟨hS_, h0_, h1_, h2_, h3_, h4_, h5_, h6_, h7_, h8_, h9_, h10_, h11_, h12_⟩
                      have n0_ : Aside0 (w53.heap[g1]? = some (cz_ a0_0 a0_1 a0_2 a0_3 a0_4 a0_5)) := ⟨h0_⟩
                      have n1_ : Aside0 (w53.heap[g2]? = some (cz_ a1_0 a1_1 a1_2 a1_3 a1_4 a1_5)) := ⟨h1_⟩
                      have n2_ : Aside0 (w53.heap[g3]? = some (cz_ a2_0 a2_1 a2_2 a2_3 a2_4 a2_5)) := ⟨h2_⟩
                      have n3_ : Aside0 (w53.heap[g4]? = some (cz_ 0 false 0 0 0 0)) := ⟨h3_⟩
                      have n4_ : Aside0 (w.heap.size ≤ g4) := ⟨h4_⟩
                      have n5_ : Aside0 (w.heap.size ≤ g4) := ⟨h5_⟩
                      have n6_ : Aside0 (g1 ≠ g4) := ⟨h6_⟩
                      have n7_ : Aside0 (g4 ≠ g1) := ⟨h7_⟩
                      have n8_ : Aside0 (g2 ≠ g4) := ⟨h8_⟩
                      have n9_ : Aside0 (g4 ≠ g2) := ⟨h9_⟩
                      have n10_ : Aside0 (g3 ≠ g4) := ⟨h10_⟩
                      have n11_ : Aside0 (g4 ≠ g3) := ⟨h11_⟩
                      have n12_ : Aside0 (Below w.heap.size w w53) := ⟨h12_⟩
                      clear K1 K2 K3 HB h0_ h1_ h2_ h3_ h4_ h5_ h6_ h7_ h8_ h9_ h10_ h11_ h12_
                      have K1 := n0_
                      have K2 := n1_
                      have K3 := n2_
                      have K4 := n3_
                      have G4 := n4_
                      have E4 := n5_
                      have N1_4 := n6_
                      have N4_1 := n7_
                      have N2_4 := n8_
                      have N4_2 := n9_
                      have N3_4 := n10_
                      have N4_3 := n11_
                      have HB := n12_
                      clear n0_ n1_ n2_ n3_ n4_ n5_ n6_ n7_ n8_ n9_ n10_ n11_ n12_
                      have hHeld : hk_ w53 g1 a0_0 a0_1 a0_2 a0_3 a0_4 a0_5 (hk_ w53 g2 a1_0 a1_1 a1_2 a1_3 a1_4 a1_5 (hc_ w53 g3 a2_0 a2_1 a2_2 a2_3 a2_4 a2_5)) := hS_
                      refine norm_ (a' := ?_) ?_ ?_
                      rotate_left
                      ·simp only [putAll, Act.put, sa_, sb_, sc_]
                       rfl
                      refine two_ (i := 2) (j := 11) (Ni := some 25) (Nj := some 8) #[T,T,T,T,F,T,T,T,F,F,T,F,F,F] #[T,T,F,T,F,T,T,T,F,F,T,T,F,F] rfl rfl rfl rfl (two_of HT_.out (by kernel_rfl)) (by decide) (by decide) (fun K hK => ?_) (fun K hK => ?_)
                      ·skip
                       refine goes_ Try.func11 (by kernel_rfl) rfl #[.agg #[.int .u64 a0_0, .bool a0_1, .int .i64 a0_2, .int .u64 a0_3, .int .i64 a0_4, .int .i64 a0_5], .agg #[.int .u64 a1_0, .bool a1_1, .int .i64 a1_2, .int .u64 a1_3, .int .i64 a1_4, .int .i64 a1_5]] (by rfl) rfl rfl (by (try simp only [List.map_toArray, List.map_cons, List.map_nil]); first | done | rfl | (simp only [List.length_drop, List.length_take]; rfl)) ?_
                       with_reducible refine (agg_Merge.calls a0_0 a0_1 a0_2 a0_3 a0_4 a0_5 a1_0 a1_1 a1_2 a1_3 a1_4 a1_5 t168 t169 t170 t171 t172 t173 _ A36.out).mono ?_
                       rintro e w54 ⟨rfl, hb⟩
                       refine ⟨_, rfl, ?_⟩
                       have n0_ := AK_ (blk_below (by apply_rules [K1.out, bN_, bD_, bA_]) hb)
                       have n1_ := AK_ (blk_below (by apply_rules [K2.out, bN_, bD_, bA_]) hb)
                       have n2_ := AK_ (blk_below (by apply_rules [K3.out, bN_, bD_, bA_]) hb)
                       have n3_ := AK_ (blk_below (by apply_rules [K4.out, bN_, bD_, bA_]) hb)
                       have n4_ := AK_ (below_step (by repeat (first | (with_reducible first | exact HB.out | apply ba_ | apply bn_ | apply bd_ | refine bs_ E1 ?_ | refine bs_ E2 ?_ | refine bs_ E3 ?_ | refine bs_ E4 ?_) | exact HB.out)) hb)
                       clear K1 K2 K3 K4 HB
                       have K1 := n0_
                       have K2 := n1_
                       have K3 := n2_
                       have K4 := n3_
                       have HB := n4_
                       clear n0_ n1_ n2_ n3_ n4_
                       (try clear hb)
                       (try clear hb2)
                       (try clear hk)
                       (try clear hi)
                       refine hK.out _ _ (hI_ K1 (hI_ K2 (hL_ K3))) (fun hHeld => ?_)
                       clear hK K
                       refine norm_ (a' := ?_) ?_ ?_
                       rotate_left
                       ·show Act.put _ (some 25) _ = _
                        simp only [Act.put, sa_, sb_, sc_, i64_w, i32_w]
                        rfl
                       exact norm_ (by simp only [putAll, Act.put, sa_, sb_, sc_] <;> rfl) (hJ2_10 (g4) _ ⟨hHeld, (by apply_rules [K1.out, bN_, bD_, bA_]), (by apply_rules [K2.out, bN_, bD_, bA_]), (by apply_rules [K3.out, bN_, bD_, bA_]), (by apply_rules [K4.out, bN_, bD_, bA_]), G4.out, E4.out, N1_4.out, N4_1.out, N2_4.out, N4_2.out, N3_4.out, N4_3.out, (by repeat (first | (with_reducible first | exact HB.out | apply ba_ | apply bn_ | apply bd_ | refine bs_ E1 ?_ | refine bs_ E2 ?_ | refine bs_ E3 ?_ | refine bs_ E4 ?_) | exact HB.out))⟩)
                      ·skip
                       refine box_step ?hg (N := 8) ?hd (cs := #[.int .u64 0, .bool false, .int .i64 0, .int .u64 0, .int .i64 0, .int .i64 0]) (t := 26) ?hr ?_; (case hd => rfl); (case hg => rfl); (case hr => first | (go_simp; done) | (go_simp; rfl))
                       intro g5 hg w54 hbox hb
                       have n0_ := AK_ (blk_below (by apply_rules [K1.out, bN_, bD_, bA_]) hb)
                       have n1_ := AK_ (blk_below (by apply_rules [K2.out, bN_, bD_, bA_]) hb)
                       have n2_ := AK_ (blk_below (by apply_rules [K3.out, bN_, bD_, bA_]) hb)
                       have n3_ := AK_ (blk_below (by apply_rules [K4.out, bN_, bD_, bA_]) hb)
                       have n4_ := AK_ (below_step (by repeat (first | (with_reducible first | exact HB.out | apply ba_ | apply bn_ | apply bd_ | refine bs_ E1 ?_ | refine bs_ E2 ?_ | refine bs_ E3 ?_ | refine bs_ E4 ?_) | exact HB.out)) hb)
                       have n5_ := AK_ (hbox)
                       have n6_ := AK_ ((by rw [hg]; exact (below_size (by repeat (first | (with_reducible first | exact HB.out | apply ba_ | apply bn_ | apply bd_ | refine bs_ E1 ?_ | refine bs_ E2 ?_ | refine bs_ E3 ?_ | refine bs_ E4 ?_) | exact HB.out))) : w.heap.size ≤ g5))
                       have n7_ := n6_
                       have n8_ := AK_ ((by rw [hg]; exact Nat.ne_of_lt (blk_lt (g := g1) (o := cz_ a0_0 a0_1 a0_2 a0_3 a0_4 a0_5) (by apply_rules [K1.out, bN_, bD_, bA_])) : g1 ≠ g5))
                       have n9_ := sy_ n8_
                       have n10_ := AK_ ((by rw [hg]; exact Nat.ne_of_lt (blk_lt (g := g2) (o := cz_ a1_0 a1_1 a1_2 a1_3 a1_4 a1_5) (by apply_rules [K2.out, bN_, bD_, bA_])) : g2 ≠ g5))
                       have n11_ := sy_ n10_
                       have n12_ := AK_ ((by rw [hg]; exact Nat.ne_of_lt (blk_lt (g := g3) (o := cz_ a2_0 a2_1 a2_2 a2_3 a2_4 a2_5) (by apply_rules [K3.out, bN_, bD_, bA_])) : g3 ≠ g5))
                       have n13_ := sy_ n12_
                       have n14_ := AK_ ((by rw [hg]; exact Nat.ne_of_lt (blk_lt (g := g4) (o := cz_ 0 false 0 0 0 0) (by apply_rules [K4.out, bN_, bD_, bA_])) : g4 ≠ g5))
                       have n15_ := sy_ n14_
                       clear K1 K2 K3 K4 HB
                       have K1 := n0_
                       have K2 := n1_
                       have K3 := n2_
                       have K4 := n3_
                       have HB := n4_
                       have K5 := n5_
                       have G5 := n6_
                       have E5 := n7_
                       have N1_5 := n8_
                       have N5_1 := n9_
                       have N2_5 := n10_
                       have N5_2 := n11_
                       have N3_5 := n12_
                       have N5_3 := n13_
                       have N4_5 := n14_
                       have N5_4 := n15_
                       clear n0_ n1_ n2_ n3_ n4_ n5_ n6_ n7_ n8_ n9_ n10_ n11_ n12_ n13_ n14_ n15_
                       clear hb hbox hg
                       refine hK.out _ _ (hI_ K1 (hI_ K2 (hL_ K3))) (fun hHeld => ?_)
                       clear hK K
                       refine norm_ (a' := ?_) ?_ ?_
                       rotate_left
                       ·show Act.put _ (some 8) _ = _
                        simp only [Act.put, sa_, sb_, sc_, i64_w, i32_w]
                        rfl
                       exact norm_ (by simp only [putAll, Act.put, sa_, sb_, sc_] <;> rfl) (hJ10_11 (g4, g5) _ ⟨hHeld, (by apply_rules [K1.out, bN_, bD_, bA_]), (by apply_rules [K2.out, bN_, bD_, bA_]), (by apply_rules [K3.out, bN_, bD_, bA_]), (by apply_rules [K4.out, bN_, bD_, bA_]), (by apply_rules [K5.out, bN_, bD_, bA_]), G4.out, E4.out, N1_4.out, N4_1.out, N2_4.out, N4_2.out, N3_4.out, N4_3.out, N5_4.out, N4_5.out, G5.out, E5.out, N1_5.out, N5_1.out, N2_5.out, N5_2.out, N3_5.out, N5_3.out, (by repeat (first | (with_reducible first | exact HB.out | apply ba_ | apply bn_ | apply bd_ | refine bs_ E1 ?_ | refine bs_ E2 ?_ | refine bs_ E3 ?_ | refine bs_ E4 ?_ | refine bs_ E5 ?_) | exact HB.out))⟩)
                    ·skip
                     rintro _ w53 ⟨hS_, h0_, h1_, h2_, h3_⟩
                     have n0_ : Aside0 (w53.heap[g1]? = some (cz_ a0_0 a0_1 a0_2 a0_3 a0_4 a0_5)) := ⟨h0_⟩
                     have n1_ : Aside0 (w53.heap[g2]? = some (cz_ a1_0 a1_1 a1_2 a1_3 a1_4 a1_5)) := ⟨h1_⟩
                     have n2_ : Aside0 (w53.heap[g3]? = some (cz_ a2_0 a2_1 a2_2 a2_3 a2_4 a2_5)) := ⟨h2_⟩
                     have n3_ : Aside0 (Below w.heap.size w w53) := ⟨h3_⟩
                     clear K1 K2 K3 HB h0_ h1_ h2_ h3_
                     have K1 := n0_
                     have K2 := n1_
                     have K3 := n2_
                     have HB := n3_
                     clear n0_ n1_ n2_ n3_
                     have hHeld : hk_ w53 g1 a0_0 a0_1 a0_2 a0_3 a0_4 a0_5 (hk_ w53 g2 a1_0 a1_1 a1_2 a1_3 a1_4 a1_5 (hc_ w53 g3 a2_0 a2_1 a2_2 a2_3 a2_4 a2_5)) := hS_
                     refine norm_ (a' := ?_) ?_ ?_
                     rotate_left
                     ·simp only [putAll, Act.put, sa_, sb_, sc_]
                      rfl
                     refine three_ (i := 4) (j := 10) (k := 11) (Ni := some 27) (Nj := some 7) (Nk := some 8) #[T,T,T,T,T,T,T,T,F,F,F,F,F,F] #[T,T,T,T,F,T,T,T,F,F,T,F,F,F] #[T,T,T,T,F,T,T,T,F,F,F,T,F,F] rfl rfl rfl rfl rfl rfl (three_of HT_.out (by kernel_rfl)) (by decide) (by decide) (by decide) (fun K hK => ?_) (fun K hK => ?_) (fun K hK => ?_)
                     ·skip
                      refine goes_ Try.func11 (by kernel_rfl) rfl #[.agg #[.int .u64 t168, .bool t169, .int .i64 t170, .int .u64 t171, .int .i64 t172, .int .i64 t173], .agg #[.int .u64 a2_0, .bool a2_1, .int .i64 a2_2, .int .u64 a2_3, .int .i64 a2_4, .int .i64 a2_5]] (by rfl) rfl rfl (by (try simp only [List.map_toArray, List.map_cons, List.map_nil]); first | done | rfl | (simp only [List.length_drop, List.length_take]; rfl)) ?_
                      with_reducible refine (agg_Merge.calls t168 t169 t170 t171 t172 t173 a2_0 a2_1 a2_2 a2_3 a2_4 a2_5 t174 t175 t176 t177 t178 t179 _ A37.out).mono ?_
                      rintro e w54 ⟨rfl, hb⟩
                      refine ⟨_, rfl, ?_⟩
                      have n0_ := AK_ (blk_below (by apply_rules [K1.out, bN_, bD_, bA_]) hb)
                      have n1_ := AK_ (blk_below (by apply_rules [K2.out, bN_, bD_, bA_]) hb)
                      have n2_ := AK_ (blk_below (by apply_rules [K3.out, bN_, bD_, bA_]) hb)
                      have n3_ := AK_ (below_step (by repeat (first | (with_reducible first | exact HB.out | apply ba_ | apply bn_ | apply bd_ | refine bs_ E1 ?_ | refine bs_ E2 ?_ | refine bs_ E3 ?_) | exact HB.out)) hb)
                      clear K1 K2 K3 HB
                      have K1 := n0_
                      have K2 := n1_
                      have K3 := n2_
                      have HB := n3_
                      clear n0_ n1_ n2_ n3_
                      (try clear hb)
                      (try clear hb2)
                      (try clear hk)
                      (try clear hi)
                      refine hK.out _ _ (hI_ K1 (hI_ K2 (hL_ K3))) (fun hHeld => ?_)
                      clear hK K
                      refine norm_ (a' := ?_) ?_ ?_
                      rotate_left
                      ·show Act.put _ (some 27) _ = _
                       simp only [Act.put, sa_, sb_, sc_, i64_w, i32_w]
                       rfl
                      exact norm_ (by simp only [putAll, Act.put, sa_, sb_, sc_] <;> rfl) (hJ2_4 () _ ⟨hHeld, (by apply_rules [K1.out, bN_, bD_, bA_]), (by apply_rules [K2.out, bN_, bD_, bA_]), (by apply_rules [K3.out, bN_, bD_, bA_]), (by repeat (first | (with_reducible first | exact HB.out | apply ba_ | apply bn_ | apply bd_ | refine bs_ E1 ?_ | refine bs_ E2 ?_ | refine bs_ E3 ?_) | exact HB.out))⟩)
                     ·skip
                      refine box_step ?hg (N := 7) ?hd (cs := #[.int .u64 0, .bool false, .int .i64 0, .int .u64 0, .int .i64 0, .int .i64 0]) (t := 26) ?hr ?_; (case hd => rfl); (case hg => rfl); (case hr => first | (go_simp; done) | (go_simp; rfl))
                      intro g4 hg w54 hbox hb
                      have n0_ := AK_ (blk_below (by apply_rules [K1.out, bN_, bD_, bA_]) hb)
                      have n1_ := AK_ (blk_below (by apply_rules [K2.out, bN_, bD_, bA_]) hb)
                      have n2_ := AK_ (blk_below (by apply_rules [K3.out, bN_, bD_, bA_]) hb)
                      have n3_ := AK_ (below_step (by repeat (first | (with_reducible first | exact HB.out | apply ba_ | apply bn_ | apply bd_ | refine bs_ E1 ?_ | refine bs_ E2 ?_ | refine bs_ E3 ?_) | exact HB.out)) hb)
                      have n4_ := AK_ (hbox)
                      have n5_ := AK_ ((by rw [hg]; exact (below_size (by repeat (first | (with_reducible first | exact HB.out | apply ba_ | apply bn_ | apply bd_ | refine bs_ E1 ?_ | refine bs_ E2 ?_ | refine bs_ E3 ?_) | exact HB.out))) : w.heap.size ≤ g4))
                      have n6_ := n5_
                      have n7_ := AK_ ((by rw [hg]; exact Nat.ne_of_lt (blk_lt (g := g1) (o := cz_ a0_0 a0_1 a0_2 a0_3 a0_4 a0_5) (by apply_rules [K1.out, bN_, bD_, bA_])) : g1 ≠ g4))
                      have n8_ := sy_ n7_
                      have n9_ := AK_ ((by rw [hg]; exact Nat.ne_of_lt (blk_lt (g := g2) (o := cz_ a1_0 a1_1 a1_2 a1_3 a1_4 a1_5) (by apply_rules [K2.out, bN_, bD_, bA_])) : g2 ≠ g4))
                      have n10_ := sy_ n9_
                      have n11_ := AK_ ((by rw [hg]; exact Nat.ne_of_lt (blk_lt (g := g3) (o := cz_ a2_0 a2_1 a2_2 a2_3 a2_4 a2_5) (by apply_rules [K3.out, bN_, bD_, bA_])) : g3 ≠ g4))
                      have n12_ := sy_ n11_
                      clear K1 K2 K3 HB
                      have K1 := n0_
                      have K2 := n1_
                      have K3 := n2_
                      have HB := n3_
                      have K4 := n4_
                      have G4 := n5_
                      have E4 := n6_
                      have N1_4 := n7_
                      have N4_1 := n8_
                      have N2_4 := n9_
                      have N4_2 := n10_
                      have N3_4 := n11_
                      have N4_3 := n12_
                      clear n0_ n1_ n2_ n3_ n4_ n5_ n6_ n7_ n8_ n9_ n10_ n11_ n12_
                      clear hb hbox hg
                      refine hK.out _ _ (hI_ K1 (hI_ K2 (hL_ K3))) (fun hHeld => ?_)
                      clear hK K
                      refine norm_ (a' := ?_) ?_ ?_
                      rotate_left
                      ·show Act.put _ (some 7) _ = _
                       simp only [Act.put, sa_, sb_, sc_, i64_w, i32_w]
                       rfl
                      exact norm_ (by simp only [putAll, Act.put, sa_, sb_, sc_] <;> rfl) (hJ2_10 (g4) _ ⟨hHeld, (by apply_rules [K1.out, bN_, bD_, bA_]), (by apply_rules [K2.out, bN_, bD_, bA_]), (by apply_rules [K3.out, bN_, bD_, bA_]), (by apply_rules [K4.out, bN_, bD_, bA_]), G4.out, E4.out, N1_4.out, N4_1.out, N2_4.out, N4_2.out, N3_4.out, N4_3.out, (by repeat (first | (with_reducible first | exact HB.out | apply ba_ | apply bn_ | apply bd_ | refine bs_ E1 ?_ | refine bs_ E2 ?_ | refine bs_ E3 ?_ | refine bs_ E4 ?_) | exact HB.out))⟩)
                     ·skip
                      refine box_step ?hg (N := 8) ?hd (cs := #[.int .u64 0, .bool false, .int .i64 0, .int .u64 0, .int .i64 0, .int .i64 0]) (t := 26) ?hr ?_; (case hd => rfl); (case hg => rfl); (case hr => first | (go_simp; done) | (go_simp; rfl))
                      intro g5 hg w54 hbox hb
                      have n0_ := AK_ (blk_below (by apply_rules [K1.out, bN_, bD_, bA_]) hb)
                      have n1_ := AK_ (blk_below (by apply_rules [K2.out, bN_, bD_, bA_]) hb)
                      have n2_ := AK_ (blk_below (by apply_rules [K3.out, bN_, bD_, bA_]) hb)
                      have n3_ := AK_ (below_step (by repeat (first | (with_reducible first | exact HB.out | apply ba_ | apply bn_ | apply bd_ | refine bs_ E1 ?_ | refine bs_ E2 ?_ | refine bs_ E3 ?_) | exact HB.out)) hb)
                      have n4_ := AK_ (hbox)
                      have n5_ := AK_ ((by rw [hg]; exact (below_size (by repeat (first | (with_reducible first | exact HB.out | apply ba_ | apply bn_ | apply bd_ | refine bs_ E1 ?_ | refine bs_ E2 ?_ | refine bs_ E3 ?_) | exact HB.out))) : w.heap.size ≤ g5))
                      have n6_ := n5_
                      have n7_ := AK_ ((by rw [hg]; exact Nat.ne_of_lt (blk_lt (g := g1) (o := cz_ a0_0 a0_1 a0_2 a0_3 a0_4 a0_5) (by apply_rules [K1.out, bN_, bD_, bA_])) : g1 ≠ g5))
                      have n8_ := sy_ n7_
                      have n9_ := AK_ ((by rw [hg]; exact Nat.ne_of_lt (blk_lt (g := g2) (o := cz_ a1_0 a1_1 a1_2 a1_3 a1_4 a1_5) (by apply_rules [K2.out, bN_, bD_, bA_])) : g2 ≠ g5))
                      have n10_ := sy_ n9_
                      have n11_ := AK_ ((by rw [hg]; exact Nat.ne_of_lt (blk_lt (g := g3) (o := cz_ a2_0 a2_1 a2_2 a2_3 a2_4 a2_5) (by apply_rules [K3.out, bN_, bD_, bA_])) : g3 ≠ g5))
                      have n12_ := sy_ n11_
                      clear K1 K2 K3 HB
                      have K1 := n0_
                      have K2 := n1_
                      have K3 := n2_
                      have HB := n3_
                      have K5 := n4_
                      have G5 := n5_
                      have E5 := n6_
                      have N1_5 := n7_
                      have N5_1 := n8_
                      have N2_5 := n9_
                      have N5_2 := n10_
                      have N3_5 := n11_
                      have N5_3 := n12_
                      clear n0_ n1_ n2_ n3_ n4_ n5_ n6_ n7_ n8_ n9_ n10_ n11_ n12_
                      clear hb hbox hg
                      refine hK.out _ _ (hI_ K1 (hI_ K2 (hL_ K3))) (fun hHeld => ?_)
                      clear hK K
                      refine norm_ (a' := ?_) ?_ ?_
                      rotate_left
                      ·show Act.put _ (some 8) _ = _
                       simp only [Act.put, sa_, sb_, sc_, i64_w, i32_w]
                       rfl
                      exact norm_ (by simp only [putAll, Act.put, sa_, sb_, sc_] <;> rfl) (hJ2_11 (g5) _ ⟨hHeld, (by apply_rules [K1.out, bN_, bD_, bA_]), (by apply_rules [K2.out, bN_, bD_, bA_]), (by apply_rules [K3.out, bN_, bD_, bA_]), (by apply_rules [K5.out, bN_, bD_, bA_]), G5.out, E5.out, N1_5.out, N5_1.out, N2_5.out, N5_2.out, N3_5.out, N5_3.out, (by repeat (first | (with_reducible first | exact HB.out | apply ba_ | apply bn_ | apply bd_ | refine bs_ E1 ?_ | refine bs_ E2 ?_ | refine bs_ E3 ?_ | refine bs_ E5 ?_) | exact HB.out))⟩)
                   ·skip
                    rintro ⟨g4, g5⟩ w54 ⟨hS_, h0_, h1_, h2_, h3_, h4_, h5_, h6_, h7_, h8_, h9_, h10_, h11_, h12_, h13_, h14_, h15_, h16_, h17_, h18_, h19_, h20_, h21_, h22_, h23_⟩
                    have n0_ : Aside0 (w54.heap[g1]? = some (cz_ a0_0 a0_1 a0_2 a0_3 a0_4 a0_5)) := ⟨h0_⟩
                    have n1_ : Aside0 (w54.heap[g2]? = some (cz_ a1_0 a1_1 a1_2 a1_3 a1_4 a1_5)) := ⟨h1_⟩
                    have n2_ : Aside0 (w54.heap[g3]? = some (cz_ a2_0 a2_1 a2_2 a2_3 a2_4 a2_5)) := ⟨h2_⟩
                    have n3_ : Aside0 (w54.heap[g4]? = some (cz_ 0 false 0 0 0 0)) := ⟨h3_⟩
                    have n4_ : Aside0 (w54.heap[g5]? = some (cz_ 0 false 0 0 0 0)) := ⟨h4_⟩
                    have n5_ : Aside0 (w.heap.size ≤ g4) := ⟨h5_⟩
                    have n6_ : Aside0 (w.heap.size ≤ g4) := ⟨h6_⟩
                    have n7_ : Aside0 (g1 ≠ g4) := ⟨h7_⟩
                    have n8_ : Aside0 (g4 ≠ g1) := ⟨h8_⟩
                    have n9_ : Aside0 (g2 ≠ g4) := ⟨h9_⟩
                    have n10_ : Aside0 (g4 ≠ g2) := ⟨h10_⟩
                    have n11_ : Aside0 (g3 ≠ g4) := ⟨h11_⟩
                    have n12_ : Aside0 (g4 ≠ g3) := ⟨h12_⟩
                    have n13_ : Aside0 (g5 ≠ g4) := ⟨h13_⟩
                    have n14_ : Aside0 (g4 ≠ g5) := ⟨h14_⟩
                    have n15_ : Aside0 (w.heap.size ≤ g5) := ⟨h15_⟩
                    have n16_ : Aside0 (w.heap.size ≤ g5) := ⟨h16_⟩
                    have n17_ : Aside0 (g1 ≠ g5) := ⟨h17_⟩
                    have n18_ : Aside0 (g5 ≠ g1) := ⟨h18_⟩
                    have n19_ : Aside0 (g2 ≠ g5) := ⟨h19_⟩
                    have n20_ : Aside0 (g5 ≠ g2) := ⟨h20_⟩
                    have n21_ : Aside0 (g3 ≠ g5) := ⟨h21_⟩
                    have n22_ : Aside0 (g5 ≠ g3) := ⟨h22_⟩
                    have n23_ : Aside0 (Below w.heap.size w w54) := ⟨h23_⟩
                    clear K1 K2 K3 HB h0_ h1_ h2_ h3_ h4_ h5_ h6_ h7_ h8_ h9_ h10_ h11_ h12_ h13_ h14_ h15_ h16_ h17_ h18_ h19_ h20_ h21_ h22_ h23_
                    have K1 := n0_
                    have K2 := n1_
                    have K3 := n2_
                    have K4 := n3_
                    have K5 := n4_
                    have G4 := n5_
                    have E4 := n6_
                    have N1_4 := n7_
                    have N4_1 := n8_
                    have N2_4 := n9_
                    have N4_2 := n10_
                    have N3_4 := n11_
                    have N4_3 := n12_
                    have N5_4 := n13_
                    have N4_5 := n14_
                    have G5 := n15_
                    have E5 := n16_
                    have N1_5 := n17_
                    have N5_1 := n18_
                    have N2_5 := n19_
                    have N5_2 := n20_
                    have N3_5 := n21_
                    have N5_3 := n22_
                    have HB := n23_
                    clear n0_ n1_ n2_ n3_ n4_ n5_ n6_ n7_ n8_ n9_ n10_ n11_ n12_ n13_ n14_ n15_ n16_ n17_ n18_ n19_ n20_ n21_ n22_ n23_
                    have hHeld : hk_ w54 g1 a0_0 a0_1 a0_2 a0_3 a0_4 a0_5 (hk_ w54 g2 a1_0 a1_1 a1_2 a1_3 a1_4 a1_5 (hc_ w54 g3 a2_0 a2_1 a2_2 a2_3 a2_4 a2_5)) := hS_
                    refine norm_ (a' := ?_) ?_ ?_
                    rotate_left
                    ·simp only [putAll, Act.put, sa_, sb_, sc_]
                     rfl
                    refine one_ (i := 2) (N := some 25) #[T,T,T,T,F,T,T,T,F,F,T,T,F,F] rfl rfl (one_of HT_.out (by kernel_rfl)) (by decide) (fun K hK => ?_)
                    refine goes_ Try.func11 (by kernel_rfl) rfl #[.agg #[.int .u64 a0_0, .bool a0_1, .int .i64 a0_2, .int .u64 a0_3, .int .i64 a0_4, .int .i64 a0_5], .agg #[.int .u64 a1_0, .bool a1_1, .int .i64 a1_2, .int .u64 a1_3, .int .i64 a1_4, .int .i64 a1_5]] (by rfl) rfl rfl (by (try simp only [List.map_toArray, List.map_cons, List.map_nil]); first | done | rfl | (simp only [List.length_drop, List.length_take]; rfl)) ?_
                    with_reducible refine (agg_Merge.calls a0_0 a0_1 a0_2 a0_3 a0_4 a0_5 a1_0 a1_1 a1_2 a1_3 a1_4 a1_5 t168 t169 t170 t171 t172 t173 _ A36.out).mono ?_
                    rintro e w55 ⟨rfl, hb⟩
                    refine ⟨_, rfl, ?_⟩
                    have n0_ := AK_ (blk_below (by apply_rules [K1.out, bN_, bD_, bA_]) hb)
                    have n1_ := AK_ (blk_below (by apply_rules [K2.out, bN_, bD_, bA_]) hb)
                    have n2_ := AK_ (blk_below (by apply_rules [K3.out, bN_, bD_, bA_]) hb)
                    have n3_ := AK_ (blk_below (by apply_rules [K4.out, bN_, bD_, bA_]) hb)
                    have n4_ := AK_ (blk_below (by apply_rules [K5.out, bN_, bD_, bA_]) hb)
                    have n5_ := AK_ (below_step (by repeat (first | (with_reducible first | exact HB.out | apply ba_ | apply bn_ | apply bd_ | refine bs_ E1 ?_ | refine bs_ E2 ?_ | refine bs_ E3 ?_ | refine bs_ E4 ?_ | refine bs_ E5 ?_) | exact HB.out)) hb)
                    clear K1 K2 K3 K4 K5 HB
                    have K1 := n0_
                    have K2 := n1_
                    have K3 := n2_
                    have K4 := n3_
                    have K5 := n4_
                    have HB := n5_
                    clear n0_ n1_ n2_ n3_ n4_ n5_
                    (try clear hb)
                    (try clear hb2)
                    (try clear hk)
                    (try clear hi)
                    refine hK.out _ _ (hI_ K1 (hI_ K2 (hL_ K3))) (fun hHeld => ?_)
                    clear hK K
                    refine norm_ (a' := ?_) ?_ ?_
                    rotate_left
                    ·show Act.put _ (some 25) _ = _
                     simp only [Act.put, sa_, sb_, sc_, i64_w, i32_w]
                     rfl
                    exact norm_ (by simp only [putAll, Act.put, sa_, sb_, sc_] <;> rfl) (hJ2_10_11 (g4, g5) _ ⟨hHeld, (by apply_rules [K1.out, bN_, bD_, bA_]), (by apply_rules [K2.out, bN_, bD_, bA_]), (by apply_rules [K3.out, bN_, bD_, bA_]), (by apply_rules [K4.out, bN_, bD_, bA_]), (by apply_rules [K5.out, bN_, bD_, bA_]), G4.out, E4.out, N1_4.out, N4_1.out, N2_4.out, N4_2.out, N3_4.out, N4_3.out, N5_4.out, N4_5.out, G5.out, E5.out, N1_5.out, N5_1.out, N2_5.out, N5_2.out, N3_5.out, N5_3.out, (by repeat (first | (with_reducible first | exact HB.out | apply ba_ | apply bn_ | apply bd_ | refine bs_ E1 ?_ | refine bs_ E2 ?_ | refine bs_ E3 ?_ | refine bs_ E4 ?_ | refine bs_ E5 ?_) | exact HB.out))⟩)
                  ·skip
                   rintro g5 w54 ⟨hS_, h0_, h1_, h2_, h3_, h4_, h5_, h6_, h7_, h8_, h9_, h10_, h11_, h12_⟩
                   have n0_ : Aside0 (w54.heap[g1]? = some (cz_ a0_0 a0_1 a0_2 a0_3 a0_4 a0_5)) := ⟨h0_⟩
                   have n1_ : Aside0 (w54.heap[g2]? = some (cz_ a1_0 a1_1 a1_2 a1_3 a1_4 a1_5)) := ⟨h1_⟩
                   have n2_ : Aside0 (w54.heap[g3]? = some (cz_ a2_0 a2_1 a2_2 a2_3 a2_4 a2_5)) := ⟨h2_⟩
                   have n3_ : Aside0 (w54.heap[g5]? = some (cz_ 0 false 0 0 0 0)) := ⟨h3_⟩
                   have n4_ : Aside0 (w.heap.size ≤ g5) := ⟨h4_⟩
                   have n5_ : Aside0 (w.heap.size ≤ g5) := ⟨h5_⟩
                   have n6_ : Aside0 (g1 ≠ g5) := ⟨h6_⟩
                   have n7_ : Aside0 (g5 ≠ g1) := ⟨h7_⟩
                   have n8_ : Aside0 (g2 ≠ g5) := ⟨h8_⟩
                   have n9_ : Aside0 (g5 ≠ g2) := ⟨h9_⟩
                   have n10_ : Aside0 (g3 ≠ g5) := ⟨h10_⟩
                   have n11_ : Aside0 (g5 ≠ g3) := ⟨h11_⟩
                   have n12_ : Aside0 (Below w.heap.size w w54) := ⟨h12_⟩
                   clear K1 K2 K3 HB h0_ h1_ h2_ h3_ h4_ h5_ h6_ h7_ h8_ h9_ h10_ h11_ h12_
                   have K1 := n0_
                   have K2 := n1_
                   have K3 := n2_
                   have K5 := n3_
                   have G5 := n4_
                   have E5 := n5_
                   have N1_5 := n6_
                   have N5_1 := n7_
                   have N2_5 := n8_
                   have N5_2 := n9_
                   have N3_5 := n10_
                   have N5_3 := n11_
                   have HB := n12_
                   clear n0_ n1_ n2_ n3_ n4_ n5_ n6_ n7_ n8_ n9_ n10_ n11_ n12_
                   have hHeld : hk_ w54 g1 a0_0 a0_1 a0_2 a0_3 a0_4 a0_5 (hk_ w54 g2 a1_0 a1_1 a1_2 a1_3 a1_4 a1_5 (hc_ w54 g3 a2_0 a2_1 a2_2 a2_3 a2_4 a2_5)) := hS_
                   refine norm_ (a' := ?_) ?_ ?_
                   rotate_left
                   ·simp only [putAll, Act.put, sa_, sb_, sc_]
                    rfl
                   refine two_ (i := 4) (j := 10) (Ni := some 27) (Nj := some 7) #[T,T,T,T,T,T,T,T,F,F,F,T,F,F] #[T,T,T,T,F,T,T,T,F,F,T,T,F,F] rfl rfl rfl rfl (two_of HT_.out (by kernel_rfl)) (by decide) (by decide) (fun K hK => ?_) (fun K hK => ?_)
                   ·skip
                    refine goes_ Try.func11 (by kernel_rfl) rfl #[.agg #[.int .u64 t168, .bool t169, .int .i64 t170, .int .u64 t171, .int .i64 t172, .int .i64 t173], .agg #[.int .u64 a2_0, .bool a2_1, .int .i64 a2_2, .int .u64 a2_3, .int .i64 a2_4, .int .i64 a2_5]] (by rfl) rfl rfl (by (try simp only [List.map_toArray, List.map_cons, List.map_nil]); first | done | rfl | (simp only [List.length_drop, List.length_take]; rfl)) ?_
                    with_reducible refine (agg_Merge.calls t168 t169 t170 t171 t172 t173 a2_0 a2_1 a2_2 a2_3 a2_4 a2_5 t174 t175 t176 t177 t178 t179 _ A37.out).mono ?_
                    rintro e w55 ⟨rfl, hb⟩
                    refine ⟨_, rfl, ?_⟩
                    have n0_ := AK_ (blk_below (by apply_rules [K1.out, bN_, bD_, bA_]) hb)
                    have n1_ := AK_ (blk_below (by apply_rules [K2.out, bN_, bD_, bA_]) hb)
                    have n2_ := AK_ (blk_below (by apply_rules [K3.out, bN_, bD_, bA_]) hb)
                    have n3_ := AK_ (blk_below (by apply_rules [K5.out, bN_, bD_, bA_]) hb)
                    have n4_ := AK_ (below_step (by repeat (first | (with_reducible first | exact HB.out | apply ba_ | apply bn_ | apply bd_ | refine bs_ E1 ?_ | refine bs_ E2 ?_ | refine bs_ E3 ?_ | refine bs_ E5 ?_) | exact HB.out)) hb)
                    clear K1 K2 K3 K5 HB
                    have K1 := n0_
                    have K2 := n1_
                    have K3 := n2_
                    have K5 := n3_
                    have HB := n4_
                    clear n0_ n1_ n2_ n3_ n4_
                    (try clear hb)
                    (try clear hb2)
                    (try clear hk)
                    (try clear hi)
                    refine hK.out _ _ (hI_ K1 (hI_ K2 (hL_ K3))) (fun hHeld => ?_)
                    clear hK K
                    refine norm_ (a' := ?_) ?_ ?_
                    rotate_left
                    ·show Act.put _ (some 27) _ = _
                     simp only [Act.put, sa_, sb_, sc_, i64_w, i32_w]
                     rfl
                    exact norm_ (by simp only [putAll, Act.put, sa_, sb_, sc_] <;> rfl) (hJ2_4_11 (g5) _ ⟨hHeld, (by apply_rules [K1.out, bN_, bD_, bA_]), (by apply_rules [K2.out, bN_, bD_, bA_]), (by apply_rules [K3.out, bN_, bD_, bA_]), (by apply_rules [K5.out, bN_, bD_, bA_]), G5.out, E5.out, N1_5.out, N5_1.out, N2_5.out, N5_2.out, N3_5.out, N5_3.out, (by repeat (first | (with_reducible first | exact HB.out | apply ba_ | apply bn_ | apply bd_ | refine bs_ E1 ?_ | refine bs_ E2 ?_ | refine bs_ E3 ?_ | refine bs_ E5 ?_) | exact HB.out))⟩)
                   ·skip
                    refine box_step ?hg (N := 7) ?hd (cs := #[.int .u64 0, .bool false, .int .i64 0, .int .u64 0, .int .i64 0, .int .i64 0]) (t := 26) ?hr ?_; (case hd => rfl); (case hg => rfl); (case hr => first | (go_simp; done) | (go_simp; rfl))
                    intro g4 hg w55 hbox hb
                    have n0_ := AK_ (blk_below (by apply_rules [K1.out, bN_, bD_, bA_]) hb)
                    have n1_ := AK_ (blk_below (by apply_rules [K2.out, bN_, bD_, bA_]) hb)
                    have n2_ := AK_ (blk_below (by apply_rules [K3.out, bN_, bD_, bA_]) hb)
                    have n3_ := AK_ (blk_below (by apply_rules [K5.out, bN_, bD_, bA_]) hb)
                    have n4_ := AK_ (below_step (by repeat (first | (with_reducible first | exact HB.out | apply ba_ | apply bn_ | apply bd_ | refine bs_ E1 ?_ | refine bs_ E2 ?_ | refine bs_ E3 ?_ | refine bs_ E5 ?_) | exact HB.out)) hb)
                    have n5_ := AK_ (hbox)
                    have n6_ := AK_ ((by rw [hg]; exact (below_size (by repeat (first | (with_reducible first | exact HB.out | apply ba_ | apply bn_ | apply bd_ | refine bs_ E1 ?_ | refine bs_ E2 ?_ | refine bs_ E3 ?_ | refine bs_ E5 ?_) | exact HB.out))) : w.heap.size ≤ g4))
                    have n7_ := n6_
                    have n8_ := AK_ ((by rw [hg]; exact Nat.ne_of_lt (blk_lt (g := g1) (o := cz_ a0_0 a0_1 a0_2 a0_3 a0_4 a0_5) (by apply_rules [K1.out, bN_, bD_, bA_])) : g1 ≠ g4))
                    have n9_ := sy_ n8_
                    have n10_ := AK_ ((by rw [hg]; exact Nat.ne_of_lt (blk_lt (g := g2) (o := cz_ a1_0 a1_1 a1_2 a1_3 a1_4 a1_5) (by apply_rules [K2.out, bN_, bD_, bA_])) : g2 ≠ g4))
                    have n11_ := sy_ n10_
                    have n12_ := AK_ ((by rw [hg]; exact Nat.ne_of_lt (blk_lt (g := g3) (o := cz_ a2_0 a2_1 a2_2 a2_3 a2_4 a2_5) (by apply_rules [K3.out, bN_, bD_, bA_])) : g3 ≠ g4))
                    have n13_ := sy_ n12_
                    have n14_ := AK_ ((by rw [hg]; exact Nat.ne_of_lt (blk_lt (g := g5) (o := cz_ 0 false 0 0 0 0) (by apply_rules [K5.out, bN_, bD_, bA_])) : g5 ≠ g4))
                    have n15_ := sy_ n14_
                    clear K1 K2 K3 K5 HB
                    have K1 := n0_
                    have K2 := n1_
                    have K3 := n2_
                    have K5 := n3_
                    have HB := n4_
                    have K4 := n5_
                    have G4 := n6_
                    have E4 := n7_
                    have N1_4 := n8_
                    have N4_1 := n9_
                    have N2_4 := n10_
                    have N4_2 := n11_
                    have N3_4 := n12_
                    have N4_3 := n13_
                    have N5_4 := n14_
                    have N4_5 := n15_
                    clear n0_ n1_ n2_ n3_ n4_ n5_ n6_ n7_ n8_ n9_ n10_ n11_ n12_ n13_ n14_ n15_
                    clear hb hbox hg
                    refine hK.out _ _ (hI_ K1 (hI_ K2 (hL_ K3))) (fun hHeld => ?_)
                    clear hK K
                    refine norm_ (a' := ?_) ?_ ?_
                    rotate_left
                    ·show Act.put _ (some 7) _ = _
                     simp only [Act.put, sa_, sb_, sc_, i64_w, i32_w]
                     rfl
                    exact norm_ (by simp only [putAll, Act.put, sa_, sb_, sc_] <;> rfl) (hJ2_10_11 (g4, g5) _ ⟨hHeld, (by apply_rules [K1.out, bN_, bD_, bA_]), (by apply_rules [K2.out, bN_, bD_, bA_]), (by apply_rules [K3.out, bN_, bD_, bA_]), (by apply_rules [K4.out, bN_, bD_, bA_]), (by apply_rules [K5.out, bN_, bD_, bA_]), G4.out, E4.out, N1_4.out, N4_1.out, N2_4.out, N4_2.out, N3_4.out, N4_3.out, N5_4.out, N4_5.out, G5.out, E5.out, N1_5.out, N5_1.out, N2_5.out, N5_2.out, N3_5.out, N5_3.out, (by repeat (first | (with_reducible first | exact HB.out | apply ba_ | apply bn_ | apply bd_ | refine bs_ E1 ?_ | refine bs_ E2 ?_ | refine bs_ E3 ?_ | refine bs_ E5 ?_ | refine bs_ E4 ?_) | exact HB.out))⟩)
                 ·skip
                  rintro g4 w54 ⟨hS_, h0_, h1_, h2_, h3_, h4_, h5_, h6_, h7_, h8_, h9_, h10_, h11_, h12_⟩
                  have n0_ : Aside0 (w54.heap[g1]? = some (cz_ a0_0 a0_1 a0_2 a0_3 a0_4 a0_5)) := ⟨h0_⟩
                  have n1_ : Aside0 (w54.heap[g2]? = some (cz_ a1_0 a1_1 a1_2 a1_3 a1_4 a1_5)) := ⟨h1_⟩
                  have n2_ : Aside0 (w54.heap[g3]? = some (cz_ a2_0 a2_1 a2_2 a2_3 a2_4 a2_5)) := ⟨h2_⟩
                  have n3_ : Aside0 (w54.heap[g4]? = some (cz_ 0 false 0 0 0 0)) := ⟨h3_⟩
                  have n4_ : Aside0 (w.heap.size ≤ g4) := ⟨h4_⟩
                  have n5_ : Aside0 (w.heap.size ≤ g4) := ⟨h5_⟩
                  have n6_ : Aside0 (g1 ≠ g4) := ⟨h6_⟩
                  have n7_ : Aside0 (g4 ≠ g1) := ⟨h7_⟩
                  have n8_ : Aside0 (g2 ≠ g4) := ⟨h8_⟩
                  have n9_ : Aside0 (g4 ≠ g2) := ⟨h9_⟩
                  have n10_ : Aside0 (g3 ≠ g4) := ⟨h10_⟩
                  have n11_ : Aside0 (g4 ≠ g3) := ⟨h11_⟩
                  have n12_ : Aside0 (Below w.heap.size w w54) := ⟨h12_⟩
                  clear K1 K2 K3 HB h0_ h1_ h2_ h3_ h4_ h5_ h6_ h7_ h8_ h9_ h10_ h11_ h12_
                  have K1 := n0_
                  have K2 := n1_
                  have K3 := n2_
                  have K4 := n3_
                  have G4 := n4_
                  have E4 := n5_
                  have N1_4 := n6_
                  have N4_1 := n7_
                  have N2_4 := n8_
                  have N4_2 := n9_
                  have N3_4 := n10_
                  have N4_3 := n11_
                  have HB := n12_
                  clear n0_ n1_ n2_ n3_ n4_ n5_ n6_ n7_ n8_ n9_ n10_ n11_ n12_
                  have hHeld : hk_ w54 g1 a0_0 a0_1 a0_2 a0_3 a0_4 a0_5 (hk_ w54 g2 a1_0 a1_1 a1_2 a1_3 a1_4 a1_5 (hc_ w54 g3 a2_0 a2_1 a2_2 a2_3 a2_4 a2_5)) := hS_
                  refine norm_ (a' := ?_) ?_ ?_
                  rotate_left
                  ·simp only [putAll, Act.put, sa_, sb_, sc_]
                   rfl
                  refine two_ (i := 4) (j := 11) (Ni := some 27) (Nj := some 8) #[T,T,T,T,T,T,T,T,F,F,T,F,F,F] #[T,T,T,T,F,T,T,T,F,F,T,T,F,F] rfl rfl rfl rfl (two_of HT_.out (by kernel_rfl)) (by decide) (by decide) (fun K hK => ?_) (fun K hK => ?_)
                  ·skip
                   refine goes_ Try.func11 (by kernel_rfl) rfl #[.agg #[.int .u64 t168, .bool t169, .int .i64 t170, .int .u64 t171, .int .i64 t172, .int .i64 t173], .agg #[.int .u64 a2_0, .bool a2_1, .int .i64 a2_2, .int .u64 a2_3, .int .i64 a2_4, .int .i64 a2_5]] (by rfl) rfl rfl (by (try simp only [List.map_toArray, List.map_cons, List.map_nil]); first | done | rfl | (simp only [List.length_drop, List.length_take]; rfl)) ?_
                   with_reducible refine (agg_Merge.calls t168 t169 t170 t171 t172 t173 a2_0 a2_1 a2_2 a2_3 a2_4 a2_5 t174 t175 t176 t177 t178 t179 _ A37.out).mono ?_
                   rintro e w55 ⟨rfl, hb⟩
                   refine ⟨_, rfl, ?_⟩
                   have n0_ := AK_ (blk_below (by apply_rules [K1.out, bN_, bD_, bA_]) hb)
                   have n1_ := AK_ (blk_below (by apply_rules [K2.out, bN_, bD_, bA_]) hb)
                   have n2_ := AK_ (blk_below (by apply_rules [K3.out, bN_, bD_, bA_]) hb)
                   have n3_ := AK_ (blk_below (by apply_rules [K4.out, bN_, bD_, bA_]) hb)
                   have n4_ := AK_ (below_step (by repeat (first | (with_reducible first | exact HB.out | apply ba_ | apply bn_ | apply bd_ | refine bs_ E1 ?_ | refine bs_ E2 ?_ | refine bs_ E3 ?_ | refine bs_ E4 ?_) | exact HB.out)) hb)
                   clear K1 K2 K3 K4 HB
                   have K1 := n0_
                   have K2 := n1_
                   have K3 := n2_
                   have K4 := n3_
                   have HB := n4_
                   clear n0_ n1_ n2_ n3_ n4_
                   (try clear hb)
                   (try clear hb2)
                   (try clear hk)
                   (try clear hi)
                   refine hK.out _ _ (hI_ K1 (hI_ K2 (hL_ K3))) (fun hHeld => ?_)
                   clear hK K
                   refine norm_ (a' := ?_) ?_ ?_
                   rotate_left
                   ·show Act.put _ (some 27) _ = _
                    simp only [Act.put, sa_, sb_, sc_, i64_w, i32_w]
                    rfl
                   exact norm_ (by simp only [putAll, Act.put, sa_, sb_, sc_] <;> rfl) (hJ2_4_10 (g4) _ ⟨hHeld, (by apply_rules [K1.out, bN_, bD_, bA_]), (by apply_rules [K2.out, bN_, bD_, bA_]), (by apply_rules [K3.out, bN_, bD_, bA_]), (by apply_rules [K4.out, bN_, bD_, bA_]), G4.out, E4.out, N1_4.out, N4_1.out, N2_4.out, N4_2.out, N3_4.out, N4_3.out, (by repeat (first | (with_reducible first | exact HB.out | apply ba_ | apply bn_ | apply bd_ | refine bs_ E1 ?_ | refine bs_ E2 ?_ | refine bs_ E3 ?_ | refine bs_ E4 ?_) | exact HB.out))⟩)
                  ·skip
                   refine box_step ?hg (N := 8) ?hd (cs := #[.int .u64 0, .bool false, .int .i64 0, .int .u64 0, .int .i64 0, .int .i64 0]) (t := 26) ?hr ?_; (case hd => rfl); (case hg => rfl); (case hr => first | (go_simp; done) | (go_simp; rfl))
                   intro g5 hg w55 hbox hb
                   have n0_ := AK_ (blk_below (by apply_rules [K1.out, bN_, bD_, bA_]) hb)
                   have n1_ := AK_ (blk_below (by apply_rules [K2.out, bN_, bD_, bA_]) hb)
                   have n2_ := AK_ (blk_below (by apply_rules [K3.out, bN_, bD_, bA_]) hb)
                   have n3_ := AK_ (blk_below (by apply_rules [K4.out, bN_, bD_, bA_]) hb)
                   have n4_ := AK_ (below_step (by repeat (first | (with_reducible first | exact HB.out | apply ba_ | apply bn_ | apply bd_ | refine bs_ E1 ?_ | refine bs_ E2 ?_ | refine bs_ E3 ?_ | refine bs_ E4 ?_) | exact HB.out)) hb)
                   have n5_ := AK_ (hbox)
                   have n6_ := AK_ ((by rw [hg]; exact (below_size (by repeat (first | (with_reducible first | exact HB.out | apply ba_ | apply bn_ | apply bd_ | refine bs_ E1 ?_ | refine bs_ E2 ?_ | refine bs_ E3 ?_ | refine bs_ E4 ?_) | exact HB.out))) : w.heap.size ≤ g5))
                   have n7_ := n6_
                   have n8_ := AK_ ((by rw [hg]; exact Nat.ne_of_lt (blk_lt (g := g1) (o := cz_ a0_0 a0_1 a0_2 a0_3 a0_4 a0_5) (by apply_rules [K1.out, bN_, bD_, bA_])) : g1 ≠ g5))
                   have n9_ := sy_ n8_
                   have n10_ := AK_ ((by rw [hg]; exact Nat.ne_of_lt (blk_lt (g := g2) (o := cz_ a1_0 a1_1 a1_2 a1_3 a1_4 a1_5) (by apply_rules [K2.out, bN_, bD_, bA_])) : g2 ≠ g5))
                   have n11_ := sy_ n10_
                   have n12_ := AK_ ((by rw [hg]; exact Nat.ne_of_lt (blk_lt (g := g3) (o := cz_ a2_0 a2_1 a2_2 a2_3 a2_4 a2_5) (by apply_rules [K3.out, bN_, bD_, bA_])) : g3 ≠ g5))
                   have n13_ := sy_ n12_
                   have n14_ := AK_ ((by rw [hg]; exact Nat.ne_of_lt (blk_lt (g := g4) (o := cz_ 0 false 0 0 0 0) (by apply_rules [K4.out, bN_, bD_, bA_])) : g4 ≠ g5))
                   have n15_ := sy_ n14_
                   clear K1 K2 K3 K4 HB
                   have K1 := n0_
                   have K2 := n1_
                   have K3 := n2_
                   have K4 := n3_
                   have HB := n4_
                   have K5 := n5_
                   have G5 := n6_
                   have E5 := n7_
                   have N1_5 := n8_
                   have N5_1 := n9_
                   have N2_5 := n10_
                   have N5_2 := n11_
                   have N3_5 := n12_
                   have N5_3 := n13_
                   have N4_5 := n14_
                   have N5_4 := n15_
                   clear n0_ n1_ n2_ n3_ n4_ n5_ n6_ n7_ n8_ n9_ n10_ n11_ n12_ n13_ n14_ n15_
                   clear hb hbox hg
                   refine hK.out _ _ (hI_ K1 (hI_ K2 (hL_ K3))) (fun hHeld => ?_)
                   clear hK K
                   refine norm_ (a' := ?_) ?_ ?_
                   rotate_left
                   ·show Act.put _ (some 8) _ = _
                    simp only [Act.put, sa_, sb_, sc_, i64_w, i32_w]
                    rfl
                   exact norm_ (by simp only [putAll, Act.put, sa_, sb_, sc_] <;> rfl) (hJ2_10_11 (g4, g5) _ ⟨hHeld, (by apply_rules [K1.out, bN_, bD_, bA_]), (by apply_rules [K2.out, bN_, bD_, bA_]), (by apply_rules [K3.out, bN_, bD_, bA_]), (by apply_rules [K4.out, bN_, bD_, bA_]), (by apply_rules [K5.out, bN_, bD_, bA_]), G4.out, E4.out, N1_4.out, N4_1.out, N2_4.out, N4_2.out, N3_4.out, N4_3.out, N5_4.out, N4_5.out, G5.out, E5.out, N1_5.out, N5_1.out, N2_5.out, N5_2.out, N3_5.out, N5_3.out, (by repeat (first | (with_reducible first | exact HB.out | apply ba_ | apply bn_ | apply bd_ | refine bs_ E1 ?_ | refine bs_ E2 ?_ | refine bs_ E3 ?_ | refine bs_ E4 ?_ | refine bs_ E5 ?_) | exact HB.out))⟩)
                ·skip
                 rintro _ w54 ⟨hS_, h0_, h1_, h2_, h3_⟩
                 have n0_ : Aside0 (w54.heap[g1]? = some (cz_ a0_0 a0_1 a0_2 a0_3 a0_4 a0_5)) := ⟨h0_⟩
                 have n1_ : Aside0 (w54.heap[g2]? = some (cz_ a1_0 a1_1 a1_2 a1_3 a1_4 a1_5)) := ⟨h1_⟩
                 have n2_ : Aside0 (w54.heap[g3]? = some (cz_ a2_0 a2_1 a2_2 a2_3 a2_4 a2_5)) := ⟨h2_⟩
                 have n3_ : Aside0 (Below w.heap.size w w54) := ⟨h3_⟩
                 clear K1 K2 K3 HB h0_ h1_ h2_ h3_
                 have K1 := n0_
                 have K2 := n1_
                 have K3 := n2_
                 have HB := n3_
                 clear n0_ n1_ n2_ n3_
                 have hHeld : hk_ w54 g1 a0_0 a0_1 a0_2 a0_3 a0_4 a0_5 (hk_ w54 g2 a1_0 a1_1 a1_2 a1_3 a1_4 a1_5 (hc_ w54 g3 a2_0 a2_1 a2_2 a2_3 a2_4 a2_5)) := hS_
                 refine norm_ (a' := ?_) ?_ ?_
                 rotate_left
                 ·simp only [putAll, Act.put, sa_, sb_, sc_]
                  rfl
                 refine three_ (i := 8) (j := 10) (k := 11) (Ni := some 31) (Nj := some 7) (Nk := some 8) #[T,T,T,T,T,T,T,T,T,F,F,F,F,F] #[T,T,T,T,T,T,T,T,F,F,T,F,F,F] #[T,T,T,T,T,T,T,T,F,F,F,T,F,F] rfl rfl rfl rfl rfl rfl (three_of HT_.out (by kernel_rfl)) (by decide) (by decide) (by decide) (fun K hK => ?_) (fun K hK => ?_) (fun K hK => ?_)
                 ·skip
                  refine goes_ Try.func11 (by kernel_rfl) rfl #[.agg #[.int .u64 a1_0, .bool a1_1, .int .i64 a1_2, .int .u64 a1_3, .int .i64 a1_4, .int .i64 a1_5], .agg #[.int .u64 a2_0, .bool a2_1, .int .i64 a2_2, .int .u64 a2_3, .int .i64 a2_4, .int .i64 a2_5]] (by rfl) rfl rfl (by (try simp only [List.map_toArray, List.map_cons, List.map_nil]); first | done | rfl | (simp only [List.length_drop, List.length_take]; rfl)) ?_
                  with_reducible refine (agg_Merge.calls a1_0 a1_1 a1_2 a1_3 a1_4 a1_5 a2_0 a2_1 a2_2 a2_3 a2_4 a2_5 t180 t181 t182 t183 t184 t185 _ A38.out).mono ?_
                  rintro e w55 ⟨rfl, hb⟩
                  refine ⟨_, rfl, ?_⟩
                  have n0_ := AK_ (blk_below (by apply_rules [K1.out, bN_, bD_, bA_]) hb)
                  have n1_ := AK_ (blk_below (by apply_rules [K2.out, bN_, bD_, bA_]) hb)
                  have n2_ := AK_ (blk_below (by apply_rules [K3.out, bN_, bD_, bA_]) hb)
                  have n3_ := AK_ (below_step (by repeat (first | (with_reducible first | exact HB.out | apply ba_ | apply bn_ | apply bd_ | refine bs_ E1 ?_ | refine bs_ E2 ?_ | refine bs_ E3 ?_) | exact HB.out)) hb)
                  clear K1 K2 K3 HB
                  have K1 := n0_
                  have K2 := n1_
                  have K3 := n2_
                  have HB := n3_
                  clear n0_ n1_ n2_ n3_
                  (try clear hb)
                  (try clear hb2)
                  (try clear hk)
                  (try clear hi)
                  refine hK.out _ _ (hI_ K1 (hI_ K2 (hL_ K3))) (fun hHeld => ?_)
                  clear hK K
                  refine norm_ (a' := ?_) ?_ ?_
                  rotate_left
                  ·show Act.put _ (some 31) _ = _
                   simp only [Act.put, sa_, sb_, sc_, i64_w, i32_w]
                   rfl
                  exact norm_ (by simp only [putAll, Act.put, sa_, sb_, sc_] <;> rfl) (hJ2_4_8 () _ ⟨hHeld, (by apply_rules [K1.out, bN_, bD_, bA_]), (by apply_rules [K2.out, bN_, bD_, bA_]), (by apply_rules [K3.out, bN_, bD_, bA_]), (by repeat (first | (with_reducible first | exact HB.out | apply ba_ | apply bn_ | apply bd_ | refine bs_ E1 ?_ | refine bs_ E2 ?_ | refine bs_ E3 ?_) | exact HB.out))⟩)
                 ·skip
                  refine box_step ?hg (N := 7) ?hd (cs := #[.int .u64 0, .bool false, .int .i64 0, .int .u64 0, .int .i64 0, .int .i64 0]) (t := 26) ?hr ?_; (case hd => rfl); (case hg => rfl); (case hr => first | (go_simp; done) | (go_simp; rfl))
                  intro g4 hg w55 hbox hb
                  have n0_ := AK_ (blk_below (by apply_rules [K1.out, bN_, bD_, bA_]) hb)
                  have n1_ := AK_ (blk_below (by apply_rules [K2.out, bN_, bD_, bA_]) hb)
                  have n2_ := AK_ (blk_below (by apply_rules [K3.out, bN_, bD_, bA_]) hb)
                  have n3_ := AK_ (below_step (by repeat (first | (with_reducible first | exact HB.out | apply ba_ | apply bn_ | apply bd_ | refine bs_ E1 ?_ | refine bs_ E2 ?_ | refine bs_ E3 ?_) | exact HB.out)) hb)
                  have n4_ := AK_ (hbox)
                  have n5_ := AK_ ((by rw [hg]; exact (below_size (by repeat (first | (with_reducible first | exact HB.out | apply ba_ | apply bn_ | apply bd_ | refine bs_ E1 ?_ | refine bs_ E2 ?_ | refine bs_ E3 ?_) | exact HB.out))) : w.heap.size ≤ g4))
                  have n6_ := n5_
                  have n7_ := AK_ ((by rw [hg]; exact Nat.ne_of_lt (blk_lt (g := g1) (o := cz_ a0_0 a0_1 a0_2 a0_3 a0_4 a0_5) (by apply_rules [K1.out, bN_, bD_, bA_])) : g1 ≠ g4))
                  have n8_ := sy_ n7_
                  have n9_ := AK_ ((by rw [hg]; exact Nat.ne_of_lt (blk_lt (g := g2) (o := cz_ a1_0 a1_1 a1_2 a1_3 a1_4 a1_5) (by apply_rules [K2.out, bN_, bD_, bA_])) : g2 ≠ g4))
                  have n10_ := sy_ n9_
                  have n11_ := AK_ ((by rw [hg]; exact Nat.ne_of_lt (blk_lt (g := g3) (o := cz_ a2_0 a2_1 a2_2 a2_3 a2_4 a2_5) (by apply_rules [K3.out, bN_, bD_, bA_])) : g3 ≠ g4))
                  have n12_ := sy_ n11_
                  clear K1 K2 K3 HB
                  have K1 := n0_
                  have K2 := n1_
                  have K3 := n2_
                  have HB := n3_
                  have K4 := n4_
                  have G4 := n5_
                  have E4 := n6_
                  have N1_4 := n7_
                  have N4_1 := n8_
                  have N2_4 := n9_
                  have N4_2 := n10_
                  have N3_4 := n11_
                  have N4_3 := n12_
                  clear n0_ n1_ n2_ n3_ n4_ n5_ n6_ n7_ n8_ n9_ n10_ n11_ n12_
                  clear hb hbox hg
                  refine hK.out _ _ (hI_ K1 (hI_ K2 (hL_ K3))) (fun hHeld => ?_)
                  clear hK K
                  refine norm_ (a' := ?_) ?_ ?_
                  rotate_left
                  ·show Act.put _ (some 7) _ = _
                   simp only [Act.put, sa_, sb_, sc_, i64_w, i32_w]
                   rfl
                  exact norm_ (by simp only [putAll, Act.put, sa_, sb_, sc_] <;> rfl) (hJ2_4_10 (g4) _ ⟨hHeld, (by apply_rules [K1.out, bN_, bD_, bA_]), (by apply_rules [K2.out, bN_, bD_, bA_]), (by apply_rules [K3.out, bN_, bD_, bA_]), (by apply_rules [K4.out, bN_, bD_, bA_]), G4.out, E4.out, N1_4.out, N4_1.out, N2_4.out, N4_2.out, N3_4.out, N4_3.out, (by repeat (first | (with_reducible first | exact HB.out | apply ba_ | apply bn_ | apply bd_ | refine bs_ E1 ?_ | refine bs_ E2 ?_ | refine bs_ E3 ?_ | refine bs_ E4 ?_) | exact HB.out))⟩)
                 ·skip
                  refine box_step ?hg (N := 8) ?hd (cs := #[.int .u64 0, .bool false, .int .i64 0, .int .u64 0, .int .i64 0, .int .i64 0]) (t := 26) ?hr ?_; (case hd => rfl); (case hg => rfl); (case hr => first | (go_simp; done) | (go_simp; rfl))
                  intro g5 hg w55 hbox hb
                  have n0_ := AK_ (blk_below (by apply_rules [K1.out, bN_, bD_, bA_]) hb)
                  have n1_ := AK_ (blk_below (by apply_rules [K2.out, bN_, bD_, bA_]) hb)
                  have n2_ := AK_ (blk_below (by apply_rules [K3.out, bN_, bD_, bA_]) hb)
                  have n3_ := AK_ (below_step (by repeat (first | (with_reducible first | exact HB.out | apply ba_ | apply bn_ | apply bd_ | refine bs_ E1 ?_ | refine bs_ E2 ?_ | refine bs_ E3 ?_) | exact HB.out)) hb)
                  have n4_ := AK_ (hbox)
                  have n5_ := AK_ ((by rw [hg]; exact (below_size (by repeat (first | (with_reducible first | exact HB.out | apply ba_ | apply bn_ | apply bd_ | refine bs_ E1 ?_ | refine bs_ E2 ?_ | refine bs_ E3 ?_) | exact HB.out))) : w.heap.size ≤ g5))
                  have n6_ := n5_
                  have n7_ := AK_ ((by rw [hg]; exact Nat.ne_of_lt (blk_lt (g := g1) (o := cz_ a0_0 a0_1 a0_2 a0_3 a0_4 a0_5) (by apply_rules [K1.out, bN_, bD_, bA_])) : g1 ≠ g5))
                  have n8_ := sy_ n7_
                  have n9_ := AK_ ((by rw [hg]; exact Nat.ne_of_lt (blk_lt (g := g2) (o := cz_ a1_0 a1_1 a1_2 a1_3 a1_4 a1_5) (by apply_rules [K2.out, bN_, bD_, bA_])) : g2 ≠ g5))
                  have n10_ := sy_ n9_
                  have n11_ := AK_ ((by rw [hg]; exact Nat.ne_of_lt (blk_lt (g := g3) (o := cz_ a2_0 a2_1 a2_2 a2_3 a2_4 a2_5) (by apply_rules [K3.out, bN_, bD_, bA_])) : g3 ≠ g5))
                  have n12_ := sy_ n11_
                  clear K1 K2 K3 HB
                  have K1 := n0_
                  have K2 := n1_
                  have K3 := n2_
                  have HB := n3_
                  have K5 := n4_
                  have G5 := n5_
                  have E5 := n6_
                  have N1_5 := n7_
                  have N5_1 := n8_
                  have N2_5 := n9_
                  have N5_2 := n10_
                  have N3_5 := n11_
                  have N5_3 := n12_
                  clear n0_ n1_ n2_ n3_ n4_ n5_ n6_ n7_ n8_ n9_ n10_ n11_ n12_
                  clear hb hbox hg
                  refine hK.out _ _ (hI_ K1 (hI_ K2 (hL_ K3))) (fun hHeld => ?_)
                  clear hK K
                  refine norm_ (a' := ?_) ?_ ?_
                  rotate_left
                  ·show Act.put _ (some 8) _ = _
                   simp only [Act.put, sa_, sb_, sc_, i64_w, i32_w]
                   rfl
                  exact norm_ (by simp only [putAll, Act.put, sa_, sb_, sc_] <;> rfl) (hJ2_4_11 (g5) _ ⟨hHeld, (by apply_rules [K1.out, bN_, bD_, bA_]), (by apply_rules [K2.out, bN_, bD_, bA_]), (by apply_rules [K3.out, bN_, bD_, bA_]), (by apply_rules [K5.out, bN_, bD_, bA_]), G5.out, E5.out, N1_5.out, N5_1.out, N2_5.out, N5_2.out, N3_5.out, N5_3.out, (by repeat (first | (with_reducible first | exact HB.out | apply ba_ | apply bn_ | apply bd_ | refine bs_ E1 ?_ | refine bs_ E2 ?_ | refine bs_ E3 ?_ | refine bs_ E5 ?_) | exact HB.out))⟩)
               ·skip
                rintro ⟨g4, g5⟩ w55 ⟨hS_, h0_, h1_, h2_, h3_, h4_, h5_, h6_, h7_, h8_, h9_, h10_, h11_, h12_, h13_, h14_, h15_, h16_, h17_, h18_, h19_, h20_, h21_, h22_, h23_⟩
                have n0_ : Aside0 (w55.heap[g1]? = some (cz_ a0_0 a0_1 a0_2 a0_3 a0_4 a0_5)) := ⟨h0_⟩
                have n1_ : Aside0 (w55.heap[g2]? = some (cz_ a1_0 a1_1 a1_2 a1_3 a1_4 a1_5)) := ⟨h1_⟩
                have n2_ : Aside0 (w55.heap[g3]? = some (cz_ a2_0 a2_1 a2_2 a2_3 a2_4 a2_5)) := ⟨h2_⟩
                have n3_ : Aside0 (w55.heap[g4]? = some (cz_ 0 false 0 0 0 0)) := ⟨h3_⟩
                have n4_ : Aside0 (w55.heap[g5]? = some (cz_ 0 false 0 0 0 0)) := ⟨h4_⟩
                have n5_ : Aside0 (w.heap.size ≤ g4) := ⟨h5_⟩
                have n6_ : Aside0 (w.heap.size ≤ g4) := ⟨h6_⟩
                have n7_ : Aside0 (g1 ≠ g4) := ⟨h7_⟩
                have n8_ : Aside0 (g4 ≠ g1) := ⟨h8_⟩
                have n9_ : Aside0 (g2 ≠ g4) := ⟨h9_⟩
                have n10_ : Aside0 (g4 ≠ g2) := ⟨h10_⟩
                have n11_ : Aside0 (g3 ≠ g4) := ⟨h11_⟩
                have n12_ : Aside0 (g4 ≠ g3) := ⟨h12_⟩
                have n13_ : Aside0 (g5 ≠ g4) := ⟨h13_⟩
                have n14_ : Aside0 (g4 ≠ g5) := ⟨h14_⟩
                have n15_ : Aside0 (w.heap.size ≤ g5) := ⟨h15_⟩
                have n16_ : Aside0 (w.heap.size ≤ g5) := ⟨h16_⟩
                have n17_ : Aside0 (g1 ≠ g5) := ⟨h17_⟩
                have n18_ : Aside0 (g5 ≠ g1) := ⟨h18_⟩
                have n19_ : Aside0 (g2 ≠ g5) := ⟨h19_⟩
                have n20_ : Aside0 (g5 ≠ g2) := ⟨h20_⟩
                have n21_ : Aside0 (g3 ≠ g5) := ⟨h21_⟩
                have n22_ : Aside0 (g5 ≠ g3) := ⟨h22_⟩
                have n23_ : Aside0 (Below w.heap.size w w55) := ⟨h23_⟩
                clear K1 K2 K3 HB h0_ h1_ h2_ h3_ h4_ h5_ h6_ h7_ h8_ h9_ h10_ h11_ h12_ h13_ h14_ h15_ h16_ h17_ h18_ h19_ h20_ h21_ h22_ h23_
                have K1 := n0_
                have K2 := n1_
                have K3 := n2_
                have K4 := n3_
                have K5 := n4_
                have G4 := n5_
                have E4 := n6_
                have N1_4 := n7_
                have N4_1 := n8_
                have N2_4 := n9_
                have N4_2 := n10_
                have N3_4 := n11_
                have N4_3 := n12_
                have N5_4 := n13_
                have N4_5 := n14_
                have G5 := n15_
                have E5 := n16_
                have N1_5 := n17_
                have N5_1 := n18_
                have N2_5 := n19_
                have N5_2 := n20_
                have N3_5 := n21_
                have N5_3 := n22_
                have HB := n23_
                clear n0_ n1_ n2_ n3_ n4_ n5_ n6_ n7_ n8_ n9_ n10_ n11_ n12_ n13_ n14_ n15_ n16_ n17_ n18_ n19_ n20_ n21_ n22_ n23_
                have hHeld : hk_ w55 g1 a0_0 a0_1 a0_2 a0_3 a0_4 a0_5 (hk_ w55 g2 a1_0 a1_1 a1_2 a1_3 a1_4 a1_5 (hc_ w55 g3 a2_0 a2_1 a2_2 a2_3 a2_4 a2_5)) := hS_
                refine norm_ (a' := ?_) ?_ ?_
                rotate_left
                ·simp only [putAll, Act.put, sa_, sb_, sc_]
                 rfl
                refine one_ (i := 4) (N := some 27) #[T,T,T,T,T,T,T,T,F,F,T,T,F,F] rfl rfl (one_of HT_.out (by kernel_rfl)) (by decide) (fun K hK => ?_)
                refine goes_ Try.func11 (by kernel_rfl) rfl #[.agg #[.int .u64 t168, .bool t169, .int .i64 t170, .int .u64 t171, .int .i64 t172, .int .i64 t173], .agg #[.int .u64 a2_0, .bool a2_1, .int .i64 a2_2, .int .u64 a2_3, .int .i64 a2_4, .int .i64 a2_5]] (by rfl) rfl rfl (by (try simp only [List.map_toArray, List.map_cons, List.map_nil]); first | done | rfl | (simp only [List.length_drop, List.length_take]; rfl)) ?_
                with_reducible refine (agg_Merge.calls t168 t169 t170 t171 t172 t173 a2_0 a2_1 a2_2 a2_3 a2_4 a2_5 t174 t175 t176 t177 t178 t179 _ A37.out).mono ?_
                rintro e w56 ⟨rfl, hb⟩
                refine ⟨_, rfl, ?_⟩
                have n0_ := AK_ (blk_below (by apply_rules [K1.out, bN_, bD_, bA_]) hb)
                have n1_ := AK_ (blk_below (by apply_rules [K2.out, bN_, bD_, bA_]) hb)
                have n2_ := AK_ (blk_below (by apply_rules [K3.out, bN_, bD_, bA_]) hb)
                have n3_ := AK_ (blk_below (by apply_rules [K4.out, bN_, bD_, bA_]) hb)
                have n4_ := AK_ (blk_below (by apply_rules [K5.out, bN_, bD_, bA_]) hb)
                have n5_ := AK_ (below_step (by repeat (first | (with_reducible first | exact HB.out | apply ba_ | apply bn_ | apply bd_ | refine bs_ E1 ?_ | refine bs_ E2 ?_ | refine bs_ E3 ?_ | refine bs_ E4 ?_ | refine bs_ E5 ?_) | exact HB.out)) hb)
                clear K1 K2 K3 K4 K5 HB
                have K1 := n0_
                have K2 := n1_
                have K3 := n2_
                have K4 := n3_
                have K5 := n4_
                have HB := n5_
                clear n0_ n1_ n2_ n3_ n4_ n5_
                (try clear hb)
                (try clear hb2)
                (try clear hk)
                (try clear hi)
                refine hK.out _ _ (hI_ K1 (hI_ K2 (hL_ K3))) (fun hHeld => ?_)
                clear hK K
                refine norm_ (a' := ?_) ?_ ?_
                rotate_left
                ·show Act.put _ (some 27) _ = _
                 simp only [Act.put, sa_, sb_, sc_, i64_w, i32_w]
                 rfl
                exact norm_ (by simp only [putAll, Act.put, sa_, sb_, sc_] <;> rfl) (hJ2_4_10_11 (g4, g5) _ ⟨hHeld, (by apply_rules [K1.out, bN_, bD_, bA_]), (by apply_rules [K2.out, bN_, bD_, bA_]), (by apply_rules [K3.out, bN_, bD_, bA_]), (by apply_rules [K4.out, bN_, bD_, bA_]), (by apply_rules [K5.out, bN_, bD_, bA_]), G4.out, E4.out, N1_4.out, N4_1.out, N2_4.out, N4_2.out, N3_4.out, N4_3.out, N5_4.out, N4_5.out, G5.out, E5.out, N1_5.out, N5_1.out, N2_5.out, N5_2.out, N3_5.out, N5_3.out, (by repeat (first | (with_reducible first | exact HB.out | apply ba_ | apply bn_ | apply bd_ | refine bs_ E1 ?_ | refine bs_ E2 ?_ | refine bs_ E3 ?_ | refine bs_ E4 ?_ | refine bs_ E5 ?_) | exact HB.out))⟩)
              ·skip
               rintro g5 w55 ⟨hS_, h0_, h1_, h2_, h3_, h4_, h5_, h6_, h7_, h8_, h9_, h10_, h11_, h12_⟩
               have n0_ : Aside0 (w55.heap[g1]? = some (cz_ a0_0 a0_1 a0_2 a0_3 a0_4 a0_5)) := ⟨h0_⟩
               have n1_ : Aside0 (w55.heap[g2]? = some (cz_ a1_0 a1_1 a1_2 a1_3 a1_4 a1_5)) := ⟨h1_⟩
               have n2_ : Aside0 (w55.heap[g3]? = some (cz_ a2_0 a2_1 a2_2 a2_3 a2_4 a2_5)) := ⟨h2_⟩
               have n3_ : Aside0 (w55.heap[g5]? = some (cz_ 0 false 0 0 0 0)) := ⟨h3_⟩
               have n4_ : Aside0 (w.heap.size ≤ g5) := ⟨h4_⟩
               have n5_ : Aside0 (w.heap.size ≤ g5) := ⟨h5_⟩
               have n6_ : Aside0 (g1 ≠ g5) := ⟨h6_⟩
               have n7_ : Aside0 (g5 ≠ g1) := ⟨h7_⟩
               have n8_ : Aside0 (g2 ≠ g5) := ⟨h8_⟩
               have n9_ : Aside0 (g5 ≠ g2) := ⟨h9_⟩
               have n10_ : Aside0 (g3 ≠ g5) := ⟨h10_⟩
               have n11_ : Aside0 (g5 ≠ g3) := ⟨h11_⟩
               have n12_ : Aside0 (Below w.heap.size w w55) := ⟨h12_⟩
               clear K1 K2 K3 HB h0_ h1_ h2_ h3_ h4_ h5_ h6_ h7_ h8_ h9_ h10_ h11_ h12_
               have K1 := n0_
               have K2 := n1_
               have K3 := n2_
               have K5 := n3_
               have G5 := n4_
               have E5 := n5_
               have N1_5 := n6_
               have N5_1 := n7_
               have N2_5 := n8_
               have N5_2 := n9_
               have N3_5 := n10_
               have N5_3 := n11_
               have HB := n12_
               clear n0_ n1_ n2_ n3_ n4_ n5_ n6_ n7_ n8_ n9_ n10_ n11_ n12_
               have hHeld : hk_ w55 g1 a0_0 a0_1 a0_2 a0_3 a0_4 a0_5 (hk_ w55 g2 a1_0 a1_1 a1_2 a1_3 a1_4 a1_5 (hc_ w55 g3 a2_0 a2_1 a2_2 a2_3 a2_4 a2_5)) := hS_
               refine norm_ (a' := ?_) ?_ ?_
               rotate_left
               ·simp only [putAll, Act.put, sa_, sb_, sc_]
                rfl
               refine two_ (i := 8) (j := 10) (Ni := some 31) (Nj := some 7) #[T,T,T,T,T,T,T,T,T,F,F,T,F,F] #[T,T,T,T,T,T,T,T,F,F,T,T,F,F] rfl rfl rfl rfl (two_of HT_.out (by kernel_rfl)) (by decide) (by decide) (fun K hK => ?_) (fun K hK => ?_)
               ·skip
                refine goes_ Try.func11 (by kernel_rfl) rfl #[.agg #[.int .u64 a1_0, .bool a1_1, .int .i64 a1_2, .int .u64 a1_3, .int .i64 a1_4, .int .i64 a1_5], .agg #[.int .u64 a2_0, .bool a2_1, .int .i64 a2_2, .int .u64 a2_3, .int .i64 a2_4, .int .i64 a2_5]] (by rfl) rfl rfl (by (try simp only [List.map_toArray, List.map_cons, List.map_nil]); first | done | rfl | (simp only [List.length_drop, List.length_take]; rfl)) ?_
                with_reducible refine (agg_Merge.calls a1_0 a1_1 a1_2 a1_3 a1_4 a1_5 a2_0 a2_1 a2_2 a2_3 a2_4 a2_5 t180 t181 t182 t183 t184 t185 _ A38.out).mono ?_
                rintro e w56 ⟨rfl, hb⟩
                refine ⟨_, rfl, ?_⟩
                have n0_ := AK_ (blk_below (by apply_rules [K1.out, bN_, bD_, bA_]) hb)
                have n1_ := AK_ (blk_below (by apply_rules [K2.out, bN_, bD_, bA_]) hb)
                have n2_ := AK_ (blk_below (by apply_rules [K3.out, bN_, bD_, bA_]) hb)
                have n3_ := AK_ (blk_below (by apply_rules [K5.out, bN_, bD_, bA_]) hb)
                have n4_ := AK_ (below_step (by repeat (first | (with_reducible first | exact HB.out | apply ba_ | apply bn_ | apply bd_ | refine bs_ E1 ?_ | refine bs_ E2 ?_ | refine bs_ E3 ?_ | refine bs_ E5 ?_) | exact HB.out)) hb)
                clear K1 K2 K3 K5 HB
                have K1 := n0_
                have K2 := n1_
                have K3 := n2_
                have K5 := n3_
                have HB := n4_
                clear n0_ n1_ n2_ n3_ n4_
                (try clear hb)
                (try clear hb2)
                (try clear hk)
                (try clear hi)
                refine hK.out _ _ (hI_ K1 (hI_ K2 (hL_ K3))) (fun hHeld => ?_)
                clear hK K
                refine norm_ (a' := ?_) ?_ ?_
                rotate_left
                ·show Act.put _ (some 31) _ = _
                 simp only [Act.put, sa_, sb_, sc_, i64_w, i32_w]
                 rfl
                exact norm_ (by simp only [putAll, Act.put, sa_, sb_, sc_] <;> rfl) (hJ2_4_8_11 (g5) _ ⟨hHeld, (by apply_rules [K1.out, bN_, bD_, bA_]), (by apply_rules [K2.out, bN_, bD_, bA_]), (by apply_rules [K3.out, bN_, bD_, bA_]), (by apply_rules [K5.out, bN_, bD_, bA_]), G5.out, E5.out, N1_5.out, N5_1.out, N2_5.out, N5_2.out, N3_5.out, N5_3.out, (by repeat (first | (with_reducible first | exact HB.out | apply ba_ | apply bn_ | apply bd_ | refine bs_ E1 ?_ | refine bs_ E2 ?_ | refine bs_ E3 ?_ | refine bs_ E5 ?_) | exact HB.out))⟩)
               ·skip
                refine box_step ?hg (N := 7) ?hd (cs := #[.int .u64 0, .bool false, .int .i64 0, .int .u64 0, .int .i64 0, .int .i64 0]) (t := 26) ?hr ?_; (case hd => rfl); (case hg => rfl); (case hr => first | (go_simp; done) | (go_simp; rfl))
                intro g4 hg w56 hbox hb
                have n0_ := AK_ (blk_below (by apply_rules [K1.out, bN_, bD_, bA_]) hb)
                have n1_ := AK_ (blk_below (by apply_rules [K2.out, bN_, bD_, bA_]) hb)
                have n2_ := AK_ (blk_below (by apply_rules [K3.out, bN_, bD_, bA_]) hb)
                have n3_ := AK_ (blk_below (by apply_rules [K5.out, bN_, bD_, bA_]) hb)
                have n4_ := AK_ (below_step (by repeat (first | (with_reducible first | exact HB.out | apply ba_ | apply bn_ | apply bd_ | refine bs_ E1 ?_ | refine bs_ E2 ?_ | refine bs_ E3 ?_ | refine bs_ E5 ?_) | exact HB.out)) hb)
                have n5_ := AK_ (hbox)
                have n6_ := AK_ ((by rw [hg]; exact (below_size (by repeat (first | (with_reducible first | exact HB.out | apply ba_ | apply bn_ | apply bd_ | refine bs_ E1 ?_ | refine bs_ E2 ?_ | refine bs_ E3 ?_ | refine bs_ E5 ?_) | exact HB.out))) : w.heap.size ≤ g4))
                have n7_ := n6_
                have n8_ := AK_ ((by rw [hg]; exact Nat.ne_of_lt (blk_lt (g := g1) (o := cz_ a0_0 a0_1 a0_2 a0_3 a0_4 a0_5) (by apply_rules [K1.out, bN_, bD_, bA_])) : g1 ≠ g4))
                have n9_ := sy_ n8_
                have n10_ := AK_ ((by rw [hg]; exact Nat.ne_of_lt (blk_lt (g := g2) (o := cz_ a1_0 a1_1 a1_2 a1_3 a1_4 a1_5) (by apply_rules [K2.out, bN_, bD_, bA_])) : g2 ≠ g4))
                have n11_ := sy_ n10_
                have n12_ := AK_ ((by rw [hg]; exact Nat.ne_of_lt (blk_lt (g := g3) (o := cz_ a2_0 a2_1 a2_2 a2_3 a2_4 a2_5) (by apply_rules [K3.out, bN_, bD_, bA_])) : g3 ≠ g4))
                have n13_ := sy_ n12_
                have n14_ := AK_ ((by rw [hg]; exact Nat.ne_of_lt (blk_lt (g := g5) (o := cz_ 0 false 0 0 0 0) (by apply_rules [K5.out, bN_, bD_, bA_])) : g5 ≠ g4))
                have n15_ := sy_ n14_
                clear K1 K2 K3 K5 HB
                have K1 := n0_
                have K2 := n1_
                have K3 := n2_
                have K5 := n3_
                have HB := n4_
                have K4 := n5_
                have G4 := n6_
                have E4 := n7_
                have N1_4 := n8_
                have N4_1 := n9_
                have N2_4 := n10_
                have N4_2 := n11_
                have N3_4 := n12_
                have N4_3 := n13_
                have N5_4 := n14_
                have N4_5 := n15_
                clear n0_ n1_ n2_ n3_ n4_ n5_ n6_ n7_ n8_ n9_ n10_ n11_ n12_ n13_ n14_ n15_
                clear hb hbox hg
                refine hK.out _ _ (hI_ K1 (hI_ K2 (hL_ K3))) (fun hHeld => ?_)
                clear hK K
                refine norm_ (a' := ?_) ?_ ?_
                rotate_left
                ·show Act.put _ (some 7) _ = _
                 simp only [Act.put, sa_, sb_, sc_, i64_w, i32_w]
                 rfl
                exact norm_ (by simp only [putAll, Act.put, sa_, sb_, sc_] <;> rfl) (hJ2_4_10_11 (g4, g5) _ ⟨hHeld, (by apply_rules [K1.out, bN_, bD_, bA_]), (by apply_rules [K2.out, bN_, bD_, bA_]), (by apply_rules [K3.out, bN_, bD_, bA_]), (by apply_rules [K4.out, bN_, bD_, bA_]), (by apply_rules [K5.out, bN_, bD_, bA_]), G4.out, E4.out, N1_4.out, N4_1.out, N2_4.out, N4_2.out, N3_4.out, N4_3.out, N5_4.out, N4_5.out, G5.out, E5.out, N1_5.out, N5_1.out, N2_5.out, N5_2.out, N3_5.out, N5_3.out, (by repeat (first | (with_reducible first | exact HB.out | apply ba_ | apply bn_ | apply bd_ | refine bs_ E1 ?_ | refine bs_ E2 ?_ | refine bs_ E3 ?_ | refine bs_ E5 ?_ | refine bs_ E4 ?_) | exact HB.out))⟩)
             ·skip
              rintro g4 w55 ⟨hS_, h0_, h1_, h2_, h3_, h4_, h5_, h6_, h7_, h8_, h9_, h10_, h11_, h12_⟩
              have n0_ : Aside0 (w55.heap[g1]? = some (cz_ a0_0 a0_1 a0_2 a0_3 a0_4 a0_5)) := ⟨h0_⟩
              have n1_ : Aside0 (w55.heap[g2]? = some (cz_ a1_0 a1_1 a1_2 a1_3 a1_4 a1_5)) := ⟨h1_⟩
              have n2_ : Aside0 (w55.heap[g3]? = some (cz_ a2_0 a2_1 a2_2 a2_3 a2_4 a2_5)) := ⟨h2_⟩
              have n3_ : Aside0 (w55.heap[g4]? = some (cz_ 0 false 0 0 0 0)) := ⟨h3_⟩
              have n4_ : Aside0 (w.heap.size ≤ g4) := ⟨h4_⟩
              have n5_ : Aside0 (w.heap.size ≤ g4) := ⟨h5_⟩
              have n6_ : Aside0 (g1 ≠ g4) := ⟨h6_⟩
              have n7_ : Aside0 (g4 ≠ g1) := ⟨h7_⟩
              have n8_ : Aside0 (g2 ≠ g4) := ⟨h8_⟩
              have n9_ : Aside0 (g4 ≠ g2) := ⟨h9_⟩
              have n10_ : Aside0 (g3 ≠ g4) := ⟨h10_⟩
              have n11_ : Aside0 (g4 ≠ g3) := ⟨h11_⟩
              have n12_ : Aside0 (Below w.heap.size w w55) := ⟨h12_⟩
              clear K1 K2 K3 HB h0_ h1_ h2_ h3_ h4_ h5_ h6_ h7_ h8_ h9_ h10_ h11_ h12_
              have K1 := n0_
              have K2 := n1_
              have K3 := n2_
              have K4 := n3_
              have G4 := n4_
              have E4 := n5_
              have N1_4 := n6_
              have N4_1 := n7_
              have N2_4 := n8_
              have N4_2 := n9_
              have N3_4 := n10_
              have N4_3 := n11_
              have HB := n12_
              clear n0_ n1_ n2_ n3_ n4_ n5_ n6_ n7_ n8_ n9_ n10_ n11_ n12_
              have hHeld : hk_ w55 g1 a0_0 a0_1 a0_2 a0_3 a0_4 a0_5 (hk_ w55 g2 a1_0 a1_1 a1_2 a1_3 a1_4 a1_5 (hc_ w55 g3 a2_0 a2_1 a2_2 a2_3 a2_4 a2_5)) := hS_
              refine norm_ (a' := ?_) ?_ ?_
              rotate_left
              ·simp only [putAll, Act.put, sa_, sb_, sc_]
               rfl
              refine two_ (i := 8) (j := 11) (Ni := some 31) (Nj := some 8) #[T,T,T,T,T,T,T,T,T,F,T,F,F,F] #[T,T,T,T,T,T,T,T,F,F,T,T,F,F] rfl rfl rfl rfl (two_of HT_.out (by kernel_rfl)) (by decide) (by decide) (fun K hK => ?_) (fun K hK => ?_)
              ·skip
               refine goes_ Try.func11 (by kernel_rfl) rfl #[.agg #[.int .u64 a1_0, .bool a1_1, .int .i64 a1_2, .int .u64 a1_3, .int .i64 a1_4, .int .i64 a1_5], .agg #[.int .u64 a2_0, .bool a2_1, .int .i64 a2_2, .int .u64 a2_3, .int .i64 a2_4, .int .i64 a2_5]] (by rfl) rfl rfl (by (try simp only [List.map_toArray, List.map_cons, List.map_nil]); first | done | rfl | (simp only [List.length_drop, List.length_take]; rfl)) ?_
               with_reducible refine (agg_Merge.calls a1_0 a1_1 a1_2 a1_3 a1_4 a1_5 a2_0 a2_1 a2_2 a2_3 a2_4 a2_5 t180 t181 t182 t183 t184 t185 _ A38.out).mono ?_
               rintro e w56 ⟨rfl, hb⟩
               refine ⟨_, rfl, ?_⟩
               have n0_ := AK_ (blk_below (by apply_rules [K1.out, bN_, bD_, bA_]) hb)
               have n1_ := AK_ (blk_below (by apply_rules [K2.out, bN_, bD_, bA_]) hb)
               have n2_ := AK_ (blk_below (by apply_rules [K3.out, bN_, bD_, bA_]) hb)
               have n3_ := AK_ (blk_below (by apply_rules [K4.out, bN_, bD_, bA_]) hb)
               have n4_ := AK_ (below_step (by repeat (first | (with_reducible first | exact HB.out | apply ba_ | apply bn_ | apply bd_ | refine bs_ E1 ?_ | refine bs_ E2 ?_ | refine bs_ E3 ?_ | refine bs_ E4 ?_) | exact HB.out)) hb)
               clear K1 K2 K3 K4 HB
               have K1 := n0_
               have K2 := n1_
               have K3 := n2_
               have K4 := n3_
               have HB := n4_
               clear n0_ n1_ n2_ n3_ n4_
               (try clear hb)
               (try clear hb2)
               (try clear hk)
               (try clear hi)
               refine hK.out _ _ (hI_ K1 (hI_ K2 (hL_ K3))) (fun hHeld => ?_)
               clear hK K
               refine norm_ (a' := ?_) ?_ ?_
               rotate_left
               ·show Act.put _ (some 31) _ = _
                simp only [Act.put, sa_, sb_, sc_, i64_w, i32_w]
                rfl
               exact norm_ (by simp only [putAll, Act.put, sa_, sb_, sc_] <;> rfl) (hJ2_4_8_10 (g4) _ ⟨hHeld, (by apply_rules [K1.out, bN_, bD_, bA_]), (by apply_rules [K2.out, bN_, bD_, bA_]), (by apply_rules [K3.out, bN_, bD_, bA_]), (by apply_rules [K4.out, bN_, bD_, bA_]), G4.out, E4.out, N1_4.out, N4_1.out, N2_4.out, N4_2.out, N3_4.out, N4_3.out, (by repeat (first | (with_reducible first | exact HB.out | apply ba_ | apply bn_ | apply bd_ | refine bs_ E1 ?_ | refine bs_ E2 ?_ | refine bs_ E3 ?_ | refine bs_ E4 ?_) | exact HB.out))⟩)
              ·skip
               refine box_step ?hg (N := 8) ?hd (cs := #[.int .u64 0, .bool false, .int .i64 0, .int .u64 0, .int .i64 0, .int .i64 0]) (t := 26) ?hr ?_; (case hd => rfl); (case hg => rfl); (case hr => first | (go_simp; done) | (go_simp; rfl))
               intro g5 hg w56 hbox hb
               have n0_ := AK_ (blk_below (by apply_rules [K1.out, bN_, bD_, bA_]) hb)
               have n1_ := AK_ (blk_below (by apply_rules [K2.out, bN_, bD_, bA_]) hb)
               have n2_ := AK_ (blk_below (by apply_rules [K3.out, bN_, bD_, bA_]) hb)
               have n3_ := AK_ (blk_below (by apply_rules [K4.out, bN_, bD_, bA_]) hb)
               have n4_ := AK_ (below_step (by repeat (first | (with_reducible first | exact HB.out | apply ba_ | apply bn_ | apply bd_ | refine bs_ E1 ?_ | refine bs_ E2 ?_ | refine bs_ E3 ?_ | refine bs_ E4 ?_) | exact HB.out)) hb)
               have n5_ := AK_ (hbox)
               have n6_ := AK_ ((by rw [hg]; exact (below_size (by repeat (first | (with_reducible first | exact HB.out | apply ba_ | apply bn_ | apply bd_ | refine bs_ E1 ?_ | refine bs_ E2 ?_ | refine bs_ E3 ?_ | refine bs_ E4 ?_) | exact HB.out))) : w.heap.size ≤ g5))
               have n7_ := n6_
               have n8_ := AK_ ((by rw [hg]; exact Nat.ne_of_lt (blk_lt (g := g1) (o := cz_ a0_0 a0_1 a0_2 a0_3 a0_4 a0_5) (by apply_rules [K1.out, bN_, bD_, bA_])) : g1 ≠ g5))
               have n9_ := sy_ n8_
               have n10_ := AK_ ((by rw [hg]; exact Nat.ne_of_lt (blk_lt (g := g2) (o := cz_ a1_0 a1_1 a1_2 a1_3 a1_4 a1_5) (by apply_rules [K2.out, bN_, bD_, bA_])) : g2 ≠ g5))
               have n11_ := sy_ n10_
               have n12_ := AK_ ((by rw [hg]; exact Nat.ne_of_lt (blk_lt (g := g3) (o := cz_ a2_0 a2_1 a2_2 a2_3 a2_4 a2_5) (by apply_rules [K3.out, bN_, bD_, bA_])) : g3 ≠ g5))
               have n13_ := sy_ n12_
               have n14_ := AK_ ((by rw [hg]; exact Nat.ne_of_lt (blk_lt (g := g4) (o := cz_ 0 false 0 0 0 0) (by apply_rules [K4.out, bN_, bD_, bA_])) : g4 ≠ g5))
               have n15_ := sy_ n14_
               clear K1 K2 K3 K4 HB
               have K1 := n0_
               have K2 := n1_
               have K3 := n2_
               have K4 := n3_
               have HB := n4_
               have K5 := n5_
               have G5 := n6_
               have E5 := n7_
               have N1_5 := n8_
               have N5_1 := n9_
               have N2_5 := n10_
               have N5_2 := n11_
               have N3_5 := n12_
               have N5_3 := n13_
               have N4_5 := n14_
               have N5_4 := n15_
               clear n0_ n1_ n2_ n3_ n4_ n5_ n6_ n7_ n8_ n9_ n10_ n11_ n12_ n13_ n14_ n15_
               clear hb hbox hg
               refine hK.out _ _ (hI_ K1 (hI_ K2 (hL_ K3))) (fun hHeld => ?_)
               clear hK K
               refine norm_ (a' := ?_) ?_ ?_
               rotate_left
               ·show Act.put _ (some 8) _ = _
                simp only [Act.put, sa_, sb_, sc_, i64_w, i32_w]
                rfl
               exact norm_ (by simp only [putAll, Act.put, sa_, sb_, sc_] <;> rfl) (hJ2_4_10_11 (g4, g5) _ ⟨hHeld, (by apply_rules [K1.out, bN_, bD_, bA_]), (by apply_rules [K2.out, bN_, bD_, bA_]), (by apply_rules [K3.out, bN_, bD_, bA_]), (by apply_rules [K4.out, bN_, bD_, bA_]), (by apply_rules [K5.out, bN_, bD_, bA_]), G4.out, E4.out, N1_4.out, N4_1.out, N2_4.out, N4_2.out, N3_4.out, N4_3.out, N5_4.out, N4_5.out, G5.out, E5.out, N1_5.out, N5_1.out, N2_5.out, N5_2.out, N3_5.out, N5_3.out, (by repeat (first | (with_reducible first | exact HB.out | apply ba_ | apply bn_ | apply bd_ | refine bs_ E1 ?_ | refine bs_ E2 ?_ | refine bs_ E3 ?_ | refine bs_ E4 ?_ | refine bs_ E5 ?_) | exact HB.out))⟩)
            ·skip
             rintro _ w55 ⟨hS_, h0_, h1_, h2_, h3_⟩
             have n0_ : Aside0 (w55.heap[g1]? = some (cz_ a0_0 a0_1 a0_2 a0_3 a0_4 a0_5)) := ⟨h0_⟩
             have n1_ : Aside0 (w55.heap[g2]? = some (cz_ a1_0 a1_1 a1_2 a1_3 a1_4 a1_5)) := ⟨h1_⟩
             have n2_ : Aside0 (w55.heap[g3]? = some (cz_ a2_0 a2_1 a2_2 a2_3 a2_4 a2_5)) := ⟨h2_⟩
             have n3_ : Aside0 (Below w.heap.size w w55) := ⟨h3_⟩
             clear K1 K2 K3 HB h0_ h1_ h2_ h3_
             have K1 := n0_
             have K2 := n1_
             have K3 := n2_
             have HB := n3_
             clear n0_ n1_ n2_ n3_
             have hHeld : hk_ w55 g1 a0_0 a0_1 a0_2 a0_3 a0_4 a0_5 (hk_ w55 g2 a1_0 a1_1 a1_2 a1_3 a1_4 a1_5 (hc_ w55 g3 a2_0 a2_1 a2_2 a2_3 a2_4 a2_5)) := hS_
             refine norm_ (a' := ?_) ?_ ?_
             rotate_left
             ·simp only [putAll, Act.put, sa_, sb_, sc_]
              rfl
             refine three_ (i := 9) (j := 10) (k := 11) (Ni := some 32) (Nj := some 7) (Nk := some 8) #[T,T,T,T,T,T,T,T,T,T,F,F,F,F] #[T,T,T,T,T,T,T,T,T,F,T,F,F,F] #[T,T,T,T,T,T,T,T,T,F,F,T,F,F] rfl rfl rfl rfl rfl rfl (three_of HT_.out (by kernel_rfl)) (by decide) (by decide) (by decide) (fun K hK => ?_) (fun K hK => ?_) (fun K hK => ?_)
             ·skip
              refine goes_ Try.func11 (by kernel_rfl) rfl #[.agg #[.int .u64 a0_0, .bool a0_1, .int .i64 a0_2, .int .u64 a0_3, .int .i64 a0_4, .int .i64 a0_5], .agg #[.int .u64 t180, .bool t181, .int .i64 t182, .int .u64 t183, .int .i64 t184, .int .i64 t185]] (by rfl) rfl rfl (by (try simp only [List.map_toArray, List.map_cons, List.map_nil]); first | done | rfl | (simp only [List.length_drop, List.length_take]; rfl)) ?_
              with_reducible refine (agg_Merge.calls a0_0 a0_1 a0_2 a0_3 a0_4 a0_5 t180 t181 t182 t183 t184 t185 t186 t187 t188 t189 t190 t191 _ A39.out).mono ?_
              rintro e w56 ⟨rfl, hb⟩
              refine ⟨_, rfl, ?_⟩
              have n0_ := AK_ (blk_below (by apply_rules [K1.out, bN_, bD_, bA_]) hb)
              have n1_ := AK_ (blk_below (by apply_rules [K2.out, bN_, bD_, bA_]) hb)
              have n2_ := AK_ (blk_below (by apply_rules [K3.out, bN_, bD_, bA_]) hb)
              have n3_ := AK_ (below_step (by repeat (first | (with_reducible first | exact HB.out | apply ba_ | apply bn_ | apply bd_ | refine bs_ E1 ?_ | refine bs_ E2 ?_ | refine bs_ E3 ?_) | exact HB.out)) hb)
              clear K1 K2 K3 HB
              have K1 := n0_
              have K2 := n1_
              have K3 := n2_
              have HB := n3_
              clear n0_ n1_ n2_ n3_
              (try clear hb)
              (try clear hb2)
              (try clear hk)
              (try clear hi)
              refine hK.out _ _ (hI_ K1 (hI_ K2 (hL_ K3))) (fun hHeld => ?_)
              clear hK K
              refine norm_ (a' := ?_) ?_ ?_
              rotate_left
              ·show Act.put _ (some 32) _ = _
               simp only [Act.put, sa_, sb_, sc_, i64_w, i32_w]
               rfl
              exact norm_ (by simp only [putAll, Act.put, sa_, sb_, sc_] <;> rfl) (hJ2_4_8_9 () _ ⟨hHeld, (by apply_rules [K1.out, bN_, bD_, bA_]), (by apply_rules [K2.out, bN_, bD_, bA_]), (by apply_rules [K3.out, bN_, bD_, bA_]), (by repeat (first | (with_reducible first | exact HB.out | apply ba_ | apply bn_ | apply bd_ | refine bs_ E1 ?_ | refine bs_ E2 ?_ | refine bs_ E3 ?_) | exact HB.out))⟩)
             ·skip
              refine box_step ?hg (N := 7) ?hd (cs := #[.int .u64 0, .bool false, .int .i64 0, .int .u64 0, .int .i64 0, .int .i64 0]) (t := 26) ?hr ?_; (case hd => rfl); (case hg => rfl); (case hr => first | (go_simp; done) | (go_simp; rfl))
              intro g4 hg w56 hbox hb
              have n0_ := AK_ (blk_below (by apply_rules [K1.out, bN_, bD_, bA_]) hb)
              have n1_ := AK_ (blk_below (by apply_rules [K2.out, bN_, bD_, bA_]) hb)
              have n2_ := AK_ (blk_below (by apply_rules [K3.out, bN_, bD_, bA_]) hb)
              have n3_ := AK_ (below_step (by repeat (first | (with_reducible first | exact HB.out | apply ba_ | apply bn_ | apply bd_ | refine bs_ E1 ?_ | refine bs_ E2 ?_ | refine bs_ E3 ?_) | exact HB.out)) hb)
              have n4_ := AK_ (hbox)
              have n5_ := AK_ ((by rw [hg]; exact (below_size (by repeat (first | (with_reducible first | exact HB.out | apply ba_ | apply bn_ | apply bd_ | refine bs_ E1 ?_ | refine bs_ E2 ?_ | refine bs_ E3 ?_) | exact HB.out))) : w.heap.size ≤ g4))
              have n6_ := n5_
              have n7_ := AK_ ((by rw [hg]; exact Nat.ne_of_lt (blk_lt (g := g1) (o := cz_ a0_0 a0_1 a0_2 a0_3 a0_4 a0_5) (by apply_rules [K1.out, bN_, bD_, bA_])) : g1 ≠ g4))
              have n8_ := sy_ n7_
              have n9_ := AK_ ((by rw [hg]; exact Nat.ne_of_lt (blk_lt (g := g2) (o := cz_ a1_0 a1_1 a1_2 a1_3 a1_4 a1_5) (by apply_rules [K2.out, bN_, bD_, bA_])) : g2 ≠ g4))
              have n10_ := sy_ n9_
              have n11_ := AK_ ((by rw [hg]; exact Nat.ne_of_lt (blk_lt (g := g3) (o := cz_ a2_0 a2_1 a2_2 a2_3 a2_4 a2_5) (by apply_rules [K3.out, bN_, bD_, bA_])) : g3 ≠ g4))
              have n12_ := sy_ n11_
              clear K1 K2 K3 HB
              have K1 := n0_
              have K2 := n1_
              have K3 := n2_
              have HB := n3_
              have K4 := n4_
              have G4 := n5_
              have E4 := n6_
              have N1_4 := n7_
              have N4_1 := n8_
              have N2_4 := n9_
              have N4_2 := n10_
              have N3_4 := n11_
              have N4_3 := n12_
              clear n0_ n1_ n2_ n3_ n4_ n5_ n6_ n7_ n8_ n9_ n10_ n11_ n12_
              clear hb hbox hg
              refine hK.out _ _ (hI_ K1 (hI_ K2 (hL_ K3))) (fun hHeld => ?_)
              clear hK K
              refine norm_ (a' := ?_) ?_ ?_
              rotate_left
              ·show Act.put _ (some 7) _ = _
               simp only [Act.put, sa_, sb_, sc_, i64_w, i32_w]
               rfl
              exact norm_ (by simp only [putAll, Act.put, sa_, sb_, sc_] <;> rfl) (hJ2_4_8_10 (g4) _ ⟨hHeld, (by apply_rules [K1.out, bN_, bD_, bA_]), (by apply_rules [K2.out, bN_, bD_, bA_]), (by apply_rules [K3.out, bN_, bD_, bA_]), (by apply_rules [K4.out, bN_, bD_, bA_]), G4.out, E4.out, N1_4.out, N4_1.out, N2_4.out, N4_2.out, N3_4.out, N4_3.out, (by repeat (first | (with_reducible first | exact HB.out | apply ba_ | apply bn_ | apply bd_ | refine bs_ E1 ?_ | refine bs_ E2 ?_ | refine bs_ E3 ?_ | refine bs_ E4 ?_) | exact HB.out))⟩)
             ·skip
              refine box_step ?hg (N := 8) ?hd (cs := #[.int .u64 0, .bool false, .int .i64 0, .int .u64 0, .int .i64 0, .int .i64 0]) (t := 26) ?hr ?_; (case hd => rfl); (case hg => rfl); (case hr => first | (go_simp; done) | (go_simp; rfl))
              intro g5 hg w56 hbox hb
              have n0_ := AK_ (blk_below (by apply_rules [K1.out, bN_, bD_, bA_]) hb)
              have n1_ := AK_ (blk_below (by apply_rules [K2.out, bN_, bD_, bA_]) hb)
              have n2_ := AK_ (blk_below (by apply_rules [K3.out, bN_, bD_, bA_]) hb)
              have n3_ := AK_ (below_step (by repeat (first | (with_reducible first | exact HB.out | apply ba_ | apply bn_ | apply bd_ | refine bs_ E1 ?_ | refine bs_ E2 ?_ | refine bs_ E3 ?_) | exact HB.out)) hb)
              have n4_ := AK_ (hbox)
              have n5_ := AK_ ((by rw [hg]; exact (below_size (by repeat (first | (with_reducible first | exact HB.out | apply ba_ | apply bn_ | apply bd_ | refine bs_ E1 ?_ | refine bs_ E2 ?_ | refine bs_ E3 ?_) | exact HB.out))) : w.heap.size ≤ g5))
              have n6_ := n5_
              have n7_ := AK_ ((by rw [hg]; exact Nat.ne_of_lt (blk_lt (g := g1) (o := cz_ a0_0 a0_1 a0_2 a0_3 a0_4 a0_5) (by apply_rules [K1.out, bN_, bD_, bA_])) : g1 ≠ g5))
              have n8_ := sy_ n7_
              have n9_ := AK_ ((by rw [hg]; exact Nat.ne_of_lt (blk_lt (g := g2) (o := cz_ a1_0 a1_1 a1_2 a1_3 a1_4 a1_5) (by apply_rules [K2.out, bN_, bD_, bA_])) : g2 ≠ g5))
              have n10_ := sy_ n9_
              have n11_ := AK_ ((by rw [hg]; exact Nat.ne_of_lt (blk_lt (g := g3) (o := cz_ a2_0 a2_1 a2_2 a2_3 a2_4 a2_5) (by apply_rules [K3.out, bN_, bD_, bA_])) : g3 ≠ g5))
              have n12_ := sy_ n11_
              clear K1 K2 K3 HB
              have K1 := n0_
              have K2 := n1_
              have K3 := n2_
              have HB := n3_
              have K5 := n4_
              have G5 := n5_
              have E5 := n6_
              have N1_5 := n7_
              have N5_1 := n8_
              have N2_5 := n9_
              have N5_2 := n10_
              have N3_5 := n11_
              have N5_3 := n12_
              clear n0_ n1_ n2_ n3_ n4_ n5_ n6_ n7_ n8_ n9_ n10_ n11_ n12_
              clear hb hbox hg
              refine hK.out _ _ (hI_ K1 (hI_ K2 (hL_ K3))) (fun hHeld => ?_)
              clear hK K
              refine norm_ (a' := ?_) ?_ ?_
              rotate_left
              ·show Act.put _ (some 8) _ = _
               simp only [Act.put, sa_, sb_, sc_, i64_w, i32_w]
               rfl
              exact norm_ (by simp only [putAll, Act.put, sa_, sb_, sc_] <;> rfl) (hJ2_4_8_11 (g5) _ ⟨hHeld, (by apply_rules [K1.out, bN_, bD_, bA_]), (by apply_rules [K2.out, bN_, bD_, bA_]), (by apply_rules [K3.out, bN_, bD_, bA_]), (by apply_rules [K5.out, bN_, bD_, bA_]), G5.out, E5.out, N1_5.out, N5_1.out, N2_5.out, N5_2.out, N3_5.out, N5_3.out, (by repeat (first | (with_reducible first | exact HB.out | apply ba_ | apply bn_ | apply bd_ | refine bs_ E1 ?_ | refine bs_ E2 ?_ | refine bs_ E3 ?_ | refine bs_ E5 ?_) | exact HB.out))⟩)
           ·skip
            rintro ⟨g4, g5⟩ w56 ⟨hS_, h0_, h1_, h2_, h3_, h4_, h5_, h6_, h7_, h8_, h9_, h10_, h11_, h12_, h13_, h14_, h15_, h16_, h17_, h18_, h19_, h20_, h21_, h22_, h23_⟩
            have n0_ : Aside0 (w56.heap[g1]? = some (cz_ a0_0 a0_1 a0_2 a0_3 a0_4 a0_5)) := ⟨h0_⟩
            have n1_ : Aside0 (w56.heap[g2]? = some (cz_ a1_0 a1_1 a1_2 a1_3 a1_4 a1_5)) := ⟨h1_⟩
            have n2_ : Aside0 (w56.heap[g3]? = some (cz_ a2_0 a2_1 a2_2 a2_3 a2_4 a2_5)) := ⟨h2_⟩
            have n3_ : Aside0 (w56.heap[g4]? = some (cz_ 0 false 0 0 0 0)) := ⟨h3_⟩
            have n4_ : Aside0 (w56.heap[g5]? = some (cz_ 0 false 0 0 0 0)) := ⟨h4_⟩
            have n5_ : Aside0 (w.heap.size ≤ g4) := ⟨h5_⟩
            have n6_ : Aside0 (w.heap.size ≤ g4) := ⟨h6_⟩
            have n7_ : Aside0 (g1 ≠ g4) := ⟨h7_⟩
            have n8_ : Aside0 (g4 ≠ g1) := ⟨h8_⟩
            have n9_ : Aside0 (g2 ≠ g4) := ⟨h9_⟩
            have n10_ : Aside0 (g4 ≠ g2) := ⟨h10_⟩
            have n11_ : Aside0 (g3 ≠ g4) := ⟨h11_⟩
            have n12_ : Aside0 (g4 ≠ g3) := ⟨h12_⟩
            have n13_ : Aside0 (g5 ≠ g4) := ⟨h13_⟩
            have n14_ : Aside0 (g4 ≠ g5) := ⟨h14_⟩
            have n15_ : Aside0 (w.heap.size ≤ g5) := ⟨h15_⟩
            have n16_ : Aside0 (w.heap.size ≤ g5) := ⟨h16_⟩
            have n17_ : Aside0 (g1 ≠ g5) := ⟨h17_⟩
            have n18_ : Aside0 (g5 ≠ g1) := ⟨h18_⟩
            have n19_ : Aside0 (g2 ≠ g5) := ⟨h19_⟩
            have n20_ : Aside0 (g5 ≠ g2) := ⟨h20_⟩
            have n21_ : Aside0 (g3 ≠ g5) := ⟨h21_⟩
            have n22_ : Aside0 (g5 ≠ g3) := ⟨h22_⟩
            have n23_ : Aside0 (Below w.heap.size w w56) := ⟨h23_⟩
            clear K1 K2 K3 HB h0_ h1_ h2_ h3_ h4_ h5_ h6_ h7_ h8_ h9_ h10_ h11_ h12_ h13_ h14_ h15_ h16_ h17_ h18_ h19_ h20_ h21_ h22_ h23_
            have K1 := n0_
            have K2 := n1_
            have K3 := n2_
            have K4 := n3_
            have K5 := n4_
            have G4 := n5_
            have E4 := n6_
            have N1_4 := n7_
            have N4_1 := n8_
            have N2_4 := n9_
            have N4_2 := n10_
            have N3_4 := n11_
            have N4_3 := n12_
            have N5_4 := n13_
            have N4_5 := n14_
            have G5 := n15_
            have E5 := n16_
            have N1_5 := n17_
            have N5_1 := n18_
            have N2_5 := n19_
            have N5_2 := n20_
            have N3_5 := n21_
            have N5_3 := n22_
            have HB := n23_
            clear n0_ n1_ n2_ n3_ n4_ n5_ n6_ n7_ n8_ n9_ n10_ n11_ n12_ n13_ n14_ n15_ n16_ n17_ n18_ n19_ n20_ n21_ n22_ n23_
            have hHeld : hk_ w56 g1 a0_0 a0_1 a0_2 a0_3 a0_4 a0_5 (hk_ w56 g2 a1_0 a1_1 a1_2 a1_3 a1_4 a1_5 (hc_ w56 g3 a2_0 a2_1 a2_2 a2_3 a2_4 a2_5)) := hS_
            refine norm_ (a' := ?_) ?_ ?_
            rotate_left
            ·simp only [putAll, Act.put, sa_, sb_, sc_]
             rfl
            refine one_ (i := 8) (N := some 31) #[T,T,T,T,T,T,T,T,T,F,T,T,F,F] rfl rfl (one_of HT_.out (by kernel_rfl)) (by decide) (fun K hK => ?_)
            refine goes_ Try.func11 (by kernel_rfl) rfl #[.agg #[.int .u64 a1_0, .bool a1_1, .int .i64 a1_2, .int .u64 a1_3, .int .i64 a1_4, .int .i64 a1_5], .agg #[.int .u64 a2_0, .bool a2_1, .int .i64 a2_2, .int .u64 a2_3, .int .i64 a2_4, .int .i64 a2_5]] (by rfl) rfl rfl (by (try simp only [List.map_toArray, List.map_cons, List.map_nil]); first | done | rfl | (simp only [List.length_drop, List.length_take]; rfl)) ?_
            with_reducible refine (agg_Merge.calls a1_0 a1_1 a1_2 a1_3 a1_4 a1_5 a2_0 a2_1 a2_2 a2_3 a2_4 a2_5 t180 t181 t182 t183 t184 t185 _ A38.out).mono ?_
            rintro e w57 ⟨rfl, hb⟩
            refine ⟨_, rfl, ?_⟩
            have n0_ := AK_ (blk_below (by apply_rules [K1.out, bN_, bD_, bA_]) hb)
            have n1_ := AK_ (blk_below (by apply_rules [K2.out, bN_, bD_, bA_]) hb)
            have n2_ := AK_ (blk_below (by apply_rules [K3.out, bN_, bD_, bA_]) hb)
            have n3_ := AK_ (blk_below (by apply_rules [K4.out, bN_, bD_, bA_]) hb)
            have n4_ := AK_ (blk_below (by apply_rules [K5.out, bN_, bD_, bA_]) hb)
            have n5_ := AK_ (below_step (by repeat (first | (with_reducible first | exact HB.out | apply ba_ | apply bn_ | apply bd_ | refine bs_ E1 ?_ | refine bs_ E2 ?_ | refine bs_ E3 ?_ | refine bs_ E4 ?_ | refine bs_ E5 ?_) | exact HB.out)) hb)
            clear K1 K2 K3 K4 K5 HB
            have K1 := n0_
            have K2 := n1_
            have K3 := n2_
            have K4 := n3_
            have K5 := n4_
            have HB := n5_
            clear n0_ n1_ n2_ n3_ n4_ n5_
            (try clear hb)
            (try clear hb2)
            (try clear hk)
            (try clear hi)
            refine hK.out _ _ (hI_ K1 (hI_ K2 (hL_ K3))) (fun hHeld => ?_)
            clear hK K
            refine norm_ (a' := ?_) ?_ ?_
            rotate_left
            ·show Act.put _ (some 31) _ = _
             simp only [Act.put, sa_, sb_, sc_, i64_w, i32_w]
             rfl
            exact norm_ (by simp only [putAll, Act.put, sa_, sb_, sc_] <;> rfl) (hJ2_4_8_10_11 (g4, g5) _ ⟨hHeld, (by apply_rules [K1.out, bN_, bD_, bA_]), (by apply_rules [K2.out, bN_, bD_, bA_]), (by apply_rules [K3.out, bN_, bD_, bA_]), (by apply_rules [K4.out, bN_, bD_, bA_]), (by apply_rules [K5.out, bN_, bD_, bA_]), G4.out, E4.out, N1_4.out, N4_1.out, N2_4.out, N4_2.out, N3_4.out, N4_3.out, N5_4.out, N4_5.out, G5.out, E5.out, N1_5.out, N5_1.out, N2_5.out, N5_2.out, N3_5.out, N5_3.out, (by repeat (first | (with_reducible first | exact HB.out | apply ba_ | apply bn_ | apply bd_ | refine bs_ E1 ?_ | refine bs_ E2 ?_ | refine bs_ E3 ?_ | refine bs_ E4 ?_ | refine bs_ E5 ?_) | exact HB.out))⟩)
          ·skip
           rintro g5 w56 ⟨hS_, h0_, h1_, h2_, h3_, h4_, h5_, h6_, h7_, h8_, h9_, h10_, h11_, h12_⟩
           have n0_ : Aside0 (w56.heap[g1]? = some (cz_ a0_0 a0_1 a0_2 a0_3 a0_4 a0_5)) := ⟨h0_⟩
           have n1_ : Aside0 (w56.heap[g2]? = some (cz_ a1_0 a1_1 a1_2 a1_3 a1_4 a1_5)) := ⟨h1_⟩
           have n2_ : Aside0 (w56.heap[g3]? = some (cz_ a2_0 a2_1 a2_2 a2_3 a2_4 a2_5)) := ⟨h2_⟩
           have n3_ : Aside0 (w56.heap[g5]? = some (cz_ 0 false 0 0 0 0)) := ⟨h3_⟩
           have n4_ : Aside0 (w.heap.size ≤ g5) := ⟨h4_⟩
           have n5_ : Aside0 (w.heap.size ≤ g5) := ⟨h5_⟩
           have n6_ : Aside0 (g1 ≠ g5) := ⟨h6_⟩
           have n7_ : Aside0 (g5 ≠ g1) := ⟨h7_⟩
           have n8_ : Aside0 (g2 ≠ g5) := ⟨h8_⟩
           have n9_ : Aside0 (g5 ≠ g2) := ⟨h9_⟩
           have n10_ : Aside0 (g3 ≠ g5) := ⟨h10_⟩
           have n11_ : Aside0 (g5 ≠ g3) := ⟨h11_⟩
           have n12_ : Aside0 (Below w.heap.size w w56) := ⟨h12_⟩
           clear K1 K2 K3 HB h0_ h1_ h2_ h3_ h4_ h5_ h6_ h7_ h8_ h9_ h10_ h11_ h12_
           have K1 := n0_
           have K2 := n1_
           have K3 := n2_
           have K5 := n3_
           have G5 := n4_
           have E5 := n5_
           have N1_5 := n6_
           have N5_1 := n7_
           have N2_5 := n8_
           have N5_2 := n9_
           have N3_5 := n10_
           have N5_3 := n11_
           have HB := n12_
           clear n0_ n1_ n2_ n3_ n4_ n5_ n6_ n7_ n8_ n9_ n10_ n11_ n12_
           have hHeld : hk_ w56 g1 a0_0 a0_1 a0_2 a0_3 a0_4 a0_5 (hk_ w56 g2 a1_0 a1_1 a1_2 a1_3 a1_4 a1_5 (hc_ w56 g3 a2_0 a2_1 a2_2 a2_3 a2_4 a2_5)) := hS_
           refine norm_ (a' := ?_) ?_ ?_
           rotate_left
           ·simp only [putAll, Act.put, sa_, sb_, sc_]
            rfl
           refine two_ (i := 9) (j := 10) (Ni := some 32) (Nj := some 7) #[T,T,T,T,T,T,T,T,T,T,F,T,F,F] #[T,T,T,T,T,T,T,T,T,F,T,T,F,F] rfl rfl rfl rfl (two_of HT_.out (by kernel_rfl)) (by decide) (by decide) (fun K hK => ?_) (fun K hK => ?_)
           ·skip
            refine goes_ Try.func11 (by kernel_rfl) rfl #[.agg #[.int .u64 a0_0, .bool a0_1, .int .i64 a0_2, .int .u64 a0_3, .int .i64 a0_4, .int .i64 a0_5], .agg #[.int .u64 t180, .bool t181, .int .i64 t182, .int .u64 t183, .int .i64 t184, .int .i64 t185]] (by rfl) rfl rfl (by (try simp only [List.map_toArray, List.map_cons, List.map_nil]); first | done | rfl | (simp only [List.length_drop, List.length_take]; rfl)) ?_
            with_reducible refine (agg_Merge.calls a0_0 a0_1 a0_2 a0_3 a0_4 a0_5 t180 t181 t182 t183 t184 t185 t186 t187 t188 t189 t190 t191 _ A39.out).mono ?_
            rintro e w57 ⟨rfl, hb⟩
            refine ⟨_, rfl, ?_⟩
            have n0_ := AK_ (blk_below (by apply_rules [K1.out, bN_, bD_, bA_]) hb)
            have n1_ := AK_ (blk_below (by apply_rules [K2.out, bN_, bD_, bA_]) hb)
            have n2_ := AK_ (blk_below (by apply_rules [K3.out, bN_, bD_, bA_]) hb)
            have n3_ := AK_ (blk_below (by apply_rules [K5.out, bN_, bD_, bA_]) hb)
            have n4_ := AK_ (below_step (by repeat (first | (with_reducible first | exact HB.out | apply ba_ | apply bn_ | apply bd_ | refine bs_ E1 ?_ | refine bs_ E2 ?_ | refine bs_ E3 ?_ | refine bs_ E5 ?_) | exact HB.out)) hb)
            clear K1 K2 K3 K5 HB
            have K1 := n0_
            have K2 := n1_
            have K3 := n2_
            have K5 := n3_
            have HB := n4_
            clear n0_ n1_ n2_ n3_ n4_
            (try clear hb)
            (try clear hb2)
            (try clear hk)
            (try clear hi)
            refine hK.out _ _ (hI_ K1 (hI_ K2 (hL_ K3))) (fun hHeld => ?_)
            clear hK K
            refine norm_ (a' := ?_) ?_ ?_
            rotate_left
            ·show Act.put _ (some 32) _ = _
             simp only [Act.put, sa_, sb_, sc_, i64_w, i32_w]
             rfl
            exact norm_ (by simp only [putAll, Act.put, sa_, sb_, sc_] <;> rfl) (hJ2_4_8_9_11 (g5) _ ⟨hHeld, (by apply_rules [K1.out, bN_, bD_, bA_]), (by apply_rules [K2.out, bN_, bD_, bA_]), (by apply_rules [K3.out, bN_, bD_, bA_]), (by apply_rules [K5.out, bN_, bD_, bA_]), G5.out, E5.out, N1_5.out, N5_1.out, N2_5.out, N5_2.out, N3_5.out, N5_3.out, (by repeat (first | (with_reducible first | exact HB.out | apply ba_ | apply bn_ | apply bd_ | refine bs_ E1 ?_ | refine bs_ E2 ?_ | refine bs_ E3 ?_ | refine bs_ E5 ?_) | exact HB.out))⟩)
           ·skip
            refine box_step ?hg (N := 7) ?hd (cs := #[.int .u64 0, .bool false, .int .i64 0, .int .u64 0, .int .i64 0, .int .i64 0]) (t := 26) ?hr ?_; (case hd => rfl); (case hg => rfl); (case hr => first | (go_simp; done) | (go_simp; rfl))
            intro g4 hg w57 hbox hb
            have n0_ := AK_ (blk_below (by apply_rules [K1.out, bN_, bD_, bA_]) hb)
            have n1_ := AK_ (blk_below (by apply_rules [K2.out, bN_, bD_, bA_]) hb)
            have n2_ := AK_ (blk_below (by apply_rules [K3.out, bN_, bD_, bA_]) hb)
            have n3_ := AK_ (blk_below (by apply_rules [K5.out, bN_, bD_, bA_]) hb)
            have n4_ := AK_ (below_step (by repeat (first | (with_reducible first | exact HB.out | apply ba_ | apply bn_ | apply bd_ | refine bs_ E1 ?_ | refine bs_ E2 ?_ | refine bs_ E3 ?_ | refine bs_ E5 ?_) | exact HB.out)) hb)
            have n5_ := AK_ (hbox)
            have n6_ := AK_ ((by rw [hg]; exact (below_size (by repeat (first | (with_reducible first | exact HB.out | apply ba_ | apply bn_ | apply bd_ | refine bs_ E1 ?_ | refine bs_ E2 ?_ | refine bs_ E3 ?_ | refine bs_ E5 ?_) | exact HB.out))) : w.heap.size ≤ g4))
            have n7_ := n6_
            have n8_ := AK_ ((by rw [hg]; exact Nat.ne_of_lt (blk_lt (g := g1) (o := cz_ a0_0 a0_1 a0_2 a0_3 a0_4 a0_5) (by apply_rules [K1.out, bN_, bD_, bA_])) : g1 ≠ g4))
            have n9_ := sy_ n8_
            have n10_ := AK_ ((by rw [hg]; exact Nat.ne_of_lt (blk_lt (g := g2) (o := cz_ a1_0 a1_1 a1_2 a1_3 a1_4 a1_5) (by apply_rules [K2.out, bN_, bD_, bA_])) : g2 ≠ g4))
            have n11_ := sy_ n10_
            have n12_ := AK_ ((by rw [hg]; exact Nat.ne_of_lt (blk_lt (g := g3) (o := cz_ a2_0 a2_1 a2_2 a2_3 a2_4 a2_5) (by apply_rules [K3.out, bN_, bD_, bA_])) : g3 ≠ g4))
            have n13_ := sy_ n12_
            have n14_ := AK_ ((by rw [hg]; exact Nat.ne_of_lt (blk_lt (g := g5) (o := cz_ 0 false 0 0 0 0) (by apply_rules [K5.out, bN_, bD_, bA_])) : g5 ≠ g4))
            have n15_ := sy_ n14_
            clear K1 K2 K3 K5 HB
            have K1 := n0_
            have K2 := n1_
            have K3 := n2_
            have K5 := n3_
            have HB := n4_
            have K4 := n5_
            have G4 := n6_
            have E4 := n7_
            have N1_4 := n8_
            have N4_1 := n9_
            have N2_4 := n10_
            have N4_2 := n11_
            have N3_4 := n12_
            have N4_3 := n13_
            have N5_4 := n14_
            have N4_5 := n15_
            clear n0_ n1_ n2_ n3_ n4_ n5_ n6_ n7_ n8_ n9_ n10_ n11_ n12_ n13_ n14_ n15_
            clear hb hbox hg
            refine hK.out _ _ (hI_ K1 (hI_ K2 (hL_ K3))) (fun hHeld => ?_)
            clear hK K
            refine norm_ (a' := ?_) ?_ ?_
            rotate_left
            ·show Act.put _ (some 7) _ = _
             simp only [Act.put, sa_, sb_, sc_, i64_w, i32_w]
             rfl
            exact norm_ (by simp only [putAll, Act.put, sa_, sb_, sc_] <;> rfl) (hJ2_4_8_10_11 (g4, g5) _ ⟨hHeld, (by apply_rules [K1.out, bN_, bD_, bA_]), (by apply_rules [K2.out, bN_, bD_, bA_]), (by apply_rules [K3.out, bN_, bD_, bA_]), (by apply_rules [K4.out, bN_, bD_, bA_]), (by apply_rules [K5.out, bN_, bD_, bA_]), G4.out, E4.out, N1_4.out, N4_1.out, N2_4.out, N4_2.out, N3_4.out, N4_3.out, N5_4.out, N4_5.out, G5.out, E5.out, N1_5.out, N5_1.out, N2_5.out, N5_2.out, N3_5.out, N5_3.out, (by repeat (first | (with_reducible first | exact HB.out | apply ba_ | apply bn_ | apply bd_ | refine bs_ E1 ?_ | refine bs_ E2 ?_ | refine bs_ E3 ?_ | refine bs_ E5 ?_ | refine bs_ E4 ?_) | exact HB.out))⟩)
         ·skip
          rintro g4 w56 ⟨hS_, h0_, h1_, h2_, h3_, h4_, h5_, h6_, h7_, h8_, h9_, h10_, h11_, h12_⟩
          have n0_ : Aside0 (w56.heap[g1]? = some (cz_ a0_0 a0_1 a0_2 a0_3 a0_4 a0_5)) := ⟨h0_⟩
          have n1_ : Aside0 (w56.heap[g2]? = some (cz_ a1_0 a1_1 a1_2 a1_3 a1_4 a1_5)) := ⟨h1_⟩
          have n2_ : Aside0 (w56.heap[g3]? = some (cz_ a2_0 a2_1 a2_2 a2_3 a2_4 a2_5)) := ⟨h2_⟩
          have n3_ : Aside0 (w56.heap[g4]? = some (cz_ 0 false 0 0 0 0)) := ⟨h3_⟩
          have n4_ : Aside0 (w.heap.size ≤ g4) := ⟨h4_⟩
          have n5_ : Aside0 (w.heap.size ≤ g4) := ⟨h5_⟩
          have n6_ : Aside0 (g1 ≠ g4) := ⟨h6_⟩
          have n7_ : Aside0 (g4 ≠ g1) := ⟨h7_⟩
          have n8_ : Aside0 (g2 ≠ g4) := ⟨h8_⟩
          have n9_ : Aside0 (g4 ≠ g2) := ⟨h9_⟩
          have n10_ : Aside0 (g3 ≠ g4) := ⟨h10_⟩
          have n11_ : Aside0 (g4 ≠ g3) := ⟨h11_⟩
          have n12_ : Aside0 (Below w.heap.size w w56) := ⟨h12_⟩
          clear K1 K2 K3 HB h0_ h1_ h2_ h3_ h4_ h5_ h6_ h7_ h8_ h9_ h10_ h11_ h12_
          have K1 := n0_
          have K2 := n1_
          have K3 := n2_
          have K4 := n3_
          have G4 := n4_
          have E4 := n5_
          have N1_4 := n6_
          have N4_1 := n7_
          have N2_4 := n8_
          have N4_2 := n9_
          have N3_4 := n10_
          have N4_3 := n11_
          have HB := n12_
          clear n0_ n1_ n2_ n3_ n4_ n5_ n6_ n7_ n8_ n9_ n10_ n11_ n12_
          have hHeld : hk_ w56 g1 a0_0 a0_1 a0_2 a0_3 a0_4 a0_5 (hk_ w56 g2 a1_0 a1_1 a1_2 a1_3 a1_4 a1_5 (hc_ w56 g3 a2_0 a2_1 a2_2 a2_3 a2_4 a2_5)) := hS_
          refine norm_ (a' := ?_) ?_ ?_
          rotate_left
          ·simp only [putAll, Act.put, sa_, sb_, sc_]
           rfl
          refine two_ (i := 9) (j := 11) (Ni := some 32) (Nj := some 8) #[T,T,T,T,T,T,T,T,T,T,T,F,F,F] #[T,T,T,T,T,T,T,T,T,F,T,T,F,F] rfl rfl rfl rfl (two_of HT_.out (by kernel_rfl)) (by decide) (by decide) (fun K hK => ?_) (fun K hK => ?_)
          ·skip
           refine goes_ Try.func11 (by kernel_rfl) rfl #[.agg #[.int .u64 a0_0, .bool a0_1, .int .i64 a0_2, .int .u64 a0_3, .int .i64 a0_4, .int .i64 a0_5], .agg #[.int .u64 t180, .bool t181, .int .i64 t182, .int .u64 t183, .int .i64 t184, .int .i64 t185]] (by rfl) rfl rfl (by (try simp only [List.map_toArray, List.map_cons, List.map_nil]); first | done | rfl | (simp only [List.length_drop, List.length_take]; rfl)) ?_
           with_reducible refine (agg_Merge.calls a0_0 a0_1 a0_2 a0_3 a0_4 a0_5 t180 t181 t182 t183 t184 t185 t186 t187 t188 t189 t190 t191 _ A39.out).mono ?_
           rintro e w57 ⟨rfl, hb⟩
           refine ⟨_, rfl, ?_⟩
           have n0_ := AK_ (blk_below (by apply_rules [K1.out, bN_, bD_, bA_]) hb)
           have n1_ := AK_ (blk_below (by apply_rules [K2.out, bN_, bD_, bA_]) hb)
           have n2_ := AK_ (blk_below (by apply_rules [K3.out, bN_, bD_, bA_]) hb)
           have n3_ := AK_ (blk_below (by apply_rules [K4.out, bN_, bD_, bA_]) hb)
           have n4_ := AK_ (below_step (by repeat (first | (with_reducible first | exact HB.out | apply ba_ | apply bn_ | apply bd_ | refine bs_ E1 ?_ | refine bs_ E2 ?_ | refine bs_ E3 ?_ | refine bs_ E4 ?_) | exact HB.out)) hb)
           clear K1 K2 K3 K4 HB
           have K1 := n0_
           have K2 := n1_
           have K3 := n2_
           have K4 := n3_
           have HB := n4_
           clear n0_ n1_ n2_ n3_ n4_
           (try clear hb)
           (try clear hb2)
           (try clear hk)
           (try clear hi)
           refine hK.out _ _ (hI_ K1 (hI_ K2 (hL_ K3))) (fun hHeld => ?_)
           clear hK K
           refine norm_ (a' := ?_) ?_ ?_
           rotate_left
           ·show Act.put _ (some 32) _ = _
            simp only [Act.put, sa_, sb_, sc_, i64_w, i32_w]
            rfl
           exact norm_ (by simp only [putAll, Act.put, sa_, sb_, sc_] <;> rfl) (hJ2_4_8_9_10 (g4) _ ⟨hHeld, (by apply_rules [K1.out, bN_, bD_, bA_]), (by apply_rules [K2.out, bN_, bD_, bA_]), (by apply_rules [K3.out, bN_, bD_, bA_]), (by apply_rules [K4.out, bN_, bD_, bA_]), G4.out, E4.out, N1_4.out, N4_1.out, N2_4.out, N4_2.out, N3_4.out, N4_3.out, (by repeat (first | (with_reducible first | exact HB.out | apply ba_ | apply bn_ | apply bd_ | refine bs_ E1 ?_ | refine bs_ E2 ?_ | refine bs_ E3 ?_ | refine bs_ E4 ?_) | exact HB.out))⟩)
          ·skip
           refine box_step ?hg (N := 8) ?hd (cs := #[.int .u64 0, .bool false, .int .i64 0, .int .u64 0, .int .i64 0, .int .i64 0]) (t := 26) ?hr ?_; (case hd => rfl); (case hg => rfl); (case hr => first | (go_simp; done) | (go_simp; rfl))
           intro g5 hg w57 hbox hb
           have n0_ := AK_ (blk_below (by apply_rules [K1.out, bN_, bD_, bA_]) hb)
           have n1_ := AK_ (blk_below (by apply_rules [K2.out, bN_, bD_, bA_]) hb)
           have n2_ := AK_ (blk_below (by apply_rules [K3.out, bN_, bD_, bA_]) hb)
           have n3_ := AK_ (blk_below (by apply_rules [K4.out, bN_, bD_, bA_]) hb)
           have n4_ := AK_ (below_step (by repeat (first | (with_reducible first | exact HB.out | apply ba_ | apply bn_ | apply bd_ | refine bs_ E1 ?_ | refine bs_ E2 ?_ | refine bs_ E3 ?_ | refine bs_ E4 ?_) | exact HB.out)) hb)
           have n5_ := AK_ (hbox)
           have n6_ := AK_ ((by rw [hg]; exact (below_size (by repeat (first | (with_reducible first | exact HB.out | apply ba_ | apply bn_ | apply bd_ | refine bs_ E1 ?_ | refine bs_ E2 ?_ | refine bs_ E3 ?_ | refine bs_ E4 ?_) | exact HB.out))) : w.heap.size ≤ g5))
           have n7_ := n6_
           have n8_ := AK_ ((by rw [hg]; exact Nat.ne_of_lt (blk_lt (g := g1) (o := cz_ a0_0 a0_1 a0_2 a0_3 a0_4 a0_5) (by apply_rules [K1.out, bN_, bD_, bA_])) : g1 ≠ g5))
           have n9_ := sy_ n8_
           have n10_ := AK_ ((by rw [hg]; exact Nat.ne_of_lt (blk_lt (g := g2) (o := cz_ a1_0 a1_1 a1_2 a1_3 a1_4 a1_5) (by apply_rules [K2.out, bN_, bD_, bA_])) : g2 ≠ g5))
           have n11_ := sy_ n10_
           have n12_ := AK_ ((by rw [hg]; exact Nat.ne_of_lt (blk_lt (g := g3) (o := cz_ a2_0 a2_1 a2_2 a2_3 a2_4 a2_5) (by apply_rules [K3.out, bN_, bD_, bA_])) : g3 ≠ g5))
           have n13_ := sy_ n12_
           have n14_ := AK_ ((by rw [hg]; exact Nat.ne_of_lt (blk_lt (g := g4) (o := cz_ 0 false 0 0 0 0) (by apply_rules [K4.out, bN_, bD_, bA_])) : g4 ≠ g5))
           have n15_ := sy_ n14_
           clear K1 K2 K3 K4 HB
           have K1 := n0_
           have K2 := n1_
           have K3 := n2_
           have K4 := n3_
           have HB := n4_
           have K5 := n5_
           have G5 := n6_
           have E5 := n7_
           have N1_5 := n8_
           have N5_1 := n9_
           have N2_5 := n10_
           have N5_2 := n11_
           have N3_5 := n12_
           have N5_3 := n13_
           have N4_5 := n14_
           have N5_4 := n15_
           clear n0_ n1_ n2_ n3_ n4_ n5_ n6_ n7_ n8_ n9_ n10_ n11_ n12_ n13_ n14_ n15_
           clear hb hbox hg
           refine hK.out _ _ (hI_ K1 (hI_ K2 (hL_ K3))) (fun hHeld => ?_)
           clear hK K
           refine norm_ (a' := ?_) ?_ ?_
           rotate_left
           ·show Act.put _ (some 8) _ = _
            simp only [Act.put, sa_, sb_, sc_, i64_w, i32_w]
            rfl
           exact norm_ (by simp only [putAll, Act.put, sa_, sb_, sc_] <;> rfl) (hJ2_4_8_10_11 (g4, g5) _ ⟨hHeld, (by apply_rules [K1.out, bN_, bD_, bA_]), (by apply_rules [K2.out, bN_, bD_, bA_]), (by apply_rules [K3.out, bN_, bD_, bA_]), (by apply_rules [K4.out, bN_, bD_, bA_]), (by apply_rules [K5.out, bN_, bD_, bA_]), G4.out, E4.out, N1_4.out, N4_1.out, N2_4.out, N4_2.out, N3_4.out, N4_3.out, N5_4.out, N4_5.out, G5.out, E5.out, N1_5.out, N5_1.out, N2_5.out, N5_2.out, N3_5.out, N5_3.out, (by repeat (first | (with_reducible first | exact HB.out | apply ba_ | apply bn_ | apply bd_ | refine bs_ E1 ?_ | refine bs_ E2 ?_ | refine bs_ E3 ?_ | refine bs_ E4 ?_ | refine bs_ E5 ?_) | exact HB.out))⟩)
        ·skip
         rintro _ w56 ⟨hS_, h0_, h1_, h2_, h3_⟩
         have n0_ : Aside0 (w56.heap[g1]? = some (cz_ a0_0 a0_1 a0_2 a0_3 a0_4 a0_5)) := ⟨h0_⟩
         have n1_ : Aside0 (w56.heap[g2]? = some (cz_ a1_0 a1_1 a1_2 a1_3 a1_4 a1_5)) := ⟨h1_⟩
         have n2_ : Aside0 (w56.heap[g3]? = some (cz_ a2_0 a2_1 a2_2 a2_3 a2_4 a2_5)) := ⟨h2_⟩
         have n3_ : Aside0 (Below w.heap.size w w56) := ⟨h3_⟩
         clear K1 K2 K3 HB h0_ h1_ h2_ h3_
         have K1 := n0_
         have K2 := n1_
         have K3 := n2_
         have HB := n3_
         clear n0_ n1_ n2_ n3_
         have hHeld : hk_ w56 g1 a0_0 a0_1 a0_2 a0_3 a0_4 a0_5 (hk_ w56 g2 a1_0 a1_1 a1_2 a1_3 a1_4 a1_5 (hc_ w56 g3 a2_0 a2_1 a2_2 a2_3 a2_4 a2_5)) := hS_
         refine norm_ (a' := ?_) ?_ ?_
         rotate_left
         ·simp only [putAll, Act.put, sa_, sb_, sc_]
          rfl
         refine two_ (i := 10) (j := 11) (Ni := some 7) (Nj := some 8) #[T,T,T,T,T,T,T,T,T,T,T,F,F,F] #[T,T,T,T,T,T,T,T,T,T,F,T,F,F] rfl rfl rfl rfl (two_of HT_.out (by kernel_rfl)) (by decide) (by decide) (fun K hK => ?_) (fun K hK => ?_)
         ·skip
          refine box_step ?hg (N := 7) ?hd (cs := #[.int .u64 0, .bool false, .int .i64 0, .int .u64 0, .int .i64 0, .int .i64 0]) (t := 26) ?hr ?_; (case hd => rfl); (case hg => rfl); (case hr => first | (go_simp; done) | (go_simp; rfl))
          intro g4 hg w57 hbox hb
          have n0_ := AK_ (blk_below (by apply_rules [K1.out, bN_, bD_, bA_]) hb)
          have n1_ := AK_ (blk_below (by apply_rules [K2.out, bN_, bD_, bA_]) hb)
          have n2_ := AK_ (blk_below (by apply_rules [K3.out, bN_, bD_, bA_]) hb)
          have n3_ := AK_ (below_step (by repeat (first | (with_reducible first | exact HB.out | apply ba_ | apply bn_ | apply bd_ | refine bs_ E1 ?_ | refine bs_ E2 ?_ | refine bs_ E3 ?_) | exact HB.out)) hb)
          have n4_ := AK_ (hbox)
          have n5_ := AK_ ((by rw [hg]; exact (below_size (by repeat (first | (with_reducible first | exact HB.out | apply ba_ | apply bn_ | apply bd_ | refine bs_ E1 ?_ | refine bs_ E2 ?_ | refine bs_ E3 ?_) | exact HB.out))) : w.heap.size ≤ g4))
          have n6_ := n5_
          have n7_ := AK_ ((by rw [hg]; exact Nat.ne_of_lt (blk_lt (g := g1) (o := cz_ a0_0 a0_1 a0_2 a0_3 a0_4 a0_5) (by apply_rules [K1.out, bN_, bD_, bA_])) : g1 ≠ g4))
          have n8_ := sy_ n7_
          have n9_ := AK_ ((by rw [hg]; exact Nat.ne_of_lt (blk_lt (g := g2) (o := cz_ a1_0 a1_1 a1_2 a1_3 a1_4 a1_5) (by apply_rules [K2.out, bN_, bD_, bA_])) : g2 ≠ g4))
          have n10_ := sy_ n9_
          have n11_ := AK_ ((by rw [hg]; exact Nat.ne_of_lt (blk_lt (g := g3) (o := cz_ a2_0 a2_1 a2_2 a2_3 a2_4 a2_5) (by apply_rules [K3.out, bN_, bD_, bA_])) : g3 ≠ g4))
          have n12_ := sy_ n11_
          clear K1 K2 K3 HB
          have K1 := n0_
          have K2 := n1_
          have K3 := n2_
          have HB := n3_
          have K4 := n4_
          have G4 := n5_
          have E4 := n6_
          have N1_4 := n7_
          have N4_1 := n8_
          have N2_4 := n9_
          have N4_2 := n10_
          have N3_4 := n11_
          have N4_3 := n12_
          clear n0_ n1_ n2_ n3_ n4_ n5_ n6_ n7_ n8_ n9_ n10_ n11_ n12_
          clear hb hbox hg
          refine hK.out _ _ (hI_ K1 (hI_ K2 (hL_ K3))) (fun hHeld => ?_)
          clear hK K
          refine norm_ (a' := ?_) ?_ ?_
          rotate_left
          ·show Act.put _ (some 7) _ = _
           simp only [Act.put, sa_, sb_, sc_, i64_w, i32_w]
           rfl
          exact norm_ (by simp only [putAll, Act.put, sa_, sb_, sc_] <;> rfl) (hJ2_4_8_9_10 (g4) _ ⟨hHeld, (by apply_rules [K1.out, bN_, bD_, bA_]), (by apply_rules [K2.out, bN_, bD_, bA_]), (by apply_rules [K3.out, bN_, bD_, bA_]), (by apply_rules [K4.out, bN_, bD_, bA_]), G4.out, E4.out, N1_4.out, N4_1.out, N2_4.out, N4_2.out, N3_4.out, N4_3.out, (by repeat (first | (with_reducible first | exact HB.out | apply ba_ | apply bn_ | apply bd_ | refine bs_ E1 ?_ | refine bs_ E2 ?_ | refine bs_ E3 ?_ | refine bs_ E4 ?_) | exact HB.out))⟩)
         ·skip
          refine box_step ?hg (N := 8) ?hd (cs := #[.int .u64 0, .bool false, .int .i64 0, .int .u64 0, .int .i64 0, .int .i64 0]) (t := 26) ?hr ?_; (case hd => rfl); (case hg => rfl); (case hr => first | (go_simp; done) | (go_simp; rfl))
          intro g5 hg w57 hbox hb
          have n0_ := AK_ (blk_below (by apply_rules [K1.out, bN_, bD_, bA_]) hb)
          have n1_ := AK_ (blk_below (by apply_rules [K2.out, bN_, bD_, bA_]) hb)
          have n2_ := AK_ (blk_below (by apply_rules [K3.out, bN_, bD_, bA_]) hb)
          have n3_ := AK_ (below_step (by repeat (first | (with_reducible first | exact HB.out | apply ba_ | apply bn_ | apply bd_ | refine bs_ E1 ?_ | refine bs_ E2 ?_ | refine bs_ E3 ?_) | exact HB.out)) hb)
          have n4_ := AK_ (hbox)
          have n5_ := AK_ ((by rw [hg]; exact (below_size (by repeat (first | (with_reducible first | exact HB.out | apply ba_ | apply bn_ | apply bd_ | refine bs_ E1 ?_ | refine bs_ E2 ?_ | refine bs_ E3 ?_) | exact HB.out))) : w.heap.size ≤ g5))
          have n6_ := n5_
          have n7_ := AK_ ((by rw [hg]; exact Nat.ne_of_lt (blk_lt (g := g1) (o := cz_ a0_0 a0_1 a0_2 a0_3 a0_4 a0_5) (by apply_rules [K1.out, bN_, bD_, bA_])) : g1 ≠ g5))
          have n8_ := sy_ n7_
          have n9_ := AK_ ((by rw [hg]; exact Nat.ne_of_lt (blk_lt (g := g2) (o := cz_ a1_0 a1_1 a1_2 a1_3 a1_4 a1_5) (by apply_rules [K2.out, bN_, bD_, bA_])) : g2 ≠ g5))
          have n10_ := sy_ n9_
          have n11_ := AK_ ((by rw [hg]; exact Nat.ne_of_lt (blk_lt (g := g3) (o := cz_ a2_0 a2_1 a2_2 a2_3 a2_4 a2_5) (by apply_rules [K3.out, bN_, bD_, bA_])) : g3 ≠ g5))
          have n12_ := sy_ n11_
          clear K1 K2 K3 HB
          have K1 := n0_
          have K2 := n1_
          have K3 := n2_
          have HB := n3_
          have K5 := n4_
          have G5 := n5_
          have E5 := n6_
          have N1_5 := n7_
          have N5_1 := n8_
          have N2_5 := n9_
          have N5_2 := n10_
          have N3_5 := n11_
          have N5_3 := n12_
          clear n0_ n1_ n2_ n3_ n4_ n5_ n6_ n7_ n8_ n9_ n10_ n11_ n12_
          clear hb hbox hg
          refine hK.out _ _ (hI_ K1 (hI_ K2 (hL_ K3))) (fun hHeld => ?_)
          clear hK K
          refine norm_ (a' := ?_) ?_ ?_
          rotate_left
          ·show Act.put _ (some 8) _ = _
           simp only [Act.put, sa_, sb_, sc_, i64_w, i32_w]
           rfl
          exact norm_ (by simp only [putAll, Act.put, sa_, sb_, sc_] <;> rfl) (hJ2_4_8_9_11 (g5) _ ⟨hHeld, (by apply_rules [K1.out, bN_, bD_, bA_]), (by apply_rules [K2.out, bN_, bD_, bA_]), (by apply_rules [K3.out, bN_, bD_, bA_]), (by apply_rules [K5.out, bN_, bD_, bA_]), G5.out, E5.out, N1_5.out, N5_1.out, N2_5.out, N5_2.out, N3_5.out, N5_3.out, (by repeat (first | (with_reducible first | exact HB.out | apply ba_ | apply bn_ | apply bd_ | refine bs_ E1 ?_ | refine bs_ E2 ?_ | refine bs_ E3 ?_ | refine bs_ E5 ?_) | exact HB.out))⟩)
       ·skip
        rintro ⟨g4, g5⟩ w57 ⟨hS_, h0_, h1_, h2_, h3_, h4_, h5_, h6_, h7_, h8_, h9_, h10_, h11_, h12_, h13_, h14_, h15_, h16_, h17_, h18_, h19_, h20_, h21_, h22_, h23_⟩
        have n0_ : Aside0 (w57.heap[g1]? = some (cz_ a0_0 a0_1 a0_2 a0_3 a0_4 a0_5)) := ⟨h0_⟩
        have n1_ : Aside0 (w57.heap[g2]? = some (cz_ a1_0 a1_1 a1_2 a1_3 a1_4 a1_5)) := ⟨h1_⟩
        have n2_ : Aside0 (w57.heap[g3]? = some (cz_ a2_0 a2_1 a2_2 a2_3 a2_4 a2_5)) := ⟨h2_⟩
        have n3_ : Aside0 (w57.heap[g4]? = some (cz_ 0 false 0 0 0 0)) := ⟨h3_⟩
        have n4_ : Aside0 (w57.heap[g5]? = some (cz_ 0 false 0 0 0 0)) := ⟨h4_⟩
        have n5_ : Aside0 (w.heap.size ≤ g4) := ⟨h5_⟩
        have n6_ : Aside0 (w.heap.size ≤ g4) := ⟨h6_⟩
        have n7_ : Aside0 (g1 ≠ g4) := ⟨h7_⟩
        have n8_ : Aside0 (g4 ≠ g1) := ⟨h8_⟩
        have n9_ : Aside0 (g2 ≠ g4) := ⟨h9_⟩
        have n10_ : Aside0 (g4 ≠ g2) := ⟨h10_⟩
        have n11_ : Aside0 (g3 ≠ g4) := ⟨h11_⟩
        have n12_ : Aside0 (g4 ≠ g3) := ⟨h12_⟩
        have n13_ : Aside0 (g5 ≠ g4) := ⟨h13_⟩
        have n14_ : Aside0 (g4 ≠ g5) := ⟨h14_⟩
        have n15_ : Aside0 (w.heap.size ≤ g5) := ⟨h15_⟩
        have n16_ : Aside0 (w.heap.size ≤ g5) := ⟨h16_⟩
        have n17_ : Aside0 (g1 ≠ g5) := ⟨h17_⟩
        have n18_ : Aside0 (g5 ≠ g1) := ⟨h18_⟩
        have n19_ : Aside0 (g2 ≠ g5) := ⟨h19_⟩
        have n20_ : Aside0 (g5 ≠ g2) := ⟨h20_⟩
        have n21_ : Aside0 (g3 ≠ g5) := ⟨h21_⟩
        have n22_ : Aside0 (g5 ≠ g3) := ⟨h22_⟩
        have n23_ : Aside0 (Below w.heap.size w w57) := ⟨h23_⟩
        clear K1 K2 K3 HB h0_ h1_ h2_ h3_ h4_ h5_ h6_ h7_ h8_ h9_ h10_ h11_ h12_ h13_ h14_ h15_ h16_ h17_ h18_ h19_ h20_ h21_ h22_ h23_
        have K1 := n0_
        have K2 := n1_
        have K3 := n2_
        have K4 := n3_
        have K5 := n4_
        have G4 := n5_
        have E4 := n6_
        have N1_4 := n7_
        have N4_1 := n8_
        have N2_4 := n9_
        have N4_2 := n10_
        have N3_4 := n11_
        have N4_3 := n12_
        have N5_4 := n13_
        have N4_5 := n14_
        have G5 := n15_
        have E5 := n16_
        have N1_5 := n17_
        have N5_1 := n18_
        have N2_5 := n19_
        have N5_2 := n20_
        have N3_5 := n21_
        have N5_3 := n22_
        have HB := n23_
        clear n0_ n1_ n2_ n3_ n4_ n5_ n6_ n7_ n8_ n9_ n10_ n11_ n12_ n13_ n14_ n15_ n16_ n17_ n18_ n19_ n20_ n21_ n22_ n23_
        have hHeld : hk_ w57 g1 a0_0 a0_1 a0_2 a0_3 a0_4 a0_5 (hk_ w57 g2 a1_0 a1_1 a1_2 a1_3 a1_4 a1_5 (hc_ w57 g3 a2_0 a2_1 a2_2 a2_3 a2_4 a2_5)) := hS_
        refine norm_ (a' := ?_) ?_ ?_
        rotate_left
        ·simp only [putAll, Act.put, sa_, sb_, sc_]
         rfl
        refine one_ (i := 9) (N := some 32) #[T,T,T,T,T,T,T,T,T,T,T,T,F,F] rfl rfl (one_of HT_.out (by kernel_rfl)) (by decide) (fun K hK => ?_)
        refine goes_ Try.func11 (by kernel_rfl) rfl #[.agg #[.int .u64 a0_0, .bool a0_1, .int .i64 a0_2, .int .u64 a0_3, .int .i64 a0_4, .int .i64 a0_5], .agg #[.int .u64 t180, .bool t181, .int .i64 t182, .int .u64 t183, .int .i64 t184, .int .i64 t185]] (by rfl) rfl rfl (by (try simp only [List.map_toArray, List.map_cons, List.map_nil]); first | done | rfl | (simp only [List.length_drop, List.length_take]; rfl)) ?_
        with_reducible refine (agg_Merge.calls a0_0 a0_1 a0_2 a0_3 a0_4 a0_5 t180 t181 t182 t183 t184 t185 t186 t187 t188 t189 t190 t191 _ A39.out).mono ?_
        rintro e w58 ⟨rfl, hb⟩
        refine ⟨_, rfl, ?_⟩
        have n0_ := AK_ (blk_below (by apply_rules [K1.out, bN_, bD_, bA_]) hb)
        have n1_ := AK_ (blk_below (by apply_rules [K2.out, bN_, bD_, bA_]) hb)
        have n2_ := AK_ (blk_below (by apply_rules [K3.out, bN_, bD_, bA_]) hb)
        have n3_ := AK_ (blk_below (by apply_rules [K4.out, bN_, bD_, bA_]) hb)
        have n4_ := AK_ (blk_below (by apply_rules [K5.out, bN_, bD_, bA_]) hb)
        have n5_ := AK_ (below_step (by repeat (first | (with_reducible first | exact HB.out | apply ba_ | apply bn_ | apply bd_ | refine bs_ E1 ?_ | refine bs_ E2 ?_ | refine bs_ E3 ?_ | refine bs_ E4 ?_ | refine bs_ E5 ?_) | exact HB.out)) hb)
        clear K1 K2 K3 K4 K5 HB
        have K1 := n0_
        have K2 := n1_
        have K3 := n2_
        have K4 := n3_
        have K5 := n4_
        have HB := n5_
        clear n0_ n1_ n2_ n3_ n4_ n5_
        (try clear hb)
        (try clear hb2)
        (try clear hk)
        (try clear hi)
        refine hK.out _ _ (hI_ K1 (hI_ K2 (hL_ K3))) (fun hHeld => ?_)
        clear hK K
        refine norm_ (a' := ?_) ?_ ?_
        rotate_left
        ·show Act.put _ (some 32) _ = _
         simp only [Act.put, sa_, sb_, sc_, i64_w, i32_w]
         rfl
        exact norm_ (by simp only [putAll, Act.put, sa_, sb_, sc_] <;> rfl) (hJ2_4_8_9_10_11 (g4, g5) _ ⟨hHeld, (by apply_rules [K1.out, bN_, bD_, bA_]), (by apply_rules [K2.out, bN_, bD_, bA_]), (by apply_rules [K3.out, bN_, bD_, bA_]), (by apply_rules [K4.out, bN_, bD_, bA_]), (by apply_rules [K5.out, bN_, bD_, bA_]), G4.out, E4.out, N1_4.out, N4_1.out, N2_4.out, N4_2.out, N3_4.out, N4_3.out, N5_4.out, N4_5.out, G5.out, E5.out, N1_5.out, N5_1.out, N2_5.out, N5_2.out, N3_5.out, N5_3.out, (by repeat (first | (with_reducible first | exact HB.out | apply ba_ | apply bn_ | apply bd_ | refine bs_ E1 ?_ | refine bs_ E2 ?_ | refine bs_ E3 ?_ | refine bs_ E4 ?_ | refine bs_ E5 ?_) | exact HB.out))⟩)
      ·skip
       rintro g5 w57 ⟨hS_, h0_, h1_, h2_, h3_, h4_, h5_, h6_, h7_, h8_, h9_, h10_, h11_, h12_⟩
       have n0_ : Aside0 (w57.heap[g1]? = some (cz_ a0_0 a0_1 a0_2 a0_3 a0_4 a0_5)) := ⟨h0_⟩
       have n1_ : Aside0 (w57.heap[g2]? = some (cz_ a1_0 a1_1 a1_2 a1_3 a1_4 a1_5)) := ⟨h1_⟩
       have n2_ : Aside0 (w57.heap[g3]? = some (cz_ a2_0 a2_1 a2_2 a2_3 a2_4 a2_5)) := ⟨h2_⟩
       have n3_ : Aside0 (w57.heap[g5]? = some (cz_ 0 false 0 0 0 0)) := ⟨h3_⟩
       have n4_ : Aside0 (w.heap.size ≤ g5) := ⟨h4_⟩
       have n5_ : Aside0 (w.heap.size ≤ g5) := ⟨h5_⟩
       have n6_ : Aside0 (g1 ≠ g5) := ⟨h6_⟩
       have n7_ : Aside0 (g5 ≠ g1) := ⟨h7_⟩
       have n8_ : Aside0 (g2 ≠ g5) := ⟨h8_⟩
       have n9_ : Aside0 (g5 ≠ g2) := ⟨h9_⟩
       have n10_ : Aside0 (g3 ≠ g5) := ⟨h10_⟩
       have n11_ : Aside0 (g5 ≠ g3) := ⟨h11_⟩
       have n12_ : Aside0 (Below w.heap.size w w57) := ⟨h12_⟩
       clear K1 K2 K3 HB h0_ h1_ h2_ h3_ h4_ h5_ h6_ h7_ h8_ h9_ h10_ h11_ h12_
       have K1 := n0_
       have K2 := n1_
       have K3 := n2_
       have K5 := n3_
       have G5 := n4_
       have E5 := n5_
       have N1_5 := n6_
       have N5_1 := n7_
       have N2_5 := n8_
       have N5_2 := n9_
       have N3_5 := n10_
       have N5_3 := n11_
       have HB := n12_
       clear n0_ n1_ n2_ n3_ n4_ n5_ n6_ n7_ n8_ n9_ n10_ n11_ n12_
       have hHeld : hk_ w57 g1 a0_0 a0_1 a0_2 a0_3 a0_4 a0_5 (hk_ w57 g2 a1_0 a1_1 a1_2 a1_3 a1_4 a1_5 (hc_ w57 g3 a2_0 a2_1 a2_2 a2_3 a2_4 a2_5)) := hS_
       refine norm_ (a' := ?_) ?_ ?_
       rotate_left
       ·simp only [putAll, Act.put, sa_, sb_, sc_]
        rfl
       refine one_ (i := 10) (N := some 7) #[T,T,T,T,T,T,T,T,T,T,T,T,F,F] rfl rfl (one_of HT_.out (by kernel_rfl)) (by decide) (fun K hK => ?_)
       refine box_step ?hg (N := 7) ?hd (cs := #[.int .u64 0, .bool false, .int .i64 0, .int .u64 0, .int .i64 0, .int .i64 0]) (t := 26) ?hr ?_; (case hd => rfl); (case hg => rfl); (case hr => first | (go_simp; done) | (go_simp; rfl))
       intro g4 hg w58 hbox hb
       have n0_ := AK_ (blk_below (by apply_rules [K1.out, bN_, bD_, bA_]) hb)
       have n1_ := AK_ (blk_below (by apply_rules [K2.out, bN_, bD_, bA_]) hb)
       have n2_ := AK_ (blk_below (by apply_rules [K3.out, bN_, bD_, bA_]) hb)
       have n3_ := AK_ (blk_below (by apply_rules [K5.out, bN_, bD_, bA_]) hb)
       have n4_ := AK_ (below_step (by repeat (first | (with_reducible first | exact HB.out | apply ba_ | apply bn_ | apply bd_ | refine bs_ E1 ?_ | refine bs_ E2 ?_ | refine bs_ E3 ?_ | refine bs_ E5 ?_) | exact HB.out)) hb)
       have n5_ := AK_ (hbox)
       have n6_ := AK_ ((by rw [hg]; exact (below_size (by repeat (first | (with_reducible first | exact HB.out | apply ba_ | apply bn_ | apply bd_ | refine bs_ E1 ?_ | refine bs_ E2 ?_ | refine bs_ E3 ?_ | refine bs_ E5 ?_) | exact HB.out))) : w.heap.size ≤ g4))
       have n7_ := n6_
       have n8_ := AK_ ((by rw [hg]; exact Nat.ne_of_lt (blk_lt (g := g1) (o := cz_ a0_0 a0_1 a0_2 a0_3 a0_4 a0_5) (by apply_rules [K1.out, bN_, bD_, bA_])) : g1 ≠ g4))
       have n9_ := sy_ n8_
       have n10_ := AK_ ((by rw [hg]; exact Nat.ne_of_lt (blk_lt (g := g2) (o := cz_ a1_0 a1_1 a1_2 a1_3 a1_4 a1_5) (by apply_rules [K2.out, bN_, bD_, bA_])) : g2 ≠ g4))
       have n11_ := sy_ n10_
       have n12_ := AK_ ((by rw [hg]; exact Nat.ne_of_lt (blk_lt (g := g3) (o := cz_ a2_0 a2_1 a2_2 a2_3 a2_4 a2_5) (by apply_rules [K3.out, bN_, bD_, bA_])) : g3 ≠ g4))
       have n13_ := sy_ n12_
       have n14_ := AK_ ((by rw [hg]; exact Nat.ne_of_lt (blk_lt (g := g5) (o := cz_ 0 false 0 0 0 0) (by apply_rules [K5.out, bN_, bD_, bA_])) : g5 ≠ g4))
       have n15_ := sy_ n14_
       clear K1 K2 K3 K5 HB
       have K1 := n0_
       have K2 := n1_
       have K3 := n2_
       have K5 := n3_
       have HB := n4_
       have K4 := n5_
       have G4 := n6_
       have E4 := n7_
       have N1_4 := n8_
       have N4_1 := n9_
       have N2_4 := n10_
       have N4_2 := n11_
       have N3_4 := n12_
       have N4_3 := n13_
       have N5_4 := n14_
       have N4_5 := n15_
       clear n0_ n1_ n2_ n3_ n4_ n5_ n6_ n7_ n8_ n9_ n10_ n11_ n12_ n13_ n14_ n15_
       clear hb hbox hg
       refine hK.out _ _ (hI_ K1 (hI_ K2 (hL_ K3))) (fun hHeld => ?_)
       clear hK K
       refine norm_ (a' := ?_) ?_ ?_
       rotate_left
       ·show Act.put _ (some 7) _ = _
        simp only [Act.put, sa_, sb_, sc_, i64_w, i32_w]
        rfl
       exact norm_ (by simp only [putAll, Act.put, sa_, sb_, sc_] <;> rfl) (hJ2_4_8_9_10_11 (g4, g5) _ ⟨hHeld, (by apply_rules [K1.out, bN_, bD_, bA_]), (by apply_rules [K2.out, bN_, bD_, bA_]), (by apply_rules [K3.out, bN_, bD_, bA_]), (by apply_rules [K4.out, bN_, bD_, bA_]), (by apply_rules [K5.out, bN_, bD_, bA_]), G4.out, E4.out, N1_4.out, N4_1.out, N2_4.out, N4_2.out, N3_4.out, N4_3.out, N5_4.out, N4_5.out, G5.out, E5.out, N1_5.out, N5_1.out, N2_5.out, N5_2.out, N3_5.out, N5_3.out, (by repeat (first | (with_reducible first | exact HB.out | apply ba_ | apply bn_ | apply bd_ | refine bs_ E1 ?_ | refine bs_ E2 ?_ | refine bs_ E3 ?_ | refine bs_ E5 ?_ | refine bs_ E4 ?_) | exact HB.out))⟩)
     ·skip
      rintro g4 w57 ⟨hS_, h0_, h1_, h2_, h3_, h4_, h5_, h6_, h7_, h8_, h9_, h10_, h11_, h12_⟩
      have n0_ : Aside0 (w57.heap[g1]? = some (cz_ a0_0 a0_1 a0_2 a0_3 a0_4 a0_5)) := ⟨h0_⟩
      have n1_ : Aside0 (w57.heap[g2]? = some (cz_ a1_0 a1_1 a1_2 a1_3 a1_4 a1_5)) := ⟨h1_⟩
      have n2_ : Aside0 (w57.heap[g3]? = some (cz_ a2_0 a2_1 a2_2 a2_3 a2_4 a2_5)) := ⟨h2_⟩
      have n3_ : Aside0 (w57.heap[g4]? = some (cz_ 0 false 0 0 0 0)) := ⟨h3_⟩
      have n4_ : Aside0 (w.heap.size ≤ g4) := ⟨h4_⟩
      have n5_ : Aside0 (w.heap.size ≤ g4) := ⟨h5_⟩
      have n6_ : Aside0 (g1 ≠ g4) := ⟨h6_⟩
      have n7_ : Aside0 (g4 ≠ g1) := ⟨h7_⟩
      have n8_ : Aside0 (g2 ≠ g4) := ⟨h8_⟩
      have n9_ : Aside0 (g4 ≠ g2) := ⟨h9_⟩
      have n10_ : Aside0 (g3 ≠ g4) := ⟨h10_⟩
      have n11_ : Aside0 (g4 ≠ g3) := ⟨h11_⟩
      have n12_ : Aside0 (Below w.heap.size w w57) := ⟨h12_⟩
      clear K1 K2 K3 HB h0_ h1_ h2_ h3_ h4_ h5_ h6_ h7_ h8_ h9_ h10_ h11_ h12_
      have K1 := n0_
      have K2 := n1_
      have K3 := n2_
      have K4 := n3_
      have G4 := n4_
      have E4 := n5_
      have N1_4 := n6_
      have N4_1 := n7_
      have N2_4 := n8_
      have N4_2 := n9_
      have N3_4 := n10_
      have N4_3 := n11_
      have HB := n12_
      clear n0_ n1_ n2_ n3_ n4_ n5_ n6_ n7_ n8_ n9_ n10_ n11_ n12_
      have hHeld : hk_ w57 g1 a0_0 a0_1 a0_2 a0_3 a0_4 a0_5 (hk_ w57 g2 a1_0 a1_1 a1_2 a1_3 a1_4 a1_5 (hc_ w57 g3 a2_0 a2_1 a2_2 a2_3 a2_4 a2_5)) := hS_
      refine norm_ (a' := ?_) ?_ ?_
      rotate_left
      ·simp only [putAll, Act.put, sa_, sb_, sc_]
       rfl
      refine one_ (i := 11) (N := some 8) #[T,T,T,T,T,T,T,T,T,T,T,T,F,F] rfl rfl (one_of HT_.out (by kernel_rfl)) (by decide) (fun K hK => ?_)
      refine box_step ?hg (N := 8) ?hd (cs := #[.int .u64 0, .bool false, .int .i64 0, .int .u64 0, .int .i64 0, .int .i64 0]) (t := 26) ?hr ?_; (case hd => rfl); (case hg => rfl); (case hr => first | (go_simp; done) | (go_simp; rfl))
      intro g5 hg w58 hbox hb
      have n0_ := AK_ (blk_below (by apply_rules [K1.out, bN_, bD_, bA_]) hb)
      have n1_ := AK_ (blk_below (by apply_rules [K2.out, bN_, bD_, bA_]) hb)
      have n2_ := AK_ (blk_below (by apply_rules [K3.out, bN_, bD_, bA_]) hb)
      have n3_ := AK_ (blk_below (by apply_rules [K4.out, bN_, bD_, bA_]) hb)
      have n4_ := AK_ (below_step (by repeat (first | (with_reducible first | exact HB.out | apply ba_ | apply bn_ | apply bd_ | refine bs_ E1 ?_ | refine bs_ E2 ?_ | refine bs_ E3 ?_ | refine bs_ E4 ?_) | exact HB.out)) hb)
      have n5_ := AK_ (hbox)
      have n6_ := AK_ ((by rw [hg]; exact (below_size (by repeat (first | (with_reducible first | exact HB.out | apply ba_ | apply bn_ | apply bd_ | refine bs_ E1 ?_ | refine bs_ E2 ?_ | refine bs_ E3 ?_ | refine bs_ E4 ?_) | exact HB.out))) : w.heap.size ≤ g5))
      have n7_ := n6_
      have n8_ := AK_ ((by rw [hg]; exact Nat.ne_of_lt (blk_lt (g := g1) (o := cz_ a0_0 a0_1 a0_2 a0_3 a0_4 a0_5) (by apply_rules [K1.out, bN_, bD_, bA_])) : g1 ≠ g5))
      have n9_ := sy_ n8_
      have n10_ := AK_ ((by rw [hg]; exact Nat.ne_of_lt (blk_lt (g := g2) (o := cz_ a1_0 a1_1 a1_2 a1_3 a1_4 a1_5) (by apply_rules [K2.out, bN_, bD_, bA_])) : g2 ≠ g5))
      have n11_ := sy_ n10_
      have n12_ := AK_ ((by rw [hg]; exact Nat.ne_of_lt (blk_lt (g := g3) (o := cz_ a2_0 a2_1 a2_2 a2_3 a2_4 a2_5) (by apply_rules [K3.out, bN_, bD_, bA_])) : g3 ≠ g5))
      have n13_ := sy_ n12_
      have n14_ := AK_ ((by rw [hg]; exact Nat.ne_of_lt (blk_lt (g := g4) (o := cz_ 0 false 0 0 0 0) (by apply_rules [K4.out, bN_, bD_, bA_])) : g4 ≠ g5))
      have n15_ := sy_ n14_
      clear K1 K2 K3 K4 HB
      have K1 := n0_
      have K2 := n1_
      have K3 := n2_
      have K4 := n3_
      have HB := n4_
      have K5 := n5_
      have G5 := n6_
      have E5 := n7_
      have N1_5 := n8_
      have N5_1 := n9_
      have N2_5 := n10_
      have N5_2 := n11_
      have N3_5 := n12_
      have N5_3 := n13_
      have N4_5 := n14_
      have N5_4 := n15_
      clear n0_ n1_ n2_ n3_ n4_ n5_ n6_ n7_ n8_ n9_ n10_ n11_ n12_ n13_ n14_ n15_
      clear hb hbox hg
      refine hK.out _ _ (hI_ K1 (hI_ K2 (hL_ K3))) (fun hHeld => ?_)
      clear hK K
      refine norm_ (a' := ?_) ?_ ?_
      rotate_left
      ·show Act.put _ (some 8) _ = _
       simp only [Act.put, sa_, sb_, sc_, i64_w, i32_w]
       rfl
      exact norm_ (by simp only [putAll, Act.put, sa_, sb_, sc_] <;> rfl) (hJ2_4_8_9_10_11 (g4, g5) _ ⟨hHeld, (by apply_rules [K1.out, bN_, bD_, bA_]), (by apply_rules [K2.out, bN_, bD_, bA_]), (by apply_rules [K3.out, bN_, bD_, bA_]), (by apply_rules [K4.out, bN_, bD_, bA_]), (by apply_rules [K5.out, bN_, bD_, bA_]), G4.out, E4.out, N1_4.out, N4_1.out, N2_4.out, N4_2.out, N3_4.out, N4_3.out, N5_4.out, N4_5.out, G5.out, E5.out, N1_5.out, N5_1.out, N2_5.out, N5_2.out, N3_5.out, N5_3.out, (by repeat (first | (with_reducible first | exact HB.out | apply ba_ | apply bn_ | apply bd_ | refine bs_ E1 ?_ | refine bs_ E2 ?_ | refine bs_ E3 ?_ | refine bs_ E4 ?_ | refine bs_ E5 ?_) | exact HB.out))⟩)
    rintro ⟨g4, g5⟩ w58 ⟨hS_, h0_, h1_, h2_, h3_, h4_, h5_, h6_, h7_, h8_, h9_, h10_, h11_, h12_, h13_, h14_, h15_, h16_, h17_, h18_, h19_, h20_, h21_, h22_, h23_⟩
    have n0_ : Aside0 (w58.heap[g1]? = some (cz_ a0_0 a0_1 a0_2 a0_3 a0_4 a0_5)) := ⟨h0_⟩
    have n1_ : Aside0 (w58.heap[g2]? = some (cz_ a1_0 a1_1 a1_2 a1_3 a1_4 a1_5)) := ⟨h1_⟩
    have n2_ : Aside0 (w58.heap[g3]? = some (cz_ a2_0 a2_1 a2_2 a2_3 a2_4 a2_5)) := ⟨h2_⟩
    have n3_ : Aside0 (w58.heap[g4]? = some (cz_ 0 false 0 0 0 0)) := ⟨h3_⟩
    have n4_ : Aside0 (w58.heap[g5]? = some (cz_ 0 false 0 0 0 0)) := ⟨h4_⟩
    have n5_ : Aside0 (w.heap.size ≤ g4) := ⟨h5_⟩
    have n6_ : Aside0 (w.heap.size ≤ g4) := ⟨h6_⟩
    have n7_ : Aside0 (g1 ≠ g4) := ⟨h7_⟩
    have n8_ : Aside0 (g4 ≠ g1) := ⟨h8_⟩
    have n9_ : Aside0 (g2 ≠ g4) := ⟨h9_⟩
    have n10_ : Aside0 (g4 ≠ g2) := ⟨h10_⟩
    have n11_ : Aside0 (g3 ≠ g4) := ⟨h11_⟩
    have n12_ : Aside0 (g4 ≠ g3) := ⟨h12_⟩
    have n13_ : Aside0 (g5 ≠ g4) := ⟨h13_⟩
    have n14_ : Aside0 (g4 ≠ g5) := ⟨h14_⟩
    have n15_ : Aside0 (w.heap.size ≤ g5) := ⟨h15_⟩
    have n16_ : Aside0 (w.heap.size ≤ g5) := ⟨h16_⟩
    have n17_ : Aside0 (g1 ≠ g5) := ⟨h17_⟩
    have n18_ : Aside0 (g5 ≠ g1) := ⟨h18_⟩
    have n19_ : Aside0 (g2 ≠ g5) := ⟨h19_⟩
    have n20_ : Aside0 (g5 ≠ g2) := ⟨h20_⟩
    have n21_ : Aside0 (g3 ≠ g5) := ⟨h21_⟩
    have n22_ : Aside0 (g5 ≠ g3) := ⟨h22_⟩
    have n23_ : Aside0 (Below w.heap.size w w58) := ⟨h23_⟩
    clear K1 K2 K3 HB h0_ h1_ h2_ h3_ h4_ h5_ h6_ h7_ h8_ h9_ h10_ h11_ h12_ h13_ h14_ h15_ h16_ h17_ h18_ h19_ h20_ h21_ h22_ h23_
    have K1 := n0_
    have K2 := n1_
    have K3 := n2_
    have K4 := n3_
    have K5 := n4_
    have G4 := n5_
    have E4 := n6_
    have N1_4 := n7_
    have N4_1 := n8_
    have N2_4 := n9_
    have N4_2 := n10_
    have N3_4 := n11_
    have N4_3 := n12_
    have N5_4 := n13_
    have N4_5 := n14_
    have G5 := n15_
    have E5 := n16_
    have N1_5 := n17_
    have N5_1 := n18_
    have N2_5 := n19_
    have N5_2 := n20_
    have N3_5 := n21_
    have N5_3 := n22_
    have HB := n23_
    clear n0_ n1_ n2_ n3_ n4_ n5_ n6_ n7_ n8_ n9_ n10_ n11_ n12_ n13_ n14_ n15_ n16_ n17_ n18_ n19_ n20_ n21_ n22_ n23_
    have hHeld : hk_ w58 g1 a0_0 a0_1 a0_2 a0_3 a0_4 a0_5 (hk_ w58 g2 a1_0 a1_1 a1_2 a1_3 a1_4 a1_5 (hc_ w58 g3 a2_0 a2_1 a2_2 a2_3 a2_4 a2_5)) := hS_
    refine norm_ (a' := ?_) ?_ ?_
    rotate_left
    ·simp only [putAll, Act.put, sa_, sb_, sc_]
     rfl
    refine one_ (i := 12) (N := none) #[T,T,T,T,T,T,T,T,T,T,T,T,T,F] rfl rfl (one_of HT_.out (by kernel_rfl)) (by decide) (fun K hK => ?_)
    have hs59 : w58.cell? ⟨g4, 0, none⟩ = some (.int .u64 0) := (blk_cell K4.out 0).trans rfl
    have hfs59 := blk_frozen K4.out 0
    have hns59_0 := N1_4.out
    have hns59_1 := N2_4.out
    have hns59_2 := N3_4.out
    have hns59_4 := N5_4.out
    have hms59_0 := N4_1.out
    have hms59_1 := N4_2.out
    have hms59_2 := N4_3.out
    have hms59_4 := N4_5.out
    have hs60 : w58.cell? ⟨g4, 1, none⟩ = some (.bool false) := (blk_cell K4.out 1).trans rfl
    have hfs60 := blk_frozen K4.out 1
    have hns60_0 := N1_4.out
    have hns60_1 := N2_4.out
    have hns60_2 := N3_4.out
    have hns60_4 := N5_4.out
    have hms60_0 := N4_1.out
    have hms60_1 := N4_2.out
    have hms60_2 := N4_3.out
    have hms60_4 := N4_5.out
    have hs61 : w58.cell? ⟨g4, 2, none⟩ = some (.int .i64 0) := (blk_cell K4.out 2).trans rfl
    have hfs61 := blk_frozen K4.out 2
    have hns61_0 := N1_4.out
    have hns61_1 := N2_4.out
    have hns61_2 := N3_4.out
    have hns61_4 := N5_4.out
    have hms61_0 := N4_1.out
    have hms61_1 := N4_2.out
    have hms61_2 := N4_3.out
    have hms61_4 := N4_5.out
    have hs62 : w58.cell? ⟨g4, 3, none⟩ = some (.int .u64 0) := (blk_cell K4.out 3).trans rfl
    have hfs62 := blk_frozen K4.out 3
    have hns62_0 := N1_4.out
    have hns62_1 := N2_4.out
    have hns62_2 := N3_4.out
    have hns62_4 := N5_4.out
    have hms62_0 := N4_1.out
    have hms62_1 := N4_2.out
    have hms62_2 := N4_3.out
    have hms62_4 := N4_5.out
    have hs63 : w58.cell? ⟨g4, 4, none⟩ = some (.int .i64 0) := (blk_cell K4.out 4).trans rfl
    have hfs63 := blk_frozen K4.out 4
    have hns63_0 := N1_4.out
    have hns63_1 := N2_4.out
    have hns63_2 := N3_4.out
    have hns63_4 := N5_4.out
    have hms63_0 := N4_1.out
    have hms63_1 := N4_2.out
    have hms63_2 := N4_3.out
    have hms63_4 := N4_5.out
    have hs64 : w58.cell? ⟨g4, 5, none⟩ = some (.int .i64 0) := (blk_cell K4.out 5).trans rfl
    have hfs64 := blk_frozen K4.out 5
    have hns64_0 := N1_4.out
    have hns64_1 := N2_4.out
    have hns64_2 := N3_4.out
    have hns64_4 := N5_4.out
    have hms64_0 := N4_1.out
    have hms64_1 := N4_2.out
    have hms64_2 := N4_3.out
    have hms64_4 := N4_5.out
    refine skip_ (w1 := ?_) (by rfl) rfl ?_ ?_
    rotate_left
    ·go_simp
     rfl
    refine hK.out _ _ ⟨(cf_ N1_4 ((cf_ N1_4 ((cf_ N1_4 ((cf_ N1_4 ((cf_ N1_4 ((cf_ N1_4 (hHeld.1)))))))))))), (cf_ N1_4 ((cf_ N1_4 ((cf_ N1_4 ((cf_ N1_4 ((cf_ N1_4 ((cf_ N1_4 (hHeld.2.1)))))))))))), (cf_ N1_4 ((cf_ N1_4 ((cf_ N1_4 ((cf_ N1_4 ((cf_ N1_4 ((cf_ N1_4 (hHeld.2.2.1)))))))))))), (cf_ N1_4 ((cf_ N1_4 ((cf_ N1_4 ((cf_ N1_4 ((cf_ N1_4 ((cf_ N1_4 (hHeld.2.2.2.1)))))))))))), (cf_ N1_4 ((cf_ N1_4 ((cf_ N1_4 ((cf_ N1_4 ((cf_ N1_4 ((cf_ N1_4 (hHeld.2.2.2.2.1)))))))))))), (cf_ N1_4 ((cf_ N1_4 ((cf_ N1_4 ((cf_ N1_4 ((cf_ N1_4 ((cf_ N1_4 (hHeld.2.2.2.2.2.1)))))))))))), (cf_ N2_4 ((cf_ N2_4 ((cf_ N2_4 ((cf_ N2_4 ((cf_ N2_4 ((cf_ N2_4 (hHeld.2.2.2.2.2.2.1)))))))))))), (cf_ N2_4 ((cf_ N2_4 ((cf_ N2_4 ((cf_ N2_4 ((cf_ N2_4 ((cf_ N2_4 (hHeld.2.2.2.2.2.2.2.1)))))))))))), (cf_ N2_4 ((cf_ N2_4 ((cf_ N2_4 ((cf_ N2_4 ((cf_ N2_4 ((cf_ N2_4 (hHeld.2.2.2.2.2.2.2.2.1)))))))))))), (cf_ N2_4 ((cf_ N2_4 ((cf_ N2_4 ((cf_ N2_4 ((cf_ N2_4 ((cf_ N2_4 (hHeld.2.2.2.2.2.2.2.2.2.1)))))))))))), (cf_ N2_4 ((cf_ N2_4 ((cf_ N2_4 ((cf_ N2_4 ((cf_ N2_4 ((cf_ N2_4 (hHeld.2.2.2.2.2.2.2.2.2.2.1)))))))))))), (cf_ N2_4 ((cf_ N2_4 ((cf_ N2_4 ((cf_ N2_4 ((cf_ N2_4 ((cf_ N2_4 (hHeld.2.2.2.2.2.2.2.2.2.2.2.1)))))))))))), (cf_ N3_4 ((cf_ N3_4 ((cf_ N3_4 ((cf_ N3_4 ((cf_ N3_4 ((cf_ N3_4 (hHeld.2.2.2.2.2.2.2.2.2.2.2.2.1)))))))))))), (cf_ N3_4 ((cf_ N3_4 ((cf_ N3_4 ((cf_ N3_4 ((cf_ N3_4 ((cf_ N3_4 (hHeld.2.2.2.2.2.2.2.2.2.2.2.2.2.1)))))))))))), (cf_ N3_4 ((cf_ N3_4 ((cf_ N3_4 ((cf_ N3_4 ((cf_ N3_4 ((cf_ N3_4 (hHeld.2.2.2.2.2.2.2.2.2.2.2.2.2.2.1)))))))))))), (cf_ N3_4 ((cf_ N3_4 ((cf_ N3_4 ((cf_ N3_4 ((cf_ N3_4 ((cf_ N3_4 (hHeld.2.2.2.2.2.2.2.2.2.2.2.2.2.2.2.1)))))))))))), (cf_ N3_4 ((cf_ N3_4 ((cf_ N3_4 ((cf_ N3_4 ((cf_ N3_4 ((cf_ N3_4 (hHeld.2.2.2.2.2.2.2.2.2.2.2.2.2.2.2.2.1)))))))))))), (cf_ N3_4 ((cf_ N3_4 ((cf_ N3_4 ((cf_ N3_4 ((cf_ N3_4 ((cf_ N3_4 (hHeld.2.2.2.2.2.2.2.2.2.2.2.2.2.2.2.2.2))))))))))))⟩ (fun hHeld => ?_)
    clear hK K
    refine one_ (i := 13) (N := none) #[T,T,T,T,T,T,T,T,T,T,T,T,T,T] rfl rfl (one_of HT_.out (by kernel_rfl)) (by decide) (fun K hK => ?_)
    have hs65 : w58.cell? ⟨g5, 0, none⟩ = some (.int .u64 0) := (blk_cell K5.out 0).trans rfl
    have hfs65 := blk_frozen K5.out 0
    have hns65_0 := N1_5.out
    have hns65_1 := N2_5.out
    have hns65_2 := N3_5.out
    have hns65_3 := N4_5.out
    have hms65_0 := N5_1.out
    have hms65_1 := N5_2.out
    have hms65_2 := N5_3.out
    have hms65_3 := N5_4.out
    have hs66 : w58.cell? ⟨g5, 1, none⟩ = some (.bool false) := (blk_cell K5.out 1).trans rfl
    have hfs66 := blk_frozen K5.out 1
    have hns66_0 := N1_5.out
    have hns66_1 := N2_5.out
    have hns66_2 := N3_5.out
    have hns66_3 := N4_5.out
    have hms66_0 := N5_1.out
    have hms66_1 := N5_2.out
    have hms66_2 := N5_3.out
    have hms66_3 := N5_4.out
    have hs67 : w58.cell? ⟨g5, 2, none⟩ = some (.int .i64 0) := (blk_cell K5.out 2).trans rfl
    have hfs67 := blk_frozen K5.out 2
    have hns67_0 := N1_5.out
    have hns67_1 := N2_5.out
    have hns67_2 := N3_5.out
    have hns67_3 := N4_5.out
    have hms67_0 := N5_1.out
    have hms67_1 := N5_2.out
    have hms67_2 := N5_3.out
    have hms67_3 := N5_4.out
    have hs68 : w58.cell? ⟨g5, 3, none⟩ = some (.int .u64 0) := (blk_cell K5.out 3).trans rfl
    have hfs68 := blk_frozen K5.out 3
    have hns68_0 := N1_5.out
    have hns68_1 := N2_5.out
    have hns68_2 := N3_5.out
    have hns68_3 := N4_5.out
    have hms68_0 := N5_1.out
    have hms68_1 := N5_2.out
    have hms68_2 := N5_3.out
    have hms68_3 := N5_4.out
    have hs69 : w58.cell? ⟨g5, 4, none⟩ = some (.int .i64 0) := (blk_cell K5.out 4).trans rfl
    have hfs69 := blk_frozen K5.out 4
    have hns69_0 := N1_5.out
    have hns69_1 := N2_5.out
    have hns69_2 := N3_5.out
    have hns69_3 := N4_5.out
    have hms69_0 := N5_1.out
    have hms69_1 := N5_2.out
    have hms69_2 := N5_3.out
    have hms69_3 := N5_4.out
    have hs70 : w58.cell? ⟨g5, 5, none⟩ = some (.int .i64 0) := (blk_cell K5.out 5).trans rfl
    have hfs70 := blk_frozen K5.out 5
    have hns70_0 := N1_5.out
    have hns70_1 := N2_5.out
    have hns70_2 := N3_5.out
    have hns70_3 := N4_5.out
    have hms70_0 := N5_1.out
    have hms70_1 := N5_2.out
    have hms70_2 := N5_3.out
    have hms70_3 := N5_4.out
    refine skip_ (w1 := ?_) (by rfl) rfl ?_ ?_
    rotate_left
    ·go_simp
     rfl
    refine hK.out _ _ ⟨(cf_ N1_5 ((cf_ N1_5 ((cf_ N1_5 ((cf_ N1_5 ((cf_ N1_5 ((cf_ N1_5 (hHeld.1)))))))))))), (cf_ N1_5 ((cf_ N1_5 ((cf_ N1_5 ((cf_ N1_5 ((cf_ N1_5 ((cf_ N1_5 (hHeld.2.1)))))))))))), (cf_ N1_5 ((cf_ N1_5 ((cf_ N1_5 ((cf_ N1_5 ((cf_ N1_5 ((cf_ N1_5 (hHeld.2.2.1)))))))))))), (cf_ N1_5 ((cf_ N1_5 ((cf_ N1_5 ((cf_ N1_5 ((cf_ N1_5 ((cf_ N1_5 (hHeld.2.2.2.1)))))))))))), (cf_ N1_5 ((cf_ N1_5 ((cf_ N1_5 ((cf_ N1_5 ((cf_ N1_5 ((cf_ N1_5 (hHeld.2.2.2.2.1)))))))))))), (cf_ N1_5 ((cf_ N1_5 ((cf_ N1_5 ((cf_ N1_5 ((cf_ N1_5 ((cf_ N1_5 (hHeld.2.2.2.2.2.1)))))))))))), (cf_ N2_5 ((cf_ N2_5 ((cf_ N2_5 ((cf_ N2_5 ((cf_ N2_5 ((cf_ N2_5 (hHeld.2.2.2.2.2.2.1)))))))))))), (cf_ N2_5 ((cf_ N2_5 ((cf_ N2_5 ((cf_ N2_5 ((cf_ N2_5 ((cf_ N2_5 (hHeld.2.2.2.2.2.2.2.1)))))))))))), (cf_ N2_5 ((cf_ N2_5 ((cf_ N2_5 ((cf_ N2_5 ((cf_ N2_5 ((cf_ N2_5 (hHeld.2.2.2.2.2.2.2.2.1)))))))))))), (cf_ N2_5 ((cf_ N2_5 ((cf_ N2_5 ((cf_ N2_5 ((cf_ N2_5 ((cf_ N2_5 (hHeld.2.2.2.2.2.2.2.2.2.1)))))))))))), (cf_ N2_5 ((cf_ N2_5 ((cf_ N2_5 ((cf_ N2_5 ((cf_ N2_5 ((cf_ N2_5 (hHeld.2.2.2.2.2.2.2.2.2.2.1)))))))))))), (cf_ N2_5 ((cf_ N2_5 ((cf_ N2_5 ((cf_ N2_5 ((cf_ N2_5 ((cf_ N2_5 (hHeld.2.2.2.2.2.2.2.2.2.2.2.1)))))))))))), (cf_ N3_5 ((cf_ N3_5 ((cf_ N3_5 ((cf_ N3_5 ((cf_ N3_5 ((cf_ N3_5 (hHeld.2.2.2.2.2.2.2.2.2.2.2.2.1)))))))))))), (cf_ N3_5 ((cf_ N3_5 ((cf_ N3_5 ((cf_ N3_5 ((cf_ N3_5 ((cf_ N3_5 (hHeld.2.2.2.2.2.2.2.2.2.2.2.2.2.1)))))))))))), (cf_ N3_5 ((cf_ N3_5 ((cf_ N3_5 ((cf_ N3_5 ((cf_ N3_5 ((cf_ N3_5 (hHeld.2.2.2.2.2.2.2.2.2.2.2.2.2.2.1)))))))))))), (cf_ N3_5 ((cf_ N3_5 ((cf_ N3_5 ((cf_ N3_5 ((cf_ N3_5 ((cf_ N3_5 (hHeld.2.2.2.2.2.2.2.2.2.2.2.2.2.2.2.1)))))))))))), (cf_ N3_5 ((cf_ N3_5 ((cf_ N3_5 ((cf_ N3_5 ((cf_ N3_5 ((cf_ N3_5 (hHeld.2.2.2.2.2.2.2.2.2.2.2.2.2.2.2.2.1)))))))))))), (cf_ N3_5 ((cf_ N3_5 ((cf_ N3_5 ((cf_ N3_5 ((cf_ N3_5 ((cf_ N3_5 (hHeld.2.2.2.2.2.2.2.2.2.2.2.2.2.2.2.2.2))))))))))))⟩ (fun hHeld => ?_)
    clear hK K
    refine done_ (done_of HT_.out (by kernel_rfl)) ?_
    try go_wp2
    have n0_ : Aside0 (((((((((((((w58.setCell ⟨g4, 0, none⟩ (.int .u64 t174)).setCell ⟨g4, 1, none⟩ (.bool t175)).setCell ⟨g4, 2, none⟩ (.int .i64 t176)).setCell ⟨g4, 3, none⟩ (.int .u64 t177)).setCell ⟨g4, 4, none⟩ (.int .i64 t178)).setCell ⟨g4, 5, none⟩ (.int .i64 t179)).setCell ⟨g5, 0, none⟩ (.int .u64 t186)).setCell ⟨g5, 1, none⟩ (.bool t187)).setCell ⟨g5, 2, none⟩ (.int .i64 t188)).setCell ⟨g5, 3, none⟩ (.int .u64 t189)).setCell ⟨g5, 4, none⟩ (.int .i64 t190)).setCell ⟨g5, 5, none⟩ (.int .i64 t191)).heap[g1]? = some (cz_ a0_0 a0_1 a0_2 a0_3 a0_4 a0_5)) := ⟨by (with_reducible repeat (first | refine blk_drewN ?_ _ | refine blk_drew ?_ | refine blk_alloc ?_ _)); refine blk_far ?_ N1_5.out _; (with_reducible repeat (first | refine blk_drewN ?_ _ | refine blk_drew ?_ | refine blk_alloc ?_ _)); refine blk_far ?_ N1_5.out _; (with_reducible repeat (first | refine blk_drewN ?_ _ | refine blk_drew ?_ | refine blk_alloc ?_ _)); refine blk_far ?_ N1_5.out _; (with_reducible repeat (first | refine blk_drewN ?_ _ | refine blk_drew ?_ | refine blk_alloc ?_ _)); refine blk_far ?_ N1_5.out _; (with_reducible repeat (first | refine blk_drewN ?_ _ | refine blk_drew ?_ | refine blk_alloc ?_ _)); refine blk_far ?_ N1_5.out _; (with_reducible repeat (first | refine blk_drewN ?_ _ | refine blk_drew ?_ | refine blk_alloc ?_ _)); refine blk_far ?_ N1_5.out _; (with_reducible repeat (first | refine blk_drewN ?_ _ | refine blk_drew ?_ | refine blk_alloc ?_ _)); refine blk_far ?_ N1_4.out _; (with_reducible repeat (first | refine blk_drewN ?_ _ | refine blk_drew ?_ | refine blk_alloc ?_ _)); refine blk_far ?_ N1_4.out _; (with_reducible repeat (first | refine blk_drewN ?_ _ | refine blk_drew ?_ | refine blk_alloc ?_ _)); refine blk_far ?_ N1_4.out _; (with_reducible repeat (first | refine blk_drewN ?_ _ | refine blk_drew ?_ | refine blk_alloc ?_ _)); refine blk_far ?_ N1_4.out _; (with_reducible repeat (first | refine blk_drewN ?_ _ | refine blk_drew ?_ | refine blk_alloc ?_ _)); refine blk_far ?_ N1_4.out _; (with_reducible repeat (first | refine blk_drewN ?_ _ | refine blk_drew ?_ | refine blk_alloc ?_ _)); refine blk_far ?_ N1_4.out _; (with_reducible repeat (first | refine blk_drewN ?_ _ | refine blk_drew ?_ | refine blk_alloc ?_ _)); exact K1.out⟩
    have n1_ : Aside0 (((((((((((((w58.setCell ⟨g4, 0, none⟩ (.int .u64 t174)).setCell ⟨g4, 1, none⟩ (.bool t175)).setCell ⟨g4, 2, none⟩ (.int .i64 t176)).setCell ⟨g4, 3, none⟩ (.int .u64 t177)).setCell ⟨g4, 4, none⟩ (.int .i64 t178)).setCell ⟨g4, 5, none⟩ (.int .i64 t179)).setCell ⟨g5, 0, none⟩ (.int .u64 t186)).setCell ⟨g5, 1, none⟩ (.bool t187)).setCell ⟨g5, 2, none⟩ (.int .i64 t188)).setCell ⟨g5, 3, none⟩ (.int .u64 t189)).setCell ⟨g5, 4, none⟩ (.int .i64 t190)).setCell ⟨g5, 5, none⟩ (.int .i64 t191)).heap[g2]? = some (cz_ a1_0 a1_1 a1_2 a1_3 a1_4 a1_5)) := ⟨by (with_reducible repeat (first | refine blk_drewN ?_ _ | refine blk_drew ?_ | refine blk_alloc ?_ _)); refine blk_far ?_ N2_5.out _; (with_reducible repeat (first | refine blk_drewN ?_ _ | refine blk_drew ?_ | refine blk_alloc ?_ _)); refine blk_far ?_ N2_5.out _; (with_reducible repeat (first | refine blk_drewN ?_ _ | refine blk_drew ?_ | refine blk_alloc ?_ _)); refine blk_far ?_ N2_5.out _; (with_reducible repeat (first | refine blk_drewN ?_ _ | refine blk_drew ?_ | refine blk_alloc ?_ _)); refine blk_far ?_ N2_5.out _; (with_reducible repeat (first | refine blk_drewN ?_ _ | refine blk_drew ?_ | refine blk_alloc ?_ _)); refine blk_far ?_ N2_5.out _; (with_reducible repeat (first | refine blk_drewN ?_ _ | refine blk_drew ?_ | refine blk_alloc ?_ _)); refine blk_far ?_ N2_5.out _; (with_reducible repeat (first | refine blk_drewN ?_ _ | refine blk_drew ?_ | refine blk_alloc ?_ _)); refine blk_far ?_ N2_4.out _; (with_reducible repeat (first | refine blk_drewN ?_ _ | refine blk_drew ?_ | refine blk_alloc ?_ _)); refine blk_far ?_ N2_4.out _; (with_reducible repeat (first | refine blk_drewN ?_ _ | refine blk_drew ?_ | refine blk_alloc ?_ _)); refine blk_far ?_ N2_4.out _; (with_reducible repeat (first | refine blk_drewN ?_ _ | refine blk_drew ?_ | refine blk_alloc ?_ _)); refine blk_far ?_ N2_4.out _; (with_reducible repeat (first | refine blk_drewN ?_ _ | refine blk_drew ?_ | refine blk_alloc ?_ _)); refine blk_far ?_ N2_4.out _; (with_reducible repeat (first | refine blk_drewN ?_ _ | refine blk_drew ?_ | refine blk_alloc ?_ _)); refine blk_far ?_ N2_4.out _; (with_reducible repeat (first | refine blk_drewN ?_ _ | refine blk_drew ?_ | refine blk_alloc ?_ _)); exact K2.out⟩
    have n2_ : Aside0 (((((((((((((w58.setCell ⟨g4, 0, none⟩ (.int .u64 t174)).setCell ⟨g4, 1, none⟩ (.bool t175)).setCell ⟨g4, 2, none⟩ (.int .i64 t176)).setCell ⟨g4, 3, none⟩ (.int .u64 t177)).setCell ⟨g4, 4, none⟩ (.int .i64 t178)).setCell ⟨g4, 5, none⟩ (.int .i64 t179)).setCell ⟨g5, 0, none⟩ (.int .u64 t186)).setCell ⟨g5, 1, none⟩ (.bool t187)).setCell ⟨g5, 2, none⟩ (.int .i64 t188)).setCell ⟨g5, 3, none⟩ (.int .u64 t189)).setCell ⟨g5, 4, none⟩ (.int .i64 t190)).setCell ⟨g5, 5, none⟩ (.int .i64 t191)).heap[g3]? = some (cz_ a2_0 a2_1 a2_2 a2_3 a2_4 a2_5)) := ⟨by (with_reducible repeat (first | refine blk_drewN ?_ _ | refine blk_drew ?_ | refine blk_alloc ?_ _)); refine blk_far ?_ N3_5.out _; (with_reducible repeat (first | refine blk_drewN ?_ _ | refine blk_drew ?_ | refine blk_alloc ?_ _)); refine blk_far ?_ N3_5.out _; (with_reducible repeat (first | refine blk_drewN ?_ _ | refine blk_drew ?_ | refine blk_alloc ?_ _)); refine blk_far ?_ N3_5.out _; (with_reducible repeat (first | refine blk_drewN ?_ _ | refine blk_drew ?_ | refine blk_alloc ?_ _)); refine blk_far ?_ N3_5.out _; (with_reducible repeat (first | refine blk_drewN ?_ _ | refine blk_drew ?_ | refine blk_alloc ?_ _)); refine blk_far ?_ N3_5.out _; (with_reducible repeat (first | refine blk_drewN ?_ _ | refine blk_drew ?_ | refine blk_alloc ?_ _)); refine blk_far ?_ N3_5.out _; (with_reducible repeat (first | refine blk_drewN ?_ _ | refine blk_drew ?_ | refine blk_alloc ?_ _)); refine blk_far ?_ N3_4.out _; (with_reducible repeat (first | refine blk_drewN ?_ _ | refine blk_drew ?_ | refine blk_alloc ?_ _)); refine blk_far ?_ N3_4.out _; (with_reducible repeat (first | refine blk_drewN ?_ _ | refine blk_drew ?_ | refine blk_alloc ?_ _)); refine blk_far ?_ N3_4.out _; (with_reducible repeat (first | refine blk_drewN ?_ _ | refine blk_drew ?_ | refine blk_alloc ?_ _)); refine blk_far ?_ N3_4.out _; (with_reducible repeat (first | refine blk_drewN ?_ _ | refine blk_drew ?_ | refine blk_alloc ?_ _)); refine blk_far ?_ N3_4.out _; (with_reducible repeat (first | refine blk_drewN ?_ _ | refine blk_drew ?_ | refine blk_alloc ?_ _)); refine blk_far ?_ N3_4.out _; (with_reducible repeat (first | refine blk_drewN ?_ _ | refine blk_drew ?_ | refine blk_alloc ?_ _)); exact K3.out⟩
    have n3_ : Aside0 (((((((((((((w58.setCell ⟨g4, 0, none⟩ (.int .u64 t174)).setCell ⟨g4, 1, none⟩ (.bool t175)).setCell ⟨g4, 2, none⟩ (.int .i64 t176)).setCell ⟨g4, 3, none⟩ (.int .u64 t177)).setCell ⟨g4, 4, none⟩ (.int .i64 t178)).setCell ⟨g4, 5, none⟩ (.int .i64 t179)).setCell ⟨g5, 0, none⟩ (.int .u64 t186)).setCell ⟨g5, 1, none⟩ (.bool t187)).setCell ⟨g5, 2, none⟩ (.int .i64 t188)).setCell ⟨g5, 3, none⟩ (.int .u64 t189)).setCell ⟨g5, 4, none⟩ (.int .i64 t190)).setCell ⟨g5, 5, none⟩ (.int .i64 t191)).heap[g4]? = some (cz_ t174 t175 t176 t177 t178 t179)) := ⟨by (with_reducible repeat (first | refine blk_drewN ?_ _ | refine blk_drew ?_ | refine blk_alloc ?_ _)); refine blk_far ?_ N4_5.out _; (with_reducible repeat (first | refine blk_drewN ?_ _ | refine blk_drew ?_ | refine blk_alloc ?_ _)); refine blk_far ?_ N4_5.out _; (with_reducible repeat (first | refine blk_drewN ?_ _ | refine blk_drew ?_ | refine blk_alloc ?_ _)); refine blk_far ?_ N4_5.out _; (with_reducible repeat (first | refine blk_drewN ?_ _ | refine blk_drew ?_ | refine blk_alloc ?_ _)); refine blk_far ?_ N4_5.out _; (with_reducible repeat (first | refine blk_drewN ?_ _ | refine blk_drew ?_ | refine blk_alloc ?_ _)); refine blk_far ?_ N4_5.out _; (with_reducible repeat (first | refine blk_drewN ?_ _ | refine blk_drew ?_ | refine blk_alloc ?_ _)); refine blk_far ?_ N4_5.out _; (with_reducible repeat (first | refine blk_drewN ?_ _ | refine blk_drew ?_ | refine blk_alloc ?_ _)); refine blk_put (cs := #[.int .u64 t174, .bool t175, .int .i64 t176, .int .u64 t177, .int .i64 t178, .int .i64 0]) ?_ 5 _ rfl; (with_reducible repeat (first | refine blk_drewN ?_ _ | refine blk_drew ?_ | refine blk_alloc ?_ _)); refine blk_put (cs := #[.int .u64 t174, .bool t175, .int .i64 t176, .int .u64 t177, .int .i64 0, .int .i64 0]) ?_ 4 _ rfl; (with_reducible repeat (first | refine blk_drewN ?_ _ | refine blk_drew ?_ | refine blk_alloc ?_ _)); refine blk_put (cs := #[.int .u64 t174, .bool t175, .int .i64 t176, .int .u64 0, .int .i64 0, .int .i64 0]) ?_ 3 _ rfl; (with_reducible repeat (first | refine blk_drewN ?_ _ | refine blk_drew ?_ | refine blk_alloc ?_ _)); refine blk_put (cs := #[.int .u64 t174, .bool t175, .int .i64 0, .int .u64 0, .int .i64 0, .int .i64 0]) ?_ 2 _ rfl; (with_reducible repeat (first | refine blk_drewN ?_ _ | refine blk_drew ?_ | refine blk_alloc ?_ _)); refine blk_put (cs := #[.int .u64 t174, .bool false, .int .i64 0, .int .u64 0, .int .i64 0, .int .i64 0]) ?_ 1 _ rfl; (with_reducible repeat (first | refine blk_drewN ?_ _ | refine blk_drew ?_ | refine blk_alloc ?_ _)); refine blk_put (cs := #[.int .u64 0, .bool false, .int .i64 0, .int .u64 0, .int .i64 0, .int .i64 0]) ?_ 0 _ rfl; (with_reducible repeat (first | refine blk_drewN ?_ _ | refine blk_drew ?_ | refine blk_alloc ?_ _)); exact K4.out⟩
    have n4_ : Aside0 (((((((((((((w58.setCell ⟨g4, 0, none⟩ (.int .u64 t174)).setCell ⟨g4, 1, none⟩ (.bool t175)).setCell ⟨g4, 2, none⟩ (.int .i64 t176)).setCell ⟨g4, 3, none⟩ (.int .u64 t177)).setCell ⟨g4, 4, none⟩ (.int .i64 t178)).setCell ⟨g4, 5, none⟩ (.int .i64 t179)).setCell ⟨g5, 0, none⟩ (.int .u64 t186)).setCell ⟨g5, 1, none⟩ (.bool t187)).setCell ⟨g5, 2, none⟩ (.int .i64 t188)).setCell ⟨g5, 3, none⟩ (.int .u64 t189)).setCell ⟨g5, 4, none⟩ (.int .i64 t190)).setCell ⟨g5, 5, none⟩ (.int .i64 t191)).heap[g5]? = some (cz_ t186 t187 t188 t189 t190 t191)) := ⟨by (with_reducible repeat (first | refine blk_drewN ?_ _ | refine blk_drew ?_ | refine blk_alloc ?_ _)); refine blk_put (cs := #[.int .u64 t186, .bool t187, .int .i64 t188, .int .u64 t189, .int .i64 t190, .int .i64 0]) ?_ 5 _ rfl; (with_reducible repeat (first | refine blk_drewN ?_ _ | refine blk_drew ?_ | refine blk_alloc ?_ _)); refine blk_put (cs := #[.int .u64 t186, .bool t187, .int .i64 t188, .int .u64 t189, .int .i64 0, .int .i64 0]) ?_ 4 _ rfl; (with_reducible repeat (first | refine blk_drewN ?_ _ | refine blk_drew ?_ | refine blk_alloc ?_ _)); refine blk_put (cs := #[.int .u64 t186, .bool t187, .int .i64 t188, .int .u64 0, .int .i64 0, .int .i64 0]) ?_ 3 _ rfl; (with_reducible repeat (first | refine blk_drewN ?_ _ | refine blk_drew ?_ | refine blk_alloc ?_ _)); refine blk_put (cs := #[.int .u64 t186, .bool t187, .int .i64 0, .int .u64 0, .int .i64 0, .int .i64 0]) ?_ 2 _ rfl; (with_reducible repeat (first | refine blk_drewN ?_ _ | refine blk_drew ?_ | refine blk_alloc ?_ _)); refine blk_put (cs := #[.int .u64 t186, .bool false, .int .i64 0, .int .u64 0, .int .i64 0, .int .i64 0]) ?_ 1 _ rfl; (with_reducible repeat (first | refine blk_drewN ?_ _ | refine blk_drew ?_ | refine blk_alloc ?_ _)); refine blk_put (cs := #[.int .u64 0, .bool false, .int .i64 0, .int .u64 0, .int .i64 0, .int .i64 0]) ?_ 0 _ rfl; (with_reducible repeat (first | refine blk_drewN ?_ _ | refine blk_drew ?_ | refine blk_alloc ?_ _)); refine blk_far ?_ N5_4.out _; (with_reducible repeat (first | refine blk_drewN ?_ _ | refine blk_drew ?_ | refine blk_alloc ?_ _)); refine blk_far ?_ N5_4.out _; (with_reducible repeat (first | refine blk_drewN ?_ _ | refine blk_drew ?_ | refine blk_alloc ?_ _)); refine blk_far ?_ N5_4.out _; (with_reducible repeat (first | refine blk_drewN ?_ _ | refine blk_drew ?_ | refine blk_alloc ?_ _)); refine blk_far ?_ N5_4.out _; (with_reducible repeat (first | refine blk_drewN ?_ _ | refine blk_drew ?_ | refine blk_alloc ?_ _)); refine blk_far ?_ N5_4.out _; (with_reducible repeat (first | refine blk_drewN ?_ _ | refine blk_drew ?_ | refine blk_alloc ?_ _)); refine blk_far ?_ N5_4.out _; (with_reducible repeat (first | refine blk_drewN ?_ _ | refine blk_drew ?_ | refine blk_alloc ?_ _)); exact K5.out⟩
    have n5_ : Aside0 (Below w.heap.size w ((((((((((((w58.setCell ⟨g4, 0, none⟩ (.int .u64 t174)).setCell ⟨g4, 1, none⟩ (.bool t175)).setCell ⟨g4, 2, none⟩ (.int .i64 t176)).setCell ⟨g4, 3, none⟩ (.int .u64 t177)).setCell ⟨g4, 4, none⟩ (.int .i64 t178)).setCell ⟨g4, 5, none⟩ (.int .i64 t179)).setCell ⟨g5, 0, none⟩ (.int .u64 t186)).setCell ⟨g5, 1, none⟩ (.bool t187)).setCell ⟨g5, 2, none⟩ (.int .i64 t188)).setCell ⟨g5, 3, none⟩ (.int .u64 t189)).setCell ⟨g5, 4, none⟩ (.int .i64 t190)).setCell ⟨g5, 5, none⟩ (.int .i64 t191))) := ⟨by repeat (first | (with_reducible first | exact HB.out | apply ba_ | apply bn_ | apply bd_ | refine bs_ E1 ?_ | refine bs_ E2 ?_ | refine bs_ E3 ?_ | refine bs_ E4 ?_ | refine bs_ E5 ?_) | exact HB.out)⟩
    (try clear K1)
    (try clear K2)
    (try clear K3)
    (try clear K4)
    (try clear K5)
    (try clear HB)
    generalize ((((((((((((w58.setCell ⟨g4, 0, none⟩ (.int .u64 t174)).setCell ⟨g4, 1, none⟩ (.bool t175)).setCell ⟨g4, 2, none⟩ (.int .i64 t176)).setCell ⟨g4, 3, none⟩ (.int .u64 t177)).setCell ⟨g4, 4, none⟩ (.int .i64 t178)).setCell ⟨g4, 5, none⟩ (.int .i64 t179)).setCell ⟨g5, 0, none⟩ (.int .u64 t186)).setCell ⟨g5, 1, none⟩ (.bool t187)).setCell ⟨g5, 2, none⟩ (.int .i64 t188)).setCell ⟨g5, 3, none⟩ (.int .u64 t189)).setCell ⟨g5, 4, none⟩ (.int .i64 t190)).setCell ⟨g5, 5, none⟩ (.int .i64 t191)) = w71 at n0_ n1_ n2_ n3_ n4_ n5_ ⊢
    have K1 := n0_
    have K2 := n1_
    have K3 := n2_
    have K4 := n3_
    have K5 := n4_
    have HB := n5_
    clear n0_ n1_ n2_ n3_ n4_ n5_
    have n0_ := AK_ (blk_drew K1.out)
    have n1_ := AK_ (blk_drew K2.out)
    have n2_ := AK_ (blk_drew K3.out)
    have n3_ := AK_ (blk_drew K4.out)
    have n4_ := AK_ (blk_drew K5.out)
    have n5_ := AK_ (bd_ HB.out)
    clear K1 K2 K3 K4 K5 HB
    have K1 := n0_
    have K2 := n1_
    have K3 := n2_
    have K4 := n3_
    have K5 := n4_
    have HB := n5_
    clear n0_ n1_ n2_ n3_ n4_ n5_
    refine start_ (n := 34) (S := fun w' => hk_ w' g4 t174 t175 t176 t177 t178 t179 (hk_ w' g5 t186 t187 t188 t189 t190 t191 (hk_ w' g1 a0_0 a0_1 a0_2 a0_3 a0_4 a0_5 (hc_ w' g2 a1_0 a1_1 a1_2 a1_3 a1_4 a1_5)))) (ds := []) #[F,F,F,F,F,F,F,F,F,F,F,F,F,F,F,F,F,F,F,F,F,F,F,F,F,F,F,F,F,F,F,F,F,F] (by kernel_rfl) rfl rfl (hI_ K4 (hI_ K5 (hI_ K1 (hL_ K2)))) (fun hHeld => ?_); refine with_tabW rickyardlaw02_AggMonoid.tab4 rickyardlaw02_AggMonoid.bits4 (fun HT_ HW_ => ?_)
    generalize w71.drew = w72 at K1 K2 K3 K4 K5 HB hHeld ⊢
    refine one_ (i := 0) (N := some 33) #[T,F,F,F,F,F,F,F,F,F,F,F,F,F,F,F,F,F,F,F,F,F,F,F,F,F,F,F,F,F,F,F,F,F] rfl rfl (one_of HT_.out (by kernel_rfl)) (by decide) (fun K hK => ?_)
    refine goes_ Try.func10 (by kernel_rfl) rfl #[] (by rfl) rfl rfl (by (try simp only [List.map_toArray, List.map_cons, List.map_nil]); first | done | rfl | (simp only [List.length_drop, List.length_take]; rfl)) ?_
    with_reducible refine (rickyardlaw02_alive.calls kj3  true _ A40.out).mono ?_
    rintro e w73 ⟨rfl, hb⟩
    refine ⟨_, rfl, ?_⟩
    have n0_ := AK_ (blk_below (by apply_rules [K1.out, bN_, bD_, bA_]) hb)
    have n1_ := AK_ (blk_below (by apply_rules [K2.out, bN_, bD_, bA_]) hb)
    have n2_ := AK_ (blk_below (by apply_rules [K3.out, bN_, bD_, bA_]) hb)
    have n3_ := AK_ (blk_below (by apply_rules [K4.out, bN_, bD_, bA_]) hb)
    have n4_ := AK_ (blk_below (by apply_rules [K5.out, bN_, bD_, bA_]) hb)
    have n5_ := AK_ (below_step (by repeat (first | (with_reducible first | exact HB.out | apply ba_ | apply bn_ | apply bd_ | refine bs_ E1 ?_ | refine bs_ E2 ?_ | refine bs_ E3 ?_ | refine bs_ E4 ?_ | refine bs_ E5 ?_) | exact HB.out)) hb)
    clear K1 K2 K3 K4 K5 HB
    have K1 := n0_
    have K2 := n1_
    have K3 := n2_
    have K4 := n3_
    have K5 := n4_
    have HB := n5_
    clear n0_ n1_ n2_ n3_ n4_ n5_
    (try clear hb)
    (try clear hb2)
    (try clear hk)
    (try clear hi)
    refine hK.out _ _ (hI_ K4 (hI_ K5 (hI_ K1 (hL_ K2)))) (fun hHeld => ?_)
    clear hK K
    refine norm_ (a' := ?_) ?_ ?_
    rotate_left
    ·show Act.put _ (some 33) _ = _
     simp only [Act.put, sa_, sb_, sc_, i64_w, i32_w]
     rfl
    refine pure_ (i := 1) (N := some 34) (v := ?_) (a' := ?_) #[T,T,F,F,F,F,F,F,F,F,F,F,F,F,F,F,F,F,F,F,F,F,F,F,F,F,F,F,F,F,F,F,F,F] rfl rfl (any_of HT_.out (by kernel_rfl)) (fun _ _ _ h => h) (Or.inl ⟨by rfl, ?_⟩) ?_ ?_
    rotate_left
    ·intro w'
     go_simp
     with_reducible rfl
    rotate_left
    ·simp only [Act.put, sa_, sb_, sc_, i64_w, i32_w]
     rfl
    refine take_ (i := 2) (N := some 35) (v := ?_) (a' := ?_) #[T,T,T,F,F,F,F,F,F,F,F,F,F,F,F,F,F,F,F,F,F,F,F,F,F,F,F,F,F,F,F,F,F,F] rfl rfl (take_ofW HT_.out HW_.out (by kernel_rfl)) (fun _ _ _ h => h) (Or.inl ⟨by rfl, ?_⟩) hHeld ?_ ?_
    rotate_left
    ·rintro w' ⟨s0, s1, s2, s3, s4, s5, s6, s7, s8, s9, s10, s11, s12, s13, s14, s15, s16, s17, s18, s19, s20, s21, s22, s23⟩
     go_simp
     with_reducible rfl
    rotate_left
    ·simp only [Act.put, sa_, sb_, sc_, i64_w, i32_w]
     rfl
    refine take_ (i := 3) (N := some 36) (v := ?_) (a' := ?_) #[T,T,T,T,F,F,F,F,F,F,F,F,F,F,F,F,F,F,F,F,F,F,F,F,F,F,F,F,F,F,F,F,F,F] rfl rfl (take_ofW HT_.out HW_.out (by kernel_rfl)) (fun _ _ _ h => h) (Or.inl ⟨by rfl, ?_⟩) hHeld ?_ ?_
    rotate_left
    ·rintro w' ⟨s0, s1, s2, s3, s4, s5, s6, s7, s8, s9, s10, s11, s12, s13, s14, s15, s16, s17, s18, s19, s20, s21, s22, s23⟩
     go_simp
     with_reducible rfl
    rotate_left
    ·simp only [Act.put, sa_, sb_, sc_, i64_w, i32_w]
     rfl
    refine pure_ (i := 4) (N := some 37) (v := ?_) (a' := ?_) #[T,T,T,T,T,F,F,F,F,F,F,F,F,F,F,F,F,F,F,F,F,F,F,F,F,F,F,F,F,F,F,F,F,F] rfl rfl (any_of HT_.out (by kernel_rfl)) (fun _ _ _ h => h) (Or.inl ⟨by rfl, ?_⟩) ?_ ?_
    rotate_left
    ·intro w'
     go_simp
     with_reducible rfl
    rotate_left
    ·simp only [Act.put, sa_, sb_, sc_, i64_w, i32_w]
     rfl
    refine pure_ (i := 5) (N := some 38) (v := ?_) (a' := ?_) #[T,T,T,T,T,T,F,F,F,F,F,F,F,F,F,F,F,F,F,F,F,F,F,F,F,F,F,F,F,F,F,F,F,F] rfl rfl (any_of HT_.out (by kernel_rfl)) (fun _ _ _ h => h) (Or.inl ⟨by rfl, ?_⟩) ?_ ?_
    rotate_left
    ·intro w'
     go_simp
     with_reducible rfl
    rotate_left
    ·simp only [Act.put, sa_, sb_, sc_, i64_w, i32_w]
     rfl
    refine pure_ (i := 6) (N := some 39) (v := ?_) (a' := ?_) #[T,T,T,T,T,T,T,F,F,F,F,F,F,F,F,F,F,F,F,F,F,F,F,F,F,F,F,F,F,F,F,F,F,F] rfl rfl (any_of HT_.out (by kernel_rfl)) (fun _ _ _ h => h) (Or.inl ⟨by rfl, ?_⟩) ?_ ?_
    rotate_left
    ·intro w'
     go_simp
     with_reducible rfl
    rotate_left
    ·simp only [Act.put, sa_, sb_, sc_, i64_w, i32_w]
     rfl
    refine take_ (i := 7) (N := some 40) (v := ?_) (a' := ?_) #[T,T,T,T,T,T,T,T,F,F,F,F,F,F,F,F,F,F,F,F,F,F,F,F,F,F,F,F,F,F,F,F,F,F] rfl rfl (take_ofW HT_.out HW_.out (by kernel_rfl)) (fun _ _ _ h => h) (Or.inl ⟨by rfl, ?_⟩) hHeld ?_ ?_
    rotate_left
    ·rintro w' ⟨s0, s1, s2, s3, s4, s5, s6, s7, s8, s9, s10, s11, s12, s13, s14, s15, s16, s17, s18, s19, s20, s21, s22, s23⟩
     go_simp
     with_reducible rfl
    rotate_left
    ·simp only [Act.put, sa_, sb_, sc_, i64_w, i32_w]
     rfl
    refine take_ (i := 8) (N := some 41) (v := ?_) (a' := ?_) #[T,T,T,T,T,T,T,T,T,F,F,F,F,F,F,F,F,F,F,F,F,F,F,F,F,F,F,F,F,F,F,F,F,F] rfl rfl (take_ofW HT_.out HW_.out (by kernel_rfl)) (fun _ _ _ h => h) (Or.inl ⟨by rfl, ?_⟩) hHeld ?_ ?_
    rotate_left
    ·rintro w' ⟨s0, s1, s2, s3, s4, s5, s6, s7, s8, s9, s10, s11, s12, s13, s14, s15, s16, s17, s18, s19, s20, s21, s22, s23⟩
     go_simp
     with_reducible rfl
    rotate_left
    ·simp only [Act.put, sa_, sb_, sc_, i64_w, i32_w]
     rfl
    refine take_ (i := 10) (N := some 43) (v := ?_) (a' := ?_) #[T,T,T,T,T,T,T,T,T,F,T,F,F,F,F,F,F,F,F,F,F,F,F,F,F,F,F,F,F,F,F,F,F,F] rfl rfl (take_ofW HT_.out HW_.out (by kernel_rfl)) (fun _ _ _ h => h) (Or.inl ⟨by rfl, ?_⟩) hHeld ?_ ?_
    rotate_left
    ·rintro w' ⟨s0, s1, s2, s3, s4, s5, s6, s7, s8, s9, s10, s11, s12, s13, s14, s15, s16, s17, s18, s19, s20, s21, s22, s23⟩
     go_simp
     with_reducible rfl
    rotate_left
    ·simp only [Act.put, sa_, sb_, sc_, i64_w, i32_w]
     rfl
    refine take_ (i := 11) (N := some 44) (v := ?_) (a' := ?_) #[T,T,T,T,T,T,T,T,T,F,T,T,F,F,F,F,F,F,F,F,F,F,F,F,F,F,F,F,F,F,F,F,F,F] rfl rfl (take_ofW HT_.out HW_.out (by kernel_rfl)) (fun _ _ _ h => h) (Or.inl ⟨by rfl, ?_⟩) hHeld ?_ ?_
    rotate_left
    ·rintro w' ⟨s0, s1, s2, s3, s4, s5, s6, s7, s8, s9, s10, s11, s12, s13, s14, s15, s16, s17, s18, s19, s20, s21, s22, s23⟩
     go_simp
     with_reducible rfl
    rotate_left
    ·simp only [Act.put, sa_, sb_, sc_, i64_w, i32_w]
     rfl
    refine one_ (i := 9) (N := some 42) #[T,T,T,T,T,T,T,T,T,T,T,T,F,F,F,F,F,F,F,F,F,F,F,F,F,F,F,F,F,F,F,F,F,F] rfl rfl (one_of HT_.out (by kernel_rfl)) (by decide) (fun K hK => ?_)
    refine goes_ Try.func11 (by kernel_rfl) rfl #[.agg #[.int .u64 a0_0, .bool a0_1, .int .i64 a0_2, .int .u64 a0_3, .int .i64 a0_4, .int .i64 a0_5], .agg #[.int .u64 a1_0, .bool a1_1, .int .i64 a1_2, .int .u64 a1_3, .int .i64 a1_4, .int .i64 a1_5]] (by rfl) rfl rfl (by (try simp only [List.map_toArray, List.map_cons, List.map_nil]); first | done | rfl | (simp only [List.length_drop, List.length_take]; rfl)) ?_
    with_reducible refine (agg_Merge.calls a0_0 a0_1 a0_2 a0_3 a0_4 a0_5 a1_0 a1_1 a1_2 a1_3 a1_4 a1_5 t195 t196 t197 t198 t199 t200 _ A43.out).mono ?_
    rintro e w74 ⟨rfl, hb⟩
    refine ⟨_, rfl, ?_⟩
    have n0_ := AK_ (blk_below (by apply_rules [K1.out, bN_, bD_, bA_]) hb)
    have n1_ := AK_ (blk_below (by apply_rules [K2.out, bN_, bD_, bA_]) hb)
    have n2_ := AK_ (blk_below (by apply_rules [K3.out, bN_, bD_, bA_]) hb)
    have n3_ := AK_ (blk_below (by apply_rules [K4.out, bN_, bD_, bA_]) hb)
    have n4_ := AK_ (blk_below (by apply_rules [K5.out, bN_, bD_, bA_]) hb)
    have n5_ := AK_ (below_step (by repeat (first | (with_reducible first | exact HB.out | apply ba_ | apply bn_ | apply bd_ | refine bs_ E1 ?_ | refine bs_ E2 ?_ | refine bs_ E3 ?_ | refine bs_ E4 ?_ | refine bs_ E5 ?_) | exact HB.out)) hb)
    clear K1 K2 K3 K4 K5 HB
    have K1 := n0_
    have K2 := n1_
    have K3 := n2_
    have K4 := n3_
    have K5 := n4_
    have HB := n5_
    clear n0_ n1_ n2_ n3_ n4_ n5_
    (try clear hb)
    (try clear hb2)
    (try clear hk)
    (try clear hi)
    refine hK.out _ _ (hI_ K4 (hI_ K5 (hI_ K1 (hL_ K2)))) (fun hHeld => ?_)
    clear hK K
    refine norm_ (a' := ?_) ?_ ?_
    rotate_left
    ·show Act.put _ (some 42) _ = _
     simp only [Act.put, sa_, sb_, sc_, i64_w, i32_w]
     rfl
    refine one_ (i := 12) (N := some 45) #[T,T,T,T,T,T,T,T,T,T,T,T,T,F,F,F,F,F,F,F,F,F,F,F,F,F,F,F,F,F,F,F,F,F] rfl rfl (one_of HT_.out (by kernel_rfl)) (by decide) (fun K hK => ?_)
    refine goes_ Try.func11 (by kernel_rfl) rfl #[.agg #[.int .u64 a1_0, .bool a1_1, .int .i64 a1_2, .int .u64 a1_3, .int .i64 a1_4, .int .i64 a1_5], .agg #[.int .u64 a0_0, .bool a0_1, .int .i64 a0_2, .int .u64 a0_3, .int .i64 a0_4, .int .i64 a0_5]] (by rfl) rfl rfl (by (try simp only [List.map_toArray, List.map_cons, List.map_nil]); first | done | rfl | (simp only [List.length_drop, List.length_take]; rfl)) ?_
    with_reducible refine (agg_Merge.calls a1_0 a1_1 a1_2 a1_3 a1_4 a1_5 a0_0 a0_1 a0_2 a0_3 a0_4 a0_5 t201 t202 t203 t204 t205 t206 _ A44.out).mono ?_
    rintro e w75 ⟨rfl, hb⟩
    refine ⟨_, rfl, ?_⟩
    have n0_ := AK_ (blk_below (by apply_rules [K1.out, bN_, bD_, bA_]) hb)
    have n1_ := AK_ (blk_below (by apply_rules [K2.out, bN_, bD_, bA_]) hb)
    have n2_ := AK_ (blk_below (by apply_rules [K3.out, bN_, bD_, bA_]) hb)
    have n3_ := AK_ (blk_below (by apply_rules [K4.out, bN_, bD_, bA_]) hb)
    have n4_ := AK_ (blk_below (by apply_rules [K5.out, bN_, bD_, bA_]) hb)
    have n5_ := AK_ (below_step (by repeat (first | (with_reducible first | exact HB.out | apply ba_ | apply bn_ | apply bd_ | refine bs_ E1 ?_ | refine bs_ E2 ?_ | refine bs_ E3 ?_ | refine bs_ E4 ?_ | refine bs_ E5 ?_) | exact HB.out)) hb)
    clear K1 K2 K3 K4 K5 HB
    have K1 := n0_
    have K2 := n1_
    have K3 := n2_
    have K4 := n3_
    have K5 := n4_
    have HB := n5_
    clear n0_ n1_ n2_ n3_ n4_ n5_
    (try clear hb)
    (try clear hb2)
    (try clear hk)
    (try clear hi)
    refine hK.out _ _ (hI_ K4 (hI_ K5 (hI_ K1 (hL_ K2)))) (fun hHeld => ?_)
    clear hK K
    refine norm_ (a' := ?_) ?_ ?_
    rotate_left
    ·show Act.put _ (some 45) _ = _
     simp only [Act.put, sa_, sb_, sc_, i64_w, i32_w]
     rfl
    refine pure_ (i := 13) (N := some 46) (v := ?_) (a' := ?_) #[T,T,T,T,T,T,T,T,T,T,T,T,T,T,F,F,F,F,F,F,F,F,F,F,F,F,F,F,F,F,F,F,F,F] rfl rfl (any_of HT_.out (by kernel_rfl)) (fun _ _ _ h => h) (Or.inl ⟨by rfl, ?_⟩) ?_ ?_
    rotate_left
    ·intro w'
     go_simp
     with_reducible rfl
    rotate_left
    ·simp only [Act.put, sa_, sb_, sc_, i64_w, i32_w]
     rfl
    refine pure_ (i := 14) (N := some 47) (v := ?_) (a' := ?_) #[T,T,T,T,T,T,T,T,T,T,T,T,T,T,T,F,F,F,F,F,F,F,F,F,F,F,F,F,F,F,F,F,F,F] rfl rfl (any_of HT_.out (by kernel_rfl)) (fun _ _ _ h => h) (Or.inl ⟨by rfl, ?_⟩) ?_ ?_
    rotate_left
    ·intro w'
     go_simp
     with_reducible rfl
    rotate_left
    ·simp only [Act.put, sa_, sb_, sc_, i64_w, i32_w]
     rfl
    refine pure_ (i := 15) (N := some 48) (v := ?_) (a' := ?_) #[T,T,T,T,T,T,T,T,T,T,T,T,T,T,T,T,F,F,F,F,F,F,F,F,F,F,F,F,F,F,F,F,F,F] rfl rfl (any_of HT_.out (by kernel_rfl)) (fun _ _ _ h => h) (Or.inl ⟨by rfl, ?_⟩) ?_ ?_
    rotate_left
    ·intro w'
     go_simp
     with_reducible rfl
    rotate_left
    ·simp only [Act.put, sa_, sb_, sc_, i64_w, i32_w]
     rfl
    refine pure_ (i := 17) (N := some 50) (v := ?_) (a' := ?_) #[T,T,T,T,T,T,T,T,T,T,T,T,T,T,T,T,F,T,F,F,F,F,F,F,F,F,F,F,F,F,F,F,F,F] rfl rfl (any_of HT_.out (by kernel_rfl)) (fun _ _ _ h => h) (Or.inl ⟨by rfl, ?_⟩) ?_ ?_
    rotate_left
    ·intro w'
     go_simp
     with_reducible rfl
    rotate_left
    ·simp only [Act.put, sa_, sb_, sc_, i64_w, i32_w]
     rfl
    refine take_ (i := 16) (N := some 49) (v := ?_) (a' := ?_) #[T,T,T,T,T,T,T,T,T,T,T,T,T,T,T,T,T,T,F,F,F,F,F,F,F,F,F,F,F,F,F,F,F,F] rfl rfl (take_ofW HT_.out HW_.out (by kernel_rfl)) (fun _ _ _ h => h) (Or.inl ⟨by rfl, ?_⟩) hHeld ?_ ?_
    rotate_left
    ·rintro w' ⟨s0, s1, s2, s3, s4, s5, s6, s7, s8, s9, s10, s11, s12, s13, s14, s15, s16, s17, s18, s19, s20, s21, s22, s23⟩
     go_simp
     with_reducible rfl
    rotate_left
    ·simp only [Act.put, sa_, sb_, sc_, i64_w, i32_w]
     rfl
    refine take_ (i := 19) (N := some 52) (v := ?_) (a' := ?_) #[T,T,T,T,T,T,T,T,T,T,T,T,T,T,T,T,T,T,F,T,F,F,F,F,F,F,F,F,F,F,F,F,F,F] rfl rfl (take_ofW HT_.out HW_.out (by kernel_rfl)) (fun _ _ _ h => h) (Or.inl ⟨by rfl, ?_⟩) hHeld ?_ ?_
    rotate_left
    ·rintro w' ⟨s0, s1, s2, s3, s4, s5, s6, s7, s8, s9, s10, s11, s12, s13, s14, s15, s16, s17, s18, s19, s20, s21, s22, s23⟩
     go_simp
     with_reducible rfl
    rotate_left
    ·simp only [Act.put, sa_, sb_, sc_, i64_w, i32_w]
     rfl
    refine one_ (i := 18) (N := some 51) #[T,T,T,T,T,T,T,T,T,T,T,T,T,T,T,T,T,T,T,T,F,F,F,F,F,F,F,F,F,F,F,F,F,F] rfl rfl (one_of HT_.out (by kernel_rfl)) (by decide) (fun K hK => ?_)
    refine goes_ Try.func11 (by kernel_rfl) rfl #[.agg #[.int .u64 a0_0, .bool a0_1, .int .i64 a0_2, .int .u64 a0_3, .int .i64 a0_4, .int .i64 a0_5], .agg #[.int .u64 0, .bool false, .int .i64 0, .int .u64 0, .int .i64 0, .int .i64 0]] (by rfl) rfl rfl (by (try simp only [List.map_toArray, List.map_cons, List.map_nil]); first | done | rfl | (simp only [List.length_drop, List.length_take]; rfl)) ?_
    with_reducible refine (agg_Merge.calls a0_0 a0_1 a0_2 a0_3 a0_4 a0_5 0 false 0 0 0 0 t207 t208 t209 t210 t211 t212 _ A46.out).mono ?_
    rintro e w76 ⟨rfl, hb⟩
    refine ⟨_, rfl, ?_⟩
    have n0_ := AK_ (blk_below (by apply_rules [K1.out, bN_, bD_, bA_]) hb)
    have n1_ := AK_ (blk_below (by apply_rules [K2.out, bN_, bD_, bA_]) hb)
    have n2_ := AK_ (blk_below (by apply_rules [K3.out, bN_, bD_, bA_]) hb)
    have n3_ := AK_ (blk_below (by apply_rules [K4.out, bN_, bD_, bA_]) hb)
    have n4_ := AK_ (blk_below (by apply_rules [K5.out, bN_, bD_, bA_]) hb)
    have n5_ := AK_ (below_step (by repeat (first | (with_reducible first | exact HB.out | apply ba_ | apply bn_ | apply bd_ | refine bs_ E1 ?_ | refine bs_ E2 ?_ | refine bs_ E3 ?_ | refine bs_ E4 ?_ | refine bs_ E5 ?_) | exact HB.out)) hb)
    clear K1 K2 K3 K4 K5 HB
    have K1 := n0_
    have K2 := n1_
    have K3 := n2_
    have K4 := n3_
    have K5 := n4_
    have HB := n5_
    clear n0_ n1_ n2_ n3_ n4_ n5_
    (try clear hb)
    (try clear hb2)
    (try clear hk)
    (try clear hi)
    refine hK.out _ _ (hI_ K4 (hI_ K5 (hI_ K1 (hL_ K2)))) (fun hHeld => ?_)
    clear hK K
    refine norm_ (a' := ?_) ?_ ?_
    rotate_left
    ·show Act.put _ (some 51) _ = _
     simp only [Act.put, sa_, sb_, sc_, i64_w, i32_w]
     rfl
    refine pure_ (i := 20) (N := some 53) (v := ?_) (a' := ?_) #[T,T,T,T,T,T,T,T,T,T,T,T,T,T,T,T,T,T,T,T,T,F,F,F,F,F,F,F,F,F,F,F,F,F] rfl rfl (any_of HT_.out (by kernel_rfl)) (fun _ _ _ h => h) (Or.inl ⟨by rfl, ?_⟩) ?_ ?_
    rotate_left
    ·intro w'
     go_simp
     with_reducible rfl
    rotate_left
    ·simp only [Act.put, sa_, sb_, sc_, i64_w, i32_w]
     rfl
    refine pure_ (i := 21) (N := some 54) (v := ?_) (a' := ?_) #[T,T,T,T,T,T,T,T,T,T,T,T,T,T,T,T,T,T,T,T,T,T,F,F,F,F,F,F,F,F,F,F,F,F] rfl rfl (any_of HT_.out (by kernel_rfl)) (fun _ _ _ h => h) (Or.inl ⟨by rfl, ?_⟩) ?_ ?_
    rotate_left
    ·intro w'
     go_simp
     with_reducible rfl
    rotate_left
    ·simp only [Act.put, sa_, sb_, sc_, i64_w, i32_w]
     rfl
    refine pure_ (i := 22) (N := some 55) (v := ?_) (a' := ?_) #[T,T,T,T,T,T,T,T,T,T,T,T,T,T,T,T,T,T,T,T,T,T,T,F,F,F,F,F,F,F,F,F,F,F] rfl rfl (any_of HT_.out (by kernel_rfl)) (fun _ _ _ h => h) (Or.inl ⟨by rfl, ?_⟩) ?_ ?_
    rotate_left
    ·intro w'
     go_simp
     with_reducible rfl
    rotate_left
    ·simp only [Act.put, sa_, sb_, sc_, i64_w, i32_w]
     rfl
    refine pure_ (i := 23) (N := some 56) (v := ?_) (a' := ?_) #[T,T,T,T,T,T,T,T,T,T,T,T,T,T,T,T,T,T,T,T,T,T,T,T,F,F,F,F,F,F,F,F,F,F] rfl rfl (any_of HT_.out (by kernel_rfl)) (fun _ _ _ h => h) (Or.inl ⟨by rfl, ?_⟩) ?_ ?_
    rotate_left
    ·intro w'
     go_simp
     with_reducible rfl
    rotate_left
    ·simp only [Act.put, sa_, sb_, sc_, i64_w, i32_w]
     rfl
    refine take_ (i := 24) (N := some 57) (v := ?_) (a' := ?_) #[T,T,T,T,T,T,T,T,T,T,T,T,T,T,T,T,T,T,T,T,T,T,T,T,T,F,F,F,F,F,F,F,F,F] rfl rfl (take_ofW HT_.out HW_.out (by kernel_rfl)) (fun _ _ _ h => h) (Or.inl ⟨by rfl, ?_⟩) hHeld ?_ ?_
    rotate_left
    ·rintro w' ⟨s0, s1, s2, s3, s4, s5, s6, s7, s8, s9, s10, s11, s12, s13, s14, s15, s16, s17, s18, s19, s20, s21, s22, s23⟩
     go_simp
     with_reducible rfl
    rotate_left
    ·simp only [Act.put, sa_, sb_, sc_, i64_w, i32_w]
     rfl
    refine take_ (i := 26) (N := some 59) (v := ?_) (a' := ?_) #[T,T,T,T,T,T,T,T,T,T,T,T,T,T,T,T,T,T,T,T,T,T,T,T,T,F,T,F,F,F,F,F,F,F] rfl rfl (take_ofW HT_.out HW_.out (by kernel_rfl)) (fun _ _ _ h => h) (Or.inl ⟨by rfl, ?_⟩) hHeld ?_ ?_
    rotate_left
    ·rintro w' ⟨s0, s1, s2, s3, s4, s5, s6, s7, s8, s9, s10, s11, s12, s13, s14, s15, s16, s17, s18, s19, s20, s21, s22, s23⟩
     go_simp
     with_reducible rfl
    rotate_left
    ·simp only [Act.put, sa_, sb_, sc_, i64_w, i32_w]
     rfl
    refine one_ (i := 25) (N := some 58) #[T,T,T,T,T,T,T,T,T,T,T,T,T,T,T,T,T,T,T,T,T,T,T,T,T,T,T,F,F,F,F,F,F,F] rfl rfl (one_of HT_.out (by kernel_rfl)) (by decide) (fun K hK => ?_)
    refine goes_ Try.func11 (by kernel_rfl) rfl #[.agg #[.int .u64 0, .bool false, .int .i64 0, .int .u64 0, .int .i64 0, .int .i64 0], .agg #[.int .u64 a0_0, .bool a0_1, .int .i64 a0_2, .int .u64 a0_3, .int .i64 a0_4, .int .i64 a0_5]] (by rfl) rfl rfl (by (try simp only [List.map_toArray, List.map_cons, List.map_nil]); first | done | rfl | (simp only [List.length_drop, List.length_take]; rfl)) ?_
    with_reducible refine (agg_Merge.calls 0 false 0 0 0 0 a0_0 a0_1 a0_2 a0_3 a0_4 a0_5 t213 t214 t215 t216 t217 t218 _ A48.out).mono ?_
    rintro e w77 ⟨rfl, hb⟩
    refine ⟨_, rfl, ?_⟩
    have n0_ := AK_ (blk_below (by apply_rules [K1.out, bN_, bD_, bA_]) hb)
    have n1_ := AK_ (blk_below (by apply_rules [K2.out, bN_, bD_, bA_]) hb)
    have n2_ := AK_ (blk_below (by apply_rules [K3.out, bN_, bD_, bA_]) hb)
    have n3_ := AK_ (blk_below (by apply_rules [K4.out, bN_, bD_, bA_]) hb)
    have n4_ := AK_ (blk_below (by apply_rules [K5.out, bN_, bD_, bA_]) hb)
    have n5_ := AK_ (below_step (by repeat (first | (with_reducible first | exact HB.out | apply ba_ | apply bn_ | apply bd_ | refine bs_ E1 ?_ | refine bs_ E2 ?_ | refine bs_ E3 ?_ | refine bs_ E4 ?_ | refine bs_ E5 ?_) | exact HB.out)) hb)
    clear K1 K2 K3 K4 K5 HB
    have K1 := n0_
    have K2 := n1_
    have K3 := n2_
    have K4 := n3_
    have K5 := n4_
    have HB := n5_
    clear n0_ n1_ n2_ n3_ n4_ n5_
    (try clear hb)
    (try clear hb2)
    (try clear hk)
    (try clear hi)
    refine hK.out _ _ (hI_ K4 (hI_ K5 (hI_ K1 (hL_ K2)))) (fun hHeld => ?_)
    clear hK K
    refine norm_ (a' := ?_) ?_ ?_
    rotate_left
    ·show Act.put _ (some 58) _ = _
     simp only [Act.put, sa_, sb_, sc_, i64_w, i32_w]
     rfl
    refine pure_ (i := 27) (N := some 60) (v := ?_) (a' := ?_) #[T,T,T,T,T,T,T,T,T,T,T,T,T,T,T,T,T,T,T,T,T,T,T,T,T,T,T,T,F,F,F,F,F,F] rfl rfl (any_of HT_.out (by kernel_rfl)) (fun _ _ _ h => h) (Or.inl ⟨by rfl, ?_⟩) ?_ ?_
    rotate_left
    ·intro w'
     go_simp
     with_reducible rfl
    rotate_left
    ·simp only [Act.put, sa_, sb_, sc_, i64_w, i32_w]
     rfl
    refine pure_ (i := 28) (N := some 61) (v := ?_) (a' := ?_) #[T,T,T,T,T,T,T,T,T,T,T,T,T,T,T,T,T,T,T,T,T,T,T,T,T,T,T,T,T,F,F,F,F,F] rfl rfl (any_of HT_.out (by kernel_rfl)) (fun _ _ _ h => h) (Or.inl ⟨by rfl, ?_⟩) ?_ ?_
    rotate_left
    ·intro w'
     go_simp
     with_reducible rfl
    rotate_left
    ·simp only [Act.put, sa_, sb_, sc_, i64_w, i32_w]
     rfl
    refine pure_ (i := 29) (N := some 62) (v := ?_) (a' := ?_) #[T,T,T,T,T,T,T,T,T,T,T,T,T,T,T,T,T,T,T,T,T,T,T,T,T,T,T,T,T,T,F,F,F,F] rfl rfl (any_of HT_.out (by kernel_rfl)) (fun _ _ _ h => h) (Or.inl ⟨by rfl, ?_⟩) ?_ ?_
    rotate_left
    ·intro w'
     go_simp
     with_reducible rfl
    rotate_left
    ·simp only [Act.put, sa_, sb_, sc_, i64_w, i32_w]
     rfl
    refine take_ (i := 30) (N := some 63) (v := ?_) (a' := ?_) #[T,T,T,T,T,T,T,T,T,T,T,T,T,T,T,T,T,T,T,T,T,T,T,T,T,T,T,T,T,T,T,F,F,F] rfl rfl (take_ofW HT_.out HW_.out (by kernel_rfl)) (fun _ _ _ h => h) (Or.inl ⟨by rfl, ?_⟩) hHeld ?_ ?_
    rotate_left
    ·rintro w' ⟨s0, s1, s2, s3, s4, s5, s6, s7, s8, s9, s10, s11, s12, s13, s14, s15, s16, s17, s18, s19, s20, s21, s22, s23⟩
     go_simp
     with_reducible rfl
    rotate_left
    ·simp only [Act.put, sa_, sb_, sc_, i64_w, i32_w]
     rfl
    refine one_ (i := 31) (N := some 64) #[T,T,T,T,T,T,T,T,T,T,T,T,T,T,T,T,T,T,T,T,T,T,T,T,T,T,T,T,T,T,T,T,F,F] rfl rfl (one_of HT_.out (by kernel_rfl)) (by decide) (fun K hK => ?_)
    refine goes_ Try.func9 (by kernel_rfl) rfl #[.agg #[.int .u64 t174, .bool t175, .int .i64 t176, .int .u64 t177, .int .i64 t178, .int .i64 t179]] (by rfl) rfl rfl (by (try simp only [List.map_toArray, List.map_cons, List.map_nil]); first | done | rfl | (simp only [List.length_drop, List.length_take]; rfl)) ?_
    with_reducible refine (agg_Right.calls t174 t175 t176 t177 t178 t179 t219 _ A50.out).mono ?_
    rintro e w78 ⟨rfl, hb⟩
    refine ⟨_, rfl, ?_⟩
    have n0_ := AK_ (blk_below (by apply_rules [K1.out, bN_, bD_, bA_]) hb)
    have n1_ := AK_ (blk_below (by apply_rules [K2.out, bN_, bD_, bA_]) hb)
    have n2_ := AK_ (blk_below (by apply_rules [K3.out, bN_, bD_, bA_]) hb)
    have n3_ := AK_ (blk_below (by apply_rules [K4.out, bN_, bD_, bA_]) hb)
    have n4_ := AK_ (blk_below (by apply_rules [K5.out, bN_, bD_, bA_]) hb)
    have n5_ := AK_ (below_step (by repeat (first | (with_reducible first | exact HB.out | apply ba_ | apply bn_ | apply bd_ | refine bs_ E1 ?_ | refine bs_ E2 ?_ | refine bs_ E3 ?_ | refine bs_ E4 ?_ | refine bs_ E5 ?_) | exact HB.out)) hb)
    clear K1 K2 K3 K4 K5 HB
    have K1 := n0_
    have K2 := n1_
    have K3 := n2_
    have K4 := n3_
    have K5 := n4_
    have HB := n5_
    clear n0_ n1_ n2_ n3_ n4_ n5_
    (try clear hb)
    (try clear hb2)
    (try clear hk)
    (try clear hi)
    refine hK.out _ _ (hI_ K4 (hI_ K5 (hI_ K1 (hL_ K2)))) (fun hHeld => ?_)
    clear hK K
    refine norm_ (a' := ?_) ?_ ?_
    rotate_left
    ·show Act.put _ (some 64) _ = _
     simp only [Act.put, sa_, sb_, sc_, i64_w, i32_w]
     rfl
    refine pure_ (i := 32) (N := some 65) (v := ?_) (a' := ?_) #[T,T,T,T,T,T,T,T,T,T,T,T,T,T,T,T,T,T,T,T,T,T,T,T,T,T,T,T,T,T,T,T,T,F] rfl rfl (any_of HT_.out (by kernel_rfl)) (fun _ _ _ h => h) (Or.inl ⟨by rfl, ?_⟩) ?_ ?_
    rotate_left
    ·intro w'
     go_simp
     with_reducible rfl
    rotate_left
    ·simp only [Act.put, sa_, sb_, sc_, i64_w, i32_w]
     rfl
    refine pure_ (i := 33) (N := some 6) (v := ?_) (a' := ?_) #[T,T,T,T,T,T,T,T,T,T,T,T,T,T,T,T,T,T,T,T,T,T,T,T,T,T,T,T,T,T,T,T,T,T] rfl rfl (any_of HT_.out (by kernel_rfl)) (fun _ _ _ h => h) (Or.inl ⟨by rfl, ?_⟩) ?_ ?_
    rotate_left
    ·intro w'
     go_simp
     with_reducible rfl
    rotate_left
    ·simp only [Act.put, sa_, sb_, sc_, i64_w, i32_w]
     rfl
    refine done_ (done_of HT_.out (by kernel_rfl)) ?_
    try go_wp2
    go_ret
    exact ⟨by first | rfl | (simp [errW_none, errW_some] <;> rfl) | (simp [*, errW_none, errW_some] <;> rfl), by repeat (first | (with_reducible first | exact HB.out | apply ba_ | apply bn_ | apply bd_ | refine bs_ E1 ?_ | refine bs_ E2 ?_ | refine bs_ E3 ?_ | refine bs_ E4 ?_ | refine bs_ E5 ?_) | exact HB.out)⟩

end Go.Proofs.Ytflmjiadahknkaa.P
