/- The document's Put. No conditions. -/
import Derived.Test.YteomanpaladdjaaSkRef
import Derived.Test.YteomanpaladdjaaSkKeeps
namespace Go.Proofs.Yteomanpaladdjaa.Pure
open Go.RowKit Go.Proofs.Yteomanpaladdjaa.P Go.Proofs.YteomanpaladdjaaW.PrintWords Go.Proofs.YteomanpaladdjaaW.PrintLast
set_option linter.unusedVariables false
set_option linter.unusedSimpArgs false
theorem refMerge_j0 (k : Nat) (E F a b c d x y m : Int) (X Y X' Y' p q : Int) (e : Bool) (hE : 0 ≤ E ∧ E ≤ 18446744073709551616) (hF : 0 ≤ F ∧ F ≤ 18446744073709551616) :
    rickyardref02_Merge.j0 (k + 1) (cN E) (cO E) X Y a b (cN F) (cO F) X' Y' c d 0 false x y m b = some (cN (addE E F), cO (addE E F), x, y, m, greater b d) := by
  have key : ∀ g : Int, (if cO E = true then some (18446744073709551615, true, x, y, m, g) else if cO F = true then some (18446744073709551615, true, x, y, m, g) else if cN E > IntKind.u64.wrap (18446744073709551615 - cN F) then some (18446744073709551615, true, x, y, m, g) else some (IntKind.u64.wrap (cN E + cN F), false, x, y, m, g)) = some (cN (addE E F), cO (addE E F), x, y, m, g) := by
    intro g
    by_cases ho : E + F < 18446744073709551616
    · have e1 : addE E F = E + F := if_pos ho
      have e2 : cN E = E := if_neg (by omega)
      have e3 : cN F = F := if_neg (by omega)
      have e4 : cN (E + F) = E + F := if_neg (by omega)
      have e5 : cO E = false := decide_eq_false (by omega)
      have e6 : cO F = false := decide_eq_false (by omega)
      have e7 : cO (E + F) = false := decide_eq_false (by omega)
      rw [e1, e2, e3, e4, e5, e6, e7, if_neg (by decide), if_neg (by decide), if_neg (by rw [IntKind.wrap_u64]; omega), IntKind.wrap_u64, show (E + F) % 18446744073709551616 = E + F by omega]
    · have e1 : addE E F = 18446744073709551616 := if_neg ho
      have e2 : cN 18446744073709551616 = 18446744073709551615 := if_pos rfl
      have e3 : cO 18446744073709551616 = true := by decide
      rw [e1, e2, e3]
      by_cases h1 : E = 18446744073709551616
      · rw [show cO E = true from decide_eq_true h1, if_pos rfl]
      · rw [show cO E = false from decide_eq_false h1, if_neg (by decide)]
        by_cases h2 : F = 18446744073709551616
        · rw [show cO F = true from decide_eq_true h2, if_pos rfl]
        · rw [show cO F = false from decide_eq_false h2, if_neg (by decide), show cN E = E from if_neg h1, show cN F = F from if_neg h2, if_pos (by rw [IntKind.wrap_u64]; omega)]
  rw [rickyardref02_Merge.j0]
  by_cases hg : d > b
  · rw [if_pos hg, key d]
    have : greater b d = d := by unfold greater; split <;> omega
    rw [this]
  · rw [if_neg hg, key b]
    have : greater b d = b := by unfold greater; split <;> omega
    rw [this]
theorem refMerge_tup (k : Nat) {E S a b F T c d : Int} (h : OkE E S a b) (g : OkE F T c d) : rickyardref02_Merge.f (k + 1) (cN E) (cO E) (mkHi S) (mkLo S) a b (cN F) (cO F) (mkHi T) (mkLo T) c d = some (tup (addE E F) (S + T) (mnE E a F c) (mxE E b F d)) := by
  obtain ⟨p0, p1, p2, p3⟩ := h
  obtain ⟨q0, q1, q2, q3⟩ := g
  unfold rickyardref02_Merge.f
  by_cases hE : E = 0
  · rw [if_pos ((cN_zero p0 p1).2 hE)]
    have hS := (p2 hE).1
    subst hE hS
    have e : addE 0 F = F := by unfold addE; split <;> omega
    rw [tup, e, mnE, mxE, if_pos rfl, if_pos rfl, Int.zero_add]
  · rw [if_neg (fun h => hE ((cN_zero p0 p1).1 h))]
    by_cases hF : F = 0
    · rw [if_pos ((cN_zero q0 q1).2 hF)]
      have hT := (q2 hF).1
      subst hF hT
      have e : addE E 0 = E := by unfold addE; split <;> omega
      rw [tup, e, mnE, mxE, if_neg hE, if_neg hE, if_pos rfl, if_pos rfl, Int.add_zero]
    · rw [if_neg (fun h => hF ((cN_zero q0 q1).1 h))]
      unfold rickyardref01_Add.f
      rw [add_mk_mk]
      simp only [Option.bind_some]
      rw [tup, mnE, mxE, if_neg hE, if_neg hE, if_neg hF, if_neg hF]
      by_cases hc : c < a
      · rw [if_pos hc, refMerge_j0 k E F a b c d _ _ c _ _ _ _ 0 0 false ⟨p0, p1⟩ ⟨q0, q1⟩]
        have : lesser a c = c := by unfold lesser; split <;> omega
        rw [this]
      · rw [if_neg hc, refMerge_j0 k E F a b c d _ _ a _ _ _ _ 0 0 false ⟨p0, p1⟩ ⟨q0, q1⟩]
        have : lesser a c = a := by unfold lesser; split <;> omega
        rw [this]
theorem refMerge_mg (k : Nat) {a b : Ag} (ha : GoodA a) (hb : GoodA b) : rickyardref02_Merge.f (k + 1) a.f0 a.f1 a.f2.f0 a.f2.f1 a.f3 a.f4 b.f0 b.f1 b.f2.f0 b.f2.f1 b.f3 b.f4 = some ((mgA a b).f0, (mgA a b).f1, (mgA a b).f2.f0, (mgA a b).f2.f1, (mgA a b).f3, (mgA a b).f4) := by
  obtain ⟨E, S, x, y, h, _, _, rfl⟩ := goodT ha
  obtain ⟨F, T, z, w, g, _, _, rfl⟩ := goodT hb
  rw [mgA_tup h g]
  exact refMerge_tup k h g
end Go.Proofs.Yteomanpaladdjaa.Pure

namespace Go.Proofs.Yteomanpaladdjaa.P
open Go.RowKit Go.Proofs.Yteomanpaladdjaa.Pure Go.Proofs.YteomanpaladdjaaW.PrintWords Go.Proofs.YteomanpaladdjaaW.PrintLast Go.Proofs.YteomanpaladdjaaW.PrintMore
set_option linter.unusedVariables false
set_option linter.unusedSimpArgs false
/-- The document's list lies there. -/
def DL (W : World) (base : Nat) (ok : Nat → Prop) (g : Nat) (es : List En) (fr : Bool) : Prop :=
  ∃ A c, W.heap[g]? = some (.cells #[.slice A es.length c, .bool fr] 51 (0, 0)) ∧ base ≤ g ∧ ok g ∧ Kd.N k38 38 W base (fun k => ok k ∧ k ≠ g) (.slice A es.length c) es
theorem DL.mono {W : World} {base g : Nat} {ok ok' : Nat → Prop} {es : List En} {fr : Bool} (h : DL W base ok g es fr) (hm : ∀ k, ok k → ok' k) : DL W base ok' g es fr := by
  obtain ⟨A, c, h1, h2, h3, h4⟩ := h
  exact ⟨A, c, h1, h2, hm _ h3, Kd.N_mono h4 (fun k hk => ⟨hm k hk.1, hk.2⟩)⟩
theorem DL.step {W W1 : World} {base g : Nat} {ok : Nat → Prop} {es : List En} {fr : Bool} (h : DL W base ok g es fr) (hm : ∀ k, ok k → k < W.heap.size → W1.heap[k]? = W.heap[k]?) : DL W1 base ok g es fr := by
  obtain ⟨A, c, h1, h2, h3, h4⟩ := h
  exact ⟨A, c, (hm g h3 (blk_lt h1)).trans h1, h2, h3, Kd.N_step h4 (fun k hk hlt => hm k hk.1 hlt)⟩
theorem DL.below {W W1 : World} {base g : Nat} {ok : Nat → Prop} {es : List En} {fr : Bool} (h : DL W base ok g es fr) (hb : Below W.heap.size W W1) : DL W1 base ok g es fr := h.step (fun k _ hk => hb.block k hk)
theorem DL.bound {W : World} {base g : Nat} {ok : Nat → Prop} {es : List En} {fr : Bool} (h : DL W base ok g es fr) : DL W base (fun k => ok k ∧ k < W.heap.size) g es fr := by
  obtain ⟨A, c, h1, h2, h3, h4⟩ := h
  exact ⟨A, c, h1, h2, ⟨h3, blk_lt h1⟩, Kd.N_mono (Kd.N_bound h4) (fun k hk => ⟨⟨hk.1.1, hk.2⟩, hk.1.2⟩)⟩
set_option maxHeartbeats 1000000 in
set_option maxRecDepth 100000 in
theorem RPut_err (W : World) (g : Nat) (A0 : Option Addr) (n0 c0 : Nat) (es : List En) (fr : Bool) (hG : W.heap[g]? = some (.cells #[.slice A0 n0 c0, .bool fr] 51 (0, 0))) (A : Option Addr) (c : Nat) (x : En) (height : Int)
    (hbad : height < 1 ∨ 8 < height ∨ fr = true ∨ x.f0.length < 1 ∨ 256 < x.f0.length ∨ x.f1.f0 = 0 ∨ rightB x.f1 = false) :
    Calls Try.prog 22 #[.pointer (some ⟨g, 0, none⟩), enV A c x, .int .i64 height] W fun e w' => e = .returned (.int .i64 (skErr es fr x height)) ∧ Below W.heap.size W w' := by
  have hu := Try.underlying51
  have hu4 := Try.underlying38
  have hu5 := Try.underlying36
  have h17 : W.cell? ⟨g, 1, none⟩ = some (.bool fr) := (blk_cell hG 1).trans rfl
  have hha : ∀ o : Obj, (W.alloc o).cell? ⟨g, 1, none⟩ = some (.bool fr) := fun o => cell_bl' h17 (below_alloc (Below.refl _ _) o)
  clear hG h17
  by_cases c1 : height < 1
  · have e1 : skErr es fr x height = 1 := by unfold skErr; rw [if_pos (.inl c1)]
    have d1 : decide (height < 1) = true := decide_eq_true c1
    rw [e1]
    clear hbad
    go_enter Try.func22, Try.ntmps22
    go_wp2
    go_ret
    exact ⟨rfl, below_alloc (Below.refl _ _) _⟩
  have d1 : decide (height < 1) = false := decide_eq_false c1
  by_cases c2 : 8 < height
  · have e1 : skErr es fr x height = 1 := by unfold skErr; rw [if_pos (.inr c2)]
    have d2 : decide (8 < height) = true := decide_eq_true c2
    rw [e1]
    clear hbad
    go_enter Try.func22, Try.ntmps22
    go_wp2
    go_ret
    exact ⟨rfl, below_alloc (Below.refl _ _) _⟩
  have d2 : decide (8 < height) = false := decide_eq_false c2
  cases fr with
  | true =>
    have e1 : skErr es true x height = 7 := by unfold skErr; rw [if_neg (by omega), if_pos rfl]
    rw [e1]
    clear hbad
    go_enter Try.func22, Try.ntmps22
    go_wp2
    go_ret
    exact ⟨rfl, below_alloc (Below.refl _ _) _⟩
  | false =>
    by_cases c3 : x.f0.length < 1
    · have e1 : skErr es false x height = 40 := by unfold skErr; rw [if_neg (by omega), if_neg (by decide), if_pos (.inl c3)]
      have d3 : ((x.f0.length : Int) == 0) = true := by rw [beq_iff_eq]; omega
      have d3b : decide ((x.f0.length : Int) = 0) = true := decide_eq_true (by omega)
      rw [e1]
      clear hbad
      go_enter Try.func22, Try.ntmps22
      go_wp2
      go_ret
      exact ⟨rfl, below_alloc (Below.refl _ _) _⟩
    have d3 : ((x.f0.length : Int) == 0) = false := by rw [beq_eq_false_iff_ne]; omega
    have d3b : decide ((x.f0.length : Int) = 0) = false := decide_eq_false (by omega)
    by_cases c4 : 256 < x.f0.length
    · have e1 : skErr es false x height = 40 := by unfold skErr; rw [if_neg (by omega), if_neg (by decide), if_pos (.inr c4)]
      have d4 : decide ((256 : Int) < (x.f0.length : Int)) = true := decide_eq_true (by omega)
      have d4b : decide (256 < x.f0.length) = true := decide_eq_true c4
      rw [e1]
      clear hbad
      go_enter Try.func22, Try.ntmps22
      go_wp2
      go_ret
      exact ⟨rfl, below_alloc (Below.refl _ _) _⟩
    have d4 : decide ((256 : Int) < (x.f0.length : Int)) = false := decide_eq_false (by omega)
    have d4b : decide (256 < x.f0.length) = false := decide_eq_false c4
    by_cases c5 : x.f1.f0 = 0
    · have e1 : skErr es false x height = 3 := by unfold skErr; rw [if_neg (by omega), if_neg (by decide), if_neg (by omega), if_pos (.inl c5)]
      rw [e1]
      have d5 : (x.f1.f0 == 0) = true := beq_iff_eq.2 c5
      clear hbad
      go_enter Try.func22, Try.ntmps22
      go_wp2
      go_ret
      exact ⟨rfl, below_alloc (Below.refl _ _) _⟩
    have c6 : rightB x.f1 = false := by
      rcases hbad with h | h | h | h | h | h | h
      · exact absurd h c1
      · exact absurd h c2
      · cases h
      · exact absurd h c3
      · exact absurd h c4
      · exact absurd h c5
      · exact h
    have e1 : skErr es false x height = 3 := by unfold skErr; rw [if_neg (by omega), if_neg (by decide), if_neg (by omega), if_pos (.inr c6)]
    rw [e1]
    have d5 : (x.f1.f0 == 0) = false := beq_eq_false_iff_ne.2 c5
    have HR := Aside0.mk (fun W => refRight_calls x.f1 W)
    rw [c6] at HR
    clear hbad
    go_enter Try.func22, Try.ntmps22
    go_wp2_with (first | (go_at_call 35; refine (HR.out _).mono ?_; rintro e w2 ⟨rfl, hb⟩; have HB2 := Aside0.mk hb; clear hb))
    go_ret
    exact ⟨rfl, (below_alloc (Below.refl _ _) _).trans (HB2.out.mono (by rw [World.size_alloc]; omega))⟩
/-- What is known is written into an element of a row of entries. -/
theorem N_putA {W : World} {base n c i : Nat} {ok : Nat → Prop} {ad : Addr} {l : List En} {y : En} (h : Kd.N k38 38 W base ok (.slice (some ad) n c) l) (hy : l[i]? = some y) (z : Ag) :
    Kd.N k38 38 (stA W (ad.add (i * 7)) z) base ok (.slice (some ad) n c) (l.set i ⟨y.f0, z⟩) ∧ W.grownBy (stA W (ad.add (i * 7)) z) (some ad.block) ∧ ok ad.block ∧ ∀ j, W.frozen? ⟨(ad.add (i * 7)).block, (ad.add (i * 7)).off + j, none⟩ = false := by
  have hn := (Kd.N_reads' h).1
  have hi := (List.getElem?_eq_some_iff.1 hy).1
  obtain ⟨b, cp, hv, _⟩ := Kd.N_form h (by omega)
  injection hv with hv1 hv2 hv3
  obtain rfl := Option.some.inj hv1
  obtain ⟨c7, hcl, hM, hcc, hfr⟩ := Kd.N_elem h y (i : Int) (by omega) (by omega)
  rw [Int.toNat_natCast, List.getD_eq_getElem?_getD, hy] at hM
  obtain ⟨A0, c0, rfl, l0, g0⟩ := k38_openF hM
  have hs := Kd.N_seg h (i : Int) (by omega) (by omega) hcl hcc (seg := [.int .u64 z.f0, .bool z.f1, .int .i64 z.f2.f0, .int .u64 z.f2.f1, .int .i64 z.f3, .int .i64 z.f4]) (j := 1) (show 1 + 6 ≤ 7 by decide) (x' := ⟨y.f0, z⟩) (okp := fun k => ok k ∧ k ≠ b) (k38_mkF W _ ⟨y.f0, z⟩ l0 g0) (fun _ hk => hk)
  rw [Int.toNat_natCast] at hs hfr
  rw [add_mk]
  exact ⟨hs.1, hs.2, h.1 b (by simp [Value.ownBlock]), fun j => hfr j⟩
theorem es_ways {x : En} {X Y : List En} (hX : ∀ m ∈ X, cmpI m.f0 x.f0 < 0) (hY : ∀ m ∈ Y, ¬ cmpI m.f0 x.f0 < 0) (hr : Rises (X ++ Y)) :
    (∃ y Q, Y = y :: Q ∧ cmpI y.f0 x.f0 = 0 ∧ (X ++ Y).any (fun y => decide (cmpI y.f0 x.f0 = 0)) = true ∧ putL (X ++ Y) x = X ++ ⟨x.f0, mgA y.f1 x.f1⟩ :: Q) ∨
    ((∀ m ∈ Y, 0 < cmpI m.f0 x.f0) ∧ (X ++ Y).any (fun y => decide (cmpI y.f0 x.f0 = 0)) = false ∧ putL (X ++ Y) x = X ++ x :: Y) := by
  unfold Rises at hr
  rw [List.pairwise_append] at hr
  have hno : (∀ m ∈ Y, 0 < cmpI m.f0 x.f0) → (X ++ Y).any (fun y => decide (cmpI y.f0 x.f0 = 0)) = false := fun hp => by
    rw [List.any_eq_false]
    intro y hy
    rcases List.mem_append.1 hy with hk | hk
    · have := hX y hk
      rw [decide_eq_false (by omega)]; decide
    · have := hp y hk
      rw [decide_eq_false (by omega)]; decide
  cases Y with
  | nil =>
    refine .inr ⟨(fun m h => by cases h), hno (fun m h => by cases h), ?_⟩
    rw [putL_front hX]; rfl
  | cons n Q =>
    have hn := hY n (List.mem_cons_self ..)
    by_cases h0 : cmpI n.f0 x.f0 = 0
    · refine .inl ⟨n, Q, rfl, h0, ?_, ?_⟩
      · rw [List.any_eq_true]
        exact ⟨n, by simp, decide_eq_true h0⟩
      · rw [putL_front hX, putL, if_neg hn, if_pos h0]
    · have hp : ∀ m ∈ n :: Q, 0 < cmpI m.f0 x.f0 := fun m hm => by
        rcases List.mem_cons.1 hm with rfl | hm
        · omega
        · have h1 := (List.pairwise_cons.1 hr.2.1).1 m hm
          have h2 : cmpI x.f0 n.f0 < 0 := cmpI_neg.2 (by omega)
          exact cmpI_neg.1 (cmpI_trans h2 h1)
      refine .inr ⟨hp, hno hp, ?_⟩
      rw [putL_front hX, putL, if_neg hn, if_neg h0]
/-- What comes of the document's Put where all is right. -/
def RPutN (W : World) (base : Nat) (ok : Nat → Prop) (g : Nat) (es : List En) (x : En) (e : Ending) (w' : World) : Prop :=
  W.heap.size ≤ w'.heap.size ∧ (SameIO W w' ∧ ∀ k, k < W.heap.size → ¬ ok k → w'.heap[k]? = W.heap[k]?) ∧
  ((es.any (fun y => decide (cmpI y.f0 x.f0 = 0)) = true ∧ e = .returned (.int .i64 0) ∧ DL w' base (fun k => ok k ∨ W.heap.size ≤ k) g (putL es x) false) ∨
   (es.any (fun y => decide (cmpI y.f0 x.f0 = 0)) = false ∧ ((4096 ≤ es.length ∧ e = .returned (.int .i64 5) ∧ DL w' base (fun k => ok k ∨ W.heap.size ≤ k) g es false) ∨
     (es.length < 4096 ∧ e = .returned (.int .i64 0) ∧ DL w' base (fun k => ok k ∨ W.heap.size ≤ k) g (putL es x) false))))
abbrev SnR (W' : World) (bx g : Nat) (a ad : Addr) (en c0 : Nat) (x y : Ag) : Prop := W'.cell? ⟨bx, 1, none⟩ = some (.int .u64 x.f0) ∧ W'.cell? ⟨bx, 2, none⟩ = some (.bool x.f1) ∧ W'.cell? ⟨bx, 3, none⟩ = some (.int .i64 x.f2.f0) ∧ W'.cell? ⟨bx, 4, none⟩ = some (.int .u64 x.f2.f1) ∧ W'.cell? ⟨bx, 5, none⟩ = some (.int .i64 x.f3) ∧ W'.cell? ⟨bx, 6, none⟩ = some (.int .i64 x.f4) ∧ W'.cell? ⟨a.block, a.off + 1, none⟩ = some (.int .u64 y.f0) ∧ W'.cell? ⟨a.block, a.off + 2, none⟩ = some (.bool y.f1) ∧ W'.cell? ⟨a.block, a.off + 3, none⟩ = some (.int .i64 y.f2.f0) ∧ W'.cell? ⟨a.block, a.off + 4, none⟩ = some (.int .u64 y.f2.f1) ∧ W'.cell? ⟨a.block, a.off + 5, none⟩ = some (.int .i64 y.f3) ∧ W'.cell? ⟨a.block, a.off + 6, none⟩ = some (.int .i64 y.f4) ∧ W'.cell? ⟨g, 0, none⟩ = some (.slice (some ad) en c0)
theorem SnR.below {W W' : World} {bx g en c0 : Nat} {a ad : Addr} {x y : Ag} (h : SnR W bx g a ad en c0 x y) (hb : Below W.heap.size W W') : SnR W' bx g a ad en c0 x y := by
  obtain ⟨h1, h2, h3, h4, h5, h6, h7, h8, h9, h10, h11, h12, h13⟩ := h
  exact ⟨cell_bl' h1 hb, cell_bl' h2 hb, cell_bl' h3 hb, cell_bl' h4 hb, cell_bl' h5 hb, cell_bl' h6 hb, cell_bl' h7 hb, cell_bl' h8 hb, cell_bl' h9 hb, cell_bl' h10 hb, cell_bl' h11 hb, cell_bl' h12 hb, cell_bl' h13 hb⟩
set_option maxHeartbeats 2000000 in
set_option maxRecDepth 100000 in
theorem RPut_ok (W : World) (base : Nat) (ok : Nat → Prop) (g : Nat) (es : List En) (hD : DL W base ok g es false) (hgd : GoodL es) (A : Option Addr) (c : Nat) (x : En) (height : Nat) (hx : Kd.C (Kd.int .u8) W A x.f0.length x.f0) (hc : x.f0.length ≤ c)
    (h1 : 0 < height) (h2 : height ≤ 8) (h3 : 0 < x.f0.length) (h4 : x.f0.length ≤ 256) (h5 : x.f1.f0 ≠ 0) (h6 : rightB x.f1 = true) (hb : Byt x) (ho : OkAg x.f1) :
    Calls Try.prog 22 #[.pointer (some ⟨g, 0, none⟩), enV A c x, .int .i64 (height : Int)] W fun e w' => RPutN W base ok g es x e w' := by
  have hu := Try.underlying51
  have hu4 := Try.underlying38
  have hu5 := Try.underlying36
  obtain ⟨A0, c0, hG, hgb, hgo, hN⟩ := hD
  have h17 : W.cell? ⟨g, 1, none⟩ = some (.bool false) := (blk_cell hG 1).trans rfl
  have hha : ∀ o : Obj, (W.alloc o).cell? ⟨g, 1, none⟩ = some (.bool false) := fun o => cell_bl' h17 (below_alloc (Below.refl _ _) o)
  have d1 : decide ((height : Int) < 1) = false := decide_eq_false (by omega)
  have d2 : decide ((8 : Int) < (height : Int)) = false := decide_eq_false (by omega)
  have d2b : decide (8 < height) = false := decide_eq_false (by omega)
  have d3 : ((x.f0.length : Int) == 0) = false := by rw [beq_eq_false_iff_ne]; omega
  have d3b : decide ((x.f0.length : Int) = 0) = false := decide_eq_false (by omega)
  have d4 : decide ((256 : Int) < (x.f0.length : Int)) = false := decide_eq_false (by omega)
  have d4b : decide (256 < x.f0.length) = false := decide_eq_false (by omega)
  have d5 : (x.f1.f0 == 0) = false := beq_eq_false_iff_ne.2 h5
  have HR := Aside0.mk (fun W => refRight_calls x.f1 W)
  rw [h6] at HR
  obtain ⟨X, Y, hXY, hX, hY, _⟩ := es_split x.f0 es hgd.rises
  obtain ⟨en, hen⟩ : ∃ n, es.length = n := ⟨_, rfl⟩
  obtain ⟨p, hp⟩ : ∃ p, X.length = p := ⟨_, rfl⟩
  have HXY := Aside0.mk (show es = X ++ Y ∧ (∀ m ∈ X, cmpI m.f0 x.f0 < 0) ∧ (∀ m ∈ Y, ¬ cmpI m.f0 x.f0 < 0) from ⟨hXY, hX, hY⟩)
  have HPE := Aside0.mk (show X.length = p ∧ es.length = en ∧ p ≤ en ∧ en ≤ 4096 from ⟨hp, hen, by rw [← hen, hXY, List.length_append]; omega, by rw [← hen]; exact hgd.most⟩)
  have HGD := Aside0.mk hgd
  have HGX := Aside0.mk (show GoodA x.f1 from ⟨ho, h6⟩)
  have HK4 := Aside0.mk (show x.f0.length ≤ 256 from h4)
  have HPL := Aside0.mk (fun (V : World) (hV : Below W.heap.size W V) => Place_calls V g A0 c0 es false (blk_below hG hV) (Kd.N_reads' (Kd.N_below hN hV)).2.2 (by have := hgd.most; omega) A c x.f0 (Kd.C_below hx hV) X Y hXY hX hY)
  rw [hp] at HPL
  rw [hen] at hG hN
  have HG := Aside0.mk hG
  have HN := Aside0.mk hN
  have HX := Aside0.mk hx
  have HCC := Aside0.mk hc
  have HBO := Aside0.mk (And.intro hgb hgo)
  have HBY := Aside0.mk hb
  clear h1 h2 h3 h4 h5 h6 hG hN hx hc hgb hgo hgd hb ho hXY hX hY hp hen h17
  go_enter Try.func22, Try.ntmps22
  have hb0 := below_alloc (Below.refl W.heap.size W) (.cells (bxC A c x).toArray 38)
  have HB0 := Aside0.mk hb0
  have HBX0 := Aside0.mk (blk_new W (.cells (bxC A c x).toArray 38))
  clear hb0
  go_upto_region 9 with (first | (go_at_call 35; refine (HR.out _).mono ?_; rintro e w2 ⟨rfl, hb⟩; have HB2 := Aside0.mk hb; clear hb))
  have HW2 := Aside0.mk (show Below W.heap.size W w2 from HB0.out.trans (HB2.out.mono HB0.out.size))
  have HBX2 := Aside0.mk (show w2.heap[W.heap.size]? = some (.cells (bxC A c x).toArray 38 (0, 0)) from blk_below HBX0.out HB2.out)
  clear HB2 HB0 HBX0
  have bx0 : w2.cell? ⟨W.heap.size, 0, none⟩ = some (.slice A x.f0.length c) := (blk_cell HBX2.out 0).trans rfl
  have HPL2 := Aside0.mk (HPL.out w2 HW2.out)
  go_upto_region 10 with (first | (go_at_call 36; refine (HPL2.out).mono ?_; rintro e V ⟨rfl, hb⟩; have HWV := Aside0.mk (show Below W.heap.size W V from HW2.out.trans (hb.mono HW2.out.size)); have HBX := Aside0.mk (blk_below HBX2.out hb); clear hb))
  clear bx0 HW2 HBX2 HPL2 HPL hha
  have hgv := blk_below HG.out HWV.out
  have g0 : V.cell? ⟨g, 0, none⟩ = some (.slice A0 en c0) := (blk_cell hgv 0).trans rfl
  have b0 : V.cell? ⟨W.heap.size, 0, none⟩ = some (.slice A x.f0.length c) := (blk_cell HBX.out 0).trans rfl
  have HGV := Aside0.mk hgv
  have HNV := Aside0.mk (Kd.N_below HN.out HWV.out)
  clear hgv
  have hcx := fun n_ : Nat => Kd.C_string (P := Try.prog) (A := A) (c := c) Try.underlying23 Try.underlying5 Try.underlying9 (Kd.C_drewN (Kd.C_below HX.out HWV.out) n_)
  rcases es_ways (x := x) (X := X) (Y := Y) HXY.out.2.1 (fun m hm => by have := HXY.out.2.2 m hm; omega) (by rw [← HXY.out.1]; exact HGD.out.rises) with ⟨y, Q, hYQ, hy0, hany, hput⟩ | ⟨hgt, hany, hput⟩
  · have hyi : es[p]? = some y := by rw [HXY.out.1, hYQ, ← HPE.out.1, List.getElem?_append_right (Nat.le_refl _), Nat.sub_self]; rfl
    have hpl : p < en := by rw [← HPE.out.2.1]; exact (List.getElem?_eq_some_iff.1 hyi).1
    have d6 : decide ((p : Int) < (en : Int)) = true := decide_eq_true (by omega)
    have d6b : decide (p < en) = true := decide_eq_true hpl
    have i1 : (0 ≤ (p : Int)) = True := eq_true (by omega)
    have i2 : ((p : Int) < (en : Int)) = True := eq_true (by omega)
    have i3 : (p < en) = True := eq_true hpl
    obtain ⟨ad, By, dy, hA, k0, k1, k2, k3, k4, k5, k6, ly, cy⟩ := at_en (Kd.N_reads' HNV.out).2.2 hyi
    subst hA
    have hcy := fun n_ : Nat => Kd.C_string (P := Try.prog) (A := By) (c := dy) Try.underlying23 Try.underlying5 Try.underlying9 (Kd.C_drewN cy n_)
    have hst := str_beq y.f0 x.f0
    rw [decide_eq_true hy0] at hst
    have HYI := Aside0.mk hyi
    have HRES := Aside0.mk (show es.any (fun y => decide (cmpI y.f0 x.f0 = 0)) = true ∧ putL es x = es.set p ⟨y.f0, mgA y.f1 x.f1⟩ by
      have hym : y ∈ es := List.mem_of_getElem? hyi
      have hkey : y.f0 = x.f0 := (cmpI_zero (HGD.out.byt y hym) HBY.out).1 hy0
      rw [HXY.out.1]
      refine ⟨hany, ?_⟩
      rw [hput, hYQ, hkey, ← HPE.out.1, List.set_append_right _ _ (Nat.le_refl _), Nat.sub_self]
      rfl)
    clear hYQ hy0 hany hput hyi hpl ly cy
    go_wp2
    go_quiet (fail)
    obtain ⟨W2, hW2⟩ : ∃ W2, V.drewN nq = W2 := ⟨_, rfl⟩
    have b2 : Below V.heap.size V W2 := by rw [← hW2]; exact pw_below_drewN (Below.refl _ _) _
    have HSN := Aside0.mk (SnR.below (show SnR V W.heap.size g (ad.add (p * 7)) ad en c0 x.f1 y.f1 from ⟨(blk_cell HBX.out 1).trans rfl, (blk_cell HBX.out 2).trans rfl, (blk_cell HBX.out 3).trans rfl, (blk_cell HBX.out 4).trans rfl, (blk_cell HBX.out 5).trans rfl, (blk_cell HBX.out 6).trans rfl, k1, k2, k3, k4, k5, k6, g0⟩) b2)
    have HN2 := Aside0.mk (Kd.N_below HNV.out b2)
    have HG2 := Aside0.mk (blk_below HGV.out b2)
    have HW2 := Aside0.mk (show Below W.heap.size W W2 from HWV.out.trans (b2.mono HWV.out.size))
    obtain ⟨z, hz⟩ : ∃ z, mgA y.f1 x.f1 = z := ⟨_, rfl⟩
    have hrm := refMerge_mg 0 (HGD.out.good y (List.mem_of_getElem? HYI.out)) HGX.out
    rw [hz] at hrm HRES
    have HMG := Aside0.mk (fun W_ => rickyardref02_Merge.calls 1 _ _ _ _ _ _ _ _ _ _ _ _ z.f0 z.f1 z.f2.f0 z.f2.f1 z.f3 z.f4 W_ hrm)
    rw [hW2]
    clear hz hrm b2 hW2 k0 k1 k2 k3 k4 k5 k6 g0 b0 hcx hcy hst
    go_wp2
    have HS0 := Aside0.mk (show SnR W2.drew W.heap.size g (ad.add (p * 7)) ad en c0 x.f1 y.f1 from HSN.out)
    refine wp_region_last_drew (ds := [18]) (S := fun W' => W'.cell? ⟨W.heap.size, 1, none⟩ = some (.int .u64 x.f1.f0) ∧ W'.cell? ⟨W.heap.size, 2, none⟩ = some (.bool x.f1.f1) ∧ W'.cell? ⟨W.heap.size, 3, none⟩ = some (.int .i64 x.f1.f2.f0) ∧ W'.cell? ⟨W.heap.size, 4, none⟩ = some (.int .u64 x.f1.f2.f1) ∧ W'.cell? ⟨W.heap.size, 5, none⟩ = some (.int .i64 x.f1.f3) ∧ W'.cell? ⟨W.heap.size, 6, none⟩ = some (.int .i64 x.f1.f4) ∧ W'.cell? ⟨(ad.add (p * 7)).block, (ad.add (p * 7)).off + 1, none⟩ = some (.int .u64 y.f1.f0) ∧ W'.cell? ⟨(ad.add (p * 7)).block, (ad.add (p * 7)).off + 2, none⟩ = some (.bool y.f1.f1) ∧ W'.cell? ⟨(ad.add (p * 7)).block, (ad.add (p * 7)).off + 3, none⟩ = some (.int .i64 y.f1.f2.f0) ∧ W'.cell? ⟨(ad.add (p * 7)).block, (ad.add (p * 7)).off + 4, none⟩ = some (.int .u64 y.f1.f2.f1) ∧ W'.cell? ⟨(ad.add (p * 7)).block, (ad.add (p * 7)).off + 5, none⟩ = some (.int .i64 y.f1.f3) ∧ W'.cell? ⟨(ad.add (p * 7)).block, (ad.add (p * 7)).off + 6, none⟩ = some (.int .i64 y.f1.f4) ∧ W'.cell? ⟨g, 0, none⟩ = some (.slice (some ad) en c0)) (by kernel_rfl) ?_ (fun hS0 => ?_);
    focus exact HS0.out
    (refine wpAnyLast_take (i := 0) (v := ?_) rfl (by kernel_rfl) (by kernel_rfl) (by kernel_rfl) (by kernel_rfl) (by kernel_rfl) (fun _ _ _ h => h) (Or.inl ⟨by rfl, ?_⟩) (by assumption) ?_; rotate_left 1; focus (intro ww hSw; (try dsimp only at hSw); go_simp; try with_reducible rfl)); try simp only [Act.put, List.setIfInBounds_toArray, List.set_cons_zero, List.set_cons_succ]
    (refine wpAnyLast_take (i := 1) (v := ?_) rfl (by kernel_rfl) (by kernel_rfl) (by kernel_rfl) (by kernel_rfl) (by kernel_rfl) (fun _ _ _ h => h) (Or.inl ⟨by rfl, ?_⟩) (by assumption) ?_; rotate_left 1; focus (intro ww hSw; (try dsimp only at hSw); go_simp; try with_reducible rfl)); try simp only [Act.put, List.setIfInBounds_toArray, List.set_cons_zero, List.set_cons_succ]
    (refine wpAnyLast_take (i := 2) (v := ?_) rfl (by kernel_rfl) (by kernel_rfl) (by kernel_rfl) (by kernel_rfl) (by kernel_rfl) (fun _ _ _ h => h) (Or.inl ⟨by rfl, ?_⟩) (by assumption) ?_; rotate_left 1; focus (intro ww hSw; (try dsimp only at hSw); go_simp; try with_reducible rfl)); try simp only [Act.put, List.setIfInBounds_toArray, List.set_cons_zero, List.set_cons_succ]
    (refine wpAnyLast_take (i := 3) (v := ?_) rfl (by kernel_rfl) (by kernel_rfl) (by kernel_rfl) (by kernel_rfl) (by kernel_rfl) (fun _ _ _ h => h) (Or.inl ⟨by rfl, ?_⟩) (by assumption) ?_; rotate_left 1; focus (intro ww hSw; (try dsimp only at hSw); go_simp; try with_reducible rfl)); try simp only [Act.put, List.setIfInBounds_toArray, List.set_cons_zero, List.set_cons_succ]
    (refine wpAnyLast_take (i := 4) (v := ?_) rfl (by kernel_rfl) (by kernel_rfl) (by kernel_rfl) (by kernel_rfl) (by kernel_rfl) (fun _ _ _ h => h) (Or.inl ⟨by rfl, ?_⟩) (by assumption) ?_; rotate_left 1; focus (intro ww hSw; (try dsimp only at hSw); go_simp; try with_reducible rfl)); try simp only [Act.put, List.setIfInBounds_toArray, List.set_cons_zero, List.set_cons_succ]
    (refine wpAnyLast_take (i := 5) (v := ?_) rfl (by kernel_rfl) (by kernel_rfl) (by kernel_rfl) (by kernel_rfl) (by kernel_rfl) (fun _ _ _ h => h) (Or.inl ⟨by rfl, ?_⟩) (by assumption) ?_; rotate_left 1; focus (intro ww hSw; (try dsimp only at hSw); go_simp; try with_reducible rfl)); try simp only [Act.put, List.setIfInBounds_toArray, List.set_cons_zero, List.set_cons_succ]
    (refine wpAnyLast_take (i := 6) (v := ?_) rfl (by kernel_rfl) (by kernel_rfl) (by kernel_rfl) (by kernel_rfl) (by kernel_rfl) (fun _ _ _ h => h) (Or.inl ⟨by rfl, ?_⟩) (by assumption) ?_; rotate_left 1; focus (intro ww hSw; (try dsimp only at hSw); go_simp; try with_reducible rfl)); try simp only [Act.put, List.setIfInBounds_toArray, List.set_cons_zero, List.set_cons_succ]
    (refine wpAnyLast_take (i := 7) (v := ?_) rfl (by kernel_rfl) (by kernel_rfl) (by kernel_rfl) (by kernel_rfl) (by kernel_rfl) (fun _ _ _ h => h) (Or.inl ⟨by rfl, ?_⟩) (by assumption) ?_; rotate_left 1; focus (intro ww hSw; (try dsimp only at hSw); go_simp; try with_reducible rfl)); try simp only [Act.put, List.setIfInBounds_toArray, List.set_cons_zero, List.set_cons_succ]
    (refine wpAnyLast_take (i := 8) (v := ?_) rfl (by kernel_rfl) (by kernel_rfl) (by kernel_rfl) (by kernel_rfl) (by kernel_rfl) (fun _ _ _ h => h) (Or.inl ⟨by rfl, ?_⟩) (by assumption) ?_; rotate_left 1; focus (intro ww hSw; (try dsimp only at hSw); go_simp; try with_reducible rfl)); try simp only [Act.put, List.setIfInBounds_toArray, List.set_cons_zero, List.set_cons_succ]
    (refine wpAnyLast_take (i := 9) (v := ?_) rfl (by kernel_rfl) (by kernel_rfl) (by kernel_rfl) (by kernel_rfl) (by kernel_rfl) (fun _ _ _ h => h) (Or.inl ⟨by rfl, ?_⟩) (by assumption) ?_; rotate_left 1; focus (intro ww hSw; (try dsimp only at hSw); go_simp; try with_reducible rfl)); try simp only [Act.put, List.setIfInBounds_toArray, List.set_cons_zero, List.set_cons_succ]
    (refine wpAnyLast_take (i := 10) (v := ?_) rfl (by kernel_rfl) (by kernel_rfl) (by kernel_rfl) (by kernel_rfl) (by kernel_rfl) (fun _ _ _ h => h) (Or.inl ⟨by rfl, ?_⟩) (by assumption) ?_; rotate_left 1; focus (intro ww hSw; (try dsimp only at hSw); go_simp; try with_reducible rfl)); try simp only [Act.put, List.setIfInBounds_toArray, List.set_cons_zero, List.set_cons_succ]
    (refine wpAnyLast_take (i := 11) (v := ?_) rfl (by kernel_rfl) (by kernel_rfl) (by kernel_rfl) (by kernel_rfl) (by kernel_rfl) (fun _ _ _ h => h) (Or.inl ⟨by rfl, ?_⟩) (by assumption) ?_; rotate_left 1; focus (intro ww hSw; (try dsimp only at hSw); go_simp; try with_reducible rfl)); try simp only [Act.put, List.setIfInBounds_toArray, List.set_cons_zero, List.set_cons_succ]
    (refine wpAnyLast_take (i := 12) (v := ?_) rfl (by kernel_rfl) (by kernel_rfl) (by kernel_rfl) (by kernel_rfl) (by kernel_rfl) (fun _ _ _ h => h) (Or.inl ⟨by rfl, ?_⟩) (by assumption) ?_; rotate_left 1; focus (intro ww hSw; (try dsimp only at hSw); go_simp; try with_reducible rfl)); try simp only [Act.put, List.setIfInBounds_toArray, List.set_cons_zero, List.set_cons_succ]
    (refine wpAnyLast_take (i := 13) (v := ?_) rfl (by kernel_rfl) (by kernel_rfl) (by kernel_rfl) (by kernel_rfl) (by kernel_rfl) (fun _ _ _ h => h) (Or.inl ⟨by rfl, ?_⟩) (by assumption) ?_; rotate_left 1; focus (intro ww hSw; (try dsimp only at hSw); go_simp; try with_reducible rfl)); try simp only [Act.put, List.setIfInBounds_toArray, List.set_cons_zero, List.set_cons_succ]
    (refine wpAnyLast_take (i := 14) (v := ?_) rfl (by kernel_rfl) (by kernel_rfl) (by kernel_rfl) (by kernel_rfl) (by kernel_rfl) (fun _ _ _ h => h) (Or.inl ⟨by rfl, ?_⟩) (by assumption) ?_; rotate_left 1; focus (intro ww hSw; (try dsimp only at hSw); go_simp; try with_reducible rfl)); try simp only [Act.put, List.setIfInBounds_toArray, List.set_cons_zero, List.set_cons_succ]
    refine wpAnyLast_ready (rs := [15]) (by kernel_rfl) (by simp) (AllReadyL.cons rfl (by decide) (fun K hK => ?_) AllReadyL.nil)
    go_simp
    refine (HMG.out _).mono ?_
    rintro e w10 ⟨rfl, hb⟩
    have HB10 := Aside0.mk (show Below W2.heap.size W2 w10 from (below_drew (Below.refl _ _)).trans hb)
    have HS9 := Aside0.mk (SnR.below HSN.out HB10.out)
    clear hb
    refine hK _ _ HS9.out (fun hS1 => ?_)
    clear hK K
    (refine wpAnyLast_take (i := 16) (v := ?_) rfl (by kernel_rfl) (by kernel_rfl) (by kernel_rfl) (by kernel_rfl) (by kernel_rfl) (fun _ _ _ h => h) (Or.inl ⟨by rfl, ?_⟩) (by assumption) ?_; rotate_left 1; focus (intro ww hSw; (try dsimp only at hSw); go_simp; try with_reducible rfl)); try simp only [Act.put, List.setIfInBounds_toArray, List.set_cons_zero, List.set_cons_succ]
    (refine wpAnyLast_take (i := 17) (v := ?_) rfl (by kernel_rfl) (by kernel_rfl) (by kernel_rfl) (by kernel_rfl) (by kernel_rfl) (fun _ _ _ h => h) (Or.inl ⟨by rfl, ?_⟩) (by assumption) ?_; rotate_left 1; focus (intro ww hSw; (try dsimp only at hSw); go_simp; try with_reducible rfl)); try simp only [Act.put, List.setIfInBounds_toArray, List.set_cons_zero, List.set_cons_succ]
    have hN10 := Kd.N_below HN2.out HB10.out
    have hput := N_putA hN10 HYI.out z
    have sn := HS9.out
    have s1 := sn.2.2.2.2.2.2.1; have s2 := sn.2.2.2.2.2.2.2.1; have s3 := sn.2.2.2.2.2.2.2.2.1; have s4 := sn.2.2.2.2.2.2.2.2.2.1; have s5 := sn.2.2.2.2.2.2.2.2.2.2.1; have s6 := sn.2.2.2.2.2.2.2.2.2.2.2.1
    have q1 := hput.2.2.2 1; have q2 := hput.2.2.2 2; have q3 := hput.2.2.2 3; have q4 := hput.2.2.2 4; have q5 := hput.2.2.2 5; have q6 := hput.2.2.2 6
    have HPUT := Aside0.mk hput
    clear sn hN10 hput
    refine wpAnyLast_ready (rs := [18]) (by kernel_rfl) (by simp) (AllReadyL.cons_last rfl (by decide) (fun K hK => ?_) AllReadyL.nil)
    (go_simp; refine hK _ _ ?_; clear hK K)
    refine wpAnyLast_done (by kernel_rfl) ?_ _;
    clear s1 s2 s3 s4 s5 s6 q1 q2 q3 q4 q5 q6
    change Exit.then _ _ Exit.normal _ (stA w10 (ad.add (p * 7)) z)
    obtain ⟨hn1, hg1, ⟨hk1, hk2⟩, _⟩ := HPUT.out
    obtain ⟨W11, hW11⟩ : ∃ W11, stA w10 (ad.add (p * 7)) z = W11 := ⟨_, rfl⟩
    rw [hW11] at hn1 hg1 ⊢
    have b11 := (Below.refl 0 w10).grown hg1 (Nat.zero_le _) (fun k _ => Nat.zero_le k)
    have HE1 := Aside0.mk hn1
    have HE2 := Aside0.mk (show W11.heap[g]? = some (.cells #[.slice (some ad) en c0, .bool false] 51 (0, 0)) from (hg1.block g (blk_lt (blk_below HG2.out HB10.out)) (fun e => hk2 (Option.some.inj e).symm)).trans (blk_below HG2.out HB10.out))
    have HE3 := Aside0.mk (show W.heap.size ≤ W11.heap.size by have h_ := b11.size; have h2_ := HB10.out.size; have h3_ := HW2.out.size; omega)
    have HE4 := Aside0.mk (show SameIO W W11 ∧ ∀ k, k < W.heap.size → ¬ ok k → W11.heap[k]? = W.heap[k]? from ⟨((SameIO.of_below HW2.out).trans (SameIO.of_below HB10.out)).trans (SameIO.of_below b11), fun k hk hnk => by
      have l1 := HW2.out.size
      have l2 := HB10.out.size
      rw [hg1.block k (by omega) (fun e => hnk (by rw [Option.some.inj e]; exact hk1)), HB10.out.block k (by omega), HW2.out.block k hk]⟩)
    clear hn1 hg1 hk1 hk2 hW11 b11
    go_wp2
    go_ret
    refine ⟨HE3.out, HE4.out, .inl ⟨HRES.out.1, rfl, some ad, c0, ?_, HBO.out.1, .inl HBO.out.2, ?_⟩⟩
    · rw [HRES.out.2, List.length_set, HPE.out.2.1]; exact HE2.out
    · rw [HRES.out.2, List.length_set, HPE.out.2.1]; exact Kd.N_mono HE1.out (fun k hk => ⟨.inl hk.1, hk.2⟩)
  · have HGT := Aside0.mk hgt
    have HRES := Aside0.mk (show es.any (fun y => decide (cmpI y.f0 x.f0 = 0)) = false ∧ putL es x = X ++ x :: Y from ⟨by rw [HXY.out.1]; exact hany, by rw [HXY.out.1]; exact hput⟩)
    clear hgt hany hput
    by_cases hpl : p < en
    · have d6 : decide ((p : Int) < (en : Int)) = true := decide_eq_true (by omega)
      have d6b : decide (p < en) = true := decide_eq_true hpl
      have i1 : (0 ≤ (p : Int)) = True := eq_true (by omega)
      have i2 : ((p : Int) < (en : Int)) = True := eq_true (by omega)
      have i3 : (p < en) = True := eq_true hpl
      obtain ⟨y, hyi⟩ : ∃ y, es[p]? = some y := ⟨_, List.getElem?_eq_getElem (by rw [HPE.out.2.1]; exact hpl)⟩
      have hym : y ∈ Y := by
        rw [HXY.out.1, List.getElem?_append_right (by rw [HPE.out.1]; exact Nat.le_refl _)] at hyi
        exact List.mem_of_getElem? hyi
      obtain ⟨ad, By, dy, hA, k0, _, _, _, _, _, _, ly, cy⟩ := at_en (Kd.N_reads' HNV.out).2.2 hyi
      subst hA
      have hcy := fun n_ : Nat => Kd.C_string (P := Try.prog) (A := By) (c := dy) Try.underlying23 Try.underlying5 Try.underlying9 (Kd.C_drewN cy n_)
      have hst := str_beq y.f0 x.f0
      rw [decide_eq_false (by have := HGT.out y hym; omega)] at hst
      clear hyi hym hpl ly cy
      go_wp2
      go_quiet (fail)
      obtain ⟨A0, hA0⟩ : ∃ A, some ad = A := ⟨_, rfl⟩
      rw [hA0] at HG HN HGV HNV g0 ⊢
      clear hA0 k0 hcy hst i1 i2 i3
      obtain ⟨W2, hW2⟩ : ∃ W2, V.drewN nq = W2 := ⟨_, rfl⟩
      have b2 : Below V.heap.size V W2 := by rw [← hW2]; exact pw_below_drewN (Below.refl _ _) _
      have HN2 := Aside0.mk (Kd.N_below HNV.out b2)
      have hg2 := blk_below HGV.out b2
      have HG2 := Aside0.mk hg2
      have HBX2 := Aside0.mk (blk_below HBX.out b2)
      have HW2 := Aside0.mk (show Below W.heap.size W W2 from HWV.out.trans (b2.mono HWV.out.size))
      rw [hW2]
      clear hW2 b2 g0 b0 hcx
      have g0 : W2.cell? ⟨g, 0, none⟩ = some (.slice A0 en c0) := (blk_cell hg2 0).trans rfl
      clear hg2
      by_cases hfull : 4096 ≤ en
      · have d7 : decide ((4096 : Int) ≤ (en : Int)) = true := decide_eq_true (by omega)
        have d7b : decide (4096 ≤ en) = true := decide_eq_true hfull
        have HFU := Aside0.mk hfull
        clear hfull
        go_wp2
        go_ret
        refine ⟨HW2.out.size, ⟨SameIO.of_below HW2.out, fun k hk _ => HW2.out.block k hk⟩, .inr ⟨HRES.out.1, .inl ⟨by rw [HPE.out.2.1]; exact HFU.out, rfl, A0, c0, ?_, HBO.out.1, .inl HBO.out.2, ?_⟩⟩⟩
        · rw [HPE.out.2.1]; exact HG2.out
        · rw [HPE.out.2.1]; exact Kd.N_mono HN2.out (fun k hk => ⟨.inl hk.1, hk.2⟩)
      · have d7 : decide ((4096 : Int) ≤ (en : Int)) = false := decide_eq_false (by omega)
        have d7b : decide (4096 ≤ en) = false := decide_eq_false hfull
        have HFU := Aside0.mk hfull
        clear hfull
        go_upto_region 16 with (fail)
        obtain ⟨i0, hi0⟩ : ∃ i, Try.prog.info? 38 = some i := ⟨_, rfl⟩
        have hi0s : i0.size = 7 := by
          have : (Try.prog.info? 38).map (·.size) = some 7 := by kernel_rfl
          rw [hi0] at this; exact Option.some.inj this
        have HFL := Aside0.mk (show Kd.F k38 W (fun k => (ok k ∧ k ≠ g) ∧ k < W.heap.size) A0 en es ∧ en ≤ c0 from ⟨Kd.N_F (Kd.N_bound HN.out), (Kd.N_reads' HN.out).2.1⟩)
        have HPN := Aside0.mk (show p ≤ en ∧ en < 4096 from ⟨HPE.out.2.2.1, by have := HFU.out; omega⟩)
        have HGL := Aside0.mk (show base ≤ W.heap.size ∧ g < W.heap.size from ⟨by have h_ := blk_lt HG.out; have h2_ := HBO.out.1; omega, blk_lt HG.out⟩)
        have hsl1 := cut_to (P := Try.prog) 22 38 .i64 Try.underlying22 hi0 A0 en c0 (p : Int) (Int.natCast_nonneg _) (Int.ofNat_le.2 HPN.out.1) HFL.out.2
        rw [Int.toNat_natCast] at hsl1
        have hft := Kd.F_take (m := p) (show Kd.F k38 W2 (fun k => (ok k ∧ k ≠ g) ∧ k < W.heap.size) A0 es.length es by rw [HPE.out.2.1]; exact Kd.F_below HFL.out.1 HW2.out) (by rw [HPE.out.2.1]; exact HPN.out.1)
        rw [List.length_take, HPE.out.2.1, Nat.min_eq_left HPN.out.1] at hft
        have HFT := Aside0.mk hft
        have HTP := Aside0.mk (show (es.take p).length = p by rw [List.length_take, HPE.out.2.1, Nat.min_eq_left HPN.out.1])
        clear hft
        go_upto_region 17 with (first
          | ((with_reducible refine gate_builtin (b := .append) (xs := #[.tmp 89, .tmp 95]) rfl ?_); at_builtin; refine Kd.N_append_rows k38 (w0 := W) W.heap.size rfl (.tmp 89) (.tmp 95) 22 38 (.agg #[.slice none 0 0, .int .u64 0, .bool false, .int .i64 0, .int .u64 0, .int .i64 0, .int .i64 0]) 72 rfl Try.underlying22 infoE rfl (by decide) (by omega) (.slice none 0 0) [] (es.take p) A0 p c0 (fun k => (ok k ∨ W.heap.size ≤ k) ∧ k ≠ g) (fun k => (ok k ∧ k ≠ g) ∧ k < W.heap.size) rfl rfl (Kd.N_nil _ _ _ _ _) ?HR ?hokp ?hf ?HB ?hbase ?hl ?_; (case HR => exact HFT.out); (case hokp => exact fun k hk => ⟨⟨.inl hk.1.1, hk.1.2⟩, by simp [Value.ownBlock]⟩); (case hf => exact fun k hk => ⟨.inr (Nat.le_trans HW2.out.size hk), by have h_ := HGL.out.2; have h2_ := HW2.out.size; omega⟩); (case HB => exact HW2.out); (case hbase => exact HW2.out.size); (case hl => have := HPN.out; simp only [List.length_nil]; omega); intro v1 w1 r1 r2 r3 r4; rw [List.nil_append] at r1; obtain ⟨A1, c1, hv1⟩ := Kd.N_slice r1; rw [HTP.out] at hv1; subst hv1; have HN1 := Aside0.mk r1; have HB1 := Aside0.mk r2; have HBX1 := Aside0.mk (show w1.heap[W.heap.size]? = some (.cells (bxC A c x).toArray 38 (0, 0)) from blk_grown HBX2.out r3 (by simp [Value.ownBlock])); clear r1 r2 r3 r4))
        clear hsl1 g0
        have hvc := HBX1.out
        have HSX := Aside0.mk (show SnX w1 W.heap.size A c x from ⟨(blk_cell hvc 0).trans rfl, (blk_cell hvc 1).trans rfl, (blk_cell hvc 2).trans rfl, (blk_cell hvc 3).trans rfl, (blk_cell hvc 4).trans rfl, (blk_cell hvc 5).trans rfl, (blk_cell hvc 6).trans rfl⟩)
        have HS0 := Aside0.mk (show SnX w1.drew W.heap.size A c x from HSX.out)
        have HCP := Aside0.mk (rickyardref05_Copy.calls A c x.f0 x.f0 w1.drew (Kd.C_below HX.out (below_drew HB1.out)) HCC.out (by unfold rickyardref05_Copy.f; rw [if_pos (by have := HK4.out; simp; omega)]; rfl))
        clear hvc
        refine wp_region_last_drew (ds := [7, 8, 9]) (S := fun W' => W'.cell? ⟨W.heap.size, 0, none⟩ = some (.slice A x.f0.length c) ∧ W'.cell? ⟨W.heap.size, 1, none⟩ = some (.int .u64 x.f1.f0) ∧ W'.cell? ⟨W.heap.size, 2, none⟩ = some (.bool x.f1.f1) ∧ W'.cell? ⟨W.heap.size, 3, none⟩ = some (.int .i64 x.f1.f2.f0) ∧ W'.cell? ⟨W.heap.size, 4, none⟩ = some (.int .u64 x.f1.f2.f1) ∧ W'.cell? ⟨W.heap.size, 5, none⟩ = some (.int .i64 x.f1.f3) ∧ W'.cell? ⟨W.heap.size, 6, none⟩ = some (.int .i64 x.f1.f4)) (by kernel_rfl) ?_ (fun hS0 => ?_);
        focus exact HS0.out
        (refine wpAnyLast_pure (i := 0) (v := ?_) rfl (by kernel_rfl) (by kernel_rfl) (by kernel_rfl) (fun _ _ _ h => h) (Or.inl ⟨by rfl, ?_⟩) ?_; rotate_left 1; focus (intro ww; go_simp; try with_reducible rfl)); try simp only [Act.put, List.setIfInBounds_toArray, List.set_cons_zero, List.set_cons_succ]
        (refine wpAnyLast_take (i := 1) (v := ?_) rfl (by kernel_rfl) (by kernel_rfl) (by kernel_rfl) (by kernel_rfl) (by kernel_rfl) (fun _ _ _ h => h) (Or.inl ⟨by rfl, ?_⟩) (by assumption) ?_; rotate_left 1; focus (intro ww hSw; (try dsimp only at hSw); go_simp; try with_reducible rfl)); try simp only [Act.put, List.setIfInBounds_toArray, List.set_cons_zero, List.set_cons_succ]
        (refine wpAnyLast_take (i := 2) (v := ?_) rfl (by kernel_rfl) (by kernel_rfl) (by kernel_rfl) (by kernel_rfl) (by kernel_rfl) (fun _ _ _ h => h) (Or.inl ⟨by rfl, ?_⟩) (by assumption) ?_; rotate_left 1; focus (intro ww hSw; (try dsimp only at hSw); go_simp; try with_reducible rfl)); try simp only [Act.put, List.setIfInBounds_toArray, List.set_cons_zero, List.set_cons_succ]
        (refine wpAnyLast_take (i := 4) (v := ?_) rfl (by kernel_rfl) (by kernel_rfl) (by kernel_rfl) (by kernel_rfl) (by kernel_rfl) (fun _ _ _ h => h) (Or.inl ⟨by rfl, ?_⟩) (by assumption) ?_; rotate_left 1; focus (intro ww hSw; (try dsimp only at hSw); go_simp; try with_reducible rfl)); try simp only [Act.put, List.setIfInBounds_toArray, List.set_cons_zero, List.set_cons_succ]
        (refine wpAnyLast_take (i := 5) (v := ?_) rfl (by kernel_rfl) (by kernel_rfl) (by kernel_rfl) (by kernel_rfl) (by kernel_rfl) (fun _ _ _ h => h) (Or.inl ⟨by rfl, ?_⟩) (by assumption) ?_; rotate_left 1; focus (intro ww hSw; (try dsimp only at hSw); go_simp; try with_reducible rfl)); try simp only [Act.put, List.setIfInBounds_toArray, List.set_cons_zero, List.set_cons_succ]
        refine wpAnyLast_ready (rs := [3]) (by kernel_rfl) (by simp) (AllReadyL.cons rfl (by decide) (fun K hK => ?_) AllReadyL.nil)
        go_simp
        refine (HCP.out).mono ?_
        rintro e w9 ⟨v9, rfl, ho9, hb9⟩
        obtain ⟨A9, c9, hv9⟩ := Kd.R_slice ho9
        subst hv9
        have HB9 := Aside0.mk (show Below w1.heap.size w1 w9 from (below_drew (Below.refl _ _)).trans hb9)
        have HO9 := Aside0.mk ho9
        have HS9 := Aside0.mk (SnX.below HSX.out HB9.out)
        clear hb9 ho9
        refine hK _ _ HS9.out (fun hS1 => ?_)
        clear hK K
        (refine wpAnyLast_take (i := 6) (v := ?_) rfl (by kernel_rfl) (by kernel_rfl) (by kernel_rfl) (by kernel_rfl) (by kernel_rfl) (fun _ _ _ h => h) (Or.inl ⟨by rfl, ?_⟩) (by assumption) ?_; rotate_left 1; focus (intro ww hSw; (try dsimp only at hSw); go_simp; try with_reducible rfl)); try simp only [Act.put, List.setIfInBounds_toArray, List.set_cons_zero, List.set_cons_succ]
        have HBW9 := Aside0.mk (show Below W.heap.size W w9 from HB1.out.trans (HB9.out.mono HB1.out.size))
        have HN9 := Aside0.mk (Kd.N_below HN1.out HB9.out)
        have HLT1 := Aside0.mk (Kd.N_lt HN1.out)
        refine wpAnyLast_ready (rs := [7]) (by kernel_rfl) (by simp) (AllReadyL.cons_last rfl (by decide) (fun K hK => ?_) AllReadyL.nil)
        (go_simp; refine hK _ _ ?_; clear hK K)
        refine wpAnyLast_ready (rs := [8]) (by kernel_rfl) (by simp) (AllReadyL.cons_last rfl (by decide) (fun K hK => ?_) AllReadyL.nil)
        refine Kd.N_append_step k38 (w0 := W) (W := w9) W.heap.size (by rfl) (.tmp 97) (.tmp 104) 22 38 (.agg #[.slice none 0 0, .int .u64 0, .bool false, .int .i64 0, .int .u64 0, .int .i64 0, .int .i64 0]) 72 rfl Try.underlying22 infoE rfl (by decide) (by omega) (.slice A1 p c1) (es.take p) x [.slice A9 x.f0.length c9, .int .u64 x.f1.f0, .bool x.f1.f1, .int .i64 x.f1.f2.f0, .int .u64 x.f1.f2.f1, .int .i64 x.f1.f3, .int .i64 x.f1.f4] (fun k => (ok k ∨ W.heap.size ≤ k) ∧ k ≠ g) (fun k => w1.heap.size ≤ k) rfl rfl ?hp ?hokp ?hf ?HO ?HB ?hbase ?hl ?_
        case hp => exact k38_mkF w9 _ x (Kd.R_reads' HO9.out).2.1 (Kd.R_F (Kd.R_mono (Kd.R_bound HO9.out) (fun k hk => hk.2.1)))
        case hokp => exact fun k hk => ⟨⟨.inr (Nat.le_trans HB1.out.size hk), by have h_ := HGL.out.2; have h2_ := HB1.out.size; omega⟩, fun e_ => by have h_ := HLT1.out k e_.symm; omega⟩
        case hf => exact fun k hk => ⟨.inr (Nat.le_trans HBW9.out.size hk), by have h_ := HGL.out.2; have h2_ := HBW9.out.size; omega⟩
        case HO => exact HN9.out
        case HB => exact HBW9.out
        case hbase => exact HBW9.out.size
        case hl => rw [HTP.out]; have := HPN.out; omega
        intro v4 w4 r1 r2 r3 r4
        obtain ⟨A4, c4, hv4⟩ := Kd.N_slice r1
        rw [List.length_append, HTP.out, List.length_singleton] at hv4
        subst hv4
        have HN4 := Aside0.mk r1
        have HB4 := Aside0.mk r2
        clear r1 r2 r3 r4
        refine hK _ _ ?_
        clear hK K
        refine wpAnyLast_ready (rs := [9]) (by kernel_rfl) (by simp) (AllReadyL.cons_last rfl (by decide) (fun K hK => ?_) AllReadyL.nil)
        (go_simp; refine hK _ _ ?_; clear hK K)
        refine wpAnyLast_done (by kernel_rfl) ?_ _;
        try simp only [Act.put, List.setIfInBounds_toArray, List.set_cons_zero, List.set_cons_succ]
        have g4 : w4.cell? ⟨g, 0, none⟩ = some (.slice A0 en c0) := (blk_cell (blk_below HG.out HB4.out) 0).trans rfl
        obtain ⟨AD, hAD⟩ : ∃ A', (if c0 = p then A0 else A0.map (·.add (p * 7))) = A' := ⟨_, rfl⟩
        obtain ⟨nD, hnD⟩ : ∃ k, en - p = k := ⟨_, rfl⟩
        obtain ⟨cD, hcD⟩ : ∃ k, c0 - p = k := ⟨_, rfl⟩
        have hsl2 := cut_from (P := Try.prog) 22 38 .i64 Try.underlying22 hi0 7 hi0s A0 en c0 (p : Int) (Int.natCast_nonneg _) (Int.ofNat_le.2 HPN.out.1)
        rw [Int.toNat_natCast, hAD, hnD, hcD] at hsl2
        have hfc := Kd.F_cut (m := p) (show Kd.F k38 W (fun k => (ok k ∧ k ≠ g) ∧ k < W.heap.size) A0 es.length es by rw [HPE.out.2.1]; exact HFL.out.1) (by rw [HPE.out.2.1]; exact HPN.out.1) (show es.length ≤ c0 by rw [HPE.out.2.1]; exact HFL.out.2)
        have hs7 : (k38).sz = 7 := rfl
        rw [hs7, hAD, List.length_drop, HPE.out.2.1, hnD] at hfc
        have HFC := Aside0.mk hfc
        have HND := Aside0.mk hnD
        clear hAD hnD hcD hfc hs7
        go_wp2_with (first
          | ((with_reducible refine gate_builtin (b := .append) (xs := #[.tmp 107, .tmp 113]) rfl ?_); at_builtin; refine Kd.N_append_rows k38 (w0 := W) W.heap.size rfl (.tmp 107) (.tmp 113) 22 38 (.agg #[.slice none 0 0, .int .u64 0, .bool false, .int .i64 0, .int .u64 0, .int .i64 0, .int .i64 0]) 72 rfl Try.underlying22 infoE rfl (by decide) (by omega) _ (es.take p ++ [x]) (es.drop p) AD nD cD (fun k => (ok k ∨ W.heap.size ≤ k) ∧ k ≠ g) (fun k => (ok k ∧ k ≠ g) ∧ k < W.heap.size) rfl rfl ?HO ?HR ?hokp ?hf ?HB ?hbase ?hl ?_; (case HO => exact HN4.out); (case HR => exact Kd.F_below HFC.out HB4.out); (case hokp => exact fun k hk => ⟨⟨.inl hk.1.1, hk.1.2⟩, fun e_ => by have h_ := Kd.N_base HN4.out k e_.symm; omega⟩); (case hf => exact fun k hk => ⟨.inr (Nat.le_trans HB4.out.size hk), by have h_ := HGL.out.2; have h2_ := HB4.out.size; omega⟩); (case HB => exact HB4.out); (case hbase => exact HB4.out.size); (case hl => rw [List.length_append, HTP.out, List.length_singleton]; have := HPN.out; have := HND.out; omega); intro v5 w5 r1 r2 r3 r4; obtain ⟨A5, c5, hv5⟩ := Kd.N_slice r1; subst hv5; have HN5 := Aside0.mk r1; have HB5 := Aside0.mk r2; have g5 : w5.cell? ⟨g, 0, none⟩ = some (.slice A0 en c0) := (blk_cell (blk_below HG.out HB5.out) 0).trans rfl; have f5 : w5.frozen? ⟨g, 0, none⟩ = false := blk_frozen (blk_below HG.out HB5.out) 0; clear r1 r2 r3 r4))
        have hfin : es.take p ++ [x] ++ es.drop p = putL es x := by
          have e1 : es.take p = X := by rw [HXY.out.1, ← HPE.out.1]; exact List.take_left ..
          have e2 : es.drop p = Y := by rw [HXY.out.1, ← HPE.out.1]; exact List.drop_left ..
          rw [e1, e2, HRES.out.2, List.append_assoc]; rfl
        have hlen : min p es.length + (es.length - p + 1) = (putL es x).length := by
          rw [← hfin, List.length_append, List.length_append, List.length_take, List.length_drop, List.length_singleton]; omega
        have hn5 := HN5.out
        rw [hfin] at hn5
        rw [hlen]
        have HN6 := Aside0.mk hn5
        clear hfin hlen hn5 hsl2 g4 g5 f5
        go_ret
        have hg5 := blk_below HG.out HB5.out
        have hgl := blk_lt HG.out
        refine ⟨by rw [World.size_setCell]; exact HB5.out.size, ⟨(SameIO.of_below HB5.out).trans (SameIO.set _ _ _), fun k hk hnk => by
          rw [Below.heap_setCell _ _ _ k (fun e_ => hnk (by rw [show k = g from e_]; exact HBO.out.2))]; exact HB5.out.block k hk⟩, .inr ⟨HRES.out.1, .inr ⟨by rw [HPE.out.2.1]; exact HPN.out.2, rfl, A5, c5, blk_put hg5 0 _ rfl, HBO.out.1, .inl HBO.out.2, ?_⟩⟩⟩
        exact Kd.N_lower (Kd.N_far HN6.out (p := ⟨g, 0, none⟩) (fun k hk => hk.2) _) HGL.out.1
    · have d6 : decide ((p : Int) < (en : Int)) = false := decide_eq_false (by omega)
      have d6b : decide (p < en) = false := decide_eq_false hpl
      clear hpl
      go_wp2
      go_quiet (fail)
      obtain ⟨W2, hW2⟩ : ∃ W2, V.drewN nq = W2 := ⟨_, rfl⟩
      have b2 : Below V.heap.size V W2 := by rw [← hW2]; exact pw_below_drewN (Below.refl _ _) _
      have HN2 := Aside0.mk (Kd.N_below HNV.out b2)
      have hg2 := blk_below HGV.out b2
      have HG2 := Aside0.mk hg2
      have HBX2 := Aside0.mk (blk_below HBX.out b2)
      have HW2 := Aside0.mk (show Below W.heap.size W W2 from HWV.out.trans (b2.mono HWV.out.size))
      rw [hW2]
      clear hW2 b2 g0 b0 hcx
      have g0 : W2.cell? ⟨g, 0, none⟩ = some (.slice A0 en c0) := (blk_cell hg2 0).trans rfl
      clear hg2
      by_cases hfull : 4096 ≤ en
      · have d7 : decide ((4096 : Int) ≤ (en : Int)) = true := decide_eq_true (by omega)
        have d7b : decide (4096 ≤ en) = true := decide_eq_true hfull
        have HFU := Aside0.mk hfull
        clear hfull
        go_wp2
        go_ret
        refine ⟨HW2.out.size, ⟨SameIO.of_below HW2.out, fun k hk _ => HW2.out.block k hk⟩, .inr ⟨HRES.out.1, .inl ⟨by rw [HPE.out.2.1]; exact HFU.out, rfl, A0, c0, ?_, HBO.out.1, .inl HBO.out.2, ?_⟩⟩⟩
        · rw [HPE.out.2.1]; exact HG2.out
        · rw [HPE.out.2.1]; exact Kd.N_mono HN2.out (fun k hk => ⟨.inl hk.1, hk.2⟩)
      · have d7 : decide ((4096 : Int) ≤ (en : Int)) = false := decide_eq_false (by omega)
        have d7b : decide (4096 ≤ en) = false := decide_eq_false hfull
        have HFU := Aside0.mk hfull
        clear hfull
        go_upto_region 16 with (fail)
        obtain ⟨i0, hi0⟩ : ∃ i, Try.prog.info? 38 = some i := ⟨_, rfl⟩
        have hi0s : i0.size = 7 := by
          have : (Try.prog.info? 38).map (·.size) = some 7 := by kernel_rfl
          rw [hi0] at this; exact Option.some.inj this
        have HFL := Aside0.mk (show Kd.F k38 W (fun k => (ok k ∧ k ≠ g) ∧ k < W.heap.size) A0 en es ∧ en ≤ c0 from ⟨Kd.N_F (Kd.N_bound HN.out), (Kd.N_reads' HN.out).2.1⟩)
        have HPN := Aside0.mk (show p ≤ en ∧ en < 4096 from ⟨HPE.out.2.2.1, by have := HFU.out; omega⟩)
        have HGL := Aside0.mk (show base ≤ W.heap.size ∧ g < W.heap.size from ⟨by have h_ := blk_lt HG.out; have h2_ := HBO.out.1; omega, blk_lt HG.out⟩)
        have hsl1 := cut_to (P := Try.prog) 22 38 .i64 Try.underlying22 hi0 A0 en c0 (p : Int) (Int.natCast_nonneg _) (Int.ofNat_le.2 HPN.out.1) HFL.out.2
        rw [Int.toNat_natCast] at hsl1
        have hft := Kd.F_take (m := p) (show Kd.F k38 W2 (fun k => (ok k ∧ k ≠ g) ∧ k < W.heap.size) A0 es.length es by rw [HPE.out.2.1]; exact Kd.F_below HFL.out.1 HW2.out) (by rw [HPE.out.2.1]; exact HPN.out.1)
        rw [List.length_take, HPE.out.2.1, Nat.min_eq_left HPN.out.1] at hft
        have HFT := Aside0.mk hft
        have HTP := Aside0.mk (show (es.take p).length = p by rw [List.length_take, HPE.out.2.1, Nat.min_eq_left HPN.out.1])
        clear hft
        go_upto_region 17 with (first
          | ((with_reducible refine gate_builtin (b := .append) (xs := #[.tmp 89, .tmp 95]) rfl ?_); at_builtin; refine Kd.N_append_rows k38 (w0 := W) W.heap.size rfl (.tmp 89) (.tmp 95) 22 38 (.agg #[.slice none 0 0, .int .u64 0, .bool false, .int .i64 0, .int .u64 0, .int .i64 0, .int .i64 0]) 72 rfl Try.underlying22 infoE rfl (by decide) (by omega) (.slice none 0 0) [] (es.take p) A0 p c0 (fun k => (ok k ∨ W.heap.size ≤ k) ∧ k ≠ g) (fun k => (ok k ∧ k ≠ g) ∧ k < W.heap.size) rfl rfl (Kd.N_nil _ _ _ _ _) ?HR ?hokp ?hf ?HB ?hbase ?hl ?_; (case HR => exact HFT.out); (case hokp => exact fun k hk => ⟨⟨.inl hk.1.1, hk.1.2⟩, by simp [Value.ownBlock]⟩); (case hf => exact fun k hk => ⟨.inr (Nat.le_trans HW2.out.size hk), by have h_ := HGL.out.2; have h2_ := HW2.out.size; omega⟩); (case HB => exact HW2.out); (case hbase => exact HW2.out.size); (case hl => have := HPN.out; simp only [List.length_nil]; omega); intro v1 w1 r1 r2 r3 r4; rw [List.nil_append] at r1; obtain ⟨A1, c1, hv1⟩ := Kd.N_slice r1; rw [HTP.out] at hv1; subst hv1; have HN1 := Aside0.mk r1; have HB1 := Aside0.mk r2; have HBX1 := Aside0.mk (show w1.heap[W.heap.size]? = some (.cells (bxC A c x).toArray 38 (0, 0)) from blk_grown HBX2.out r3 (by simp [Value.ownBlock])); clear r1 r2 r3 r4))
        clear hsl1 g0
        have hvc := HBX1.out
        have HSX := Aside0.mk (show SnX w1 W.heap.size A c x from ⟨(blk_cell hvc 0).trans rfl, (blk_cell hvc 1).trans rfl, (blk_cell hvc 2).trans rfl, (blk_cell hvc 3).trans rfl, (blk_cell hvc 4).trans rfl, (blk_cell hvc 5).trans rfl, (blk_cell hvc 6).trans rfl⟩)
        have HS0 := Aside0.mk (show SnX w1.drew W.heap.size A c x from HSX.out)
        have HCP := Aside0.mk (rickyardref05_Copy.calls A c x.f0 x.f0 w1.drew (Kd.C_below HX.out (below_drew HB1.out)) HCC.out (by unfold rickyardref05_Copy.f; rw [if_pos (by have := HK4.out; simp; omega)]; rfl))
        clear hvc
        refine wp_region_last_drew (ds := [7, 8, 9]) (S := fun W' => W'.cell? ⟨W.heap.size, 0, none⟩ = some (.slice A x.f0.length c) ∧ W'.cell? ⟨W.heap.size, 1, none⟩ = some (.int .u64 x.f1.f0) ∧ W'.cell? ⟨W.heap.size, 2, none⟩ = some (.bool x.f1.f1) ∧ W'.cell? ⟨W.heap.size, 3, none⟩ = some (.int .i64 x.f1.f2.f0) ∧ W'.cell? ⟨W.heap.size, 4, none⟩ = some (.int .u64 x.f1.f2.f1) ∧ W'.cell? ⟨W.heap.size, 5, none⟩ = some (.int .i64 x.f1.f3) ∧ W'.cell? ⟨W.heap.size, 6, none⟩ = some (.int .i64 x.f1.f4)) (by kernel_rfl) ?_ (fun hS0 => ?_);
        focus exact HS0.out
        (refine wpAnyLast_pure (i := 0) (v := ?_) rfl (by kernel_rfl) (by kernel_rfl) (by kernel_rfl) (fun _ _ _ h => h) (Or.inl ⟨by rfl, ?_⟩) ?_; rotate_left 1; focus (intro ww; go_simp; try with_reducible rfl)); try simp only [Act.put, List.setIfInBounds_toArray, List.set_cons_zero, List.set_cons_succ]
        (refine wpAnyLast_take (i := 1) (v := ?_) rfl (by kernel_rfl) (by kernel_rfl) (by kernel_rfl) (by kernel_rfl) (by kernel_rfl) (fun _ _ _ h => h) (Or.inl ⟨by rfl, ?_⟩) (by assumption) ?_; rotate_left 1; focus (intro ww hSw; (try dsimp only at hSw); go_simp; try with_reducible rfl)); try simp only [Act.put, List.setIfInBounds_toArray, List.set_cons_zero, List.set_cons_succ]
        (refine wpAnyLast_take (i := 2) (v := ?_) rfl (by kernel_rfl) (by kernel_rfl) (by kernel_rfl) (by kernel_rfl) (by kernel_rfl) (fun _ _ _ h => h) (Or.inl ⟨by rfl, ?_⟩) (by assumption) ?_; rotate_left 1; focus (intro ww hSw; (try dsimp only at hSw); go_simp; try with_reducible rfl)); try simp only [Act.put, List.setIfInBounds_toArray, List.set_cons_zero, List.set_cons_succ]
        (refine wpAnyLast_take (i := 4) (v := ?_) rfl (by kernel_rfl) (by kernel_rfl) (by kernel_rfl) (by kernel_rfl) (by kernel_rfl) (fun _ _ _ h => h) (Or.inl ⟨by rfl, ?_⟩) (by assumption) ?_; rotate_left 1; focus (intro ww hSw; (try dsimp only at hSw); go_simp; try with_reducible rfl)); try simp only [Act.put, List.setIfInBounds_toArray, List.set_cons_zero, List.set_cons_succ]
        (refine wpAnyLast_take (i := 5) (v := ?_) rfl (by kernel_rfl) (by kernel_rfl) (by kernel_rfl) (by kernel_rfl) (by kernel_rfl) (fun _ _ _ h => h) (Or.inl ⟨by rfl, ?_⟩) (by assumption) ?_; rotate_left 1; focus (intro ww hSw; (try dsimp only at hSw); go_simp; try with_reducible rfl)); try simp only [Act.put, List.setIfInBounds_toArray, List.set_cons_zero, List.set_cons_succ]
        refine wpAnyLast_ready (rs := [3]) (by kernel_rfl) (by simp) (AllReadyL.cons rfl (by decide) (fun K hK => ?_) AllReadyL.nil)
        go_simp
        refine (HCP.out).mono ?_
        rintro e w9 ⟨v9, rfl, ho9, hb9⟩
        obtain ⟨A9, c9, hv9⟩ := Kd.R_slice ho9
        subst hv9
        have HB9 := Aside0.mk (show Below w1.heap.size w1 w9 from (below_drew (Below.refl _ _)).trans hb9)
        have HO9 := Aside0.mk ho9
        have HS9 := Aside0.mk (SnX.below HSX.out HB9.out)
        clear hb9 ho9
        refine hK _ _ HS9.out (fun hS1 => ?_)
        clear hK K
        (refine wpAnyLast_take (i := 6) (v := ?_) rfl (by kernel_rfl) (by kernel_rfl) (by kernel_rfl) (by kernel_rfl) (by kernel_rfl) (fun _ _ _ h => h) (Or.inl ⟨by rfl, ?_⟩) (by assumption) ?_; rotate_left 1; focus (intro ww hSw; (try dsimp only at hSw); go_simp; try with_reducible rfl)); try simp only [Act.put, List.setIfInBounds_toArray, List.set_cons_zero, List.set_cons_succ]
        have HBW9 := Aside0.mk (show Below W.heap.size W w9 from HB1.out.trans (HB9.out.mono HB1.out.size))
        have HN9 := Aside0.mk (Kd.N_below HN1.out HB9.out)
        have HLT1 := Aside0.mk (Kd.N_lt HN1.out)
        refine wpAnyLast_ready (rs := [7]) (by kernel_rfl) (by simp) (AllReadyL.cons_last rfl (by decide) (fun K hK => ?_) AllReadyL.nil)
        (go_simp; refine hK _ _ ?_; clear hK K)
        refine wpAnyLast_ready (rs := [8]) (by kernel_rfl) (by simp) (AllReadyL.cons_last rfl (by decide) (fun K hK => ?_) AllReadyL.nil)
        refine Kd.N_append_step k38 (w0 := W) (W := w9) W.heap.size (by rfl) (.tmp 97) (.tmp 104) 22 38 (.agg #[.slice none 0 0, .int .u64 0, .bool false, .int .i64 0, .int .u64 0, .int .i64 0, .int .i64 0]) 72 rfl Try.underlying22 infoE rfl (by decide) (by omega) (.slice A1 p c1) (es.take p) x [.slice A9 x.f0.length c9, .int .u64 x.f1.f0, .bool x.f1.f1, .int .i64 x.f1.f2.f0, .int .u64 x.f1.f2.f1, .int .i64 x.f1.f3, .int .i64 x.f1.f4] (fun k => (ok k ∨ W.heap.size ≤ k) ∧ k ≠ g) (fun k => w1.heap.size ≤ k) rfl rfl ?hp ?hokp ?hf ?HO ?HB ?hbase ?hl ?_
        case hp => exact k38_mkF w9 _ x (Kd.R_reads' HO9.out).2.1 (Kd.R_F (Kd.R_mono (Kd.R_bound HO9.out) (fun k hk => hk.2.1)))
        case hokp => exact fun k hk => ⟨⟨.inr (Nat.le_trans HB1.out.size hk), by have h_ := HGL.out.2; have h2_ := HB1.out.size; omega⟩, fun e_ => by have h_ := HLT1.out k e_.symm; omega⟩
        case hf => exact fun k hk => ⟨.inr (Nat.le_trans HBW9.out.size hk), by have h_ := HGL.out.2; have h2_ := HBW9.out.size; omega⟩
        case HO => exact HN9.out
        case HB => exact HBW9.out
        case hbase => exact HBW9.out.size
        case hl => rw [HTP.out]; have := HPN.out; omega
        intro v4 w4 r1 r2 r3 r4
        obtain ⟨A4, c4, hv4⟩ := Kd.N_slice r1
        rw [List.length_append, HTP.out, List.length_singleton] at hv4
        subst hv4
        have HN4 := Aside0.mk r1
        have HB4 := Aside0.mk r2
        clear r1 r2 r3 r4
        refine hK _ _ ?_
        clear hK K
        refine wpAnyLast_ready (rs := [9]) (by kernel_rfl) (by simp) (AllReadyL.cons_last rfl (by decide) (fun K hK => ?_) AllReadyL.nil)
        (go_simp; refine hK _ _ ?_; clear hK K)
        refine wpAnyLast_done (by kernel_rfl) ?_ _;
        try simp only [Act.put, List.setIfInBounds_toArray, List.set_cons_zero, List.set_cons_succ]
        have g4 : w4.cell? ⟨g, 0, none⟩ = some (.slice A0 en c0) := (blk_cell (blk_below HG.out HB4.out) 0).trans rfl
        obtain ⟨AD, hAD⟩ : ∃ A', (if c0 = p then A0 else A0.map (·.add (p * 7))) = A' := ⟨_, rfl⟩
        obtain ⟨nD, hnD⟩ : ∃ k, en - p = k := ⟨_, rfl⟩
        obtain ⟨cD, hcD⟩ : ∃ k, c0 - p = k := ⟨_, rfl⟩
        have hsl2 := cut_from (P := Try.prog) 22 38 .i64 Try.underlying22 hi0 7 hi0s A0 en c0 (p : Int) (Int.natCast_nonneg _) (Int.ofNat_le.2 HPN.out.1)
        rw [Int.toNat_natCast, hAD, hnD, hcD] at hsl2
        have hfc := Kd.F_cut (m := p) (show Kd.F k38 W (fun k => (ok k ∧ k ≠ g) ∧ k < W.heap.size) A0 es.length es by rw [HPE.out.2.1]; exact HFL.out.1) (by rw [HPE.out.2.1]; exact HPN.out.1) (show es.length ≤ c0 by rw [HPE.out.2.1]; exact HFL.out.2)
        have hs7 : (k38).sz = 7 := rfl
        rw [hs7, hAD, List.length_drop, HPE.out.2.1, hnD] at hfc
        have HFC := Aside0.mk hfc
        have HND := Aside0.mk hnD
        clear hAD hnD hcD hfc hs7
        go_wp2_with (first
          | ((with_reducible refine gate_builtin (b := .append) (xs := #[.tmp 107, .tmp 113]) rfl ?_); at_builtin; refine Kd.N_append_rows k38 (w0 := W) W.heap.size rfl (.tmp 107) (.tmp 113) 22 38 (.agg #[.slice none 0 0, .int .u64 0, .bool false, .int .i64 0, .int .u64 0, .int .i64 0, .int .i64 0]) 72 rfl Try.underlying22 infoE rfl (by decide) (by omega) _ (es.take p ++ [x]) (es.drop p) AD nD cD (fun k => (ok k ∨ W.heap.size ≤ k) ∧ k ≠ g) (fun k => (ok k ∧ k ≠ g) ∧ k < W.heap.size) rfl rfl ?HO ?HR ?hokp ?hf ?HB ?hbase ?hl ?_; (case HO => exact HN4.out); (case HR => exact Kd.F_below HFC.out HB4.out); (case hokp => exact fun k hk => ⟨⟨.inl hk.1.1, hk.1.2⟩, fun e_ => by have h_ := Kd.N_base HN4.out k e_.symm; omega⟩); (case hf => exact fun k hk => ⟨.inr (Nat.le_trans HB4.out.size hk), by have h_ := HGL.out.2; have h2_ := HB4.out.size; omega⟩); (case HB => exact HB4.out); (case hbase => exact HB4.out.size); (case hl => rw [List.length_append, HTP.out, List.length_singleton]; have := HPN.out; have := HND.out; omega); intro v5 w5 r1 r2 r3 r4; obtain ⟨A5, c5, hv5⟩ := Kd.N_slice r1; subst hv5; have HN5 := Aside0.mk r1; have HB5 := Aside0.mk r2; have g5 : w5.cell? ⟨g, 0, none⟩ = some (.slice A0 en c0) := (blk_cell (blk_below HG.out HB5.out) 0).trans rfl; have f5 : w5.frozen? ⟨g, 0, none⟩ = false := blk_frozen (blk_below HG.out HB5.out) 0; clear r1 r2 r3 r4))
        have hfin : es.take p ++ [x] ++ es.drop p = putL es x := by
          have e1 : es.take p = X := by rw [HXY.out.1, ← HPE.out.1]; exact List.take_left ..
          have e2 : es.drop p = Y := by rw [HXY.out.1, ← HPE.out.1]; exact List.drop_left ..
          rw [e1, e2, HRES.out.2, List.append_assoc]; rfl
        have hlen : min p es.length + (es.length - p + 1) = (putL es x).length := by
          rw [← hfin, List.length_append, List.length_append, List.length_take, List.length_drop, List.length_singleton]; omega
        have hn5 := HN5.out
        rw [hfin] at hn5
        rw [hlen]
        have HN6 := Aside0.mk hn5
        clear hfin hlen hn5 hsl2 g4 g5 f5
        go_ret
        have hg5 := blk_below HG.out HB5.out
        have hgl := blk_lt HG.out
        refine ⟨by rw [World.size_setCell]; exact HB5.out.size, ⟨(SameIO.of_below HB5.out).trans (SameIO.set _ _ _), fun k hk hnk => by
          rw [Below.heap_setCell _ _ _ k (fun e_ => hnk (by rw [show k = g from e_]; exact HBO.out.2))]; exact HB5.out.block k hk⟩, .inr ⟨HRES.out.1, .inr ⟨by rw [HPE.out.2.1]; exact HPN.out.2, rfl, A5, c5, blk_put hg5 0 _ rfl, HBO.out.1, .inl HBO.out.2, ?_⟩⟩⟩
        exact Kd.N_lower (Kd.N_far HN6.out (p := ⟨g, 0, none⟩) (fun k hk => hk.2) _) HGL.out.1
/-- The document's Put, whatever is put. -/
theorem RPut_calls (W : World) (base : Nat) (ok : Nat → Prop) (g : Nat) (es : List En) (fr : Bool) (hD : DL W base ok g es fr) (hg : GoodL es) (A : Option Addr) (c : Nat) (x : En) (height : Int) (hx : Kd.C (Kd.int .u8) W A x.f0.length x.f0) (hc : x.f0.length ≤ c) (hb : Byt x) (ho : OkAg x.f1) :
    Calls Try.prog 22 #[.pointer (some ⟨g, 0, none⟩), enV A c x, .int .i64 height] W fun e w' => e = .returned (.int .i64 (skErr es fr x height)) ∧ DL w' base (fun k => ok k ∨ W.heap.size ≤ k) g (skNew es fr x height) fr ∧ W.heap.size ≤ w'.heap.size ∧ SameIO W w' ∧ ∀ k, k < W.heap.size → ¬ ok k → w'.heap[k]? = W.heap[k]? := by
  by_cases hbad : height < 1 ∨ 8 < height ∨ fr = true ∨ x.f0.length < 1 ∨ 256 < x.f0.length ∨ x.f1.f0 = 0 ∨ rightB x.f1 = false
  · obtain ⟨A0, c0, hG, hr⟩ := id hD
    refine (RPut_err W g A0 _ c0 es fr hG A c x height hbad).mono ?_
    rintro e w' ⟨rfl, hw⟩
    refine ⟨rfl, ?_, hw.size, SameIO.of_below hw, fun k hk _ => hw.block k hk⟩
    have hne : skErr es fr x height ≠ 0 := fun e => by
      obtain ⟨e1, e2, e3, e4, e5, e6, e7, _⟩ := skErr_zero e
      rcases hbad with h | h | h | h | h | h | h
      · omega
      · omega
      · rw [e3] at h; cases h
      · omega
      · omega
      · exact e6 h
      · rw [e7] at h; cases h
    unfold skNew
    rw [if_neg hne]
    exact (hD.below hw).mono (fun k hk => .inl hk)
  · have b1 : ¬ (height < 1 ∨ 8 < height) := fun h => hbad (h.elim .inl (fun h => .inr (.inl h)))
    have b3 : fr = false := by cases fr with | false => rfl | true => exact absurd (.inr (.inr (.inl rfl))) hbad
    have b4 : ¬ (x.f0.length < 1 ∨ 256 < x.f0.length) := fun h => hbad (.inr (.inr (.inr (h.elim .inl (fun h => .inr (.inl h))))))
    have b6 : x.f1.f0 ≠ 0 := fun h => hbad (.inr (.inr (.inr (.inr (.inr (.inl h))))))
    have b7 : rightB x.f1 = true := by cases hr : rightB x.f1 with | true => rfl | false => exact absurd (.inr (.inr (.inr (.inr (.inr (.inr hr)))))) hbad
    subst b3
    obtain ⟨hn, rfl⟩ : ∃ hn : Nat, height = (hn : Int) := ⟨height.toNat, by omega⟩
    refine (RPut_ok W base ok g es hD hg A c x hn hx hc (by omega) (by omega) (by omega) (by omega) b6 b7 hb ho).mono ?_
    rintro e w' ⟨hsz, ⟨hio, hfr⟩, hways⟩
    have herr : ∀ b, es.any (fun y => decide (cmpI y.f0 x.f0 = 0)) = b → skErr es false x (hn : Int) = if b = true then 0 else if 4096 ≤ es.length then 5 else 0 := fun b hb => by
      unfold skErr
      rw [if_neg (by omega), if_neg (by decide), if_neg (by omega), if_neg (by rintro (h | h); exact b6 h; rw [b7] at h; cases h), hb]
    unfold skNew
    rcases hways with ⟨hany, rfl, hd⟩ | ⟨hany, ⟨hful, rfl, hd⟩ | ⟨hful, rfl, hd⟩⟩
    · have he := herr true hany
      rw [if_pos rfl] at he
      rw [he, if_pos rfl]
      exact ⟨rfl, hd, hsz, hio, hfr⟩
    · have he := herr false hany
      rw [if_neg (by decide), if_pos hful] at he
      rw [he, if_neg (by decide)]
      exact ⟨rfl, hd, hsz, hio, hfr⟩
    · have he := herr false hany
      rw [if_neg (by decide), if_neg (by omega)] at he
      rw [he, if_pos rfl]
      exact ⟨rfl, hd, hsz, hio, hfr⟩
end Go.Proofs.Yteomanpaladdjaa.P
