/- Put. No conditions. -/
import Derived.Test.YteomanpaladdjaaSkPutL
namespace Go.Proofs.Yteomanpaladdjaa.P
open Go.RowKit Go.Proofs.Yteomanpaladdjaa.Pure Go.Proofs.YteomanpaladdjaaW.PrintWords Go.Proofs.YteomanpaladdjaaW.PrintLast Go.Proofs.YteomanpaladdjaaW.PrintMore
set_option linter.unusedVariables false
set_option linter.unusedSimpArgs false
theorem hd17 {W : World} {base g : Nat} {ok : Nat → Prop} {ns : List Nd} {cnt sz : Int} {fr : Bool} (h : SkM W base ok g ns cnt sz fr) : W.cell? ⟨g, 17, none⟩ = some (.bool fr) := (blk_cell h.head 17).trans (by rw [List.getElem?_toArray]; rfl)
theorem hd15 {W : World} {base g : Nat} {ok : Nat → Prop} {ns : List Nd} {cnt sz : Int} {fr : Bool} (h : SkM W base ok g ns cnt sz fr) : W.cell? ⟨g, 15, none⟩ = some (.int .i64 cnt) := (blk_cell h.head 15).trans (by rw [List.getElem?_toArray]; rfl)
theorem hd16 {W : World} {base g : Nat} {ok : Nat → Prop} {ns : List Nd} {cnt sz : Int} {fr : Bool} (h : SkM W base ok g ns cnt sz fr) : W.cell? ⟨g, 16, none⟩ = some (.int .i64 sz) := (blk_cell h.head 16).trans (by rw [List.getElem?_toArray]; rfl)
set_option maxHeartbeats 4000000 in
set_option maxRecDepth 100000 in
theorem Put_err (W : World) (base : Nat) (ok : Nat → Prop) (g : Nat) (ns : List Nd) (cnt sz : Int) (fr : Bool) (hL : SkM W base ok g ns cnt sz fr) (A : Option Addr) (c : Nat) (x : En) (height : Int) (es : List En)
    (hbad : height < 1 ∨ 8 < height ∨ fr = true ∨ x.f0.length < 1 ∨ 256 < x.f0.length ∨ x.f1.f0 = 0 ∨ rightB x.f1 = false) :
    Calls Try.prog 18 #[.pointer (some ⟨g, 0, none⟩), enV A c x, .int .i64 height] W fun e w' => e = .returned (.int .i64 (skErr es fr x height)) ∧ Below W.heap.size W w' := by
  have hu := Try.underlying61
  have hu2 := Try.underlying59
  have hu3 := Try.underlying57
  have hu4 := Try.underlying38
  have hu5 := Try.underlying36
  have h17 := hd17 hL
  have hha : ∀ o : Obj, (W.alloc o).cell? ⟨g, 17, none⟩ = some (.bool fr) := fun o => cell_bl' h17 (below_alloc (Below.refl _ _) o)
  clear hL h17
  by_cases c1 : height < 1
  · have e1 : skErr es fr x height = 1 := by unfold skErr; rw [if_pos (.inl c1)]
    have d1 : decide (height < 1) = true := decide_eq_true c1
    rw [e1]
    clear hbad
    go_enter Try.func18, Try.ntmps18
    go_wp2
    go_ret
    exact ⟨rfl, below_alloc (Below.refl _ _) _⟩
  · have d1 : decide (height < 1) = false := decide_eq_false c1
    by_cases c2 : 8 < height
    · have e1 : skErr es fr x height = 1 := by unfold skErr; rw [if_pos (.inr c2)]
      have d2 : decide (8 < height) = true := decide_eq_true c2
      rw [e1]
      clear hbad
      go_enter Try.func18, Try.ntmps18
      go_wp2
      go_ret
      exact ⟨rfl, below_alloc (Below.refl _ _) _⟩
    · have d2 : decide (8 < height) = false := decide_eq_false c2
      cases fr with
      | true =>
        have e1 : skErr es true x height = 7 := by unfold skErr; rw [if_neg (by omega), if_pos rfl]
        rw [e1]
        clear hbad
        go_enter Try.func18, Try.ntmps18
        go_wp2
        go_ret
        exact ⟨rfl, below_alloc (Below.refl _ _) _⟩
      | false =>
        by_cases c3 : x.f0.length < 1
        · have e1 : skErr es false x height = 40 := by unfold skErr; rw [if_neg (by omega), if_neg (by decide), if_pos (.inl c3)]
          have d3 : decide ((x.f0.length : Int) < 1) = true := decide_eq_true (by omega)
          rw [e1]
          clear hbad
          go_enter Try.func18, Try.ntmps18
          go_wp2
          go_ret
          exact ⟨rfl, below_alloc (Below.refl _ _) _⟩
        · have d3 : decide ((x.f0.length : Int) < 1) = false := decide_eq_false (by omega)
          by_cases c4 : 256 < x.f0.length
          · have e1 : skErr es false x height = 40 := by unfold skErr; rw [if_neg (by omega), if_neg (by decide), if_pos (.inr c4)]
            have d4 : decide ((256 : Int) < (x.f0.length : Int)) = true := decide_eq_true (by omega)
            have d4b : decide (256 < x.f0.length) = true := decide_eq_true c4
            rw [e1]
            clear hbad
            go_enter Try.func18, Try.ntmps18
            go_wp2
            go_ret
            exact ⟨rfl, below_alloc (Below.refl _ _) _⟩
          · have d4 : decide ((256 : Int) < (x.f0.length : Int)) = false := decide_eq_false (by omega)
            have d4b : decide (256 < x.f0.length) = false := decide_eq_false c4
            by_cases c5 : x.f1.f0 = 0
            · have e1 : skErr es false x height = 3 := by unfold skErr; rw [if_neg (by omega), if_neg (by decide), if_neg (by omega), if_pos (.inl c5)]
              rw [e1]
              clear hbad
              have d5 : (x.f1.f0 == 0) = true := beq_iff_eq.2 c5
              go_enter Try.func18, Try.ntmps18
              go_wp2
              go_ret
              exact ⟨rfl, below_alloc (Below.refl _ _) _⟩
            · have c6 : rightB x.f1 = false := by
                rcases hbad with h | h | h | h | h | h | h
                · exact absurd h c1
                · exact absurd h c2
                · cases h
                · exact absurd h c3
                · exact absurd h c4
                · exact absurd h c5
                · exact h
              have e1 : skErr es false x height = 3 := by unfold skErr; rw [if_neg (by omega), if_neg (by decide), if_neg (by omega), if_pos (.inr c6)]
              rw [e1]
              have d5 : (x.f1.f0 == 0) = false := beq_eq_false_iff_ne.2 c5
              have HR := Aside0.mk (fun W => aggRight_calls x.f1 W)
              rw [c6] at HR
              clear hbad
              go_enter Try.func18, Try.ntmps18
              go_wp2_with (first | (go_at_call 32; refine (HR.out _).mono ?_; rintro e w2 ⟨rfl, hb⟩; have HB2 := Aside0.mk hb; clear hb))
              go_ret
              exact ⟨rfl, (below_alloc (Below.refl _ _) _).trans (HB2.out.mono (by rw [World.size_alloc]; omega))⟩
/-- Nothing is read or written outside memory. -/
def SameIO (A B : World) : Prop := B.os = A.os ∧ B.tape = A.tape ∧ B.output = A.output
theorem SameIO.of_below {n : Nat} {A B : World} (h : Below n A B) : SameIO A B := ⟨h.os, h.tape, h.output⟩
theorem SameIO.trans {A B C : World} (h : SameIO A B) (k : SameIO B C) : SameIO A C := ⟨k.1.trans h.1, k.2.1.trans h.2.1, k.2.2.trans h.2.2⟩
theorem SameIO.set (A : World) (a : Addr) (u : Value) : SameIO A (A.setCell a u) := SameIO.of_below ((Below.refl 0 A).setCell (p := a) (Nat.zero_le _) u)
theorem stN_io (W : World) (b : Nat) (z : Ag) : SameIO W (stN W b z) := (((((SameIO.set _ _ _).trans (SameIO.set _ _ _)).trans (SameIO.set _ _ _)).trans (SameIO.set _ _ _)).trans (SameIO.set _ _ _)).trans (SameIO.set _ _ _)
theorem SameIO.below {A B : World} (h : SameIO A B) (hs : A.heap.size ≤ B.heap.size) {n : Nat} (hf : ∀ k, k < n → B.heap[k]? = A.heap[k]?) : Below n A B := ⟨h.1, h.2.1, h.2.2, hs, hf⟩
abbrev SnB (W' : World) (gx b : Nat) (x y : Ag) : Prop := W'.cell? ⟨b, 1, none⟩ = some (.int .u64 y.f0) ∧ W'.cell? ⟨b, 2, none⟩ = some (.bool y.f1) ∧ W'.cell? ⟨b, 3, none⟩ = some (.int .i64 y.f2.f0) ∧ W'.cell? ⟨b, 4, none⟩ = some (.int .u64 y.f2.f1) ∧ W'.cell? ⟨b, 5, none⟩ = some (.int .i64 y.f3) ∧ W'.cell? ⟨b, 6, none⟩ = some (.int .i64 y.f4) ∧
  W'.cell? ⟨gx, 1, none⟩ = some (.int .u64 x.f0) ∧ W'.cell? ⟨gx, 2, none⟩ = some (.bool x.f1) ∧ W'.cell? ⟨gx, 3, none⟩ = some (.int .i64 x.f2.f0) ∧ W'.cell? ⟨gx, 4, none⟩ = some (.int .u64 x.f2.f1) ∧ W'.cell? ⟨gx, 5, none⟩ = some (.int .i64 x.f3) ∧ W'.cell? ⟨gx, 6, none⟩ = some (.int .i64 x.f4)
theorem SnB.below {W W' : World} {gx b : Nat} {x y : Ag} (h : SnB W gx b x y) (hb : Below W.heap.size W W') : SnB W' gx b x y := by
  obtain ⟨h1, h2, h3, h4, h5, h6, h7, h8, h9, h10, h11, h12⟩ := h
  exact ⟨cell_bl' h1 hb, cell_bl' h2 hb, cell_bl' h3 hb, cell_bl' h4 hb, cell_bl' h5 hb, cell_bl' h6 hb, cell_bl' h7 hb, cell_bl' h8 hb, cell_bl' h9 hb, cell_bl' h10 hb, cell_bl' h11 hb, cell_bl' h12 hb⟩
abbrev SnX (W' : World) (gx : Nat) (A : Option Addr) (c : Nat) (x : En) : Prop := W'.cell? ⟨gx, 0, none⟩ = some (.slice A x.f0.length c) ∧ W'.cell? ⟨gx, 1, none⟩ = some (.int .u64 x.f1.f0) ∧ W'.cell? ⟨gx, 2, none⟩ = some (.bool x.f1.f1) ∧ W'.cell? ⟨gx, 3, none⟩ = some (.int .i64 x.f1.f2.f0) ∧ W'.cell? ⟨gx, 4, none⟩ = some (.int .u64 x.f1.f2.f1) ∧ W'.cell? ⟨gx, 5, none⟩ = some (.int .i64 x.f1.f3) ∧ W'.cell? ⟨gx, 6, none⟩ = some (.int .i64 x.f1.f4)
theorem SnX.below {W W' : World} {gx c : Nat} {A : Option Addr} {x : En} (h : SnX W gx A c x) (hb : Below W.heap.size W W') : SnX W' gx A c x := by
  obtain ⟨h1, h2, h3, h4, h5, h6, h7⟩ := h
  exact ⟨cell_bl' h1 hb, cell_bl' h2 hb, cell_bl' h3 hb, cell_bl' h4 hb, cell_bl' h5 hb, cell_bl' h6 hb, cell_bl' h7 hb⟩
theorem SkN_lt {W : World} {base : Nat} {ok : Nat → Prop} : ∀ {L : List Nd}, SkN W base ok L → ∀ m ∈ L, m.b < W.heap.size
  | [], _, m, hm => by cases hm
  | a :: L, h, m, hm => by
    rcases List.mem_cons.1 hm with rfl | hm
    · exact blk_lt h.1.1
    · exact SkN_lt h.2 m hm
theorem rise_in {X Y : List Nd} {n : Nd} (hr : NdRise (X ++ Y)) (hX : ∀ m ∈ X, cmpI m.e.f0 n.e.f0 < 0) (hY : ∀ m ∈ Y, 0 < cmpI m.e.f0 n.e.f0) : NdRise (X ++ n :: Y) := by
  unfold NdRise at hr ⊢
  rw [List.pairwise_append] at hr
  rw [List.pairwise_append, List.pairwise_cons]
  refine ⟨hr.1, ⟨fun m hm => cmpI_neg.2 (hY m hm), hr.2.1⟩, fun m hm k hk => ?_⟩
  rcases List.mem_cons.1 hk with rfl | hk
  · exact hX m hm
  · exact hr.2.2 m hm k hk
theorem nx_ptr (j : Nat) : ∀ Y : List Nd, ∃ o, nx j Y = .pointer o
  | [] => ⟨_, rfl⟩
  | m :: Y => by
    rw [nx]
    by_cases h : j < m.h
    · rw [if_pos h]; exact ⟨_, rfl⟩
    · rw [if_neg h]; exact nx_ptr j Y
theorem pd_kind {W : World} {base g : Nat} {ok : Nat → Prop} {X Y : List Nd} {cnt sz : Int} {fr : Bool} (h : SkM W base ok g (X ++ Y) cnt sz fr) (i : Nat) : (∃ cs, W.heap[pdB g i X]? = some (.cells cs 61 (0, 0))) ∨ ∃ cs, W.heap[pdB g i X]? = some (.cells cs 59 (0, 0)) := by
  rcases pdB_mem i g X with e | ⟨m, hm, e, _⟩
  · rw [e]; exact .inl ⟨_, h.head⟩
  · obtain ⟨P, R, rfl⟩ := List.append_of_mem hm
    have hn := h.nodes
    rw [List.append_assoc] at hn
    rw [← e]; exact .inr ⟨_, (SkN_at hn).1⟩
/-- What lies still while a tower grows. -/
structure PutFr (W : World) (ok : Nat → Prop) (bx : List Value) (arr : Array Value) (b7 : Nat) (w' : World) : Prop where
  arr : w'.heap[b7]? = some (.cells arr 57 (0, 0))
  box : w'.heap[W.heap.size]? = some (.cells bx.toArray 38 (0, 0))
  far : SameIO W w' ∧ ∀ k, k < W.heap.size → ¬ ok k → w'.heap[k]? = W.heap[k]?
  size : W.heap.size ≤ w'.heap.size
theorem PutFr.head {W : World} {ok : Nat → Prop} {bx : List Value} {arr : Array Value} {b7 g : Nat} {w' : World} {cs : Array Value} (h : PutFr W ok bx arr b7 w') (hg : w'.heap[g]? = some (.cells cs 61 (0, 0))) (hk : ok g) (j : Nat) (u : Value) : PutFr W ok bx arr b7 (w'.setCell ⟨g, j, none⟩ u) :=
  ⟨blk_far h.arr (fun e => blk_ne h.arr hg (by decide) e) _, blk_far h.box (fun e => blk_ne h.box hg (by decide) e) _, ⟨h.far.1.trans (SameIO.set _ _ _), fun k hk1 hk2 => (set_other _ _ _ _ (fun e => hk2 (by rw [show k = g from e]; exact hk))).trans (h.far.2 k hk1 hk2)⟩, by have h_ := h.size; simpa using h_⟩
theorem sz_wrap {n : Nat} {sz : Int} (h1 : n ≤ 256) (h2 : 0 ≤ sz ∧ sz ≤ 4096 * 4096) : IntKind.i64.wrap (sz + IntKind.i64.wrap ((n : Int) + 41)) = sz + ((n : Int) + 41) := by
  rw [IntWalk.i64_left, IntWalk.i64_left]
  have e : wrap64 ((n : Int) + 41) = (n : Int) + 41 := by unfold wrap64; omega
  rw [e]
  unfold wrap64; omega
abbrev bxC (A : Option Addr) (c : Nat) (x : En) : List Value := .slice A x.f0.length c :: agC x.f1
/-- What comes of a Put that is right. -/
def PutN (W : World) (base : Nat) (ok : Nat → Prop) (g : Nat) (ns : List Nd) (sz : Int) (x : En) (height : Nat) (e : Ending) (w' : World) : Prop :=
  W.heap.size ≤ w'.heap.size ∧ (SameIO W w' ∧ ∀ k, k < W.heap.size → ¬ ok k → w'.heap[k]? = W.heap[k]?) ∧
  ∃ X Y, ns = X ++ Y ∧ (∀ m ∈ X, cmpI m.e.f0 x.f0 < 0) ∧ (∀ m ∈ Y, ¬ cmpI m.e.f0 x.f0 < 0) ∧
  ((∃ n Q, Y = n :: Q ∧ cmpI n.e.f0 x.f0 = 0 ∧ e = .returned (.int .i64 0) ∧ SkL w' base (fun k => ok k ∨ W.heap.size ≤ k) g (X ++ { n with e := ⟨n.e.f0, mgA n.e.f1 x.f1⟩ } :: Q) sz false) ∨
   ((∀ m ∈ Y, 0 < cmpI m.e.f0 x.f0) ∧ ((4096 ≤ ns.length ∧ e = .returned (.int .i64 5) ∧ SkL w' base (fun k => ok k ∨ W.heap.size ≤ k) g (X ++ Y) sz false) ∨
     (ns.length < 4096 ∧ e = .returned (.int .i64 0) ∧ ∃ n, n.e = x ∧ n.h = height ∧ SkL w' base (fun k => ok k ∨ W.heap.size ≤ k) g (X ++ n :: Y) (sz + ((x.f0.length : Int) + 41)) false))))
set_option maxHeartbeats 8000000 in
set_option maxRecDepth 100000 in
theorem Put_ok (W : World) (base : Nat) (ok : Nat → Prop) (g : Nat) (ns : List Nd) (sz : Int) (hL : SkL W base ok g ns sz false) (A : Option Addr) (c : Nat) (x : En) (height : Nat) (hx : Kd.C (Kd.int .u8) W A x.f0.length x.f0) (hc : x.f0.length ≤ c)
    (h1 : 0 < height) (h2 : height ≤ 8) (h3 : 0 < x.f0.length) (h4 : x.f0.length ≤ 256) (h5 : x.f1.f0 ≠ 0) (h6 : rightB x.f1 = true) (h7 : okW x.f1) (h8 : ∀ m ∈ ns, okW m.e.f1) (h9 : ns.length ≤ 4096) (h10 : 0 ≤ sz ∧ sz ≤ 4096 * 4096) :
    Calls Try.prog 18 #[.pointer (some ⟨g, 0, none⟩), enV A c x, .int .i64 (height : Int)] W fun e w' => PutN W base ok g ns sz x height e w' := by
  have hu := Try.underlying61
  have hu2 := Try.underlying59
  have hu3 := Try.underlying57
  have hu4 := Try.underlying38
  have hu5 := Try.underlying36
  have h17 := hd17 hL.mid
  have hha : ∀ o : Obj, (W.alloc o).cell? ⟨g, 17, none⟩ = some (.bool false) := fun o => cell_bl' h17 (below_alloc (Below.refl _ _) o)
  have d1 : decide ((height : Int) < 1) = false := decide_eq_false (by omega)
  have d2 : decide ((8 : Int) < (height : Int)) = false := decide_eq_false (by omega)
  have d2b : decide (8 < height) = false := decide_eq_false (by omega)
  have d3 : decide ((x.f0.length : Int) < 1) = false := decide_eq_false (by omega)
  have d4 : decide ((256 : Int) < (x.f0.length : Int)) = false := decide_eq_false (by omega)
  have d4b : decide (256 < x.f0.length) = false := decide_eq_false (by omega)
  have d5 : (x.f1.f0 == 0) = false := beq_eq_false_iff_ne.2 h5
  have HR := Aside0.mk (fun W => aggRight_calls x.f1 W)
  rw [h6] at HR
  have HL := Aside0.mk hL
  have HMO := Aside0.mk hL.headO
  have HX := Aside0.mk hx
  have HN := Aside0.mk (show 0 < height ∧ height ≤ 8 ∧ 0 < x.f0.length ∧ x.f0.length ≤ 256 ∧ okW x.f1 ∧ (∀ m ∈ ns, okW m.e.f1) ∧ ns.length ≤ 4096 ∧ 0 ≤ sz ∧ sz ≤ 4096 * 4096 from ⟨h1, h2, h3, h4, h7, h8, h9, h10⟩)
  have HCC := Aside0.mk hc
  clear hL hx h1 h2 h3 h4 h5 h6 h7 h8 h9 h10 h17 hc
  go_enter Try.func18, Try.ntmps18
  go_upto_region 11 with (first | (go_at_call 32; refine (HR.out _).mono ?_; rintro e w2 ⟨rfl, hb⟩; have HB2 := Aside0.mk hb; clear hb))
  have hb2 := (below_alloc (Below.refl W.heap.size W) (.cells (bxC A c x).toArray 38)).trans (HB2.out.mono (by rw [World.size_alloc]; omega))
  have HBX := Aside0.mk (show w2.heap[W.heap.size]? = some (.cells (bxC A c x).toArray 38 (0, 0)) from blk_below (blk_new W _) HB2.out)
  have HZ2 := Aside0.mk (show W.heap.size < w2.heap.size from (Array.getElem?_eq_some_iff.1 HBX.out).1)
  have HL2 := Aside0.mk (HL.out.below hb2)
  obtain ⟨X, Y, hns, hX, hY, hF⟩ := nd_split x.f0 ns HL.out.rise
  have HXK := HX
  have HF := Aside0.mk (find_calls w2 base ok g ns sz false HL2.out A c x.f0 (Kd.C_below HX.out hb2) HCC.out)
  rw [hF] at HF
  have HW2 := Aside0.mk hb2
  have HXY := Aside0.mk (show ns = X ++ Y ∧ (∀ m ∈ X, cmpI m.e.f0 x.f0 < 0) ∧ (∀ m ∈ Y, ¬ cmpI m.e.f0 x.f0 < 0) from ⟨hns, hX, hY⟩)
  clear hns hX hY hF hb2 HB2 HX
  obtain ⟨p0, hp0⟩ : ∃ p, pdB g 0 X = p := ⟨_, rfl⟩
  obtain ⟨p1, hp1⟩ : ∃ p, pdB g 1 X = p := ⟨_, rfl⟩
  obtain ⟨p2, hp2⟩ : ∃ p, pdB g 2 X = p := ⟨_, rfl⟩
  obtain ⟨p3, hp3⟩ : ∃ p, pdB g 3 X = p := ⟨_, rfl⟩
  obtain ⟨p4, hp4⟩ : ∃ p, pdB g 4 X = p := ⟨_, rfl⟩
  obtain ⟨p5, hp5⟩ : ∃ p, pdB g 5 X = p := ⟨_, rfl⟩
  obtain ⟨p6, hp6⟩ : ∃ p, pdB g 6 X = p := ⟨_, rfl⟩
  obtain ⟨p7, hp7⟩ : ∃ p, pdB g 7 X = p := ⟨_, rfl⟩
  have HP := Aside0.mk (show pdB g 0 X = p0 ∧ pdB g 1 X = p1 ∧ pdB g 2 X = p2 ∧ pdB g 3 X = p3 ∧ pdB g 4 X = p4 ∧ pdB g 5 X = p5 ∧ pdB g 6 X = p6 ∧ pdB g 7 X = p7 from ⟨hp0, hp1, hp2, hp3, hp4, hp5, hp6, hp7⟩)
  rw [hp0, hp1, hp2, hp3, hp4, hp5, hp6, hp7] at HF
  clear hp0 hp1 hp2 hp3 hp4 hp5 hp6 hp7
  have HF2 := Aside0.mk (show Calls Try.prog 33 #[.pointer (some ⟨g, 0, none⟩), .slice A x.f0.length c] w2 fun e w' => e = .returned (.agg #[.pointer (some ⟨p0, 0, none⟩), .pointer (some ⟨p1, 0, none⟩), .pointer (some ⟨p2, 0, none⟩), .pointer (some ⟨p3, 0, none⟩), .pointer (some ⟨p4, 0, none⟩), .pointer (some ⟨p5, 0, none⟩), .pointer (some ⟨p6, 0, none⟩), .pointer (some ⟨p7, 0, none⟩)]) ∧ Below w2.heap.size w2 w' from HF.out)
  clear HF
  have bx0 : w2.cell? ⟨W.heap.size, 0, none⟩ = some (.slice A x.f0.length c) := (blk_cell HBX.out 0).trans rfl
  go_upto_region 12 with (first | (go_at_call 33; refine (HF2.out).mono ?_; rintro e w3 ⟨rfl, hb⟩; have HB3 := Aside0.mk hb; clear hb))
  obtain ⟨V, hV⟩ : ∃ V, w3.alloc (.cells #[.pointer (some ⟨p0, 0, none⟩), .pointer (some ⟨p1, 0, none⟩), .pointer (some ⟨p2, 0, none⟩), .pointer (some ⟨p3, 0, none⟩), .pointer (some ⟨p4, 0, none⟩), .pointer (some ⟨p5, 0, none⟩), .pointer (some ⟨p6, 0, none⟩), .pointer (some ⟨p7, 0, none⟩)] 57) = V := ⟨_, rfl⟩
  obtain ⟨b7, hb7⟩ : ∃ b, w3.heap.size = b := ⟨_, rfl⟩
  have v2 : Below w2.heap.size w2 V := by rw [← hV]; exact below_alloc HB3.out _
  have HB7 := Aside0.mk (show V.heap[b7]? = some (.cells #[.pointer (some ⟨p0, 0, none⟩), .pointer (some ⟨p1, 0, none⟩), .pointer (some ⟨p2, 0, none⟩), .pointer (some ⟨p3, 0, none⟩), .pointer (some ⟨p4, 0, none⟩), .pointer (some ⟨p5, 0, none⟩), .pointer (some ⟨p6, 0, none⟩), .pointer (some ⟨p7, 0, none⟩)] 57 (0, 0)) by rw [← hV, ← hb7]; exact blk_new w3 _)
  have HVX := Aside0.mk (blk_below HBX.out v2)
  have HLV := Aside0.mk (HL2.out.below v2)
  have HWV := Aside0.mk (HW2.out.trans (v2.mono HW2.out.size))
  have HZ7 := Aside0.mk (show W.heap.size < b7 ∧ V.heap.size = b7 + 1 from ⟨by have := HB3.out.size; have := HZ2.out; omega, by rw [← hV, World.size_alloc, hb7]⟩)
  rw [hV, hb7]
  clear hV hb7 v2 bx0 HBX HL2 HW2 HB3 HZ2 HF2
  have x0 : V.cell? ⟨W.heap.size, 0, none⟩ = some (.slice A x.f0.length c) := (blk_cell HVX.out 0).trans rfl
  have y0 : V.cell? ⟨b7, 0, none⟩ = some (.pointer (some ⟨p0, 0, none⟩)) := (blk_cell HB7.out 0).trans rfl
  have HMV := Aside0.mk (show SkM V base ok g (X ++ Y) (X ++ Y).length sz false by rw [← HXY.out.1]; exact HLV.out.mid)
  have z0 : V.cell? ⟨p0, 7, none⟩ = some (nx 0 Y) := by rw [← HP.out.1]; exact HMV.out.pdCell (i := 0) (by decide)
  rcases put_ways (x := x) (X := X) (Y := Y) HXY.out.2.1 (fun m hm => by have := HXY.out.2.2 m hm; omega) HMV.out.rise with ⟨n, Q, hY, hn0, _, _⟩ | ⟨hgt, _, _⟩
  · have HYQ := Aside0.mk hY
    subst hY
    have hnh : 0 < n.h := (HLV.out.tall n (by rw [HXY.out.1]; simp)).1
    obtain ⟨nb, hnb⟩ : ∃ b, n.b = b := ⟨_, rfl⟩
    rw [nx, if_pos hnh, hnb] at z0
    have hna := SkN_at HMV.out.nodes
    have hnk := Kd.R_reads' hna.2.2.2
    have n0 : V.cell? ⟨nb, 0, none⟩ = some (.slice n.A n.e.f0.length n.c) := by rw [← hnb]; exact (blk_cell hna.1 0).trans (by rw [List.getElem?_toArray]; rfl)
    have hq := eq_quiet hnk.2.2 hnk.2.1 (Kd.C_below HXK.out HWV.out) HCC.out
    rw [decide_eq_true hn0] at hq
    have HQ := Aside0.mk hq
    have HNB := Aside0.mk hnb
    have HN0 := Aside0.mk hn0
    have HNA := Aside0.mk (hnb ▸ hna.1)
    clear hq hn0 hna hnk hnb hnh
    go_wp2
    go_quiet ((go_at_call 31; exact HQ.out _))
    obtain ⟨W2, hW2⟩ : ∃ W2, V.drewN nq = W2 := ⟨_, rfl⟩
    have b2 : Below V.heap.size V W2 := by rw [← hW2]; exact pw_below_drewN (Below.refl _ _) _
    have HWD := Aside0.mk b2
    have hnc := HNA.out
    have hsn : SnB V W.heap.size nb x.f1 n.e.f1 := ⟨(blk_cell hnc 1).trans (by rw [List.getElem?_toArray]; rfl), (blk_cell hnc 2).trans (by rw [List.getElem?_toArray]; rfl), (blk_cell hnc 3).trans (by rw [List.getElem?_toArray]; rfl), (blk_cell hnc 4).trans (by rw [List.getElem?_toArray]; rfl), (blk_cell hnc 5).trans (by rw [List.getElem?_toArray]; rfl), (blk_cell hnc 6).trans (by rw [List.getElem?_toArray]; rfl), (blk_cell HVX.out 1).trans rfl, (blk_cell HVX.out 2).trans rfl, (blk_cell HVX.out 3).trans rfl, (blk_cell HVX.out 4).trans rfl, (blk_cell HVX.out 5).trans rfl, (blk_cell HVX.out 6).trans rfl⟩
    have HSN := Aside0.mk (hsn.below b2)
    have HN2 := Aside0.mk (blk_below hnc b2)
    have HM2 := Aside0.mk (HMV.out.below b2)
    obtain ⟨r1, r2, r3, r4, r5, r6, hmg, hma, hmo⟩ := mgA_some (HN.out.2.2.2.2.2.1 n (by rw [HXY.out.1]; simp)) HN.out.2.2.2.2.1
    have HMG := Aside0.mk (fun W => agg_Merge.calls _ _ _ _ _ _ _ _ _ _ _ _ r1 r2 r3 r4 r5 r6 W hmg)
    have HMA := Aside0.mk hma
    rw [hW2]
    clear b2 hW2 hsn hmg hma hmo hnc n0 x0 y0 z0
    go_wp2
    have HS0 := Aside0.mk (show SnB W2.drew W.heap.size nb x.f1 n.e.f1 from HSN.out)
    refine wp_region_last_drew (ds := [10]) (S := fun W' => W'.cell? ⟨nb, 1, none⟩ = some (.int .u64 n.e.f1.f0) ∧ W'.cell? ⟨nb, 2, none⟩ = some (.bool n.e.f1.f1) ∧ W'.cell? ⟨nb, 3, none⟩ = some (.int .i64 n.e.f1.f2.f0) ∧ W'.cell? ⟨nb, 4, none⟩ = some (.int .u64 n.e.f1.f2.f1) ∧ W'.cell? ⟨nb, 5, none⟩ = some (.int .i64 n.e.f1.f3) ∧ W'.cell? ⟨nb, 6, none⟩ = some (.int .i64 n.e.f1.f4) ∧ W'.cell? ⟨W.heap.size, 1, none⟩ = some (.int .u64 x.f1.f0) ∧ W'.cell? ⟨W.heap.size, 2, none⟩ = some (.bool x.f1.f1) ∧ W'.cell? ⟨W.heap.size, 3, none⟩ = some (.int .i64 x.f1.f2.f0) ∧ W'.cell? ⟨W.heap.size, 4, none⟩ = some (.int .u64 x.f1.f2.f1) ∧ W'.cell? ⟨W.heap.size, 5, none⟩ = some (.int .i64 x.f1.f3) ∧ W'.cell? ⟨W.heap.size, 6, none⟩ = some (.int .i64 x.f1.f4)) (by kernel_rfl) ?_ (fun hS0 => ?_);
    focus exact HS0.out
    (refine wpAnyLast_take (i := 0) (v := ?_) rfl (by kernel_rfl) (by kernel_rfl) (by kernel_rfl) (by kernel_rfl) (by kernel_rfl) (fun _ _ _ h => h) (Or.inl ⟨by rfl, ?_⟩) (by assumption) ?_; rotate_left 1; focus (intro ww hSw; (try dsimp only at hSw); go_simp; try with_reducible rfl)); try simp only [Act.put, List.setIfInBounds_toArray, List.set_cons_zero, List.set_cons_succ]
    (refine wpAnyLast_take (i := 1) (v := ?_) rfl (by kernel_rfl) (by kernel_rfl) (by kernel_rfl) (by kernel_rfl) (by kernel_rfl) (fun _ _ _ h => h) (Or.inl ⟨by rfl, ?_⟩) (by assumption) ?_; rotate_left 1; focus (intro ww hSw; (try dsimp only at hSw); go_simp; try with_reducible rfl)); try simp only [Act.put, List.setIfInBounds_toArray, List.set_cons_zero, List.set_cons_succ]
    (refine wpAnyLast_take (i := 2) (v := ?_) rfl (by kernel_rfl) (by kernel_rfl) (by kernel_rfl) (by kernel_rfl) (by kernel_rfl) (fun _ _ _ h => h) (Or.inl ⟨by rfl, ?_⟩) (by assumption) ?_; rotate_left 1; focus (intro ww hSw; (try dsimp only at hSw); go_simp; try with_reducible rfl)); try simp only [Act.put, List.setIfInBounds_toArray, List.set_cons_zero, List.set_cons_succ]
    (refine wpAnyLast_take (i := 3) (v := ?_) rfl (by kernel_rfl) (by kernel_rfl) (by kernel_rfl) (by kernel_rfl) (by kernel_rfl) (fun _ _ _ h => h) (Or.inl ⟨by rfl, ?_⟩) (by assumption) ?_; rotate_left 1; focus (intro ww hSw; (try dsimp only at hSw); go_simp; try with_reducible rfl)); try simp only [Act.put, List.setIfInBounds_toArray, List.set_cons_zero, List.set_cons_succ]
    (refine wpAnyLast_take (i := 4) (v := ?_) rfl (by kernel_rfl) (by kernel_rfl) (by kernel_rfl) (by kernel_rfl) (by kernel_rfl) (fun _ _ _ h => h) (Or.inl ⟨by rfl, ?_⟩) (by assumption) ?_; rotate_left 1; focus (intro ww hSw; (try dsimp only at hSw); go_simp; try with_reducible rfl)); try simp only [Act.put, List.setIfInBounds_toArray, List.set_cons_zero, List.set_cons_succ]
    (refine wpAnyLast_take (i := 5) (v := ?_) rfl (by kernel_rfl) (by kernel_rfl) (by kernel_rfl) (by kernel_rfl) (by kernel_rfl) (fun _ _ _ h => h) (Or.inl ⟨by rfl, ?_⟩) (by assumption) ?_; rotate_left 1; focus (intro ww hSw; (try dsimp only at hSw); go_simp; try with_reducible rfl)); try simp only [Act.put, List.setIfInBounds_toArray, List.set_cons_zero, List.set_cons_succ]
    (refine wpAnyLast_take (i := 6) (v := ?_) rfl (by kernel_rfl) (by kernel_rfl) (by kernel_rfl) (by kernel_rfl) (by kernel_rfl) (fun _ _ _ h => h) (Or.inl ⟨by rfl, ?_⟩) (by assumption) ?_; rotate_left 1; focus (intro ww hSw; (try dsimp only at hSw); go_simp; try with_reducible rfl)); try simp only [Act.put, List.setIfInBounds_toArray, List.set_cons_zero, List.set_cons_succ]
    refine wpAnyLast_ready (rs := [7]) (by kernel_rfl) (by simp) (AllReadyL.cons rfl (by decide) (fun K hK => ?_) AllReadyL.nil)
    go_simp
    refine (HMG.out _).mono ?_
    rintro e w10 ⟨rfl, hb⟩
    have HB10 := Aside0.mk (show Below W2.heap.size W2 w10 from (below_drew (Below.refl _ _)).trans hb)
    have HS9 := Aside0.mk (SnB.below HSN.out HB10.out)
    clear hb
    refine hK _ _ HS9.out (fun hS1 => ?_)
    clear hK K
    (refine wpAnyLast_take (i := 8) (v := ?_) rfl (by kernel_rfl) (by kernel_rfl) (by kernel_rfl) (by kernel_rfl) (by kernel_rfl) (fun _ _ _ h => h) (Or.inl ⟨by rfl, ?_⟩) (by assumption) ?_; rotate_left 1; focus (intro ww hSw; (try dsimp only at hSw); go_simp; try with_reducible rfl)); try simp only [Act.put, List.setIfInBounds_toArray, List.set_cons_zero, List.set_cons_succ]
    (refine wpAnyLast_take (i := 9) (v := ?_) rfl (by kernel_rfl) (by kernel_rfl) (by kernel_rfl) (by kernel_rfl) (by kernel_rfl) (fun _ _ _ h => h) (Or.inl ⟨by rfl, ?_⟩) (by assumption) ?_; rotate_left 1; focus (intro ww hSw; (try dsimp only at hSw); go_simp; try with_reducible rfl)); try simp only [Act.put, List.setIfInBounds_toArray, List.set_cons_zero, List.set_cons_succ]
    have sn := HS9.out
    have s1 := sn.1; have s2 := sn.2.1; have s3 := sn.2.2.1; have s4 := sn.2.2.2.1; have s5 := sn.2.2.2.2.1; have s6 := sn.2.2.2.2.2.1
    have hn9 := blk_below HN2.out HB10.out
    have q1 : w10.frozen? ⟨nb, 1, none⟩ = false := blk_frozen hn9 1
    have q2 : w10.frozen? ⟨nb, 2, none⟩ = false := blk_frozen hn9 2
    have q3 : w10.frozen? ⟨nb, 3, none⟩ = false := blk_frozen hn9 3
    have q4 : w10.frozen? ⟨nb, 4, none⟩ = false := blk_frozen hn9 4
    have q5 : w10.frozen? ⟨nb, 5, none⟩ = false := blk_frozen hn9 5
    have q6 : w10.frozen? ⟨nb, 6, none⟩ = false := blk_frozen hn9 6
    clear sn hn9
    refine wpAnyLast_ready (rs := [10]) (by kernel_rfl) (by simp) (AllReadyL.cons_last rfl (by decide) (fun K hK => ?_) AllReadyL.nil)
    (go_simp; refine hK _ _ ?_; clear hK K)
    refine wpAnyLast_done (by kernel_rfl) ?_ _;
    clear s1 s2 s3 s4 s5 s6 q1 q2 q3 q4 q5 q6
    change Exit.then _ _ Exit.normal _ (stN w10 nb ⟨r1, r2, ⟨r3, r4⟩, r5, r6⟩)
    have hM := (HM2.out.below HB10.out).putA (X := X) (Y := Q) (n := n) ⟨r1, r2, ⟨r3, r4⟩, r5, r6⟩
    rw [← HMA.out] at hM
    rw [← HMA.out]
    have hok := (SkN_at HMV.out.nodes).2.2.1
    have hsz : (stN w10 nb (mgA n.e.f1 x.f1)).heap.size = w10.heap.size := by simp
    obtain ⟨W11, hW11⟩ : ∃ W11, stN w10 nb (mgA n.e.f1 x.f1) = W11 := ⟨_, rfl⟩
    have HFR := Aside0.mk (show SameIO W W11 ∧ ∀ k, k < W.heap.size → ¬ ok k → W11.heap[k]? = W.heap[k]? from ⟨by rw [← hW11]; exact (((SameIO.of_below HWV.out).trans (SameIO.of_below HWD.out)).trans (SameIO.of_below HB10.out)).trans (stN_io _ _ _), fun k hk hnk => by
      have hne : k ≠ nb := fun e => hnk (by rw [e, ← HNB.out]; exact hok)
      have l1 := HWV.out.size
      have l2 := HWD.out.size
      rw [← hW11, stN_other _ _ _ _ hne, HB10.out.block k (by omega), HWD.out.block k (by omega), HWV.out.block k hk]⟩)
    have HSZ := Aside0.mk (show W.heap.size ≤ W11.heap.size by rw [← hW11, hsz]; have := HWV.out.size; have := HWD.out.size; have := HB10.out.size; omega)
    rw [show stN w10 n.b (mgA n.e.f1 x.f1) = W11 by rw [HNB.out]; exact hW11] at hM
    rw [hW11]
    have HM11 := Aside0.mk hM
    clear hM hW11 hsz hok
    go_wp2
    go_ret
    refine ⟨HSZ.out, HFR.out, X, n :: Q, HXY.out.1, HXY.out.2.1, (fun m hm => by have := HXY.out.2.2 m hm; omega), .inl ⟨n, Q, rfl, HN0.out, rfl, ?_⟩⟩
    have hM := HM11.out.mono (ok' := fun k => ok k ∨ W.heap.size ≤ k) (fun k hk => Or.inl hk)
    rw [show ((X ++ n :: Q).length : Int) = ((X ++ { n with e := ⟨n.e.f0, mgA n.e.f1 x.f1⟩ } :: Q).length : Int) by simp] at hM
    refine hM.toL (fun m hm => ?_)
    have ht := HLV.out.tall
    rw [HXY.out.1] at ht
    rcases List.mem_append.1 hm with hm | hm
    · exact ht m (List.mem_append_left _ hm)
    · rcases List.mem_cons.1 hm with rfl | hm
      · exact ht n (by simp)
      · exact ht m (List.mem_append_right _ (List.mem_cons_of_mem _ hm))
  · have HGT := Aside0.mk hgt
    clear hgt
    have hYY : Y = [] ∨ ∃ n Q, Y = n :: Q := by
      cases Y with
      | nil => exact .inl rfl
      | cons n Q => exact .inr ⟨n, Q, rfl⟩
    rcases hYY with hY | ⟨n, Q, hY⟩
    · rw [hY, nx] at z0
      clear hY
      go_wp2
      go_quiet (fail)
      obtain ⟨W2, hW2⟩ : ∃ W2, V.drewN nq = W2 := ⟨_, rfl⟩
      have b2 : Below V.heap.size V W2 := by rw [← hW2]; exact pw_below_drewN (Below.refl _ _) _
      have HM2 := Aside0.mk (HMV.out.below b2)
      have HB72 := Aside0.mk (blk_below HB7.out b2)
      have HVX2 := Aside0.mk (blk_below HVX.out b2)
      have HW2 := Aside0.mk (HWV.out.trans (b2.mono HWV.out.size))
      have HZ2 := Aside0.mk b2.size
      obtain ⟨cn, hcn⟩ : ∃ m : Nat, (X ++ Y).length = m := ⟨_, rfl⟩
      have c15 := hd15 HM2.out
      rw [hcn] at c15
      have HCN := Aside0.mk hcn
      rw [hW2]
      clear b2 hW2 x0 y0 z0 hcn
      by_cases hfull : 4096 ≤ cn
      · have d6 : decide ((4096 : Int) ≤ (cn : Int)) = true := decide_eq_true (by omega)
        have d6b : decide (4096 ≤ cn) = true := decide_eq_true hfull
        have HFU := Aside0.mk hfull
        clear hfull
        go_wp2
        go_ret
        refine ⟨HW2.out.size, ⟨SameIO.of_below HW2.out, fun k hk _ => HW2.out.block k hk⟩, X, Y, HXY.out.1, HXY.out.2.1, (fun m hm => by have := HXY.out.2.2 m hm; omega), .inr ⟨HGT.out, .inl ⟨by rw [HXY.out.1, HCN.out]; exact HFU.out, rfl, ?_⟩⟩⟩
        have hM := HM2.out.mono (ok' := fun k => ok k ∨ W.heap.size ≤ k) (fun k hk => Or.inl hk)
        exact hM.toL (by rw [← HXY.out.1]; exact HLV.out.tall)
      · have d6 : decide ((4096 : Int) ≤ (cn : Int)) = false := decide_eq_false (by omega)
        have d6b : decide (4096 ≤ cn) = false := decide_eq_false hfull
        have HFU := Aside0.mk hfull
        clear hfull
        go_upto_region 18 with (fail)
        have HCL := Aside0.mk (fun W' hC => slices_Clone_byte_byte.calls A c x.f0 x.f0 W' hC HCC.out (by unfold slices_Clone_byte_byte.f; rw [if_pos (by have := HN.out.2.2.2.1; omega)]))
        have hvc := HVX2.out
        have HSX := Aside0.mk (show SnX W2 W.heap.size A c x from ⟨(blk_cell hvc 0).trans rfl, (blk_cell hvc 1).trans rfl, (blk_cell hvc 2).trans rfl, (blk_cell hvc 3).trans rfl, (blk_cell hvc 4).trans rfl, (blk_cell hvc 5).trans rfl, (blk_cell hvc 6).trans rfl⟩)
        have HS0 := Aside0.mk (show SnX W2.drew W.heap.size A c x from HSX.out)
        have HKC := Aside0.mk (show Kd.C (Kd.int .u8) W2.drew A x.f0.length x.f0 from Kd.C_below HXK.out (below_drew HW2.out))
        clear hvc
        go_region_held3 (fun W' => W'.cell? ⟨W.heap.size, 0, none⟩ = some (.slice A x.f0.length c) ∧ W'.cell? ⟨W.heap.size, 1, none⟩ = some (.int .u64 x.f1.f0) ∧ W'.cell? ⟨W.heap.size, 2, none⟩ = some (.bool x.f1.f1) ∧ W'.cell? ⟨W.heap.size, 3, none⟩ = some (.int .i64 x.f1.f2.f0) ∧ W'.cell? ⟨W.heap.size, 4, none⟩ = some (.int .u64 x.f1.f2.f1) ∧ W'.cell? ⟨W.heap.size, 5, none⟩ = some (.int .i64 x.f1.f3) ∧ W'.cell? ⟨W.heap.size, 6, none⟩ = some (.int .i64 x.f1.f4)) (first | (with_reducible exact HS0.out) | (with_reducible exact HS9.out) | (exact HS10.out _))
          (first | (go_at_call 34; refine (HCL.out _ HKC.out).mono ?_; rintro e w9 ⟨v9, rfl, ho, hb⟩; obtain ⟨A5, c5, hv5⟩ := Kd.R_slice ho; subst hv5; have HO9 := Aside0.mk ho; have HB9 := Aside0.mk (show Below W2.heap.size W2 w9 from (below_drew (Below.refl _ _)).trans hb); have HS9 := Aside0.mk (SnX.below HS0.out hb); have HS10 := Aside0.mk (fun o => SnX.below HS9.out (below_alloc (Below.refl w9.heap.size w9) o)); clear ho hb))
        all_goals
          obtain ⟨nb0, hnb0⟩ : ∃ b, w9.heap.size = b := ⟨_, rfl⟩
          obtain ⟨V1, hV1⟩ : ∃ V1, w9.alloc (.cells #[.slice A5 x.f0.length c5, .int .u64 x.f1.f0, .bool x.f1.f1, .int .i64 x.f1.f2.f0, .int .u64 x.f1.f2.f1, .int .i64 x.f1.f3, .int .i64 x.f1.f4, .pointer none, .pointer none, .pointer none, .pointer none, .pointer none, .pointer none, .pointer none, .pointer none] 59) = V1 := ⟨_, rfl⟩
          have v9 : Below w9.heap.size w9 V1 := by rw [← hV1]; exact below_alloc (Below.refl _ _) _
          have HNB := Aside0.mk (show W2.heap.size ≤ nb0 ∧ V1.heap.size = nb0 + 1 from ⟨by rw [← hnb0]; exact HB9.out.size, by rw [← hV1, World.size_alloc, hnb0]⟩)
          have hvn : V1.heap[nb0]? = some (.cells (ndC ⟨nb0, A5, c5, x, 0⟩ Y).toArray 59 (0, 0)) := by rw [← hV1, ← hnb0]; exact blk_new w9 _
          have HW9 := Aside0.mk (show Below W2.heap.size W2 V1 from HB9.out.trans (v9.mono HB9.out.size))
          have hM1 := (HM2.out.below HW9.out).mono (ok' := fun k => ok k ∨ W.heap.size ≤ k) (fun k hk => Or.inl hk)
          have hgl := blk_lt HM2.out.head
          have hWs := HW2.out.size
          have hnr : Kd.R (Kd.int .u8) 5 V1 base (fun k => ok k ∨ W.heap.size ≤ k) (.slice A5 x.f0.length c5) x.f0 := Kd.R_lower (Kd.R_mono (Kd.R_bound (Kd.R_below HO9.out v9)) (fun k hk => Or.inr (by have h_ : W2.heap.size ≤ k := hk.2.1; omega))) (by have h_ := HM2.out.headB; show base ≤ W2.heap.size; omega)
          have hM1 := hM1.insert (n := ⟨nb0, A5, c5, x, 0⟩) rfl ⟨hvn, by have h_ := HM2.out.headB; have h2_ := HNB.out.1; show base ≤ nb0; omega, Or.inr (by have h2_ := HNB.out.1; show W.heap.size ≤ nb0; omega), hnr⟩ (rise_in HM2.out.rise HXY.out.2.1 HGT.out) (by have h2_ := HNB.out.1; show nb0 ≠ g; omega) (fun m hm => by have h_ := SkN_lt HM2.out.nodes m hm; have h2_ := HNB.out.1; show m.b ≠ nb0; omega)
          rw [HCN.out] at hM1
          have HMI := Aside0.mk hM1
          have HFI := Aside0.mk (show PutFr W ok (bxC A c x) #[.pointer (some ⟨p0, 0, none⟩), .pointer (some ⟨p1, 0, none⟩), .pointer (some ⟨p2, 0, none⟩), .pointer (some ⟨p3, 0, none⟩), .pointer (some ⟨p4, 0, none⟩), .pointer (some ⟨p5, 0, none⟩), .pointer (some ⟨p6, 0, none⟩), .pointer (some ⟨p7, 0, none⟩)] b7 V1 from ⟨blk_below HB72.out HW9.out, blk_below HVX2.out HW9.out, ⟨(SameIO.of_below HW2.out).trans (SameIO.of_below HW9.out), fun k hk _ => by rw [HW9.out.block k (by omega), HW2.out.block k hk]⟩, by have h_ := HW9.out.size; omega⟩)
          rw [hnb0, hV1]
          clear hV1 hnb0 v9 hvn hM1 hnr hgl hWs HS0 HS9 HS10 HB72 HVX2 HB7 HVX HM2 HMV HW2 HWV
          go_wp2
          go_loopg [92] (height + 1) (fun kq v92 w' => ∃ i : Nat, v92 = .int .i64 (i : Int) ∧ Aside0 (i ≤ height ∧ kq = height + 1 - i) ∧ Aside0 (SkM w' base (fun k => ok k ∨ W.heap.size ≤ k) g (X ++ ⟨nb0, A5, c5, x, i⟩ :: Y) cn sz false) ∧ Aside0 (PutFr W ok (bxC A c x) #[.pointer (some ⟨p0, 0, none⟩), .pointer (some ⟨p1, 0, none⟩), .pointer (some ⟨p2, 0, none⟩), .pointer (some ⟨p3, 0, none⟩), .pointer (some ⟨p4, 0, none⟩), .pointer (some ⟨p5, 0, none⟩), .pointer (some ⟨p6, 0, none⟩), .pointer (some ⟨p7, 0, none⟩)] b7 w'))
          case atStart => exact ⟨0, rfl, ⟨Nat.zero_le _, rfl⟩, HMI, HFI⟩
          case round =>
            clear HMI HFI
            obtain ⟨i, rfl, HI, HMI, HFI⟩ := hrel
            by_cases hi : i < height
            · have d7 : decide ((i : Int) < (height : Int)) = true := decide_eq_true (by omega)
              have d7b : decide (i < height) = true := decide_eq_true hi
              have hi8 : i < 8 := by have := HN.out.2.1; omega
              have j1 : (0 ≤ (i : Int)) = True := eq_true (Int.natCast_nonneg _)
              have j2 : ((i : Int) < 8) = True := eq_true (by omega)
              have j3 : (i < 8) = True := eq_true hi8
              obtain ⟨pi, hpi⟩ : ∃ p, pdB g i X = p := ⟨_, rfl⟩
              obtain ⟨o, ho⟩ := nx_ptr i Y
              have hpb := HMI.out.pdBlk (X := X) (Y := ⟨nb0, A5, c5, x, i⟩ :: Y) i
              have hpc := HMI.out.pdCell (X := X) (Y := ⟨nb0, A5, c5, x, i⟩ :: Y) hi8
              rw [nx_low (Nat.lt_irrefl i), ho] at hpc
              rw [hpi] at hpb hpc
              have har : wr.cell? ⟨b7, i, none⟩ = some (.pointer (some ⟨pi, 0, none⟩)) := by
                refine (blk_cell HFI.out.arr i).trans ?_
                rw [← hpi]
                have hp := HP.out
                match i, hi8 with
                | 0, _ => rw [hp.1]; rfl
                | 1, _ => rw [hp.2.1]; rfl
                | 2, _ => rw [hp.2.2.1]; rfl
                | 3, _ => rw [hp.2.2.2.1]; rfl
                | 4, _ => rw [hp.2.2.2.2.1]; rfl
                | 5, _ => rw [hp.2.2.2.2.2.1]; rfl
                | 6, _ => rw [hp.2.2.2.2.2.2.1]; rfl
                | 7, _ => rw [hp.2.2.2.2.2.2.2]; rfl
              have hnd := SkN_at HMI.out.nodes
              have hnc : wr.cell? ⟨nb0, 7 + i, none⟩ = some (.pointer none) := (blk_cell hnd.1 (7 + i)).trans (by rw [List.getElem?_toArray, ndC_next hi8]; unfold lv; rw [if_neg (Nat.lt_irrefl i)])
              have hnf : wr.frozen? ⟨nb0, 7 + i, none⟩ = false := blk_frozen hnd.1 (7 + i)
              have hpf : wr.frozen? ⟨pi, 7 + i, none⟩ = false := by obtain ⟨_, _, cs, t, hh, _⟩ := hpb; exact blk_frozen hh (7 + i)
              have hnn : pi ≠ nb0 := by
                rw [← hpi]
                rcases pdB_mem i g X with e | ⟨m, hm, e, _⟩
                · rw [e]; exact fun e2 => HMI.out.apart.1 _ (List.mem_append_right _ (List.mem_cons_self ..)) e2.symm
                · rw [← e]; exact (List.pairwise_append.1 HMI.out.apart.2).2.2 m hm _ (List.mem_cons_self ..)
              have hn7 : b7 ≠ nb0 := by have := HNB.out; have := HZ7.out; have := HZ2.out; omega
              have HNN := Aside0.mk (And.intro hnn hn7)
              have HS1 := Aside0.mk (show (wr.setCell ⟨nb0, 7 + i, none⟩ (.pointer o)).cell? ⟨b7, i, none⟩ = some (.pointer (some ⟨pi, 0, none⟩)) ∧ (wr.setCell ⟨nb0, 7 + i, none⟩ (.pointer o)).cell? ⟨pi, 7 + i, none⟩ = some (.pointer o) from ⟨cell_set_far har hn7, cell_set_far hpc hnn⟩)
              have HPF := Aside0.mk (show (wr.setCell ⟨nb0, 7 + i, none⟩ (.pointer o)).frozen? ⟨pi, 7 + i, none⟩ = false by obtain ⟨_, _, cs, t, hh, _⟩ := hpb; exact blk_frozen (blk_far hh hnn _) (7 + i))
              have HPB := Aside0.mk hpb
              have HPI := Aside0.mk hpi
              have HOO := Aside0.mk ho
              have HS0 := Aside0.mk (show wr.cell? ⟨b7, i, none⟩ = some (.pointer (some ⟨pi, 0, none⟩)) ∧ wr.cell? ⟨pi, 7 + i, none⟩ = some (.pointer o) from ⟨har, hpc⟩)
              have hw1 : wrap64 ((i : Int) + 1) = ((i + 1 : Nat) : Int) := w64_up (by omega)
              have HW1 := Aside0.mk hw1
              have HIL := Aside0.mk hi
              clear hpb hpi ho hnd hpf hnn hn7 har hpc hw1 hi
              go_upto_region 22 with (fail)
              refine wp_region_last_drew (ds := [22]) (S := fun W' => W'.cell? ⟨b7, i, none⟩ = some (.pointer (some ⟨pi, 0, none⟩)) ∧ W'.cell? ⟨pi, 7 + i, none⟩ = some (.pointer o)) (by kernel_rfl) ?_ (fun hS0 => ?_);
              focus exact HS0.out
              (refine wpAnyLast_take (i := 0) (v := ?_) rfl (by kernel_rfl) (by kernel_rfl) (by kernel_rfl) (by kernel_rfl) (by kernel_rfl) (fun _ _ _ h => h) (Or.inl ⟨by rfl, ?_⟩) (by assumption) ?_; rotate_left 1; focus (intro ww hSw; (try dsimp only at hSw); go_simp; try with_reducible rfl)); try simp only [Act.put, List.setIfInBounds_toArray, List.set_cons_zero, List.set_cons_succ]
              (refine wpAnyLast_take (i := 1) (v := ?_) rfl (by kernel_rfl) (by kernel_rfl) (by kernel_rfl) (by kernel_rfl) (by kernel_rfl) (fun _ _ _ h => h) (Or.inl ⟨by rfl, ?_⟩) (by assumption) ?_; rotate_left 1; focus (intro ww hSw; (try dsimp only at hSw); go_simp; try with_reducible rfl)); try simp only [Act.put, List.setIfInBounds_toArray, List.set_cons_zero, List.set_cons_succ]
              (refine wpAnyLast_take (i := 2) (v := ?_) rfl (by kernel_rfl) (by kernel_rfl) (by kernel_rfl) (by kernel_rfl) (by kernel_rfl) (fun _ _ _ h => h) (Or.inl ⟨by rfl, ?_⟩) (by assumption) ?_; rotate_left 1; focus (intro ww hSw; (try dsimp only at hSw); go_simp; try with_reducible rfl)); try simp only [Act.put, List.setIfInBounds_toArray, List.set_cons_zero, List.set_cons_succ]
              (refine wpAnyLast_take (i := 3) (v := ?_) rfl (by kernel_rfl) (by kernel_rfl) (by kernel_rfl) (by kernel_rfl) (by kernel_rfl) (fun _ _ _ h => h) (Or.inl ⟨by rfl, ?_⟩) (by assumption) ?_; rotate_left 1; focus (intro ww hSw; (try dsimp only at hSw); go_simp; try with_reducible rfl)); try simp only [Act.put, List.setIfInBounds_toArray, List.set_cons_zero, List.set_cons_succ]
              (refine wpAnyLast_take (i := 4) (v := ?_) rfl (by kernel_rfl) (by kernel_rfl) (by kernel_rfl) (by kernel_rfl) (by kernel_rfl) (fun _ _ _ h => h) (Or.inl ⟨by rfl, ?_⟩) (by assumption) ?_; rotate_left 1; focus (intro ww hSw; (try dsimp only at hSw); go_simp; try with_reducible rfl)); try simp only [Act.put, List.setIfInBounds_toArray, List.set_cons_zero, List.set_cons_succ]
              (refine wpAnyLast_take (i := 5) (v := ?_) rfl (by kernel_rfl) (by kernel_rfl) (by kernel_rfl) (by kernel_rfl) (by kernel_rfl) (fun _ _ _ h => h) (Or.inl ⟨by rfl, ?_⟩) (by assumption) ?_; rotate_left 1; focus (intro ww hSw; (try dsimp only at hSw); go_simp; try with_reducible rfl)); try simp only [Act.put, List.setIfInBounds_toArray, List.set_cons_zero, List.set_cons_succ]
              (refine wpAnyLast_take (i := 6) (v := ?_) rfl (by kernel_rfl) (by kernel_rfl) (by kernel_rfl) (by kernel_rfl) (by kernel_rfl) (fun _ _ _ h => h) (Or.inl ⟨by rfl, ?_⟩) (by assumption) ?_; rotate_left 1; focus (intro ww hSw; (try dsimp only at hSw); go_simp; try with_reducible rfl)); try simp only [Act.put, List.setIfInBounds_toArray, List.set_cons_zero, List.set_cons_succ]
              (refine wpAnyLast_take (i := 7) (v := ?_) rfl (by kernel_rfl) (by kernel_rfl) (by kernel_rfl) (by kernel_rfl) (by kernel_rfl) (fun _ _ _ h => h) (Or.inl ⟨by rfl, ?_⟩) (by assumption) ?_; rotate_left 1; focus (intro ww hSw; (try dsimp only at hSw); go_simp; try with_reducible rfl)); try simp only [Act.put, List.setIfInBounds_toArray, List.set_cons_zero, List.set_cons_succ]
              (refine wpAnyLast_take (i := 8) (v := ?_) rfl (by kernel_rfl) (by kernel_rfl) (by kernel_rfl) (by kernel_rfl) (by kernel_rfl) (fun _ _ _ h => h) (Or.inl ⟨by rfl, ?_⟩) (by assumption) ?_; rotate_left 1; focus (intro ww hSw; (try dsimp only at hSw); go_simp; try with_reducible rfl)); try simp only [Act.put, List.setIfInBounds_toArray, List.set_cons_zero, List.set_cons_succ]
              (refine wpAnyLast_take (i := 9) (v := ?_) rfl (by kernel_rfl) (by kernel_rfl) (by kernel_rfl) (by kernel_rfl) (by kernel_rfl) (fun _ _ _ h => h) (Or.inl ⟨by rfl, ?_⟩) (by assumption) ?_; rotate_left 1; focus (intro ww hSw; (try dsimp only at hSw); go_simp; try with_reducible rfl)); try simp only [Act.put, List.setIfInBounds_toArray, List.set_cons_zero, List.set_cons_succ]
              (refine wpAnyLast_take (i := 10) (v := ?_) rfl (by kernel_rfl) (by kernel_rfl) (by kernel_rfl) (by kernel_rfl) (by kernel_rfl) (fun _ _ _ h => h) (Or.inl ⟨by rfl, ?_⟩) (by assumption) ?_; rotate_left 1; focus (intro ww hSw; (try dsimp only at hSw); go_simp; try with_reducible rfl)); try simp only [Act.put, List.setIfInBounds_toArray, List.set_cons_zero, List.set_cons_succ]
              (refine wpAnyLast_take (i := 11) (v := ?_) rfl (by kernel_rfl) (by kernel_rfl) (by kernel_rfl) (by kernel_rfl) (by kernel_rfl) (fun _ _ _ h => h) (Or.inl ⟨by rfl, ?_⟩) (by assumption) ?_; rotate_left 1; focus (intro ww hSw; (try dsimp only at hSw); go_simp; try with_reducible rfl)); try simp only [Act.put, List.setIfInBounds_toArray, List.set_cons_zero, List.set_cons_succ]
              (refine wpAnyLast_take (i := 12) (v := ?_) rfl (by kernel_rfl) (by kernel_rfl) (by kernel_rfl) (by kernel_rfl) (by kernel_rfl) (fun _ _ _ h => h) (Or.inl ⟨by rfl, ?_⟩) (by assumption) ?_; rotate_left 1; focus (intro ww hSw; (try dsimp only at hSw); go_simp; try with_reducible rfl)); try simp only [Act.put, List.setIfInBounds_toArray, List.set_cons_zero, List.set_cons_succ]
              (refine wpAnyLast_take (i := 13) (v := ?_) rfl (by kernel_rfl) (by kernel_rfl) (by kernel_rfl) (by kernel_rfl) (by kernel_rfl) (fun _ _ _ h => h) (Or.inl ⟨by rfl, ?_⟩) (by assumption) ?_; rotate_left 1; focus (intro ww hSw; (try dsimp only at hSw); go_simp; try with_reducible rfl)); try simp only [Act.put, List.setIfInBounds_toArray, List.set_cons_zero, List.set_cons_succ]
              (refine wpAnyLast_take (i := 15) (v := ?_) rfl (by kernel_rfl) (by kernel_rfl) (by kernel_rfl) (by kernel_rfl) (by kernel_rfl) (fun _ _ _ h => h) (Or.inl ⟨by rfl, ?_⟩) (by assumption) ?_; rotate_left 1; focus (intro ww hSw; (try dsimp only at hSw); go_simp; try with_reducible rfl)); try simp only [Act.put, List.setIfInBounds_toArray, List.set_cons_zero, List.set_cons_succ]
              (refine wpAnyLast_take (i := 16) (v := ?_) rfl (by kernel_rfl) (by kernel_rfl) (by kernel_rfl) (by kernel_rfl) (by kernel_rfl) (fun _ _ _ h => h) (Or.inl ⟨by rfl, ?_⟩) (by assumption) ?_; rotate_left 1; focus (intro ww hSw; (try dsimp only at hSw); go_simp; try with_reducible rfl)); try simp only [Act.put, List.setIfInBounds_toArray, List.set_cons_zero, List.set_cons_succ]
              (refine wpAnyLast_take (i := 17) (v := ?_) rfl (by kernel_rfl) (by kernel_rfl) (by kernel_rfl) (by kernel_rfl) (by kernel_rfl) (fun _ _ _ h => h) (Or.inl ⟨by rfl, ?_⟩) (by assumption) ?_; rotate_left 1; focus (intro ww hSw; (try dsimp only at hSw); go_simp; try with_reducible rfl)); try simp only [Act.put, List.setIfInBounds_toArray, List.set_cons_zero, List.set_cons_succ]
              (refine wpAnyLast_take (i := 14) (v := ?_) rfl (by kernel_rfl) (by kernel_rfl) (by kernel_rfl) (by kernel_rfl) (by kernel_rfl) (fun _ _ _ h => h) (Or.inl ⟨by rfl, ?_⟩) (by assumption) ?_; rotate_left 1; focus (intro ww hSw; (try dsimp only at hSw); go_simp; try with_reducible rfl)); try simp only [Act.put, List.setIfInBounds_toArray, List.set_cons_zero, List.set_cons_succ]
              (refine wpAnyLast_take (i := 19) (v := ?_) rfl (by kernel_rfl) (by kernel_rfl) (by kernel_rfl) (by kernel_rfl) (by kernel_rfl) (fun _ _ _ h => h) (Or.inl ⟨by rfl, ?_⟩) (by assumption) ?_; rotate_left 1; focus (intro ww hSw; (try dsimp only at hSw); go_simp; try with_reducible rfl)); try simp only [Act.put, List.setIfInBounds_toArray, List.set_cons_zero, List.set_cons_succ]
              (refine wpAnyLast_take (i := 20) (v := ?_) rfl (by kernel_rfl) (by kernel_rfl) (by kernel_rfl) (by kernel_rfl) (by kernel_rfl) (fun _ _ _ h => h) (Or.inl ⟨by rfl, ?_⟩) (by assumption) ?_; rotate_left 1; focus (intro ww hSw; (try dsimp only at hSw); go_simp; try with_reducible rfl)); try simp only [Act.put, List.setIfInBounds_toArray, List.set_cons_zero, List.set_cons_succ]
              refine wpAnyLast_ready (rs := [18]) (by kernel_rfl) (by simp) (AllReadyL.cons rfl (by decide) (fun K hK => ?_) AllReadyL.nil)
              go_simp
              refine hK _ _ HS1.out (fun hS1 => ?_)
              clear hK K
              (refine wpAnyLast_take (i := 21) (v := ?_) rfl (by kernel_rfl) (by kernel_rfl) (by kernel_rfl) (by kernel_rfl) (by kernel_rfl) (fun _ _ _ h => h) (Or.inl ⟨by rfl, ?_⟩) (by assumption) ?_; rotate_left 1; focus (intro ww hSw; (try dsimp only at hSw); go_simp; try with_reducible rfl)); try simp only [Act.put, List.setIfInBounds_toArray, List.set_cons_zero, List.set_cons_succ]
              have q1 := HPF.out
              have q2 := HS1.out.2
              refine wpAnyLast_ready (rs := [22]) (by kernel_rfl) (by simp) (AllReadyL.cons_last rfl (by decide) (fun K hK => ?_) AllReadyL.nil)
              (go_simp; refine hK _ _ ?_; clear hK K)
              refine wpAnyLast_done (by kernel_rfl) ?_ _;
              clear q1 q2
              have hM := HMI.out.raise (X := X) (Y := Y) (n := ⟨nb0, A5, c5, x, i⟩) hi8 rfl
              rw [HPI.out, HOO.out] at hM
              obtain ⟨W9, hW9⟩ : ∃ W9, ((wr.setCell ⟨nb0, 7 + i, none⟩ (.pointer o)).setCell ⟨pi, 7 + i, none⟩ (.pointer (some ⟨nb0, 0, none⟩))).drew = W9 := ⟨_, rfl⟩
              have HM9 := Aside0.mk (show SkM W9 base (fun k => ok k ∨ W.heap.size ≤ k) g (X ++ ⟨nb0, A5, c5, x, i + 1⟩ :: Y) cn sz false by rw [← hW9]; exact hM.below (below_drew (Below.refl _ _)))
              have HF9 := Aside0.mk (show PutFr W ok (bxC A c x) #[.pointer (some ⟨p0, 0, none⟩), .pointer (some ⟨p1, 0, none⟩), .pointer (some ⟨p2, 0, none⟩), .pointer (some ⟨p3, 0, none⟩), .pointer (some ⟨p4, 0, none⟩), .pointer (some ⟨p5, 0, none⟩), .pointer (some ⟨p6, 0, none⟩), .pointer (some ⟨p7, 0, none⟩)] b7 W9 by
                rw [← hW9]
                have hfi := HFI.out
                obtain ⟨hpo, _, cs, t, hph, hpt⟩ := HPB.out
                have e0 : b7 ≠ nb0 := HNN.out.2
                have e2 : W.heap.size ≠ nb0 := by have h1_ := HNB.out.1; have h2_ := HZ7.out; have h3_ := HZ2.out; omega
                have hkind := pd_kind (HMI.out) i
                rw [HPI.out] at hkind
                have e1 : b7 ≠ pi := fun e => by
                  rcases hkind with ⟨cs2, h2⟩ | ⟨cs2, h2⟩
                  · exact blk_ne hfi.arr h2 (by decide) e
                  · exact blk_ne hfi.arr h2 (by decide) e
                have e3 : W.heap.size ≠ pi := fun e => by
                  rcases hkind with ⟨cs2, h2⟩ | ⟨cs2, h2⟩
                  · exact blk_ne hfi.box h2 (by decide) e
                  · exact blk_ne hfi.box h2 (by decide) e
                refine ⟨blk_far (blk_far hfi.arr e0 _) e1 _, blk_far (blk_far hfi.box e2 _) e3 _, ⟨((hfi.far.1.trans (SameIO.set _ _ _)).trans (SameIO.set _ _ _)).trans (SameIO.of_below (below_drew (Below.refl 0 _))), fun k hk hnk => ?_⟩, by have h_ := hfi.size; simpa using h_⟩
                have e4 : k ≠ nb0 := by have h1_ := HNB.out.1; have h2_ := HZ7.out; have h3_ := HZ2.out; omega
                have e5 : k ≠ pi := fun e => by
                  rcases hpo with h | h
                  · exact hnk (e ▸ h)
                  · omega
                exact (set_other _ _ _ _ e5).trans ((set_other _ _ _ _ e4).trans (hfi.far.2 k hk hnk)))
              rw [hW9]
              clear hM hW9
              go_wp2
              go_roundg (height + 1 - (i + 1))
              case measure => have := HI.out; have := HIL.out; omega
              case rel => exact ⟨i + 1, by first | rw [HW1.out] | rfl, ⟨HIL.out, rfl⟩, HM9, HF9⟩
            · have d7 : decide ((i : Int) < (height : Int)) = false := decide_eq_false (by omega)
              have d7b : decide (i < height) = false := decide_eq_false hi
              have HIE := Aside0.mk (show i = height by have := HI.out.1; omega)
              have c15 := hd15 HMI.out
              have f15 : wr.frozen? ⟨g, 15, none⟩ = false := blk_frozen HMI.out.head 15
              clear hi
              have hwc : wrap64 ((cn : Int) + 1) = ((cn + 1 : Nat) : Int) := w64_up (by have := HFU.out; omega)
              have HWC := Aside0.mk hwc
              clear hwc
              go_upto_region 25 with (fail)
              rw [HWC.out]
              have HMC := Aside0.mk (HMI.out.cnt ((cn + 1 : Nat) : Int))
              have HFC := Aside0.mk (show PutFr W ok (bxC A c x) #[.pointer (some ⟨p0, 0, none⟩), .pointer (some ⟨p1, 0, none⟩), .pointer (some ⟨p2, 0, none⟩), .pointer (some ⟨p3, 0, none⟩), .pointer (some ⟨p4, 0, none⟩), .pointer (some ⟨p5, 0, none⟩), .pointer (some ⟨p6, 0, none⟩), .pointer (some ⟨p7, 0, none⟩)] b7 (wr.setCell ⟨g, 15, none⟩ (.int .i64 ((cn + 1 : Nat) : Int))) from HFI.out.head HMI.out.head HMO.out _ _)
              obtain ⟨WC, hWC⟩ : ∃ WC, wr.setCell ⟨g, 15, none⟩ (.int .i64 ((cn + 1 : Nat) : Int)) = WC := ⟨_, rfl⟩
              rw [hWC] at HMC HFC ⊢
              clear hWC c15 f15 HMI HFI
              have c16 := hd16 HMC.out
              have f16 : WC.frozen? ⟨g, 16, none⟩ = false := blk_frozen HMC.out.head 16
              have bx0 : WC.cell? ⟨W.heap.size, 0, none⟩ = some (.slice A x.f0.length c) := (blk_cell HFC.out.box 0).trans rfl
              have HS0 := Aside0.mk (And.intro bx0 c16)
              clear bx0
              refine wp_region_last_drew (ds := [11]) (S := fun W' => W'.cell? ⟨W.heap.size, 0, none⟩ = some (.slice A x.f0.length c) ∧ W'.cell? ⟨g, 16, none⟩ = some (.int .i64 sz)) (by kernel_rfl) ?_ (fun hS0 => ?_);
              focus exact HS0.out
              (refine wpAnyLast_take (i := 0) (v := ?_) rfl (by kernel_rfl) (by kernel_rfl) (by kernel_rfl) (by kernel_rfl) (by kernel_rfl) (fun _ _ _ h => h) (Or.inl ⟨by rfl, ?_⟩) (by assumption) ?_; rotate_left 1; focus (intro ww hSw; (try dsimp only at hSw); go_simp; try with_reducible rfl)); try simp only [Act.put, List.setIfInBounds_toArray, List.set_cons_zero, List.set_cons_succ]
              (refine wpAnyLast_take (i := 1) (v := ?_) rfl (by kernel_rfl) (by kernel_rfl) (by kernel_rfl) (by kernel_rfl) (by kernel_rfl) (fun _ _ _ h => h) (Or.inl ⟨by rfl, ?_⟩) (by assumption) ?_; rotate_left 1; focus (intro ww hSw; (try dsimp only at hSw); go_simp; try with_reducible rfl)); try simp only [Act.put, List.setIfInBounds_toArray, List.set_cons_zero, List.set_cons_succ]
              (refine wpAnyLast_take (i := 2) (v := ?_) rfl (by kernel_rfl) (by kernel_rfl) (by kernel_rfl) (by kernel_rfl) (by kernel_rfl) (fun _ _ _ h => h) (Or.inl ⟨by rfl, ?_⟩) (by assumption) ?_; rotate_left 1; focus (intro ww hSw; (try dsimp only at hSw); go_simp; try with_reducible rfl)); try simp only [Act.put, List.setIfInBounds_toArray, List.set_cons_zero, List.set_cons_succ]
              (refine wpAnyLast_take (i := 3) (v := ?_) rfl (by kernel_rfl) (by kernel_rfl) (by kernel_rfl) (by kernel_rfl) (by kernel_rfl) (fun _ _ _ h => h) (Or.inl ⟨by rfl, ?_⟩) (by assumption) ?_; rotate_left 1; focus (intro ww hSw; (try dsimp only at hSw); go_simp; try with_reducible rfl)); try simp only [Act.put, List.setIfInBounds_toArray, List.set_cons_zero, List.set_cons_succ]
              (refine wpAnyLast_take (i := 4) (v := ?_) rfl (by kernel_rfl) (by kernel_rfl) (by kernel_rfl) (by kernel_rfl) (by kernel_rfl) (fun _ _ _ h => h) (Or.inl ⟨by rfl, ?_⟩) (by assumption) ?_; rotate_left 1; focus (intro ww hSw; (try dsimp only at hSw); go_simp; try with_reducible rfl)); try simp only [Act.put, List.setIfInBounds_toArray, List.set_cons_zero, List.set_cons_succ]
              (refine wpAnyLast_take (i := 5) (v := ?_) rfl (by kernel_rfl) (by kernel_rfl) (by kernel_rfl) (by kernel_rfl) (by kernel_rfl) (fun _ _ _ h => h) (Or.inl ⟨by rfl, ?_⟩) (by assumption) ?_; rotate_left 1; focus (intro ww hSw; (try dsimp only at hSw); go_simp; try with_reducible rfl)); try simp only [Act.put, List.setIfInBounds_toArray, List.set_cons_zero, List.set_cons_succ]
              (refine wpAnyLast_take (i := 6) (v := ?_) rfl (by kernel_rfl) (by kernel_rfl) (by kernel_rfl) (by kernel_rfl) (by kernel_rfl) (fun _ _ _ h => h) (Or.inl ⟨by rfl, ?_⟩) (by assumption) ?_; rotate_left 1; focus (intro ww hSw; (try dsimp only at hSw); go_simp; try with_reducible rfl)); try simp only [Act.put, List.setIfInBounds_toArray, List.set_cons_zero, List.set_cons_succ]
              (refine wpAnyLast_take (i := 7) (v := ?_) rfl (by kernel_rfl) (by kernel_rfl) (by kernel_rfl) (by kernel_rfl) (by kernel_rfl) (fun _ _ _ h => h) (Or.inl ⟨by rfl, ?_⟩) (by assumption) ?_; rotate_left 1; focus (intro ww hSw; (try dsimp only at hSw); go_simp; try with_reducible rfl)); try simp only [Act.put, List.setIfInBounds_toArray, List.set_cons_zero, List.set_cons_succ]
              (refine wpAnyLast_take (i := 8) (v := ?_) rfl (by kernel_rfl) (by kernel_rfl) (by kernel_rfl) (by kernel_rfl) (by kernel_rfl) (fun _ _ _ h => h) (Or.inl ⟨by rfl, ?_⟩) (by assumption) ?_; rotate_left 1; focus (intro ww hSw; (try dsimp only at hSw); go_simp; try with_reducible rfl)); try simp only [Act.put, List.setIfInBounds_toArray, List.set_cons_zero, List.set_cons_succ]
              (refine wpAnyLast_take (i := 9) (v := ?_) rfl (by kernel_rfl) (by kernel_rfl) (by kernel_rfl) (by kernel_rfl) (by kernel_rfl) (fun _ _ _ h => h) (Or.inl ⟨by rfl, ?_⟩) (by assumption) ?_; rotate_left 1; focus (intro ww hSw; (try dsimp only at hSw); go_simp; try with_reducible rfl)); try simp only [Act.put, List.setIfInBounds_toArray, List.set_cons_zero, List.set_cons_succ]
              (refine wpAnyLast_take (i := 10) (v := ?_) rfl (by kernel_rfl) (by kernel_rfl) (by kernel_rfl) (by kernel_rfl) (by kernel_rfl) (fun _ _ _ h => h) (Or.inl ⟨by rfl, ?_⟩) (by assumption) ?_; rotate_left 1; focus (intro ww hSw; (try dsimp only at hSw); go_simp; try with_reducible rfl)); try simp only [Act.put, List.setIfInBounds_toArray, List.set_cons_zero, List.set_cons_succ]
              refine wpAnyLast_ready (rs := [11]) (by kernel_rfl) (by simp) (AllReadyL.cons_last rfl (by decide) (fun K hK => ?_) AllReadyL.nil)
              (go_simp; refine hK _ _ ?_; clear hK K)
              refine wpAnyLast_done (by kernel_rfl) ?_ _;
              rw [sz_wrap HN.out.2.2.2.1 HN.out.2.2.2.2.2.2.2]
              have HME := Aside0.mk ((HMC.out.sz (sz + ((x.f0.length : Int) + 41))).below (below_drew (Below.refl _ _)))
              have HFE := Aside0.mk (show PutFr W ok (bxC A c x) #[.pointer (some ⟨p0, 0, none⟩), .pointer (some ⟨p1, 0, none⟩), .pointer (some ⟨p2, 0, none⟩), .pointer (some ⟨p3, 0, none⟩), .pointer (some ⟨p4, 0, none⟩), .pointer (some ⟨p5, 0, none⟩), .pointer (some ⟨p6, 0, none⟩), .pointer (some ⟨p7, 0, none⟩)] b7 (WC.setCell ⟨g, 16, none⟩ (.int .i64 (sz + ((x.f0.length : Int) + 41)))).drew from ⟨(HFC.out.head HMC.out.head HMO.out _ _).arr, (HFC.out.head HMC.out.head HMO.out _ _).box, ⟨(HFC.out.head HMC.out.head HMO.out _ _).far.1.trans (SameIO.of_below (below_drew (Below.refl 0 _))), (HFC.out.head HMC.out.head HMO.out _ _).far.2⟩, (HFC.out.head HMC.out.head HMO.out _ _).size⟩)
              obtain ⟨WE, hWE⟩ : ∃ WE, (WC.setCell ⟨g, 16, none⟩ (.int .i64 (sz + ((x.f0.length : Int) + 41)))).drew = WE := ⟨_, rfl⟩
              rw [hWE] at HME HFE ⊢
              clear hWE c16 f16
              go_wp2
              go_ret
              refine ⟨HFE.out.size, HFE.out.far, X, Y, HXY.out.1, HXY.out.2.1, (fun m hm => by have := HXY.out.2.2 m hm; omega), .inr ⟨HGT.out, .inr ⟨by rw [HXY.out.1, HCN.out]; have := HFU.out; omega, rfl, ⟨nb0, A5, c5, x, height⟩, rfl, rfl, ?_⟩⟩⟩
              have hM := HME.out
              rw [HIE.out, show ((cn + 1 : Nat) : Int) = ((X ++ ⟨nb0, A5, c5, x, height⟩ :: Y).length : Int) by rw [← HCN.out]; simp; omega] at hM
              refine hM.toL (fun m hm => ?_)
              have ht := HLV.out.tall
              rw [HXY.out.1] at ht
              rcases List.mem_append.1 hm with hm | hm
              · exact ht m (List.mem_append_left _ hm)
              · rcases List.mem_cons.1 hm with rfl | hm
                · exact ⟨HN.out.1, HN.out.2.1⟩
                · exact ht m (List.mem_append_right _ hm)
    · have hmem : n ∈ ns := by rw [HXY.out.1, hY]; simp
      have hnh : 0 < n.h := (HLV.out.tall n hmem).1
      rw [hY, nx, if_pos hnh] at z0
      have hna := SkN_at (X := X) (Y := Q) (n := n) (by rw [← hY]; exact HMV.out.nodes)
      have hnk := Kd.R_reads' hna.2.2.2
      have n0 : V.cell? ⟨n.b, 0, none⟩ = some (.slice n.A n.e.f0.length n.c) := (blk_cell hna.1 0).trans (by rw [List.getElem?_toArray]; rfl)
      have hq := eq_quiet hnk.2.2 hnk.2.1 (Kd.C_below HXK.out HWV.out) HCC.out
      rw [decide_eq_false (by have := HGT.out n (by rw [hY]; simp); omega)] at hq
      have HQ := Aside0.mk hq
      clear hq hna hnk hnh hmem hY
      obtain ⟨nb, hnb⟩ : ∃ b, n.b = b := ⟨_, rfl⟩
      rw [hnb] at z0 n0
      clear hnb
      go_wp2
      go_quiet ((go_at_call 31; exact HQ.out _))
      clear n0 HQ
      obtain ⟨W2, hW2⟩ : ∃ W2, V.drewN nq = W2 := ⟨_, rfl⟩
      have b2 : Below V.heap.size V W2 := by rw [← hW2]; exact pw_below_drewN (Below.refl _ _) _
      have HM2 := Aside0.mk (HMV.out.below b2)
      have HB72 := Aside0.mk (blk_below HB7.out b2)
      have HVX2 := Aside0.mk (blk_below HVX.out b2)
      have HW2 := Aside0.mk (HWV.out.trans (b2.mono HWV.out.size))
      have HZ2 := Aside0.mk b2.size
      obtain ⟨cn, hcn⟩ : ∃ m : Nat, (X ++ Y).length = m := ⟨_, rfl⟩
      have c15 := hd15 HM2.out
      rw [hcn] at c15
      have HCN := Aside0.mk hcn
      rw [hW2]
      clear b2 hW2 x0 y0 z0 hcn
      by_cases hfull : 4096 ≤ cn
      · have d6 : decide ((4096 : Int) ≤ (cn : Int)) = true := decide_eq_true (by omega)
        have d6b : decide (4096 ≤ cn) = true := decide_eq_true hfull
        have HFU := Aside0.mk hfull
        clear hfull
        go_wp2
        go_ret
        refine ⟨HW2.out.size, ⟨SameIO.of_below HW2.out, fun k hk _ => HW2.out.block k hk⟩, X, Y, HXY.out.1, HXY.out.2.1, (fun m hm => by have := HXY.out.2.2 m hm; omega), .inr ⟨HGT.out, .inl ⟨by rw [HXY.out.1, HCN.out]; exact HFU.out, rfl, ?_⟩⟩⟩
        have hM := HM2.out.mono (ok' := fun k => ok k ∨ W.heap.size ≤ k) (fun k hk => Or.inl hk)
        exact hM.toL (by rw [← HXY.out.1]; exact HLV.out.tall)
      · have d6 : decide ((4096 : Int) ≤ (cn : Int)) = false := decide_eq_false (by omega)
        have d6b : decide (4096 ≤ cn) = false := decide_eq_false hfull
        have HFU := Aside0.mk hfull
        clear hfull
        go_upto_region 18 with (fail)
        have HCL := Aside0.mk (fun W' hC => slices_Clone_byte_byte.calls A c x.f0 x.f0 W' hC HCC.out (by unfold slices_Clone_byte_byte.f; rw [if_pos (by have := HN.out.2.2.2.1; omega)]))
        have hvc := HVX2.out
        have HSX := Aside0.mk (show SnX W2 W.heap.size A c x from ⟨(blk_cell hvc 0).trans rfl, (blk_cell hvc 1).trans rfl, (blk_cell hvc 2).trans rfl, (blk_cell hvc 3).trans rfl, (blk_cell hvc 4).trans rfl, (blk_cell hvc 5).trans rfl, (blk_cell hvc 6).trans rfl⟩)
        have HS0 := Aside0.mk (show SnX W2.drew W.heap.size A c x from HSX.out)
        have HKC := Aside0.mk (show Kd.C (Kd.int .u8) W2.drew A x.f0.length x.f0 from Kd.C_below HXK.out (below_drew HW2.out))
        clear hvc
        go_region_held3 (fun W' => W'.cell? ⟨W.heap.size, 0, none⟩ = some (.slice A x.f0.length c) ∧ W'.cell? ⟨W.heap.size, 1, none⟩ = some (.int .u64 x.f1.f0) ∧ W'.cell? ⟨W.heap.size, 2, none⟩ = some (.bool x.f1.f1) ∧ W'.cell? ⟨W.heap.size, 3, none⟩ = some (.int .i64 x.f1.f2.f0) ∧ W'.cell? ⟨W.heap.size, 4, none⟩ = some (.int .u64 x.f1.f2.f1) ∧ W'.cell? ⟨W.heap.size, 5, none⟩ = some (.int .i64 x.f1.f3) ∧ W'.cell? ⟨W.heap.size, 6, none⟩ = some (.int .i64 x.f1.f4)) (first | (with_reducible exact HS0.out) | (with_reducible exact HS9.out) | (exact HS10.out _))
          (first | (go_at_call 34; refine (HCL.out _ HKC.out).mono ?_; rintro e w9 ⟨v9, rfl, ho, hb⟩; obtain ⟨A5, c5, hv5⟩ := Kd.R_slice ho; subst hv5; have HO9 := Aside0.mk ho; have HB9 := Aside0.mk (show Below W2.heap.size W2 w9 from (below_drew (Below.refl _ _)).trans hb); have HS9 := Aside0.mk (SnX.below HS0.out hb); have HS10 := Aside0.mk (fun o => SnX.below HS9.out (below_alloc (Below.refl w9.heap.size w9) o)); clear ho hb))
        all_goals
          obtain ⟨nb0, hnb0⟩ : ∃ b, w9.heap.size = b := ⟨_, rfl⟩
          obtain ⟨V1, hV1⟩ : ∃ V1, w9.alloc (.cells #[.slice A5 x.f0.length c5, .int .u64 x.f1.f0, .bool x.f1.f1, .int .i64 x.f1.f2.f0, .int .u64 x.f1.f2.f1, .int .i64 x.f1.f3, .int .i64 x.f1.f4, .pointer none, .pointer none, .pointer none, .pointer none, .pointer none, .pointer none, .pointer none, .pointer none] 59) = V1 := ⟨_, rfl⟩
          have v9 : Below w9.heap.size w9 V1 := by rw [← hV1]; exact below_alloc (Below.refl _ _) _
          have HNB := Aside0.mk (show W2.heap.size ≤ nb0 ∧ V1.heap.size = nb0 + 1 from ⟨by rw [← hnb0]; exact HB9.out.size, by rw [← hV1, World.size_alloc, hnb0]⟩)
          have hvn : V1.heap[nb0]? = some (.cells (ndC ⟨nb0, A5, c5, x, 0⟩ Y).toArray 59 (0, 0)) := by rw [← hV1, ← hnb0]; exact blk_new w9 _
          have HW9 := Aside0.mk (show Below W2.heap.size W2 V1 from HB9.out.trans (v9.mono HB9.out.size))
          have hM1 := (HM2.out.below HW9.out).mono (ok' := fun k => ok k ∨ W.heap.size ≤ k) (fun k hk => Or.inl hk)
          have hgl := blk_lt HM2.out.head
          have hWs := HW2.out.size
          have hnr : Kd.R (Kd.int .u8) 5 V1 base (fun k => ok k ∨ W.heap.size ≤ k) (.slice A5 x.f0.length c5) x.f0 := Kd.R_lower (Kd.R_mono (Kd.R_bound (Kd.R_below HO9.out v9)) (fun k hk => Or.inr (by have h_ : W2.heap.size ≤ k := hk.2.1; omega))) (by have h_ := HM2.out.headB; show base ≤ W2.heap.size; omega)
          have hM1 := hM1.insert (n := ⟨nb0, A5, c5, x, 0⟩) rfl ⟨hvn, by have h_ := HM2.out.headB; have h2_ := HNB.out.1; show base ≤ nb0; omega, Or.inr (by have h2_ := HNB.out.1; show W.heap.size ≤ nb0; omega), hnr⟩ (rise_in HM2.out.rise HXY.out.2.1 HGT.out) (by have h2_ := HNB.out.1; show nb0 ≠ g; omega) (fun m hm => by have h_ := SkN_lt HM2.out.nodes m hm; have h2_ := HNB.out.1; show m.b ≠ nb0; omega)
          rw [HCN.out] at hM1
          have HMI := Aside0.mk hM1
          have HFI := Aside0.mk (show PutFr W ok (bxC A c x) #[.pointer (some ⟨p0, 0, none⟩), .pointer (some ⟨p1, 0, none⟩), .pointer (some ⟨p2, 0, none⟩), .pointer (some ⟨p3, 0, none⟩), .pointer (some ⟨p4, 0, none⟩), .pointer (some ⟨p5, 0, none⟩), .pointer (some ⟨p6, 0, none⟩), .pointer (some ⟨p7, 0, none⟩)] b7 V1 from ⟨blk_below HB72.out HW9.out, blk_below HVX2.out HW9.out, ⟨(SameIO.of_below HW2.out).trans (SameIO.of_below HW9.out), fun k hk _ => by rw [HW9.out.block k (by omega), HW2.out.block k hk]⟩, by have h_ := HW9.out.size; omega⟩)
          rw [hnb0, hV1]
          clear hV1 hnb0 v9 hvn hM1 hnr hgl hWs HS0 HS9 HS10 HB72 HVX2 HB7 HVX HM2 HMV HW2 HWV
          go_wp2
          go_loopg [92] (height + 1) (fun kq v92 w' => ∃ i : Nat, v92 = .int .i64 (i : Int) ∧ Aside0 (i ≤ height ∧ kq = height + 1 - i) ∧ Aside0 (SkM w' base (fun k => ok k ∨ W.heap.size ≤ k) g (X ++ ⟨nb0, A5, c5, x, i⟩ :: Y) cn sz false) ∧ Aside0 (PutFr W ok (bxC A c x) #[.pointer (some ⟨p0, 0, none⟩), .pointer (some ⟨p1, 0, none⟩), .pointer (some ⟨p2, 0, none⟩), .pointer (some ⟨p3, 0, none⟩), .pointer (some ⟨p4, 0, none⟩), .pointer (some ⟨p5, 0, none⟩), .pointer (some ⟨p6, 0, none⟩), .pointer (some ⟨p7, 0, none⟩)] b7 w'))
          case atStart => exact ⟨0, rfl, ⟨Nat.zero_le _, rfl⟩, HMI, HFI⟩
          case round =>
            clear HMI HFI
            obtain ⟨i, rfl, HI, HMI, HFI⟩ := hrel
            by_cases hi : i < height
            · have d7 : decide ((i : Int) < (height : Int)) = true := decide_eq_true (by omega)
              have d7b : decide (i < height) = true := decide_eq_true hi
              have hi8 : i < 8 := by have := HN.out.2.1; omega
              have j1 : (0 ≤ (i : Int)) = True := eq_true (Int.natCast_nonneg _)
              have j2 : ((i : Int) < 8) = True := eq_true (by omega)
              have j3 : (i < 8) = True := eq_true hi8
              obtain ⟨pi, hpi⟩ : ∃ p, pdB g i X = p := ⟨_, rfl⟩
              obtain ⟨o, ho⟩ := nx_ptr i Y
              have hpb := HMI.out.pdBlk (X := X) (Y := ⟨nb0, A5, c5, x, i⟩ :: Y) i
              have hpc := HMI.out.pdCell (X := X) (Y := ⟨nb0, A5, c5, x, i⟩ :: Y) hi8
              rw [nx_low (Nat.lt_irrefl i), ho] at hpc
              rw [hpi] at hpb hpc
              have har : wr.cell? ⟨b7, i, none⟩ = some (.pointer (some ⟨pi, 0, none⟩)) := by
                refine (blk_cell HFI.out.arr i).trans ?_
                rw [← hpi]
                have hp := HP.out
                match i, hi8 with
                | 0, _ => rw [hp.1]; rfl
                | 1, _ => rw [hp.2.1]; rfl
                | 2, _ => rw [hp.2.2.1]; rfl
                | 3, _ => rw [hp.2.2.2.1]; rfl
                | 4, _ => rw [hp.2.2.2.2.1]; rfl
                | 5, _ => rw [hp.2.2.2.2.2.1]; rfl
                | 6, _ => rw [hp.2.2.2.2.2.2.1]; rfl
                | 7, _ => rw [hp.2.2.2.2.2.2.2]; rfl
              have hnd := SkN_at HMI.out.nodes
              have hnc : wr.cell? ⟨nb0, 7 + i, none⟩ = some (.pointer none) := (blk_cell hnd.1 (7 + i)).trans (by rw [List.getElem?_toArray, ndC_next hi8]; unfold lv; rw [if_neg (Nat.lt_irrefl i)])
              have hnf : wr.frozen? ⟨nb0, 7 + i, none⟩ = false := blk_frozen hnd.1 (7 + i)
              have hpf : wr.frozen? ⟨pi, 7 + i, none⟩ = false := by obtain ⟨_, _, cs, t, hh, _⟩ := hpb; exact blk_frozen hh (7 + i)
              have hnn : pi ≠ nb0 := by
                rw [← hpi]
                rcases pdB_mem i g X with e | ⟨m, hm, e, _⟩
                · rw [e]; exact fun e2 => HMI.out.apart.1 _ (List.mem_append_right _ (List.mem_cons_self ..)) e2.symm
                · rw [← e]; exact (List.pairwise_append.1 HMI.out.apart.2).2.2 m hm _ (List.mem_cons_self ..)
              have hn7 : b7 ≠ nb0 := by have := HNB.out; have := HZ7.out; have := HZ2.out; omega
              have HNN := Aside0.mk (And.intro hnn hn7)
              have HS1 := Aside0.mk (show (wr.setCell ⟨nb0, 7 + i, none⟩ (.pointer o)).cell? ⟨b7, i, none⟩ = some (.pointer (some ⟨pi, 0, none⟩)) ∧ (wr.setCell ⟨nb0, 7 + i, none⟩ (.pointer o)).cell? ⟨pi, 7 + i, none⟩ = some (.pointer o) from ⟨cell_set_far har hn7, cell_set_far hpc hnn⟩)
              have HPF := Aside0.mk (show (wr.setCell ⟨nb0, 7 + i, none⟩ (.pointer o)).frozen? ⟨pi, 7 + i, none⟩ = false by obtain ⟨_, _, cs, t, hh, _⟩ := hpb; exact blk_frozen (blk_far hh hnn _) (7 + i))
              have HPB := Aside0.mk hpb
              have HPI := Aside0.mk hpi
              have HOO := Aside0.mk ho
              have HS0 := Aside0.mk (show wr.cell? ⟨b7, i, none⟩ = some (.pointer (some ⟨pi, 0, none⟩)) ∧ wr.cell? ⟨pi, 7 + i, none⟩ = some (.pointer o) from ⟨har, hpc⟩)
              have hw1 : wrap64 ((i : Int) + 1) = ((i + 1 : Nat) : Int) := w64_up (by omega)
              have HW1 := Aside0.mk hw1
              have HIL := Aside0.mk hi
              clear hpb hpi ho hnd hpf hnn hn7 har hpc hw1 hi
              go_upto_region 22 with (fail)
              refine wp_region_last_drew (ds := [22]) (S := fun W' => W'.cell? ⟨b7, i, none⟩ = some (.pointer (some ⟨pi, 0, none⟩)) ∧ W'.cell? ⟨pi, 7 + i, none⟩ = some (.pointer o)) (by kernel_rfl) ?_ (fun hS0 => ?_);
              focus exact HS0.out
              (refine wpAnyLast_take (i := 0) (v := ?_) rfl (by kernel_rfl) (by kernel_rfl) (by kernel_rfl) (by kernel_rfl) (by kernel_rfl) (fun _ _ _ h => h) (Or.inl ⟨by rfl, ?_⟩) (by assumption) ?_; rotate_left 1; focus (intro ww hSw; (try dsimp only at hSw); go_simp; try with_reducible rfl)); try simp only [Act.put, List.setIfInBounds_toArray, List.set_cons_zero, List.set_cons_succ]
              (refine wpAnyLast_take (i := 1) (v := ?_) rfl (by kernel_rfl) (by kernel_rfl) (by kernel_rfl) (by kernel_rfl) (by kernel_rfl) (fun _ _ _ h => h) (Or.inl ⟨by rfl, ?_⟩) (by assumption) ?_; rotate_left 1; focus (intro ww hSw; (try dsimp only at hSw); go_simp; try with_reducible rfl)); try simp only [Act.put, List.setIfInBounds_toArray, List.set_cons_zero, List.set_cons_succ]
              (refine wpAnyLast_take (i := 2) (v := ?_) rfl (by kernel_rfl) (by kernel_rfl) (by kernel_rfl) (by kernel_rfl) (by kernel_rfl) (fun _ _ _ h => h) (Or.inl ⟨by rfl, ?_⟩) (by assumption) ?_; rotate_left 1; focus (intro ww hSw; (try dsimp only at hSw); go_simp; try with_reducible rfl)); try simp only [Act.put, List.setIfInBounds_toArray, List.set_cons_zero, List.set_cons_succ]
              (refine wpAnyLast_take (i := 3) (v := ?_) rfl (by kernel_rfl) (by kernel_rfl) (by kernel_rfl) (by kernel_rfl) (by kernel_rfl) (fun _ _ _ h => h) (Or.inl ⟨by rfl, ?_⟩) (by assumption) ?_; rotate_left 1; focus (intro ww hSw; (try dsimp only at hSw); go_simp; try with_reducible rfl)); try simp only [Act.put, List.setIfInBounds_toArray, List.set_cons_zero, List.set_cons_succ]
              (refine wpAnyLast_take (i := 4) (v := ?_) rfl (by kernel_rfl) (by kernel_rfl) (by kernel_rfl) (by kernel_rfl) (by kernel_rfl) (fun _ _ _ h => h) (Or.inl ⟨by rfl, ?_⟩) (by assumption) ?_; rotate_left 1; focus (intro ww hSw; (try dsimp only at hSw); go_simp; try with_reducible rfl)); try simp only [Act.put, List.setIfInBounds_toArray, List.set_cons_zero, List.set_cons_succ]
              (refine wpAnyLast_take (i := 5) (v := ?_) rfl (by kernel_rfl) (by kernel_rfl) (by kernel_rfl) (by kernel_rfl) (by kernel_rfl) (fun _ _ _ h => h) (Or.inl ⟨by rfl, ?_⟩) (by assumption) ?_; rotate_left 1; focus (intro ww hSw; (try dsimp only at hSw); go_simp; try with_reducible rfl)); try simp only [Act.put, List.setIfInBounds_toArray, List.set_cons_zero, List.set_cons_succ]
              (refine wpAnyLast_take (i := 6) (v := ?_) rfl (by kernel_rfl) (by kernel_rfl) (by kernel_rfl) (by kernel_rfl) (by kernel_rfl) (fun _ _ _ h => h) (Or.inl ⟨by rfl, ?_⟩) (by assumption) ?_; rotate_left 1; focus (intro ww hSw; (try dsimp only at hSw); go_simp; try with_reducible rfl)); try simp only [Act.put, List.setIfInBounds_toArray, List.set_cons_zero, List.set_cons_succ]
              (refine wpAnyLast_take (i := 7) (v := ?_) rfl (by kernel_rfl) (by kernel_rfl) (by kernel_rfl) (by kernel_rfl) (by kernel_rfl) (fun _ _ _ h => h) (Or.inl ⟨by rfl, ?_⟩) (by assumption) ?_; rotate_left 1; focus (intro ww hSw; (try dsimp only at hSw); go_simp; try with_reducible rfl)); try simp only [Act.put, List.setIfInBounds_toArray, List.set_cons_zero, List.set_cons_succ]
              (refine wpAnyLast_take (i := 8) (v := ?_) rfl (by kernel_rfl) (by kernel_rfl) (by kernel_rfl) (by kernel_rfl) (by kernel_rfl) (fun _ _ _ h => h) (Or.inl ⟨by rfl, ?_⟩) (by assumption) ?_; rotate_left 1; focus (intro ww hSw; (try dsimp only at hSw); go_simp; try with_reducible rfl)); try simp only [Act.put, List.setIfInBounds_toArray, List.set_cons_zero, List.set_cons_succ]
              (refine wpAnyLast_take (i := 9) (v := ?_) rfl (by kernel_rfl) (by kernel_rfl) (by kernel_rfl) (by kernel_rfl) (by kernel_rfl) (fun _ _ _ h => h) (Or.inl ⟨by rfl, ?_⟩) (by assumption) ?_; rotate_left 1; focus (intro ww hSw; (try dsimp only at hSw); go_simp; try with_reducible rfl)); try simp only [Act.put, List.setIfInBounds_toArray, List.set_cons_zero, List.set_cons_succ]
              (refine wpAnyLast_take (i := 10) (v := ?_) rfl (by kernel_rfl) (by kernel_rfl) (by kernel_rfl) (by kernel_rfl) (by kernel_rfl) (fun _ _ _ h => h) (Or.inl ⟨by rfl, ?_⟩) (by assumption) ?_; rotate_left 1; focus (intro ww hSw; (try dsimp only at hSw); go_simp; try with_reducible rfl)); try simp only [Act.put, List.setIfInBounds_toArray, List.set_cons_zero, List.set_cons_succ]
              (refine wpAnyLast_take (i := 11) (v := ?_) rfl (by kernel_rfl) (by kernel_rfl) (by kernel_rfl) (by kernel_rfl) (by kernel_rfl) (fun _ _ _ h => h) (Or.inl ⟨by rfl, ?_⟩) (by assumption) ?_; rotate_left 1; focus (intro ww hSw; (try dsimp only at hSw); go_simp; try with_reducible rfl)); try simp only [Act.put, List.setIfInBounds_toArray, List.set_cons_zero, List.set_cons_succ]
              (refine wpAnyLast_take (i := 12) (v := ?_) rfl (by kernel_rfl) (by kernel_rfl) (by kernel_rfl) (by kernel_rfl) (by kernel_rfl) (fun _ _ _ h => h) (Or.inl ⟨by rfl, ?_⟩) (by assumption) ?_; rotate_left 1; focus (intro ww hSw; (try dsimp only at hSw); go_simp; try with_reducible rfl)); try simp only [Act.put, List.setIfInBounds_toArray, List.set_cons_zero, List.set_cons_succ]
              (refine wpAnyLast_take (i := 13) (v := ?_) rfl (by kernel_rfl) (by kernel_rfl) (by kernel_rfl) (by kernel_rfl) (by kernel_rfl) (fun _ _ _ h => h) (Or.inl ⟨by rfl, ?_⟩) (by assumption) ?_; rotate_left 1; focus (intro ww hSw; (try dsimp only at hSw); go_simp; try with_reducible rfl)); try simp only [Act.put, List.setIfInBounds_toArray, List.set_cons_zero, List.set_cons_succ]
              (refine wpAnyLast_take (i := 15) (v := ?_) rfl (by kernel_rfl) (by kernel_rfl) (by kernel_rfl) (by kernel_rfl) (by kernel_rfl) (fun _ _ _ h => h) (Or.inl ⟨by rfl, ?_⟩) (by assumption) ?_; rotate_left 1; focus (intro ww hSw; (try dsimp only at hSw); go_simp; try with_reducible rfl)); try simp only [Act.put, List.setIfInBounds_toArray, List.set_cons_zero, List.set_cons_succ]
              (refine wpAnyLast_take (i := 16) (v := ?_) rfl (by kernel_rfl) (by kernel_rfl) (by kernel_rfl) (by kernel_rfl) (by kernel_rfl) (fun _ _ _ h => h) (Or.inl ⟨by rfl, ?_⟩) (by assumption) ?_; rotate_left 1; focus (intro ww hSw; (try dsimp only at hSw); go_simp; try with_reducible rfl)); try simp only [Act.put, List.setIfInBounds_toArray, List.set_cons_zero, List.set_cons_succ]
              (refine wpAnyLast_take (i := 17) (v := ?_) rfl (by kernel_rfl) (by kernel_rfl) (by kernel_rfl) (by kernel_rfl) (by kernel_rfl) (fun _ _ _ h => h) (Or.inl ⟨by rfl, ?_⟩) (by assumption) ?_; rotate_left 1; focus (intro ww hSw; (try dsimp only at hSw); go_simp; try with_reducible rfl)); try simp only [Act.put, List.setIfInBounds_toArray, List.set_cons_zero, List.set_cons_succ]
              (refine wpAnyLast_take (i := 14) (v := ?_) rfl (by kernel_rfl) (by kernel_rfl) (by kernel_rfl) (by kernel_rfl) (by kernel_rfl) (fun _ _ _ h => h) (Or.inl ⟨by rfl, ?_⟩) (by assumption) ?_; rotate_left 1; focus (intro ww hSw; (try dsimp only at hSw); go_simp; try with_reducible rfl)); try simp only [Act.put, List.setIfInBounds_toArray, List.set_cons_zero, List.set_cons_succ]
              (refine wpAnyLast_take (i := 19) (v := ?_) rfl (by kernel_rfl) (by kernel_rfl) (by kernel_rfl) (by kernel_rfl) (by kernel_rfl) (fun _ _ _ h => h) (Or.inl ⟨by rfl, ?_⟩) (by assumption) ?_; rotate_left 1; focus (intro ww hSw; (try dsimp only at hSw); go_simp; try with_reducible rfl)); try simp only [Act.put, List.setIfInBounds_toArray, List.set_cons_zero, List.set_cons_succ]
              (refine wpAnyLast_take (i := 20) (v := ?_) rfl (by kernel_rfl) (by kernel_rfl) (by kernel_rfl) (by kernel_rfl) (by kernel_rfl) (fun _ _ _ h => h) (Or.inl ⟨by rfl, ?_⟩) (by assumption) ?_; rotate_left 1; focus (intro ww hSw; (try dsimp only at hSw); go_simp; try with_reducible rfl)); try simp only [Act.put, List.setIfInBounds_toArray, List.set_cons_zero, List.set_cons_succ]
              refine wpAnyLast_ready (rs := [18]) (by kernel_rfl) (by simp) (AllReadyL.cons rfl (by decide) (fun K hK => ?_) AllReadyL.nil)
              go_simp
              refine hK _ _ HS1.out (fun hS1 => ?_)
              clear hK K
              (refine wpAnyLast_take (i := 21) (v := ?_) rfl (by kernel_rfl) (by kernel_rfl) (by kernel_rfl) (by kernel_rfl) (by kernel_rfl) (fun _ _ _ h => h) (Or.inl ⟨by rfl, ?_⟩) (by assumption) ?_; rotate_left 1; focus (intro ww hSw; (try dsimp only at hSw); go_simp; try with_reducible rfl)); try simp only [Act.put, List.setIfInBounds_toArray, List.set_cons_zero, List.set_cons_succ]
              have q1 := HPF.out
              have q2 := HS1.out.2
              refine wpAnyLast_ready (rs := [22]) (by kernel_rfl) (by simp) (AllReadyL.cons_last rfl (by decide) (fun K hK => ?_) AllReadyL.nil)
              (go_simp; refine hK _ _ ?_; clear hK K)
              refine wpAnyLast_done (by kernel_rfl) ?_ _;
              clear q1 q2
              have hM := HMI.out.raise (X := X) (Y := Y) (n := ⟨nb0, A5, c5, x, i⟩) hi8 rfl
              rw [HPI.out, HOO.out] at hM
              obtain ⟨W9, hW9⟩ : ∃ W9, ((wr.setCell ⟨nb0, 7 + i, none⟩ (.pointer o)).setCell ⟨pi, 7 + i, none⟩ (.pointer (some ⟨nb0, 0, none⟩))).drew = W9 := ⟨_, rfl⟩
              have HM9 := Aside0.mk (show SkM W9 base (fun k => ok k ∨ W.heap.size ≤ k) g (X ++ ⟨nb0, A5, c5, x, i + 1⟩ :: Y) cn sz false by rw [← hW9]; exact hM.below (below_drew (Below.refl _ _)))
              have HF9 := Aside0.mk (show PutFr W ok (bxC A c x) #[.pointer (some ⟨p0, 0, none⟩), .pointer (some ⟨p1, 0, none⟩), .pointer (some ⟨p2, 0, none⟩), .pointer (some ⟨p3, 0, none⟩), .pointer (some ⟨p4, 0, none⟩), .pointer (some ⟨p5, 0, none⟩), .pointer (some ⟨p6, 0, none⟩), .pointer (some ⟨p7, 0, none⟩)] b7 W9 by
                rw [← hW9]
                have hfi := HFI.out
                obtain ⟨hpo, _, cs, t, hph, hpt⟩ := HPB.out
                have e0 : b7 ≠ nb0 := HNN.out.2
                have e2 : W.heap.size ≠ nb0 := by have h1_ := HNB.out.1; have h2_ := HZ7.out; have h3_ := HZ2.out; omega
                have hkind := pd_kind (HMI.out) i
                rw [HPI.out] at hkind
                have e1 : b7 ≠ pi := fun e => by
                  rcases hkind with ⟨cs2, h2⟩ | ⟨cs2, h2⟩
                  · exact blk_ne hfi.arr h2 (by decide) e
                  · exact blk_ne hfi.arr h2 (by decide) e
                have e3 : W.heap.size ≠ pi := fun e => by
                  rcases hkind with ⟨cs2, h2⟩ | ⟨cs2, h2⟩
                  · exact blk_ne hfi.box h2 (by decide) e
                  · exact blk_ne hfi.box h2 (by decide) e
                refine ⟨blk_far (blk_far hfi.arr e0 _) e1 _, blk_far (blk_far hfi.box e2 _) e3 _, ⟨((hfi.far.1.trans (SameIO.set _ _ _)).trans (SameIO.set _ _ _)).trans (SameIO.of_below (below_drew (Below.refl 0 _))), fun k hk hnk => ?_⟩, by have h_ := hfi.size; simpa using h_⟩
                have e4 : k ≠ nb0 := by have h1_ := HNB.out.1; have h2_ := HZ7.out; have h3_ := HZ2.out; omega
                have e5 : k ≠ pi := fun e => by
                  rcases hpo with h | h
                  · exact hnk (e ▸ h)
                  · omega
                exact (set_other _ _ _ _ e5).trans ((set_other _ _ _ _ e4).trans (hfi.far.2 k hk hnk)))
              rw [hW9]
              clear hM hW9
              go_wp2
              go_roundg (height + 1 - (i + 1))
              case measure => have := HI.out; have := HIL.out; omega
              case rel => exact ⟨i + 1, by first | rw [HW1.out] | rfl, ⟨HIL.out, rfl⟩, HM9, HF9⟩
            · have d7 : decide ((i : Int) < (height : Int)) = false := decide_eq_false (by omega)
              have d7b : decide (i < height) = false := decide_eq_false hi
              have HIE := Aside0.mk (show i = height by have := HI.out.1; omega)
              have c15 := hd15 HMI.out
              have f15 : wr.frozen? ⟨g, 15, none⟩ = false := blk_frozen HMI.out.head 15
              clear hi
              have hwc : wrap64 ((cn : Int) + 1) = ((cn + 1 : Nat) : Int) := w64_up (by have := HFU.out; omega)
              have HWC := Aside0.mk hwc
              clear hwc
              go_upto_region 25 with (fail)
              rw [HWC.out]
              have HMC := Aside0.mk (HMI.out.cnt ((cn + 1 : Nat) : Int))
              have HFC := Aside0.mk (show PutFr W ok (bxC A c x) #[.pointer (some ⟨p0, 0, none⟩), .pointer (some ⟨p1, 0, none⟩), .pointer (some ⟨p2, 0, none⟩), .pointer (some ⟨p3, 0, none⟩), .pointer (some ⟨p4, 0, none⟩), .pointer (some ⟨p5, 0, none⟩), .pointer (some ⟨p6, 0, none⟩), .pointer (some ⟨p7, 0, none⟩)] b7 (wr.setCell ⟨g, 15, none⟩ (.int .i64 ((cn + 1 : Nat) : Int))) from HFI.out.head HMI.out.head HMO.out _ _)
              obtain ⟨WC, hWC⟩ : ∃ WC, wr.setCell ⟨g, 15, none⟩ (.int .i64 ((cn + 1 : Nat) : Int)) = WC := ⟨_, rfl⟩
              rw [hWC] at HMC HFC ⊢
              clear hWC c15 f15 HMI HFI
              have c16 := hd16 HMC.out
              have f16 : WC.frozen? ⟨g, 16, none⟩ = false := blk_frozen HMC.out.head 16
              have bx0 : WC.cell? ⟨W.heap.size, 0, none⟩ = some (.slice A x.f0.length c) := (blk_cell HFC.out.box 0).trans rfl
              have HS0 := Aside0.mk (And.intro bx0 c16)
              clear bx0
              refine wp_region_last_drew (ds := [11]) (S := fun W' => W'.cell? ⟨W.heap.size, 0, none⟩ = some (.slice A x.f0.length c) ∧ W'.cell? ⟨g, 16, none⟩ = some (.int .i64 sz)) (by kernel_rfl) ?_ (fun hS0 => ?_);
              focus exact HS0.out
              (refine wpAnyLast_take (i := 0) (v := ?_) rfl (by kernel_rfl) (by kernel_rfl) (by kernel_rfl) (by kernel_rfl) (by kernel_rfl) (fun _ _ _ h => h) (Or.inl ⟨by rfl, ?_⟩) (by assumption) ?_; rotate_left 1; focus (intro ww hSw; (try dsimp only at hSw); go_simp; try with_reducible rfl)); try simp only [Act.put, List.setIfInBounds_toArray, List.set_cons_zero, List.set_cons_succ]
              (refine wpAnyLast_take (i := 1) (v := ?_) rfl (by kernel_rfl) (by kernel_rfl) (by kernel_rfl) (by kernel_rfl) (by kernel_rfl) (fun _ _ _ h => h) (Or.inl ⟨by rfl, ?_⟩) (by assumption) ?_; rotate_left 1; focus (intro ww hSw; (try dsimp only at hSw); go_simp; try with_reducible rfl)); try simp only [Act.put, List.setIfInBounds_toArray, List.set_cons_zero, List.set_cons_succ]
              (refine wpAnyLast_take (i := 2) (v := ?_) rfl (by kernel_rfl) (by kernel_rfl) (by kernel_rfl) (by kernel_rfl) (by kernel_rfl) (fun _ _ _ h => h) (Or.inl ⟨by rfl, ?_⟩) (by assumption) ?_; rotate_left 1; focus (intro ww hSw; (try dsimp only at hSw); go_simp; try with_reducible rfl)); try simp only [Act.put, List.setIfInBounds_toArray, List.set_cons_zero, List.set_cons_succ]
              (refine wpAnyLast_take (i := 3) (v := ?_) rfl (by kernel_rfl) (by kernel_rfl) (by kernel_rfl) (by kernel_rfl) (by kernel_rfl) (fun _ _ _ h => h) (Or.inl ⟨by rfl, ?_⟩) (by assumption) ?_; rotate_left 1; focus (intro ww hSw; (try dsimp only at hSw); go_simp; try with_reducible rfl)); try simp only [Act.put, List.setIfInBounds_toArray, List.set_cons_zero, List.set_cons_succ]
              (refine wpAnyLast_take (i := 4) (v := ?_) rfl (by kernel_rfl) (by kernel_rfl) (by kernel_rfl) (by kernel_rfl) (by kernel_rfl) (fun _ _ _ h => h) (Or.inl ⟨by rfl, ?_⟩) (by assumption) ?_; rotate_left 1; focus (intro ww hSw; (try dsimp only at hSw); go_simp; try with_reducible rfl)); try simp only [Act.put, List.setIfInBounds_toArray, List.set_cons_zero, List.set_cons_succ]
              (refine wpAnyLast_take (i := 5) (v := ?_) rfl (by kernel_rfl) (by kernel_rfl) (by kernel_rfl) (by kernel_rfl) (by kernel_rfl) (fun _ _ _ h => h) (Or.inl ⟨by rfl, ?_⟩) (by assumption) ?_; rotate_left 1; focus (intro ww hSw; (try dsimp only at hSw); go_simp; try with_reducible rfl)); try simp only [Act.put, List.setIfInBounds_toArray, List.set_cons_zero, List.set_cons_succ]
              (refine wpAnyLast_take (i := 6) (v := ?_) rfl (by kernel_rfl) (by kernel_rfl) (by kernel_rfl) (by kernel_rfl) (by kernel_rfl) (fun _ _ _ h => h) (Or.inl ⟨by rfl, ?_⟩) (by assumption) ?_; rotate_left 1; focus (intro ww hSw; (try dsimp only at hSw); go_simp; try with_reducible rfl)); try simp only [Act.put, List.setIfInBounds_toArray, List.set_cons_zero, List.set_cons_succ]
              (refine wpAnyLast_take (i := 7) (v := ?_) rfl (by kernel_rfl) (by kernel_rfl) (by kernel_rfl) (by kernel_rfl) (by kernel_rfl) (fun _ _ _ h => h) (Or.inl ⟨by rfl, ?_⟩) (by assumption) ?_; rotate_left 1; focus (intro ww hSw; (try dsimp only at hSw); go_simp; try with_reducible rfl)); try simp only [Act.put, List.setIfInBounds_toArray, List.set_cons_zero, List.set_cons_succ]
              (refine wpAnyLast_take (i := 8) (v := ?_) rfl (by kernel_rfl) (by kernel_rfl) (by kernel_rfl) (by kernel_rfl) (by kernel_rfl) (fun _ _ _ h => h) (Or.inl ⟨by rfl, ?_⟩) (by assumption) ?_; rotate_left 1; focus (intro ww hSw; (try dsimp only at hSw); go_simp; try with_reducible rfl)); try simp only [Act.put, List.setIfInBounds_toArray, List.set_cons_zero, List.set_cons_succ]
              (refine wpAnyLast_take (i := 9) (v := ?_) rfl (by kernel_rfl) (by kernel_rfl) (by kernel_rfl) (by kernel_rfl) (by kernel_rfl) (fun _ _ _ h => h) (Or.inl ⟨by rfl, ?_⟩) (by assumption) ?_; rotate_left 1; focus (intro ww hSw; (try dsimp only at hSw); go_simp; try with_reducible rfl)); try simp only [Act.put, List.setIfInBounds_toArray, List.set_cons_zero, List.set_cons_succ]
              (refine wpAnyLast_take (i := 10) (v := ?_) rfl (by kernel_rfl) (by kernel_rfl) (by kernel_rfl) (by kernel_rfl) (by kernel_rfl) (fun _ _ _ h => h) (Or.inl ⟨by rfl, ?_⟩) (by assumption) ?_; rotate_left 1; focus (intro ww hSw; (try dsimp only at hSw); go_simp; try with_reducible rfl)); try simp only [Act.put, List.setIfInBounds_toArray, List.set_cons_zero, List.set_cons_succ]
              refine wpAnyLast_ready (rs := [11]) (by kernel_rfl) (by simp) (AllReadyL.cons_last rfl (by decide) (fun K hK => ?_) AllReadyL.nil)
              (go_simp; refine hK _ _ ?_; clear hK K)
              refine wpAnyLast_done (by kernel_rfl) ?_ _;
              rw [sz_wrap HN.out.2.2.2.1 HN.out.2.2.2.2.2.2.2]
              have HME := Aside0.mk ((HMC.out.sz (sz + ((x.f0.length : Int) + 41))).below (below_drew (Below.refl _ _)))
              have HFE := Aside0.mk (show PutFr W ok (bxC A c x) #[.pointer (some ⟨p0, 0, none⟩), .pointer (some ⟨p1, 0, none⟩), .pointer (some ⟨p2, 0, none⟩), .pointer (some ⟨p3, 0, none⟩), .pointer (some ⟨p4, 0, none⟩), .pointer (some ⟨p5, 0, none⟩), .pointer (some ⟨p6, 0, none⟩), .pointer (some ⟨p7, 0, none⟩)] b7 (WC.setCell ⟨g, 16, none⟩ (.int .i64 (sz + ((x.f0.length : Int) + 41)))).drew from ⟨(HFC.out.head HMC.out.head HMO.out _ _).arr, (HFC.out.head HMC.out.head HMO.out _ _).box, ⟨(HFC.out.head HMC.out.head HMO.out _ _).far.1.trans (SameIO.of_below (below_drew (Below.refl 0 _))), (HFC.out.head HMC.out.head HMO.out _ _).far.2⟩, (HFC.out.head HMC.out.head HMO.out _ _).size⟩)
              obtain ⟨WE, hWE⟩ : ∃ WE, (WC.setCell ⟨g, 16, none⟩ (.int .i64 (sz + ((x.f0.length : Int) + 41)))).drew = WE := ⟨_, rfl⟩
              rw [hWE] at HME HFE ⊢
              clear hWE c16 f16
              go_wp2
              go_ret
              refine ⟨HFE.out.size, HFE.out.far, X, Y, HXY.out.1, HXY.out.2.1, (fun m hm => by have := HXY.out.2.2 m hm; omega), .inr ⟨HGT.out, .inr ⟨by rw [HXY.out.1, HCN.out]; have := HFU.out; omega, rfl, ⟨nb0, A5, c5, x, height⟩, rfl, rfl, ?_⟩⟩⟩
              have hM := HME.out
              rw [HIE.out, show ((cn + 1 : Nat) : Int) = ((X ++ ⟨nb0, A5, c5, x, height⟩ :: Y).length : Int) by rw [← HCN.out]; simp; omega] at hM
              refine hM.toL (fun m hm => ?_)
              have ht := HLV.out.tall
              rw [HXY.out.1] at ht
              rcases List.mem_append.1 hm with hm | hm
              · exact ht m (List.mem_append_left _ hm)
              · rcases List.mem_cons.1 hm with rfl | hm
                · exact ⟨HN.out.1, HN.out.2.1⟩
                · exact ht m (List.mem_append_right _ hm)
end Go.Proofs.Yteomanpaladdjaa.P
