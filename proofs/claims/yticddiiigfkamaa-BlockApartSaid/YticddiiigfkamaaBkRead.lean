/- block.Read: the range over the iterator. -/
import Derived.Test.YticddiiigfkamaaBkReadI
import Derived.RangeFuncNested
import Derived.RangeFuncBound
import Derived.RangeFuncCalls
import Derived.RangeFuncLeaves
import Derived.Shelf.Abstract
import Derived.WalkKit
import Derived.OwnWalkIn
import Derived.TacticsInMore
import Derived.LoopNIn
import Derived.LoopIn
import Derived.Maps.AppendAt
namespace Go.Proofs.Yticddiiigfkamaa.P
open Go.RowKit Go.Proofs.YticddiiigfkamaaW.PrintWords Go.Proofs.YticddiiigfkamaaW.PrintLast Go.Proofs.YticddiiigfkamaaW.PrintMore
set_option linter.unusedVariables false
set_option linter.unusedSimpArgs false
attribute [local go_sem] Oper.semAt_some

section
variable {F : Fence} {n : Nat} {P : Program}
/-- One round, out of its body's walk; the assignment may make blocks. -/
theorem yieldAt_of_body2 {m fn : Nat} {tmps0 : Array Value} {ps : Array Tmp} {assign body : Code} {D : Nat} {rec : LoopState → Option Code → Loop}
    (hrec : rec = fun st pe => { state := st, pending := pe, fn := fn, tmps := tmps0, params := ps, assign, body, defers := D }) (hfn : F.fn fn)
    {args : Array Value} (hps : args.size = ps.size) {W : World} (hr : Rdy rec D W) {R1 : World → Prop} {R2 : Code → World → Prop}
    (h : ∃ (a₁ : Act) (Wa : World), (Wa.heap[D]? = W.heap[D]? ∧ Wa.heap[D + 1]? = W.heap[D + 1]?) ∧ (∀ K : Act → World → Prop, K a₁ Wa → assign.wpIn (F.inRound (D + 1)) m P (Exit.then K (fun _ _ _ => False)) { tmps := (ps.zip args).foldl (fun t (p, v) => t.setIfInBounds p v) tmps0, defers := [] } W) ∧
      ∀ W2, W2 = Wa.putObj (D + 1) (.loop { rec .ready none with state := .busy }) → body.wpIn (F.inRound (D + 1)) m P (bodyPostZ rec D W2 R1 R2) a₁ W2) :
    YieldAt F m P (D + 1) args W fun e W' => (e = .returned (.bool true) ∧ Rdy rec D W' ∧ R1 W') ∨ (e = .returned (.bool false) ∧ ∃ c, Dn rec D c W' ∧ R2 c W') := by
  obtain ⟨hl0, hk0⟩ := hr
  have hy := run_yield (P := P) (args := args) hl0 (by rw [hrec]; exact hps)
  rw [hrec] at hy
  obtain ⟨a₁, Wa, ⟨ea0, ea1⟩, hass, hb⟩ := h
  have hl := ea1.trans hl0
  have hk := ea0.trans hk0
  have hlt : D + 1 < Wa.heap.size := (Array.getElem?_eq_some_iff.1 hl).1
  refine ⟨fn, _, assign, body, hy, roundIn_of_wpIn hfn (hass _ ⟨_, run_beginRound hl (by rw [hrec]), wpIn_mono (hb _ rfl) ?_⟩)⟩
  have hl2 : (Wa.putObj (D + 1) (.loop { rec .ready none with state := .busy })).heap[D + 1]? = some (.loop { rec .ready none with state := .busy }) := World.putObj_heap_same hlt
  have hk2 : (Wa.putObj (D + 1) (.loop { rec .ready none with state := .busy })).heap[D]? = some (.deferred (some [])) := (World.putObj_heap_other (by omega)).trans hk
  have fin : ∀ (jump : Option Code) (W3 : World), W3.heap[D]? = (Wa.putObj (D + 1) (.loop { rec .ready none with state := .busy })).heap[D]? → W3.heap[D + 1]? = (Wa.putObj (D + 1) (.loop { rec .ready none with state := .busy })).heap[D + 1]? →
      (Instr.endRound (D + 1) jump).run P W3 = .ok (.bool jump.isNone) (W3.putObj (D + 1) (.loop (rec (if jump.isNone then .ready else .done) jump))) ∧
      (W3.putObj (D + 1) (.loop (rec (if jump.isNone then .ready else .done) jump))).heap[D + 1]? = some (.loop (rec (if jump.isNone then .ready else .done) jump)) ∧
      (W3.putObj (D + 1) (.loop (rec (if jump.isNone then .ready else .done) jump))).heap[D]? = some (.deferred (some [])) := fun jump W3 e0 e1 => by
    have hl3 := e1.trans hl2
    have := run_endRound (P := P) jump hl3
    rw [hrec] at this ⊢
    exact ⟨this, World.putObj_heap_same (Array.getElem?_eq_some_iff.1 hl3).1, (World.putObj_heap_other (by omega)).trans (e0.trans hk2)⟩
  intro e2 a3 W3 hp
  cases e2 with
  | normal =>
    obtain ⟨⟨e0, e1⟩, hR⟩ := hp
    obtain ⟨hr3, hl4, hk4⟩ := fin none W3 e0 e1
    exact ⟨_, _, hr3, .inl ⟨rfl, ⟨hl4, hk4⟩, hR⟩⟩
  | ret =>
    obtain ⟨⟨e0, e1⟩, hR⟩ := hp
    obtain ⟨hr3, hl4, hk4⟩ := fin (some .ret) W3 e0 e1
    exact ⟨_, _, hr3, .inr ⟨rfl, .ret, ⟨hl4, hk4⟩, hR⟩⟩
  | exit id =>
    obtain ⟨⟨e0, e1⟩, hR⟩ := hp
    obtain ⟨hr3, hl4, hk4⟩ := fin (some (.exit id)) W3 e0 e1
    exact ⟨_, _, hr3, .inr ⟨rfl, .exit id, ⟨hl4, hk4⟩, hR⟩⟩
  | goto t =>
    obtain ⟨⟨e0, e1⟩, hR⟩ := hp
    obtain ⟨hr3, hl4, hk4⟩ := fin (some (.goto t)) W3 e0 e1
    exact ⟨_, _, hr3, .inr ⟨rfl, .goto t, ⟨hl4, hk4⟩, hR⟩⟩
  | panic ch => exact hp.elim
  | outgrown => exact hp.elim
end

theorem pairs_calls (A0 : Option Addr) (n c0 : Nat) (w : World) :
    Calls Try.prog 25 #[.slice A0 n c0] w fun e w' => e = .returned (.func (.func 32) #[] #[.pointer (some ⟨w.heap.size, 0, none⟩)]) ∧ w' = w.alloc (.cells #[.slice A0 n c0] 23) := by
  go_enter Try.func25, Try.ntmps25
  go_wp2
  go_ret
  exact ⟨rfl, rfl⟩

/-- Are two rows' blocks apart? -/
def aptC (cs : List Value) : Prop := ∀ v0 v1, cs = [v0, v1] → ∀ k, v1.ownBlock = some k → some k ≠ v0.ownBlock
/-- A pair whose key and value are apart. -/
def kA : Kd Pr where
  sz := k39.sz
  E := k39.E
  K := k39.K
  M := fun w base ok x cs => k39.M w base ok x cs ∧ aptC cs
  K_len := k39.K_len
  K_one := k39.K_one
  K_below := k39.K_below
  K_of_M := fun h => k39.K_of_M h.1
  M_mono := fun hok h => ⟨k39.M_mono hok h.1, h.2⟩
  M_bound := fun h => ⟨k39.M_bound h.1, h.2⟩
  M_move := fun hm h => ⟨k39.M_move hm h.1, h.2⟩
  M_lower := fun hb h => ⟨k39.M_lower hb h.1, h.2⟩
theorem S_of_A {e : Nat} {w : World} {base : Nat} {ok : Nat → Prop} {v : Value} {xs : List Pr} (h : Kd.S kA e w base ok v xs) : Kd.S k39 e w base ok v xs := by
  obtain ⟨f, h0, h1⟩ := h
  exact ⟨f, h0, h1.imp_ (fun _ _ hp => hp.1)⟩
/-- What stands between two rounds. -/
def RdI (w : World) (out : List Pr) (W : World) : Prop :=
  (∃ v, Boxed W (w.heap.size + 2) 22 v ∧ Kd.S kA 39 W w.heap.size (fun _ => True) v out) ∧ Boxed W w.heap.size 22 (.slice none 0 0) ∧ Boxed W (w.heap.size + 1) 26 (.int .i64 0) ∧ Below w.heap.size w W

theorem rdI_below {w A B : World} {out : List Pr} (h : RdI w out A) (hb : Below A.heap.size A B) : RdI w out B := by
  obtain ⟨⟨v, h1, h2⟩, h3, h4, h5⟩ := h
  exact ⟨⟨v, boxed_below h1 hb, Kd.S_below h2 hb⟩, boxed_below h3 hb, boxed_below h4 hb, h5.trans (hb.mono h5.size)⟩

theorem rdI_set {w W : World} {out : List Pr} {v : Value} (u : Value) (h : RdI w out W) (hb : Boxed W (w.heap.size + 3) 23 v) : RdI w out (W.setCell ⟨w.heap.size + 3, 0, none⟩ u) := by
  obtain ⟨⟨v, h1, h2⟩, h3, h4, h5⟩ := h
  exact ⟨⟨v, boxed_far h1 (by simp) _, Kd.S_set h2 hb (by decide) _ _⟩, boxed_far h3 (by simp) _, boxed_far h4 (by simp) _, h5.setCell (p := ⟨w.heap.size + 3, 0, none⟩) (by simp) _⟩

/-- A round's end. -/
theorem rd_round {w W0 Wb W2 w1 : World} {out : List Pr} {p : Pr} {u v1 : Value} {o1 o2 o3 : Obj} {base : Nat} {ok : Nat → Prop}
    (Q2 : Kd.S kA 39 W2 base ok u out) (Q0 : ∀ k, u.ownBlock = some k → k < W0.heap.size)
    (Q7 : W2.heap[w.heap.size + 4 + 1]? = some o1) (h7 : o1.isCells = false) (Q8 : W2.heap[w.heap.size + 4]? = some o2) (h8 : o2.isCells = false)
    (K1 : Boxed w1 (w.heap.size + 2) 22 u) (K3 : Boxed w1 w.heap.size 22 (.slice none 0 0)) (K4 : Boxed w1 (w.heap.size + 1) 26 (.int .i64 0))
    (R1 : Kd.S kA 39 w1 w.heap.size (fun _ => True) v1 (out ++ [p])) (R2 : Below w.heap.size w w1) (R3 : W2.grownBy w1 u.ownBlock)
    (HW : ∀ (k t : Nat) (cells : Array Value), Wb.heap[k]? = some (.cells cells t (0, 0)) → W2.heap[k]? = Wb.heap[k]?) :
    ((((w1.setCell ⟨w.heap.size + 2, 0, none⟩ v1).heap[w.heap.size + 4]? = W2.heap[w.heap.size + 4]?) ∧ ((w1.setCell ⟨w.heap.size + 2, 0, none⟩ v1).heap[w.heap.size + 4 + 1]? = W2.heap[w.heap.size + 4 + 1]?)) ∧
    RdI w (out ++ [p]) ((w1.setCell ⟨w.heap.size + 2, 0, none⟩ v1).putObj (w.heap.size + 4 + 1) o3) ∧ Kept W0 Wb ((w1.setCell ⟨w.heap.size + 2, 0, none⟩ v1).putObj (w.heap.size + 4 + 1) o3)) := by
  have z0 : (w1.setCell ⟨w.heap.size + 2, 0, none⟩ v1).heap[w.heap.size + 4]? = W2.heap[w.heap.size + 4]? :=
    (Below.heap_setCell _ _ _ _ (by simp)).trans (R3.block _ (Array.getElem?_eq_some_iff.1 Q8).1 (S_row_ne Q2 Q8 h8))
  have z1 : (w1.setCell ⟨w.heap.size + 2, 0, none⟩ v1).heap[w.heap.size + 4 + 1]? = W2.heap[w.heap.size + 4 + 1]? :=
    (Below.heap_setCell _ _ _ _ (by simp; try omega)).trans (R3.block _ (Array.getElem?_eq_some_iff.1 Q7).1 (S_row_ne Q2 Q7 h7))
  have y1 := z1.trans Q7
  refine ⟨⟨z0, z1⟩, ⟨⟨_, boxed_putObj (K1.set _) y1 h7 _, S_putObj (Kd.S_set R1 K1 (by decide) _ _) y1 h7 _⟩, boxed_putObj (boxed_far K3 (by simp) _) y1 h7 _, boxed_putObj (boxed_far K4 (by simp) _) y1 h7 _, ?_⟩, ?_⟩
  · exact below_putObj (R2.setCell (p := ⟨w.heap.size + 2, 0, none⟩) (by simp) _) (by omega) (Array.getElem?_eq_some_iff.1 y1).1 _
  · intro k t cells hk ht h39
    have e1 := HW k t cells hk
    have e2 := e1.trans hk
    have hne : some k ≠ u.ownBlock := by
      intro e
      obtain ⟨cs, hc⟩ := Kd.S_typed Q2 k e.symm
      rw [e2] at hc
      cases hc
      rcases h39 with h39 | h39
      · exact h39 rfl
      · have := Q0 k e.symm
        omega
    have e3 := R3.block k (Array.getElem?_eq_some_iff.1 e2).1 hne
    have e4 := e3.trans e2
    have hk2 : k ≠ w.heap.size + 2 := by
      rintro rfl
      have hK1 : w1.heap[w.heap.size + 2]? = some (.cells #[u] 22 (0, 0)) := K1
      rw [e4] at hK1
      cases hK1
      exact ht rfl
    have e5 : (w1.setCell ⟨w.heap.size + 2, 0, none⟩ v1).heap[k]? = w1.heap[k]? := Below.heap_setCell _ _ _ _ hk2
    have e6 := e5.trans e4
    exact (World.putObj_heap_other (not_cells_ne y1 h7 e6)).trans (e5.trans (e3.trans e1))
/-- A round that stops. -/
theorem rd_stop {w W2 : World} {o1 o2 o3 : Obj}
    (Q7 : W2.heap[w.heap.size + 4 + 1]? = some o1) (h7 : o1.isCells = false) (Q8 : W2.heap[w.heap.size + 4]? = some o2)
    (K3 : Boxed W2 w.heap.size 22 (.slice none 0 0)) (K4 : Boxed W2 (w.heap.size + 1) 26 (.int .i64 0)) (R2 : Below w.heap.size w W2) :
    (((W2.setCell ⟨w.heap.size, 0, none⟩ (.slice none 0 0)).setCell ⟨w.heap.size + 1, 0, none⟩ (.int .i64 60)).heap[w.heap.size + 4]? = W2.heap[w.heap.size + 4]? ∧ ((W2.setCell ⟨w.heap.size, 0, none⟩ (.slice none 0 0)).setCell ⟨w.heap.size + 1, 0, none⟩ (.int .i64 60)).heap[w.heap.size + 4 + 1]? = W2.heap[w.heap.size + 4 + 1]?) ∧
    Code.ret = Code.ret ∧ Boxed (((W2.setCell ⟨w.heap.size, 0, none⟩ (.slice none 0 0)).setCell ⟨w.heap.size + 1, 0, none⟩ (.int .i64 60)).putObj (w.heap.size + 4 + 1) o3) w.heap.size 22 (.slice none 0 0) ∧
    Boxed (((W2.setCell ⟨w.heap.size, 0, none⟩ (.slice none 0 0)).setCell ⟨w.heap.size + 1, 0, none⟩ (.int .i64 60)).putObj (w.heap.size + 4 + 1) o3) (w.heap.size + 1) 26 (.int .i64 60) ∧
    Below w.heap.size w (((W2.setCell ⟨w.heap.size, 0, none⟩ (.slice none 0 0)).setCell ⟨w.heap.size + 1, 0, none⟩ (.int .i64 60)).putObj (w.heap.size + 4 + 1) o3) := by
  have z0 : ((W2.setCell ⟨w.heap.size, 0, none⟩ (.slice none 0 0)).setCell ⟨w.heap.size + 1, 0, none⟩ (.int .i64 60)).heap[w.heap.size + 4]? = W2.heap[w.heap.size + 4]? :=
    (Below.heap_setCell _ _ _ _ (by simp)).trans (Below.heap_setCell _ _ _ _ (by simp))
  have z1 : ((W2.setCell ⟨w.heap.size, 0, none⟩ (.slice none 0 0)).setCell ⟨w.heap.size + 1, 0, none⟩ (.int .i64 60)).heap[w.heap.size + 4 + 1]? = W2.heap[w.heap.size + 4 + 1]? :=
    (Below.heap_setCell _ _ _ _ (by simp; try omega)).trans (Below.heap_setCell _ _ _ _ (by simp; try omega))
  have y1 := z1.trans Q7
  exact ⟨⟨z0, z1⟩, rfl, boxed_putObj (boxed_far (K3.set _) (by simp) _) y1 h7 _, boxed_putObj ((boxed_far K4 (by simp) _).set _) y1 h7 _,
    below_putObj ((R2.setCell (p := ⟨w.heap.size, 0, none⟩) (Nat.le_refl _) _).setCell (p := ⟨w.heap.size + 1, 0, none⟩) (by simp) _) (by omega) (Array.getElem?_eq_some_iff.1 y1).1 _⟩
theorem results_bb {P : Program} {fn : Func} {p p' : Tmp} {ty ty' : TypeId} (h : fn.results = #[.cell p ty, .cell p' ty']) (tmps : Array Value) (w : World) (g g' : Nat) (t t' e : TypeId) (u v : Value) (k : IntKind)
    (hp : tmps.getD p undef = .pointer (some ⟨g, 0, none⟩)) (hg : Boxed w g t u) (hu : P.underlying ty = some (.slice e))
    (hp' : tmps.getD p' undef = .pointer (some ⟨g', 0, none⟩)) (hg' : Boxed w g' t' v) (hu' : P.underlying ty' = some (.int k)) :
    (results fn tmps).run P w = .ok (.tuple #[u, v]) w := by
  have h1 : tmps[p]?.getD undef = .pointer (some ⟨g, 0, none⟩) := by simpa using hp
  have h2 : tmps[p']?.getD undef = .pointer (some ⟨g', 0, none⟩) := by simpa using hp'
  have c1 := hg.cell
  have c2 := hg'.cell
  simp [results, h, h1, h2, asAddr, go_sem, isAgg, run_underlying hu, run_underlying hu', c1, c2]

/-- The pairs that bytes tell. -/
def block_Read.f (l : List Int) : Option (List Pr × Int) := if (∀ x ∈ l, 0 ≤ x ∧ x < 256) then some (if (rdAll (l.length + 1) l 0 [] []).2 = true then ((rdAll (l.length + 1) l 0 [] []).1, 0) else ([], 60)) else none
theorem read_f (l : List Int) (hB : ∀ x ∈ l, 0 ≤ x ∧ x < 256) : block_Read.f l = some (if (rdAll (l.length + 1) l 0 [] []).2 = true then ((rdAll (l.length + 1) l 0 [] []).1, 0) else ([], 60)) := if_pos hB

set_option maxHeartbeats 4000000 in
set_option maxRecDepth 100000 in
theorem block_Read.callsA (A0 : Option Addr) (c0 : Nat) (l0 : List Int) (r1 : List Pr) (r2 : Int) (w : World) (hr0 : Kd.C (Kd.int .u8) w A0 l0.length l0) (hc0 : l0.length ≤ c0) (h : block_Read.f l0 = some (r1, r2)) :
    Calls Try.prog 16 #[.slice A0 l0.length c0] w fun e w' => ∃ v0_ : Value, e = .returned (.tuple #[v0_, .int .i64 r2]) ∧ Kd.S kA 39 w' w.heap.size (fun _ => True) v0_ r1 ∧ Below w.heap.size w w' := by
  unfold block_Read.f at h
  by_cases hcond : ∀ x ∈ l0, 0 ≤ x ∧ x < 256
  · rw [if_pos hcond] at h
    have h := Option.some.inj h
    have HR0 := Aside0.mk hr0
    have HC0 := Aside0.mk hc0
    have HBY := Aside0.mk hcond
    have HRES := Aside0.mk h
    clear hr0 hc0 hcond h
    refine (callsIn_wide (n := 8)).1 ?_
    refine callsIn_of_wp_marks Try.func16 rfl trivial ?_ rfl
    simp only [Try.ntmps16, List.size_toArray, List.length_cons, List.length_nil, Nat.reduceAdd, Nat.reduceSub, Array.replicate_succ, Array.replicate_zero, List.push_toArray, List.append_toArray, List.nil_append, List.cons_append]
    gi_wp2_with (first | (refine ⟨trivial, ?_⟩; gi_at_call 25; refine (callsIn_wide.2 (pairs_calls A0 l0.length c0 _)).mono ?_; rintro e w' ⟨rfl, rfl⟩))
    obtain ⟨W0, hW0⟩ : ∃ W0, (((w.alloc (.cells #[.slice none 0 0] 22)).alloc (.cells #[.int .i64 0] 26)).alloc (.cells #[.slice none 0 0] 22)).alloc (.cells #[.slice A0 l0.length c0] 23) = W0 := ⟨_, rfl⟩
    have hsz : W0.heap.size = w.heap.size + 4 := by rw [← hW0]; simp
    have hI0 : RdI w [] W0 ∧ Boxed W0 (w.heap.size + 3) 23 (.slice A0 l0.length c0) := by
      rw [← hW0]
      refine ⟨⟨⟨.slice none 0 0, ?_, Kd.S_nil _ _ _ _ _⟩, ((((Boxed.new w _ _).alloc _).alloc _).alloc _), ?_, (((((Below.refl _ w).alloc (Nat.le_refl _) _).alloc (by simp) _).alloc (by simp; omega) _).alloc (by simp; omega) _)⟩, ?_⟩
      · have := Boxed.new ((w.alloc (.cells #[.slice none 0 0] 22)).alloc (.cells #[.int .i64 0] 26)) 22 (.slice none 0 0)
        rw [World.size_alloc, World.size_alloc] at this
        exact this.alloc _
      · have := Boxed.new (w.alloc (.cells #[.slice none 0 0] 22)) 26 (.int .i64 0)
        rw [World.size_alloc] at this
        exact (this.alloc _).alloc _
      · have := Boxed.new (((w.alloc (.cells #[.slice none 0 0] 22)).alloc (.cells #[.int .i64 0] 26)).alloc (.cells #[.slice none 0 0] 22)) 23 (.slice A0 l0.length c0)
        rw [World.size_alloc, World.size_alloc, World.size_alloc] at this
        exact this
    rw [hW0]
    have HI0 := Aside0.mk hI0
    clear hI0
    refine wpIn_rangeFunc_Z rfl (by omega) (gf := 32) (lb := #[.pointer (some ⟨w.heap.size + 3, 0, none⟩)]) rfl trivial (enters_of Try.func32 (by kernel_rfl) rfl)
      (N := fun W => (rdAll (l0.length + 1) l0 0 [] []).2 = true ∧ RdI w (rdAll (l0.length + 1) l0 0 [] []).1 W) (X := fun c W => (rdAll (l0.length + 1) l0 0 [] []).2 = false ∧ c = .ret ∧ Boxed W w.heap.size 22 (.slice none 0 0) ∧ Boxed W (w.heap.size + 1) 26 (.int .i64 60) ∧ Below w.heap.size w W) ?call ?done ?stop
    case stop =>
      intro W o c hlt hnc hX hD
      rw [hsz] at hlt hnc hD ⊢
      obtain ⟨o0, ho0, hoc⟩ := hnc
      obtain ⟨h2r, rfl, h3, h4, h5⟩ := hX
      have hres := HRES.out
      rw [if_neg (by rw [h2r]; decide)] at hres
      simp only [Prod.mk.injEq] at hres
      obtain ⟨rfl, rfl⟩ := hres
      have b2 := boxed_putObj h3 ho0 hoc o
      have b3 := boxed_putObj h4 ho0 hoc o
      have b5 := below_putObj (n₀ := w.heap.size) h5 (by omega) hlt o
      generalize W.putObj (w.heap.size + 4 + 1) o = WX at b2 b3 b5 hD ⊢
      have B2 := Aside0.mk b2
      have B3 := Aside0.mk b3
      have B5 := Aside0.mk b5
      have HD := Aside0.mk hD
      clear b2 b3 b5 h3 h4 h5 ho0 hoc hlt hW0 hsz HI0 hD
      gi_wp2
      refine ⟨by simp, .inl ⟨_, _, rfl, run_takeDeferred HD.out, ?_⟩⟩
      refine ⟨_, results_bb (e := 39) (k := .i64) rfl _ _ w.heap.size (w.heap.size + 1) _ _ _ _ rfl (boxed_putObj B2.out HD.out rfl _) Try.underlying22 rfl (boxed_putObj B3.out HD.out rfl _) Try.underlying26, _, rfl, ?_, ?_⟩
      · exact Kd.S_nil _ _ _ _ _
      · exact below_putObj B5.out (by omega) (Array.getElem?_eq_some_iff.1 HD.out).1 _
    case done =>
      intro W o hlt hnc hI hD
      rw [hsz] at hlt hnc hD ⊢
      obtain ⟨o0, ho0, hoc⟩ := hnc
      obtain ⟨h2r, ⟨v, h1, h2⟩, h3, h4, h5⟩ := hI
      have hres := HRES.out
      rw [if_pos h2r] at hres
      simp only [Prod.mk.injEq] at hres
      obtain ⟨hr1, rfl⟩ := hres
      rw [hr1] at h2
      obtain ⟨A1, c1, rfl⟩ := Kd.S_slice h2
      have b1 := boxed_putObj h1 ho0 hoc o
      have b2 := boxed_putObj h3 ho0 hoc o
      have b3 := boxed_putObj h4 ho0 hoc o
      have b4 := S_putObj h2 ho0 hoc o
      have b5 := below_putObj (n₀ := w.heap.size) h5 (by omega) hlt o
      generalize W.putObj (w.heap.size + 4 + 1) o = WX at b1 b2 b3 b4 b5 hD ⊢
      have c1_ := b1.cell
      have c2_ := b2.cell
      have f2_ := b2.frozen
      have c3_ := b3.cell
      have f3_ := b3.frozen
      have hD2 : ((WX.setCell ⟨w.heap.size, 0, none⟩ (.slice A1 r1.length c1)).setCell ⟨w.heap.size + 1, 0, none⟩ (.int .i64 0)).heap[w.heap.size + 4]? = some (.deferred (some [])) := (Below.heap_setCell _ _ _ _ (by simp)).trans ((Below.heap_setCell _ _ _ _ (by simp)).trans hD)
      have B1 := Aside0.mk b1
      have B2 := Aside0.mk b2
      have B3 := Aside0.mk b3
      have B4 := Aside0.mk b4
      have B5 := Aside0.mk b5
      have HD := Aside0.mk hD2
      clear b1 b2 b3 b4 b5 h1 h2 h3 h4 h5 ho0 hoc hlt hW0 hsz HI0 hD hD2
      gi_wp2
      refine ⟨by simp, .inl ⟨_, _, rfl, run_takeDeferred HD.out, ?_⟩⟩
      refine ⟨_, results_bb (e := 39) (k := .i64) rfl _ _ w.heap.size (w.heap.size + 1) _ _ _ _ rfl (boxed_putObj (boxed_far (B2.out.set _) (by simp) _) HD.out rfl _) Try.underlying22 rfl (boxed_putObj ((boxed_far B3.out (by simp) _).set _) HD.out rfl _) Try.underlying26, _, rfl, ?_, ?_⟩
      · exact S_putObj (Kd.S_set (Kd.S_set B4.out B2.out (by decide) 0 _) (boxed_far B3.out (by simp) _) (by decide) 0 _) HD.out rfl _
      · exact below_putObj ((B5.out.setCell (p := ⟨w.heap.size, 0, none⟩) (Nat.le_refl _) _).setCell (p := ⟨w.heap.size + 1, 0, none⟩) (by simp) _) (by omega) (Array.getElem?_eq_some_iff.1 HD.out).1 _
    case call =>
      intro fn rec hfn hrec W1 hW1 hR
      rw [hsz] at hrec hR ⊢
      have hb1 : Below W0.heap.size W0 W1 := by rw [hW1]; exact ((Below.refl _ W0).alloc (Nat.le_refl _) _).alloc (by simp) _
      refine (pairs1_in (8 - 1) (by omega) (w.heap.size + 4 + 1) (w.heap.size + 3) w.heap.size A0 c0 l0 HBY.out HC0.out (fun out W => RdI w out W ∧ Rdy rec (w.heap.size + 4) W)
        (fun W => ∃ c, Dn rec (w.heap.size + 4) c W ∧ c = .ret ∧ Boxed W w.heap.size 22 (.slice none 0 0) ∧ Boxed W (w.heap.size + 1) 26 (.int .i64 60) ∧ Below w.heap.size w W)
        (fun out A B h hb => ⟨rdI_below h.1 hb, h.2.below hb⟩) (fun out W h => Kd.C_below HR0.out h.1.2.2.2)
        (fun out W v u h hb => ⟨rdI_set u h.1 hb, h.2.keep (Below.heap_setCell _ _ _ _ (by simp)) (Below.heap_setCell _ _ _ _ (by simp; try omega))⟩)
        (fun out W h => ⟨h.1.2.2.2.size, by have := h.2.lt; omega⟩) ?hY ?hN W1 ⟨rdI_below HI0.out.1 hb1, hR⟩ (boxed_below HI0.out.2 hb1)).mono ?_
      case hY =>
        intro out v0 v1 p Wa Wb hI hb hR0 hR1 hlen
        have hRb := hI.2.below hb
        obtain ⟨B0, e0, rfl⟩ := Kd.R_slice hR0
        obtain ⟨B1, e1, rfl⟩ := Kd.R_slice hR1
        have hapt : aptC [.slice B0 p.f0.length e0, .slice B1 p.f1.length e1] := by
          intro v0 v1 he k hk
          injection he with he0 he1
          injection he1 with he1 _
          subst he0; subst he1
          exact hR1.1 k hk
        obtain ⟨vv0, hvv0⟩ : ∃ v : Value, v = .slice B0 p.f0.length e0 := ⟨_, rfl⟩
        obtain ⟨vv1, hvv1⟩ : ∃ v : Value, v = .slice B1 p.f1.length e1 := ⟨_, rfl⟩
        refine YieldAt.mono (yieldAt_of_body2 hrec hfn rfl hRb (R1 := fun W' => RdI w (out ++ [p]) W' ∧ Kept Wa Wb W') (R2 := fun _ _ => False) ?_) ?_
        · apply Exists.intro
          refine ⟨Wb.alloc (.cells #[vv0, vv1] 39), ⟨Below.heap_alloc _ _ _ (by have := hRb.lt; omega), Below.heap_alloc _ _ _ hRb.lt⟩, ?_, ?_⟩
          · intro K hK
            rw [hvv0, hvv1] at hK
            have hu := Try.underlying39
            gi_wp2
            exact hK
          intro W2 hW2
          obtain ⟨hl1, hl2⟩ := hRb
          obtain ⟨⟨u, g1, g2⟩, g3, g4, g5⟩ := hI.1
          have hl1c := blk_alloc hl1 (.cells #[vv0, vv1] 39)
          have hl2c := blk_alloc hl2 (.cells #[vv0, vv1] 39)
          have hbc := below_alloc hb (.cells #[vv0, vv1] 39)
          have q1 := boxed_putObj (boxed_below g1 hbc) hl1c rfl (.loop { rec .ready none with state := .busy })
          have q3 := boxed_putObj (boxed_below g3 hbc) hl1c rfl (.loop { rec .ready none with state := .busy })
          have q4 := boxed_putObj (boxed_below g4 hbc) hl1c rfl (.loop { rec .ready none with state := .busy })
          have q2 := S_putObj (Kd.S_old g2 hbc) hl1c rfl (.loop { rec .ready none with state := .busy })
          have q5 := below_putObj (n₀ := w.heap.size) (g5.trans (hbc.mono g5.size)) (by omega) (Array.getElem?_eq_some_iff.1 hl1c).1 (.loop { rec .ready none with state := .busy })
          have q7 : W2.heap[w.heap.size + 4 + 1]? = some (.loop { rec .ready none with state := .busy }) := by rw [hW2]; exact World.putObj_heap_same (Array.getElem?_eq_some_iff.1 hl1c).1
          have q8 : W2.heap[w.heap.size + 4]? = some (.deferred (some [])) := by rw [hW2]; exact (World.putObj_heap_other (by omega)).trans hl2c
          have q9 : Wa.heap.size ≤ W2.heap.size := by rw [hW2, putObj_size]; exact hbc.size
          have q0 := Kd.S_lt g2
          have qp : W2.heap[Wb.heap.size]? = some (.cells #[vv0, vv1] 39 (0, 0)) := by rw [hW2]; exact (World.putObj_heap_other (not_cells_ne hl1c rfl (heap_alloc_new Wb _))).trans (heap_alloc_new Wb _)
          have qw : ∀ (k t : Nat) (cells : Array Value), Wb.heap[k]? = some (.cells cells t (0, 0)) → W2.heap[k]? = Wb.heap[k]? := by
            intro k t cells hk
            rw [hW2]
            have hk2 := blk_alloc hk (.cells #[vv0, vv1] 39)
            exact (World.putObj_heap_other (not_cells_ne hl1c rfl hk2)).trans (hk2.trans hk.symm)
          have q6 := R_putObj (Kd.R_lower (Kd.R_mono (ok' := fun k => Wa.heap.size ≤ k) (Kd.R_bound (Kd.R_alloc hR0 (.cells #[vv0, vv1] 39))) (fun k hk => hk.2.1)) g5.size) hl1c rfl (.loop { rec .ready none with state := .busy })
          have q6b := R_putObj (Kd.R_lower (Kd.R_mono (ok' := fun k => Wa.heap.size ≤ k) (Kd.R_bound (Kd.R_alloc hR1 (.cells #[vv0, vv1] 39))) (fun k hk => hk.2.1)) g5.size) hl1c rfl (.loop { rec .ready none with state := .busy })
          rw [← hW2] at q1 q2 q3 q4 q5 q6 q6b
          subst hvv0
          subst hvv1
          have qm : kA.M W2 w.heap.size (fun k => Wa.heap.size ≤ k) p [_, _] := ⟨k39_mkM W2 w.heap.size (fun k => Wa.heap.size ≤ k) p q6 q6b, hapt⟩
          clear g1 g2 g3 g4 g5 hl1 hl2 hl1c hl2c hbc hI hb hR0 hR1 hW2 q6 q6b
          obtain ⟨A2, c2, rfl⟩ := Kd.S_slice q2
          have e1_ := q1.cell
          have f1_ := q1.frozen
          have p0_ : W2.cell? ⟨Wb.heap.size, 0, none⟩ = some (.slice B0 p.f0.length e0) := (blk_cell qp 0).trans rfl
          have p1_ : W2.cell? ⟨Wb.heap.size, 1, none⟩ = some (.slice B1 p.f1.length e1) := (blk_cell qp 1).trans rfl
          have hu := Try.underlying39
          have Q1 := Aside0.mk q1
          have Q2 := Aside0.mk q2
          have Q3 := Aside0.mk q3
          have Q4 := Aside0.mk q4
          have Q5 := Aside0.mk q5
          have Q7 := Aside0.mk q7
          have Q8 := Aside0.mk q8
          have Q9 := Aside0.mk q9
          have Q0 := Aside0.mk q0
          have QM := Aside0.mk qm
          have QW := Aside0.mk qw
          have HLN := Aside0.mk hlen
          clear q0 q1 q2 q3 q4 q5 q7 q8 q9 qm qw qp hlen
          gi_wp2_with (first | (gi_at_builtin; refine S_append_in kA (w0 := w) (W := W2) w.heap.size rfl (.tmp 13) (.tmp 15) 22 39 (.agg #[.slice none 0 0, .slice none 0 0]) 48 rfl Try.underlying22 info39 rfl (by decide) (by omega) _ out p _ (fun _ => True) (fun k => Wa.heap.size ≤ k) rfl rfl ?hp ?hokp (fun _ _ => trivial) ?HO ?HB ?hbase ?hl ?_; (case hp => exact QM.out); (case hokp => exact fun k hk => ⟨trivial, fun e => by have := Q0.out k e.symm; omega⟩); (case HO => exact Kd.S_mono Q2.out (fun k hk => ⟨trivial, by omega⟩)); (case HB => exact Q5.out); (case hbase => exact Q5.out.size); (case hl => have := HLN.out; omega); intro v1 w1 r1 r2 r3 r4; obtain ⟨A4, c4, rfl⟩ := Kd.S_slice r1; have k1 : Boxed w1 (w.heap.size + 2) 22 _ := Q1.out.kept r3 (Kd.S_ne Q2.out Q1.out (by decide)); have k3 : Boxed w1 w.heap.size 22 _ := Q3.out.kept r3 (Kd.S_ne Q2.out Q3.out (by decide)); have k4 : Boxed w1 (w.heap.size + 1) 26 _ := Q4.out.kept r3 (Kd.S_ne Q2.out Q4.out (by decide)); have e4 := k1.cell; have f4 := k1.frozen; have K1 := Aside0.mk k1; have K3 := Aside0.mk k3; have K4 := Aside0.mk k4; have R1 := Aside0.mk r1; have R2 := Aside0.mk r2; have R3 := Aside0.mk r3; clear k1 k3 k4 r1 r2 r3 r4))
          exact rd_round Q2.out Q0.out Q7.out rfl Q8.out rfl K1.out K3.out K4.out (by have h_ := R1.out; rw [List.length_append] at h_; exact h_) R2.out R3.out QW.out
        · rintro e W' (⟨he, hr, hi⟩ | ⟨_, _, _, hf⟩)
          · exact ⟨he, ⟨hi.1, hr⟩, hi.2⟩
          · exact hf.elim
      case hN =>
        intro out B0 m0 e0 B1 m1 e1 Wa Wb hI hb
        have hRb := hI.2.below hb
        obtain ⟨vv0, hvv0⟩ : ∃ v : Value, v = .slice B0 m0 e0 := ⟨_, rfl⟩
        obtain ⟨vv1, hvv1⟩ : ∃ v : Value, v = .slice B1 m1 e1 := ⟨_, rfl⟩
        refine YieldAt.mono (yieldAt_of_body2 hrec hfn rfl hRb (R1 := fun _ => False) (R2 := fun c W => c = .ret ∧ Boxed W w.heap.size 22 (.slice none 0 0) ∧ Boxed W (w.heap.size + 1) 26 (.int .i64 60) ∧ Below w.heap.size w W) ?_) ?_
        · apply Exists.intro
          refine ⟨Wb.alloc (.cells #[vv0, vv1] 39), ⟨Below.heap_alloc _ _ _ (by have := hRb.lt; omega), Below.heap_alloc _ _ _ hRb.lt⟩, ?_, ?_⟩
          · intro K hK
            rw [hvv0, hvv1] at hK
            have hu := Try.underlying39
            gi_wp2
            exact hK
          intro W2 hW2
          obtain ⟨hl1, hl2⟩ := hRb
          obtain ⟨⟨u, g1, g2⟩, g3, g4, g5⟩ := hI.1
          have hl1c := blk_alloc hl1 (.cells #[vv0, vv1] 39)
          have hl2c := blk_alloc hl2 (.cells #[vv0, vv1] 39)
          have hbc := below_alloc hb (.cells #[vv0, vv1] 39)
          have q1 := boxed_putObj (boxed_below g1 hbc) hl1c rfl (.loop { rec .ready none with state := .busy })
          have q3 := boxed_putObj (boxed_below g3 hbc) hl1c rfl (.loop { rec .ready none with state := .busy })
          have q4 := boxed_putObj (boxed_below g4 hbc) hl1c rfl (.loop { rec .ready none with state := .busy })
          have q2 := S_putObj (Kd.S_old g2 hbc) hl1c rfl (.loop { rec .ready none with state := .busy })
          have q5 := below_putObj (n₀ := w.heap.size) (g5.trans (hbc.mono g5.size)) (by omega) (Array.getElem?_eq_some_iff.1 hl1c).1 (.loop { rec .ready none with state := .busy })
          have q7 : W2.heap[w.heap.size + 4 + 1]? = some (.loop { rec .ready none with state := .busy }) := by rw [hW2]; exact World.putObj_heap_same (Array.getElem?_eq_some_iff.1 hl1c).1
          have q8 : W2.heap[w.heap.size + 4]? = some (.deferred (some [])) := by rw [hW2]; exact (World.putObj_heap_other (by omega)).trans hl2c
          have q9 : Wa.heap.size ≤ W2.heap.size := by rw [hW2, putObj_size]; exact hbc.size
          have q0 := Kd.S_lt g2
          have qp : W2.heap[Wb.heap.size]? = some (.cells #[vv0, vv1] 39 (0, 0)) := by rw [hW2]; exact (World.putObj_heap_other (not_cells_ne hl1c rfl (heap_alloc_new Wb _))).trans (heap_alloc_new Wb _)
          have qw : ∀ (k t : Nat) (cells : Array Value), Wb.heap[k]? = some (.cells cells t (0, 0)) → W2.heap[k]? = Wb.heap[k]? := by
            intro k t cells hk
            rw [hW2]
            have hk2 := blk_alloc hk (.cells #[vv0, vv1] 39)
            exact (World.putObj_heap_other (not_cells_ne hl1c rfl hk2)).trans (hk2.trans hk.symm)
          rw [← hW2] at q1 q2 q3 q4 q5
          clear g1 g2 g3 g4 g5 hl1 hl2 hl1c hl2c hbc hI hb hW2 q9 q0 qp qw q1 q2
          have e3_ := q3.cell
          have f3_ := q3.frozen
          have e4_ := q4.cell
          have f4_ := q4.frozen
          have Q3 := Aside0.mk q3
          have Q4 := Aside0.mk q4
          have Q5 := Aside0.mk q5
          have Q7 := Aside0.mk q7
          have Q8 := Aside0.mk q8
          clear q3 q4 q5 q7 q8
          gi_wp2
          exact rd_stop Q7.out rfl Q8.out Q3.out Q4.out Q5.out
        · rintro e W' (⟨_, _, hf⟩ | ⟨he, c, hd, hx⟩)
          · exact hf.elim
          · exact ⟨he, c, hd, hx⟩
      rintro e W' ⟨hv, hx⟩
      refine ⟨hv, ?_⟩
      rcases hx with ⟨h2, hj, hr⟩ | ⟨h2, c, hd, hx⟩
      · exact .inl ⟨hr, h2, hj⟩
      · exact .inr ⟨c, hd, h2, hx⟩
  · rw [if_neg hcond] at h
    exact absurd h (by simp)

theorem block_Read.calls (A0 : Option Addr) (c0 : Nat) (l0 : List Int) (r1 : List Pr) (r2 : Int) (w : World) (hr0 : Kd.C (Kd.int .u8) w A0 l0.length l0) (hc0 : l0.length ≤ c0) (h : block_Read.f l0 = some (r1, r2)) :
    Calls Try.prog 16 #[.slice A0 l0.length c0] w fun e w' => ∃ v0_ : Value, e = .returned (.tuple #[v0_, .int .i64 r2]) ∧ Kd.S k39 39 w' w.heap.size (fun _ => True) v0_ r1 ∧ Below w.heap.size w w' := by
  refine (block_Read.callsA A0 c0 l0 r1 r2 w hr0 hc0 h).mono ?_
  rintro e w' ⟨v, he, hs, hb⟩
  exact ⟨v, he, S_of_A hs, hb⟩

end Go.Proofs.Yticddiiigfkamaa.P
