/- A range over a function whose iterator is walked beside the loop's own body: the loop's record and the block for the rounds' deferred calls, as two facts. No conditions. -/
import Derived.RangeFuncWrites
import Derived.RangeFuncBox
import Derived.RangeFuncLeaves
namespace Go.Proofs.Yteomanpaladdjaa.P
open Go.RowKit
set_option linter.unusedVariables false

variable {F : Fence} {n : Nat} {P : Program}

/-- The loop's record and its block stand: the next round may begin. -/
def Rdy (rec : LoopState → Option Code → Loop) (D : Nat) (W : World) : Prop := W.heap[D + 1]? = some (.loop (rec .ready none)) ∧ W.heap[D]? = some (.deferred (some []))
/-- A round has been left by the jump c. -/
def Dn (rec : LoopState → Option Code → Loop) (D : Nat) (c : Code) (W : World) : Prop := W.heap[D + 1]? = some (.loop (rec .done (some c))) ∧ W.heap[D]? = some (.deferred (some []))

theorem Rdy.keep {rec : LoopState → Option Code → Loop} {D : Nat} {A B : World} (h : Rdy rec D A) (h0 : B.heap[D]? = A.heap[D]?) (h1 : B.heap[D + 1]? = A.heap[D + 1]?) : Rdy rec D B := ⟨h1.trans h.1, h0.trans h.2⟩
theorem Rdy.lt {rec : LoopState → Option Code → Loop} {D : Nat} {A : World} (h : Rdy rec D A) : D + 1 < A.heap.size := (Array.getElem?_eq_some_iff.1 h.1).1
theorem Rdy.below {rec : LoopState → Option Code → Loop} {D : Nat} {A B : World} (h : Rdy rec D A) (hb : Below A.heap.size A B) : Rdy rec D B := h.keep (hb.block _ (by have := h.lt; omega)) (hb.block _ h.lt)
theorem Dn.lt {rec : LoopState → Option Code → Loop} {D : Nat} {c : Code} {A : World} (h : Dn rec D c A) : D + 1 < A.heap.size := (Array.getElem?_eq_some_iff.1 h.1).1

/-- How a round's body may be left: the two blocks of the loop lie as they lay; what is then said is said of the world in which the record is written back. -/
def bodyPostZ (rec : LoopState → Option Code → Loop) (D : Nat) (W2 : World) (R1 : World → Prop) (R2 : Code → World → Prop) : Exit → Act → World → Prop
  | .normal, _, W3 => (W3.heap[D]? = W2.heap[D]? ∧ W3.heap[D + 1]? = W2.heap[D + 1]?) ∧ R1 (W3.putObj (D + 1) (.loop (rec .ready none)))
  | .ret, _, W3 => (W3.heap[D]? = W2.heap[D]? ∧ W3.heap[D + 1]? = W2.heap[D + 1]?) ∧ R2 .ret (W3.putObj (D + 1) (.loop (rec .done (some .ret))))
  | .exit id, _, W3 => (W3.heap[D]? = W2.heap[D]? ∧ W3.heap[D + 1]? = W2.heap[D + 1]?) ∧ R2 (.exit id) (W3.putObj (D + 1) (.loop (rec .done (some (.exit id)))))
  | .goto t, _, W3 => (W3.heap[D]? = W2.heap[D]? ∧ W3.heap[D + 1]? = W2.heap[D + 1]?) ∧ R2 (.goto t) (W3.putObj (D + 1) (.loop (rec .done (some (.goto t)))))
  | .panic _, _, _ => False
  | .outgrown, _, _ => False

/-- One round, out of its body's walk. -/
theorem yieldAt_of_body {m fn : Nat} {tmps0 : Array Value} {ps : Array Tmp} {assign body : Code} {D : Nat} {rec : LoopState → Option Code → Loop}
    (hrec : rec = fun st pe => { state := st, pending := pe, fn := fn, tmps := tmps0, params := ps, assign, body, defers := D }) (hfn : F.fn fn)
    {args : Array Value} (hps : args.size = ps.size) {W : World} (hr : Rdy rec D W) {R1 : World → Prop} {R2 : Code → World → Prop}
    (h : ∃ a₁ : Act, (∀ K : Act → World → Prop, K a₁ W → assign.wpIn (F.inRound (D + 1)) m P (Exit.then K (fun _ _ _ => False)) { tmps := (ps.zip args).foldl (fun t (p, v) => t.setIfInBounds p v) tmps0, defers := [] } W) ∧
      ∀ W2, W2 = W.putObj (D + 1) (.loop { rec .ready none with state := .busy }) → body.wpIn (F.inRound (D + 1)) m P (bodyPostZ rec D W2 R1 R2) a₁ W2) :
    YieldAt F m P (D + 1) args W fun e W' => (e = .returned (.bool true) ∧ Rdy rec D W' ∧ R1 W') ∨ (e = .returned (.bool false) ∧ ∃ c, Dn rec D c W' ∧ R2 c W') := by
  obtain ⟨hl, hk⟩ := hr
  have hlt : D + 1 < W.heap.size := (Array.getElem?_eq_some_iff.1 hl).1
  have hy := run_yield (P := P) (args := args) hl (by rw [hrec]; exact hps)
  rw [hrec] at hy
  obtain ⟨a₁, hass, hb⟩ := h
  refine ⟨fn, _, assign, body, hy, roundIn_of_wpIn hfn (hass _ ⟨_, run_beginRound hl (by rw [hrec]), wpIn_mono (hb _ rfl) ?_⟩)⟩
  have hl2 : (W.putObj (D + 1) (.loop { rec .ready none with state := .busy })).heap[D + 1]? = some (.loop { rec .ready none with state := .busy }) := World.putObj_heap_same hlt
  have hk2 : (W.putObj (D + 1) (.loop { rec .ready none with state := .busy })).heap[D]? = some (.deferred (some [])) := (World.putObj_heap_other (by omega)).trans hk
  have fin : ∀ (jump : Option Code) (W3 : World), W3.heap[D]? = (W.putObj (D + 1) (.loop { rec .ready none with state := .busy })).heap[D]? → W3.heap[D + 1]? = (W.putObj (D + 1) (.loop { rec .ready none with state := .busy })).heap[D + 1]? →
      (Instr.endRound (D + 1) jump).run P W3 = .ok (.bool jump.isNone) (W3.putObj (D + 1) (.loop (rec (if jump.isNone then .ready else .done) jump))) ∧
      (W3.putObj (D + 1) (.loop (rec (if jump.isNone then .ready else .done) jump))).heap[D + 1]? = some (.loop (rec (if jump.isNone then .ready else .done) jump)) ∧
      (W3.putObj (D + 1) (.loop (rec (if jump.isNone then .ready else .done) jump))).heap[D]? = some (.deferred (some [])) := fun jump W3 e0 e1 => by
    have hl3 := e1.trans hl2
    have := run_endRound (P := P) jump hl3
    rw [hrec] at this ⊢
    exact ⟨this, World.putObj_heap_same (Array.getElem?_eq_some_iff.1 hl3).1, (World.putObj_heap_other (by omega)).trans (e0.trans hk2)⟩
  intro e2 a3 W3 hp
  cases e2 with
  | normal =>
    obtain ⟨⟨e0, e1⟩, hR⟩ := hp
    obtain ⟨hr3, hl4, hk4⟩ := fin none W3 e0 e1
    exact ⟨_, _, hr3, .inl ⟨rfl, ⟨hl4, hk4⟩, hR⟩⟩
  | ret =>
    obtain ⟨⟨e0, e1⟩, hR⟩ := hp
    obtain ⟨hr3, hl4, hk4⟩ := fin (some .ret) W3 e0 e1
    exact ⟨_, _, hr3, .inr ⟨rfl, .ret, ⟨hl4, hk4⟩, hR⟩⟩
  | exit id =>
    obtain ⟨⟨e0, e1⟩, hR⟩ := hp
    obtain ⟨hr3, hl4, hk4⟩ := fin (some (.exit id)) W3 e0 e1
    exact ⟨_, _, hr3, .inr ⟨rfl, .exit id, ⟨hl4, hk4⟩, hR⟩⟩
  | goto t =>
    obtain ⟨⟨e0, e1⟩, hR⟩ := hp
    obtain ⟨hr3, hl4, hk4⟩ := fin (some (.goto t)) W3 e0 e1
    exact ⟨_, _, hr3, .inr ⟨rfl, .goto t, ⟨hl4, hk4⟩, hR⟩⟩
  | panic ch => exact hp.elim
  | outgrown => exact hp.elim

/-- The statement, at an outermost loop: the iterator's one call, walked with the rounds at hand. -/
theorem wpIn_rangeFunc_Z {g : Operand} {ps : Array Tmp} {assign body : Code} {Q : Exit → Act → World → Prop} {a : Act} {w : World}
    (hro : F.round = none) (h1 : 1 ≤ n) {gf : Nat} {lb : Array Value} (hg : a.eval g = .func (.func gf) #[] lb) (hFg : F.fn gf) (eg : ∀ args w, (callFunc gf args).run P w = .ok (.enter gf args) w)
    {N : World → Prop} {X : Code → World → Prop}
    (hcall : ∀ (fn : Nat) (rec : LoopState → Option Code → Loop), F.fn fn → rec = (fun st pe => { state := st, pending := pe, fn := fn, tmps := a.tmps, params := ps, assign, body, defers := w.heap.size }) →
      ∀ W1, W1 = (w.alloc (.deferred (some []))).alloc (.loop (rec .ready none)) → Rdy rec w.heap.size W1 →
      CallsIn F (n - 1) P gf (#[.func (.yield (w.heap.size + 1)) #[] #[]] ++ lb) W1 fun e W' => (∃ v, e = .returned v) ∧ ((Rdy rec w.heap.size W' ∧ N W') ∨ (∃ c, Dn rec w.heap.size c W' ∧ X c W')))
    (hdone : ∀ (W : World) (o : Obj), w.heap.size + 1 < W.heap.size → (∃ o0 : Obj, W.heap[w.heap.size + 1]? = some o0 ∧ o0.isCells = false) → N W → (W.putObj (w.heap.size + 1) o).heap[w.heap.size]? = some (.deferred (some [])) →
      Q .normal { a with defers := { target := .collected w.heap.size, args := #[] } :: a.defers } (W.putObj (w.heap.size + 1) o))
    (hstop : ∀ (W : World) (o : Obj) (c : Code), w.heap.size + 1 < W.heap.size → (∃ o0 : Obj, W.heap[w.heap.size + 1]? = some o0 ∧ o0.isCells = false) → X c W → (W.putObj (w.heap.size + 1) o).heap[w.heap.size]? = some (.deferred (some [])) →
      c.wpIn F n P Q { a with defers := { target := .collected w.heap.size, args := #[] } :: a.defers } (W.putObj (w.heap.size + 1) o)) :
    (Code.rangeFunc g ps assign body).wpIn F n P Q a w := by
  refine wpIn_rangeFunc ?_
  intro fn hfn
  rw [hro]
  obtain ⟨rec, hrec⟩ : ∃ rec : LoopState → Option Code → Loop, rec = fun st pe => { state := st, pending := pe, fn, tmps := a.tmps, params := ps, assign, body, defers := w.heap.size } := ⟨_, rfl⟩
  obtain ⟨W1, hW1⟩ : ∃ W1, (w.alloc (.deferred (some []))).alloc (.loop (rec .ready none)) = W1 := ⟨_, rfl⟩
  have hL1 : W1.heap[w.heap.size + 1]? = some (.loop (rec .ready none)) := by
    rw [← hW1]; have := World.alloc_heap_new (w.alloc (.deferred (some []))) (.loop (rec .ready none)); rwa [World.size_alloc] at this
  have hK1 : W1.heap[w.heap.size]? = some (.deferred (some [])) := by
    rw [← hW1]; exact (Below.heap_alloc _ _ _ (by simp)).trans (World.alloc_heap_new w _)
  refine ⟨w.heap.size + 1, [{ target := .collected w.heap.size, args := #[] }], W1, { target := .fn (.func gf) lb, args := #[.func (.yield (w.heap.size + 1)) #[] #[]] }, W1, gf,
    #[.func (.yield (w.heap.size + 1)) #[] #[]] ++ lb, W1, ?_, ?_, ?_, ?_, fun _ => h1, ?_⟩
  · rw [← hW1, hrec]; exact run_enterLoop_outer _ _ _ _ _
  · simp only [resolve, hg]
    simp [go_sem]
  · intro f' hf'; simp [Target.leads] at hf'; subst hf'; exact hFg
  · simp [invoke, go_sem, eg]
  · refine (hcall fn rec hfn hrec W1 hW1.symm ⟨hL1, hK1⟩).mono ?_
    rintro e W2 ⟨⟨v, rfl⟩, (⟨⟨hl, hk⟩, hN⟩ | ⟨c, ⟨hl, hk⟩, hX⟩)⟩
    · exact ⟨none, _, by have := run_endLoop (P := P) hl (by rw [hrec]; simp); rw [hrec] at this; exact this, hdone _ _ (Array.getElem?_eq_some_iff.1 hl).1 ⟨_, hl, rfl⟩ hN ((World.putObj_heap_other (by omega)).trans hk)⟩
    · exact ⟨some c, _, by have := run_endLoop (P := P) hl (by rw [hrec]; simp); rw [hrec] at this; exact this, hstop _ _ _ (Array.getElem?_eq_some_iff.1 hl).1 ⟨_, hl, rfl⟩ hX ((World.putObj_heap_other (by omega)).trans hk)⟩

theorem callsIn_of_args {f : Nat} {args args' : Array Value} {w : World} {R : Ending → World → Prop} (h : args = args') (hc : CallsIn F n P f args' w R) : CallsIn F n P f args w R := h ▸ hc

end Go.Proofs.Yteomanpaladdjaa.P
