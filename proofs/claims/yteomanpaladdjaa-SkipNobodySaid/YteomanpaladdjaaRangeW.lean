/- Rows of one's own beside a loop's record; append inside a round. No conditions. -/
import Derived.Test.YteomanpaladdjaaPx0
import Derived.Test.YteomanpaladdjaaRange
import Derived.OwnWalkIn
namespace Go.Proofs.Yteomanpaladdjaa.P
open Go.RowKit Go.Proofs.YteomanpaladdjaaW.PrintWords Go.Proofs.YteomanpaladdjaaW.PrintLast Go.Proofs.YteomanpaladdjaaW.PrintMore
set_option linter.unusedVariables false
set_option linter.unusedSimpArgs false

section
variable {α : Type} {d : Kd α} {e : Nat} {W : World} {base : Nat} {ok : Nat → Prop} {v : Value} {xs : List α} {l : Nat} {o : Obj}
theorem not_cells_ne {k : Nat} (hl : W.heap[l]? = some o) (ho : o.isCells = false) {q : TypeId} {cells : Array Value} (hc : W.heap[k]? = some (.cells cells q (0, 0))) : k ≠ l := by
  rintro rfl
  rw [hl] at hc
  cases hc
  cases ho
theorem R_putObj (h : d.R e W base ok v xs) (hl : W.heap[l]? = some o) (ho : o.isCells = false) (o' : Obj) : d.R e (W.putObj l o') base ok v xs :=
  Kd.R_mono (Kd.R_step (Kd.R_bound h) (fun k hk _ => by
    obtain ⟨_, _, _, q, _, cells, hc⟩ := hk
    exact World.putObj_heap_other (not_cells_ne hl ho hc))) (fun _ hk => hk.1)
theorem S_putObj (h : Kd.S d e W base ok v xs) (hl : W.heap[l]? = some o) (ho : o.isCells = false) (o' : Obj) : Kd.S d e (W.putObj l o') base ok v xs :=
  Kd.S_mono (Kd.S_step (Kd.S_bound h) (fun k hk _ => by
    obtain ⟨_, _, _, q, _, cells, hc⟩ := hk
    exact World.putObj_heap_other (not_cells_ne hl ho hc))) (fun _ hk => hk.1)
theorem boxed_putObj {B t : Nat} {v : Value} (h : Boxed W B t v) (hl : W.heap[l]? = some o) (ho : o.isCells = false) (o' : Obj) : Boxed (W.putObj l o') B t v :=
  (World.putObj_heap_other (not_cells_ne hl ho h)).trans h
theorem boxed_below {w1 : World} {B t : Nat} {v : Value} (h : Boxed W B t v) (hb : Below W.heap.size W w1) : Boxed w1 B t v := (hb.block _ h.lt).trans h
theorem below_putObj {w : World} {n₀ : Nat} (h : Below n₀ w W) (hl : n₀ ≤ l) (hlt : l < W.heap.size) (o' : Obj) : Below n₀ w (W.putObj l o') :=
  h.trans ((Below.refl n₀ W).grown (grownBy_putObj' W l o') (by omega) (fun k ek => by cases ek; exact hl))
theorem S_row_ne (h : Kd.S d e W base ok v xs) (hl : W.heap[l]? = some o) (ho : o.isCells = false) : some l ≠ v.ownBlock := fun hk => by
  obtain ⟨cells, hc⟩ := Kd.S_typed h l hk.symm
  exact not_cells_ne hl ho hc rfl
theorem R_row_ne (h : d.R e W base ok v xs) (hl : W.heap[l]? = some o) (ho : o.isCells = false) : some l ≠ v.ownBlock := fun hk => by
  obtain ⟨cells, hc⟩ := Kd.R_typed h l hk.symm
  exact not_cells_ne hl ho hc rfl
theorem boxed_far {B t : Nat} {v : Value} (h : Boxed W B t v) {p : Addr} (hne : B ≠ p.block) (u : Value) : Boxed (W.setCell p u) B t v := (Below.heap_setCell W p u B hne).trans h
theorem putObj_size (W : World) (l : Nat) (o' : Obj) : (W.putObj l o').heap.size = W.heap.size := by simp [World.putObj]
end

section
variable {F : Fence} {n : Nat} {P : Program} {ops : Array Oper} {rest : List Oper} {o : Oper} {a : Act} {Q : Exit → Act → World → Prop} {α : Type}
/-- append(v, x) inside a fence, behind 'gi_at_builtin' ('Kd.R_append''s twin). -/
theorem R_append_in (d : Kd α) {w0 W : World} (base : Nat) (hgd : o.guard = none) (s x : Operand) (t e : TypeId) (z : Value) (bytes : Nat)
    (ho : o.op = .call { callee := .builtin .append, args := #[s, x], argTypes := #[t, t] })
    (ht : P.underlying t = some (.slice e)) (hinfo : (P.info? e).map (fun i => (i.zero, i.size, i.bytes)) = some (some z, d.sz, bytes)) (hz : z.cells.size = d.sz) (hs0 : 0 < d.sz) (hb0 : 0 < bytes)
    (v : Value) (xs : List α) (p : α) (cs : List Value) (ok okp : Nat → Prop) (hs : a.eval s = v) (hx : a.eval x = .slice (some ⟨W.heap.size, 0, none⟩) 1 1) (hp : d.M W base okp p cs) (hokp : ∀ k, okp k → ok k ∧ some k ≠ v.ownBlock) (hfresh : ∀ k, W.heap.size ≤ k → ok k)
    (HO : d.R e W base ok v xs) (HB : Below base w0 W) (hbase : base ≤ W.heap.size) (hl : (xs.length + 1) * bytes ≤ 140737488355328)
    (h : ∀ v1 w1, d.R e w1 base ok v1 (xs ++ [p]) → Below base w0 w1 → W.grownBy w1 v.ownBlock → (v1.ownBlock = v.ownBlock ∨ ∃ b, v1.ownBlock = some b ∧ W.heap.size ≤ b) → wpListIn F n P ops Q rest (a.put o.dst v1) w1) :
    wpListIn F n P ops Q (o :: rest) a (W.alloc (.cells cs.toArray e)) := by
  obtain ⟨h0, inner, hown, hr⟩ := HO
  obtain ⟨i0, hi, hzz⟩ := Option.map_eq_some_iff.1 hinfo
  simp only [Prod.mk.injEq] at hzz
  obtain ⟨hz0, hz1, hz2⟩ := hzz
  have hlen : xs.length + 1 ≤ 140737488355328 := Nat.le_trans (Nat.le_mul_of_pos_right _ hb0) hl
  have hys := d.K_len (d.K_of_M hp)
  refine wpListIn_plain hgd fun K hK' => ?_
  obtain ⟨v', w', hrun, r1, r2, r3, r4⟩ := run_append_own_at (P := P) (W.alloc (.cells cs.toArray e)) base t o.type e i0 z d.sz bytes ht hi hz0 hz1 hz2 hz hs0 v xs.length inner (hown.alloc _) ⟨W.heap.size, 0, none⟩ 1 1 cs (by rw [hys]; simp)
    (by simpa using World.news_of_block (cs := cs.toArray) (t := e) (fr := (0, 0)) (heap_alloc_new W (.cells cs.toArray e))) (d.K_one (d.K_of_M hp)) (by simp only [maxLen]; omega) hl (by simp; omega)
  unfold Oper.wpIn
  refine ⟨?_, ?_⟩
  · simp [Oper.about, ho, resolve, Target.leads, Sem.run_pure]
  · rw [Oper.semAt_plain F _ _ (by rw [ho]; intro c hc'; cases hc')]
    simp [execOp, ho, resolve, invoke, builtin, hs, hx, hrun, Result.andThen]
    have hg := World.grownBy.trans (World.grownBy_alloc W (.cells cs.toArray e) v.ownBlock) r2
    have hat : v'.ownBlock = v.ownBlock ∨ ∃ b, v'.ownBlock = some b ∧ W.heap.size ≤ b := by
      rcases r4 with hat | hat
      · exact .inl hat
      · exact .inr ⟨_, hat, by simp⟩
    exact hK' _ _ (h v' w' (Kd.R_appended h0 hr hp hokp hfresh r1 hg hat) ((HB.alloc hbase _).grown r2 (by simp; omega) (own_base hown)) hg hat)

theorem S_append_in (d : Kd α) {w0 W : World} (base : Nat) (hgd : o.guard = none) (s x : Operand) (t e : TypeId) (z : Value) (bytes : Nat)
    (ho : o.op = .call { callee := .builtin .append, args := #[s, x], argTypes := #[t, t] })
    (ht : P.underlying t = some (.slice e)) (hinfo : (P.info? e).map (fun i => (i.zero, i.size, i.bytes)) = some (some z, d.sz, bytes)) (hz : z.cells.size = d.sz) (hs0 : 0 < d.sz) (hb0 : 0 < bytes)
    (v : Value) (xs : List α) (p : α) (cs : List Value) (ok okp : Nat → Prop) (hs : a.eval s = v) (hx : a.eval x = .slice (some ⟨W.heap.size, 0, none⟩) 1 1) (hp : d.M W base okp p cs) (hokp : ∀ k, okp k → ok k ∧ some k ≠ v.ownBlock) (hfresh : ∀ k, W.heap.size ≤ k → ok k)
    (HO : Kd.S d e W base (fun k => ok k ∧ ¬ okp k) v xs) (HB : Below base w0 W) (hbase : base ≤ W.heap.size) (hl : (xs.length + 1) * bytes ≤ 140737488355328)
    (h : ∀ v1 w1, Kd.S d e w1 base ok v1 (xs ++ [p]) → Below base w0 w1 → W.grownBy w1 v.ownBlock → (v1.ownBlock = v.ownBlock ∨ ∃ b, v1.ownBlock = some b ∧ W.heap.size ≤ b) → wpListIn F n P ops Q rest (a.put o.dst v1) w1) :
    wpListIn F n P ops Q (o :: rest) a (W.alloc (.cells cs.toArray e)) := by
  obtain ⟨f, hf, hR⟩ := Kd.S_tag HO xs.length okp (fun _ hk h2 => h2.2 hk)
  refine R_append_in (Kd.tag f d) base hgd s x t e z bytes ho ht hinfo hz hs0 hb0 v xs.zipIdx (p, xs.length) cs ok okp hs hx (d.M_mono (fun k hk => ⟨hk, hf k hk⟩) hp) hokp hfresh (Kd.R_mono hR (fun _ hk => hk.1)) HB hbase (by rw [List.length_zipIdx]; exact hl) ?_
  intro v1 w1 hr
  rw [← Kd.zip_snoc] at hr
  exact h v1 w1 ⟨f, hr⟩
end

end Go.Proofs.Yteomanpaladdjaa.P
