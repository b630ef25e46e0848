/- A heap of fronts: where it stands in memory, what sinking does, in plain Lean. No conditions. -/
import Derived.Test.YtihdomhiiolojaaMgRight
import Derived.Test.YtihdomhiiolojaaPmergeless
namespace Go.Proofs.Ytihdomhiiolojaa.P
open Go.RowKit Go.Proofs.YtihdomhiiolojaaW.PrintWords Go.Proofs.YtihdomhiiolojaaW.PrintLast Go.Proofs.YtihdomhiiolojaaW.PrintMore
set_option linter.unusedVariables false
set_option linter.unusedSimpArgs false

section
variable {P : Program} {ops : Array Oper} {Q : Exit → Act → World → Prop} {md : Region.Mode} {S : World → Prop} {ds : List Nat}
/-- An operation that yields in every world, taken first. -/
theorem wpAnyLast_pure {i : Nat} {oi : Oper} {v : Value} {fuel : Nat} {listed : Array Bool} {a : Act} {w : World} (hi : ops[i]? = some oi)
    (hs : Region.noSelect ops = true) (hf : Region.free md ops listed i = true) (hr : (Region.ready md ops listed).contains i = true)
    (hQ : ∀ c a w, Q (.panic c) (a.put oi.dst v) w → Q (.panic c) a w) (hy : Yields P ops oi v a)
    (h : wpAnyLast P md ops Q S ds fuel (listed.setIfInBounds i true) (a.put oi.dst v) w) : wpAnyLast P md ops Q S ds (fuel + 1) listed a w :=
  wpAnyLast_any hi (Region.noSelect_spec hs) hQ fuel listed a w (Region.free_spec hi hf) (by simpa using hr) hy h
end
/-- What is left of a row, and the row's place. -/
structure Fr where
  A : Option Addr
  c : Nat
  l : List En
  p : Nat
abbrev frV (f : Fr) : Value := .agg #[.slice f.A f.l.length f.c, .int .i64 (f.p : Int)]
def cellsF : List Fr → List Value
  | [] => []
  | f :: F => .slice f.A f.l.length f.c :: .int .i64 (f.p : Int) :: cellsF F
theorem cellsF_len : ∀ F : List Fr, (cellsF F).length = 2 * F.length
  | [] => rfl
  | f :: F => by rw [cellsF, List.length_cons, List.length_cons, cellsF_len F, List.length_cons]; omega
theorem cellsF_at : ∀ {F : List Fr} {i : Nat} {f : Fr} (J : List Value), F[i]? = some f → (cellsF F ++ J)[i * 2]? = some (.slice f.A f.l.length f.c) ∧ (cellsF F ++ J)[i * 2 + 1]? = some (.int .i64 (f.p : Int))
  | [], i, f, J, h => by simp at h
  | x :: F, 0, f, J, h => by obtain rfl := Option.some.inj h; exact ⟨rfl, rfl⟩
  | x :: F, i + 1, f, J, h => by
    have ih := cellsF_at (F := F) (i := i) J (by simpa using h)
    rw [show (i + 1) * 2 = (i * 2) + 1 + 1 by omega]
    simp only [cellsF, List.cons_append, List.getElem?_cons_succ]
    exact ih
theorem cellsF_set : ∀ (F : List Fr) (i : Nat) (f : Fr) (J : List Value), i < F.length → ((cellsF F ++ J).set (i * 2) (.slice f.A f.l.length f.c)).set (i * 2 + 1) (.int .i64 (f.p : Int)) = cellsF (F.set i f) ++ J
  | [], i, f, J, h => by simp at h
  | x :: F, 0, f, J, h => rfl
  | x :: F, i + 1, f, J, h => by
    have ih := cellsF_set F i f J (by simpa using h)
    rw [show (i + 1) * 2 = (i * 2) + 1 + 1 by omega]
    simp only [cellsF, List.cons_append, List.set_cons_succ, List.set_cons_succ]
    rw [ih]
/-- A heap stands at block g, its fronts at block b, behind them what was there. -/
structure Hp (W : World) (g b cap : Nat) (F : List Fr) (J : List Value) : Prop where
  hp : W.heap[g]? = some (.cells #[.slice (some ⟨b, 0, none⟩) F.length cap] 50 (0, 0))
  fr : W.heap[b]? = some (.cells (cellsF F ++ J).toArray 56 (0, 0))
  le : F.length ≤ cap
theorem Hp.ne {W : World} {g b cap : Nat} {F : List Fr} {J : List Value} (h : Hp W g b cap F J) : g ≠ b := by
  rintro rfl
  have := h.hp.symm.trans h.fr
  simp at this
theorem Hp.keep {A B : World} {g b cap : Nat} {F : List Fr} {J : List Value} (h : Hp A g b cap F J) (hg : B.heap[g]? = A.heap[g]?) (hb : B.heap[b]? = A.heap[b]?) : Hp B g b cap F J := ⟨hg.trans h.hp, hb.trans h.fr, h.le⟩
theorem Hp.gt {A : World} {g b cap : Nat} {F : List Fr} {J : List Value} (h : Hp A g b cap F J) : g < A.heap.size := (Array.getElem?_eq_some_iff.1 h.hp).1
theorem Hp.bt {A : World} {g b cap : Nat} {F : List Fr} {J : List Value} (h : Hp A g b cap F J) : b < A.heap.size := (Array.getElem?_eq_some_iff.1 h.fr).1
theorem Hp.below {A B : World} {g b cap : Nat} {F : List Fr} {J : List Value} (h : Hp A g b cap F J) (hb : Below A.heap.size A B) : Hp B g b cap F J := h.keep (hb.block _ h.gt) (hb.block _ h.bt)
theorem add_mk (b n : Nat) : (⟨b, 0, none⟩ : Addr).add n = ⟨b, n, none⟩ := by simp [Addr.add, eq_comm]
theorem Hp.head {A : World} {g b cap : Nat} {F : List Fr} {J : List Value} (h : Hp A g b cap F J) : A.cell? ⟨g, 0, none⟩ = some (.slice (some ⟨b, 0, none⟩) F.length cap) := (blk_cell h.hp 0).trans rfl
theorem Hp.at0 {A : World} {g b cap : Nat} {F : List Fr} {J : List Value} (h : Hp A g b cap F J) {i : Nat} {f : Fr} (hf : F[i]? = some f) {ad : Addr} (he : ad = ⟨b, 0, none⟩) :
    A.cell? (ad.add (i * 2)) = some (.slice f.A f.l.length f.c) ∧ A.cell? ⟨(ad.add (i * 2)).block, (ad.add (i * 2)).off + 1, none⟩ = some (.int .i64 (f.p : Int)) ∧ A.frozen? (ad.add (i * 2)) = false ∧ A.frozen? ⟨(ad.add (i * 2)).block, (ad.add (i * 2)).off + 1, none⟩ = false := by
  subst he
  rw [add_mk]
  have hc := cellsF_at J hf
  exact ⟨(blk_cell h.fr _).trans (by simpa using hc.1), (blk_cell h.fr _).trans (by simpa using hc.2), blk_frozen h.fr _, blk_frozen h.fr _⟩
/-- One front is written. -/
theorem Hp.put {A : World} {g b cap : Nat} {F : List Fr} {J : List Value} (h : Hp A g b cap F J) {i : Nat} (hi : i < F.length) (f : Fr) {ad : Addr} (he : ad = ⟨b, 0, none⟩) :
    Hp ((A.setCell (ad.add (i * 2)) (.slice f.A f.l.length f.c)).setCell ⟨(ad.add (i * 2)).block, (ad.add (i * 2)).off + 1, none⟩ (.int .i64 (f.p : Int))) g b cap (F.set i f) J := by
  subst he
  rw [add_mk]
  have hne := h.ne
  refine ⟨?_, ?_, by rw [List.length_set]; exact h.le⟩
  · rw [List.length_set]
    exact blk_far (blk_far h.hp hne _) hne _
  · refine (blk_set (blk_set h.fr (i * 2) (.slice f.A f.l.length f.c)) (i * 2 + 1) (.int .i64 (f.p : Int))).trans ?_
    rw [List.setIfInBounds_toArray, List.setIfInBounds_toArray, cellsF_set F i f J hi]
theorem put_kept {A : World} {b : Nat} {ad : Addr} (he : ad = ⟨b, 0, none⟩) (i : Nat) (u v : Value) :
    (∀ k, k ≠ b → ((A.setCell (ad.add (i * 2)) u).setCell ⟨(ad.add (i * 2)).block, (ad.add (i * 2)).off + 1, none⟩ v).heap[k]? = A.heap[k]?) ∧
    (∀ {n : Nat} {w0 : World}, Below n w0 A → n ≤ b → Below n w0 ((A.setCell (ad.add (i * 2)) u).setCell ⟨(ad.add (i * 2)).block, (ad.add (i * 2)).off + 1, none⟩ v)) ∧
    ((A.setCell (ad.add (i * 2)) u).setCell ⟨(ad.add (i * 2)).block, (ad.add (i * 2)).off + 1, none⟩ v).heap.size = A.heap.size := by
  subst he
  rw [add_mk]
  refine ⟨fun k hk => (Below.heap_setCell _ _ _ _ hk).trans (Below.heap_setCell _ _ _ _ hk), fun h hn => (h.setCell (p := ⟨b, i * 2, none⟩) hn _).setCell (p := ⟨b, i * 2 + 1, none⟩) hn _, by simp⟩
/-- For two stores of fronts, one behind the other: the cells are there. -/
theorem swap_cells {W : World} {p p' q q' : Addr} {b c d : Value} (u v u2 : Value) (h1 : W.cell? p' = some b) (h2 : W.cell? q = some c) (h3 : W.cell? q' = some d) :
    ∃ z1 z3 z5 z6, (W.setCell p u).cell? p' = some z1 ∧ ((W.setCell p u).setCell p' v).cell? q = some z3 ∧ ((W.setCell p u).setCell p' v).cell? q' = some z5 ∧ (((W.setCell p u).setCell p' v).setCell q u2).cell? q' = some z6 := by
  obtain ⟨z1, hz1⟩ := Go.RowKit.cell?_setCell_some (p := p) (x := u) h1
  obtain ⟨z2, hz2⟩ := Go.RowKit.cell?_setCell_some (p := p) (x := u) h2
  obtain ⟨z3, hz3⟩ := Go.RowKit.cell?_setCell_some (p := p') (x := v) hz2
  obtain ⟨z4, hz4⟩ := Go.RowKit.cell?_setCell_some (p := p) (x := u) h3
  obtain ⟨z5, hz5⟩ := Go.RowKit.cell?_setCell_some (p := p') (x := v) hz4
  obtain ⟨z6, hz6⟩ := Go.RowKit.cell?_setCell_some (p := q) (x := u2) hz5
  exact ⟨z1, z3, z5, z6, hz1, hz3, hz5, hz6⟩
def keyF (f : Fr) : List Int := (rd_T41 f.l 0).f0
/-- Does a front come ahead of another one? -/
def lessF (x y : Fr) : Bool := decide (cmpI (keyF x) (keyF y) < 0) || (decide (cmpI (keyF x) (keyF y) = 0) && decide (x.p < y.p))
theorem lessF_f (x y : Fr) (hx : x.l ≠ []) (hy : y.l ≠ []) : merge_less.f x.l (x.p : Int) y.l (y.p : Int) = some (lessF x y) := by
  have h1 : 0 < x.l.length := List.length_pos_iff.2 hx
  have h2 : 0 < y.l.length := List.length_pos_iff.2 hy
  unfold merge_less.f lessF keyF
  rw [if_pos (by omega), if_pos (by omega), bytes_Compare.f]
  simp only [Option.bind_some]
  by_cases h : cmpI (rd_T41 x.l 0).f0 (rd_T41 y.l 0).f0 < 0
  · rw [if_pos h, decide_eq_true h]; rfl
  · rw [if_neg h, decide_eq_false h]
    by_cases h0 : cmpI (rd_T41 x.l 0).f0 (rd_T41 y.l 0).f0 = 0
    · rw [if_pos h0, decide_eq_true h0]; simp
    · rw [if_neg h0, decide_eq_false h0]; simp
theorem mless_calls (x y : Fr) (hx : x.l ≠ []) (hy : y.l ≠ []) (W : World) (h1 : Kd.C k41 W x.A x.l.length x.l) (h2 : x.l.length ≤ x.c) (h3 : Kd.C k41 W y.A y.l.length y.l) (h4 : y.l.length ≤ y.c) :
    Calls Try.prog 34 #[frV x, frV y] W fun e w' => e = .returned (.bool (lessF x y)) ∧ Below W.heap.size W w' :=
  merge_less.calls x.A x.c x.l (x.p : Int) y.A y.c y.l (y.p : Int) (lessF x y) W h1 h2 h3 h4 (lessF_f x y hx hy)
/-- The lesser one of two places. -/
def pick1 (F : List Fr) (a k : Nat) : Nat := match F[k]?, F[a]? with
  | some x, some y => if lessF x y then k else a
  | _, _ => a
def pick2 (F : List Fr) (a : Nat) : Nat := if 2 * a + 1 < F.length then pick1 F a (2 * a + 1) else a
/-- The least one of a place and its two. -/
def leastF (F : List Fr) (a : Nat) : Nat := if 2 * a + 2 < F.length then pick1 F (pick2 F a) (2 * a + 2) else pick2 F a
theorem pick1_lt {F : List Fr} {a k : Nat} (ha : a < F.length) (hk : k < F.length) : pick1 F a k < F.length := by
  unfold pick1
  split
  · split <;> assumption
  · exact ha
theorem pick1_or (F : List Fr) (a k : Nat) : pick1 F a k = a ∨ pick1 F a k = k := by
  unfold pick1
  split
  · split
    · exact .inr rfl
    · exact .inl rfl
  · exact .inl rfl
theorem leastF_or (F : List Fr) (a : Nat) : leastF F a = a ∨ (a < leastF F a ∧ leastF F a < F.length ∧ (leastF F a = 2 * a + 1 ∨ leastF F a = 2 * a + 2)) := by
  unfold leastF pick2
  by_cases h2 : 2 * a + 2 < F.length
  · rw [if_pos h2, if_pos (by omega)]
    rcases pick1_or F (pick1 F a (2 * a + 1)) (2 * a + 2) with h | h
    · rw [h]
      rcases pick1_or F a (2 * a + 1) with h3 | h3
      · exact .inl h3
      · rw [h3]; exact .inr ⟨by omega, by omega, .inl rfl⟩
    · rw [h]; exact .inr ⟨by omega, h2, .inr rfl⟩
  · rw [if_neg h2]
    by_cases h1 : 2 * a + 1 < F.length
    · rw [if_pos h1]
      rcases pick1_or F a (2 * a + 1) with h3 | h3
      · exact .inl h3
      · rw [h3]; exact .inr ⟨by omega, by omega, .inl rfl⟩
    · rw [if_neg h1]; exact .inl rfl
def swapF (F : List Fr) (a m : Nat) : List Fr := match F[a]?, F[m]? with
  | some x, some y => (F.set a y).set m x
  | _, _ => F
theorem swapF_len (F : List Fr) (a m : Nat) : (swapF F a m).length = F.length := by
  unfold swapF
  split
  · rw [List.length_set, List.length_set]
  · rfl
/-- A front moves down to its place. -/
def sinkL : Nat → List Fr → Nat → List Fr
  | 0, F, _ => F
  | k + 1, F, a => if leastF F a = a then F else sinkL k (swapF F a (leastF F a)) (leastF F a)
theorem sinkL_len : ∀ (k : Nat) (F : List Fr) (a : Nat), (sinkL k F a).length = F.length
  | 0, F, a => rfl
  | k + 1, F, a => by
    rw [sinkL]
    split
    · rfl
    · rw [sinkL_len k, swapF_len]
theorem sinkL_fuel : ∀ (k k' : Nat) (F : List Fr) (a : Nat), F.length - a < k → F.length - a < k' → sinkL k F a = sinkL k' F a
  | 0, _, _, _, h, _ => absurd h (Nat.not_lt_zero _)
  | _, 0, _, _, _, h => absurd h (Nat.not_lt_zero _)
  | k + 1, k' + 1, F, a, h1, h2 => by
    rw [sinkL, sinkL]
    rcases leastF_or F a with h | ⟨h3, h4, _⟩
    · rw [if_pos h, if_pos h]
    · rw [if_neg (by omega), if_neg (by omega)]
      exact sinkL_fuel k k' _ _ (by rw [swapF_len]; omega) (by rw [swapF_len]; omega)
/-- The fronts' rows are read in every world behind w0, and none is empty. -/
def RowsOk (w0 : World) (F : List Fr) : Prop := ∀ f ∈ F, f.l ≠ [] ∧ f.l.length ≤ f.c ∧ ∀ W, Below w0.heap.size w0 W → Kd.C k41 W f.A f.l.length f.l
theorem mem_swapF {F : List Fr} {a m : Nat} {f : Fr} (h : f ∈ swapF F a m) : f ∈ F := by
  unfold swapF at h
  split at h
  · next x y hx hy =>
    rcases List.mem_or_eq_of_mem_set h with h | rfl
    · rcases List.mem_or_eq_of_mem_set h with h | rfl
      · exact h
      · exact List.mem_of_getElem? hy
    · exact List.mem_of_getElem? hx
  · exact h
theorem mem_sinkL : ∀ {k : Nat} {F : List Fr} {a : Nat} {f : Fr}, f ∈ sinkL k F a → f ∈ F
  | 0, _, _, _, h => h
  | k + 1, F, a, f, h => by
    rw [sinkL] at h
    split at h
    · exact h
    · exact mem_swapF (mem_sinkL h)
end Go.Proofs.Ytihdomhiiolojaa.P
