/- A heap of fronts: where it stands in memory, what sinking does, in plain Lean. No conditions. -/
import Derived.Test.YtihdomhiiolojaaMgRight
import Derived.Test.YtihdomhiiolojaaPmergeless
namespace Go.Proofs.Ytihdomhiiolojaa.P
open Go.RowKit Go.Proofs.YtihdomhiiolojaaW.PrintWords Go.Proofs.YtihdomhiiolojaaW.PrintLast Go.Proofs.YtihdomhiiolojaaW.PrintMore
set_option linter.unusedVariables false
set_option linter.unusedSimpArgs false

section
variable {P : Program} {ops : Array Oper} {Q : Exit → Act → World → Prop} {md : Region.Mode} {S : World → Prop} {ds : List Nat}
/-- An operation that yields in every world, taken first. -/
theorem wpAnyLast_pure {i : Nat} {oi : Oper} {v : Value} {fuel : Nat} {listed : Array Bool} {a : Act} {w : World} (hi : ops[i]? = some oi)
    (hs : Region.noSelect ops = true) (hf : Region.free md ops listed i = true) (hr : (Region.ready md ops listed).contains i = true)
    (hQ : ∀ c a w, Q (.panic c) (a.put oi.dst v) w → Q (.panic c) a w) (hy : Yields P ops oi v a)
    (h : wpAnyLast P md ops Q S ds fuel (listed.setIfInBounds i true) (a.put oi.dst v) w) : wpAnyLast P md ops Q S ds (fuel + 1) listed a w :=
  wpAnyLast_any hi (Region.noSelect_spec hs) hQ fuel listed a w (Region.free_spec hi hf) (by simpa using hr) hy h
end
/-- What is left of a row, and the row's place. -/
structure Fr where
  A : Option Addr
  c : Nat
  l : List En
  p : Nat
abbrev frV (f : Fr) : Value := .agg #[.slice f.A f.l.length f.c, .int .i64 (f.p : Int)]
def cellsF : List Fr → List Value
  | [] => []
  | f :: F => .slice f.A f.l.length f.c :: .int .i64 (f.p : Int) :: cellsF F
theorem cellsF_len : ∀ F : List Fr, (cellsF F).length = 2 * F.length
  | [] => rfl
  | f :: F => by rw [cellsF, List.length_cons, List.length_cons, cellsF_len F, List.length_cons]; omega
theorem cellsF_at : ∀ {F : List Fr} {i : Nat} {f : Fr} (J : List Value), F[i]? = some f → (cellsF F ++ J)[i * 2]? = some (.slice f.A f.l.length f.c) ∧ (cellsF F ++ J)[i * 2 + 1]? = some (.int .i64 (f.p : Int))
  | [], i, f, J, h => by simp at h
  | x :: F, 0, f, J, h => by obtain rfl := Option.some.inj h; exact ⟨rfl, rfl⟩
  | x :: F, i + 1, f, J, h => by
    have ih := cellsF_at (F := F) (i := i) J (by simpa using h)
    rw [show (i + 1) * 2 = (i * 2) + 1 + 1 by omega]
    simp only [cellsF, List.cons_append, List.getElem?_cons_succ]
    exact ih
theorem cellsF_set : ∀ (F : List Fr) (i : Nat) (f : Fr) (J : List Value), i < F.length → ((cellsF F ++ J).set (i * 2) (.slice f.A f.l.length f.c)).set (i * 2 + 1) (.int .i64 (f.p : Int)) = cellsF (F.set i f) ++ J
  | [], i, f, J, h => by simp at h
  | x :: F, 0, f, J, h => rfl
  | x :: F, i + 1, f, J, h => by
    have ih := cellsF_set F i f J (by simpa using h)
    rw [show (i + 1) * 2 = (i * 2) + 1 + 1 by omega]
    simp only [cellsF, List.cons_append, List.set_cons_succ, List.set_cons_succ]
    rw [ih]
/-- A heap stands at block g, its fronts at block b, behind them what was there. -/
structure Hp (W : World) (g b cap : Nat) (F : List Fr) (J : List Value) : Prop where
  hp : W.heap[g]? = some (.cells #[.slice (some ⟨b, 0, none⟩) F.length cap] 50 (0, 0))
  fr : W.heap[b]? = some (.cells (cellsF F ++ J).toArray 56 (0, 0))
  le : F.length ≤ cap
theorem Hp.ne {W : World} {g b cap : Nat} {F : List Fr} {J : List Value} (h : Hp W g b cap F J) : g ≠ b := by
  rintro rfl
  have := h.hp.symm.trans h.fr
  simp at this
theorem Hp.keep {A B : World} {g b cap : Nat} {F : List Fr} {J : List Value} (h : Hp A g b cap F J) (hg : B.heap[g]? = A.heap[g]?) (hb : B.heap[b]? = A.heap[b]?) : Hp B g b cap F J := ⟨hg.trans h.hp, hb.trans h.fr, h.le⟩
theorem Hp.gt {A : World} {g b cap : Nat} {F : List Fr} {J : List Value} (h : Hp A g b cap F J) : g < A.heap.size := (Array.getElem?_eq_some_iff.1 h.hp).1
theorem Hp.bt {A : World} {g b cap : Nat} {F : List Fr} {J : List Value} (h : Hp A g b cap F J) : b < A.heap.size := (Array.getElem?_eq_some_iff.1 h.fr).1
theorem Hp.below {A B : World} {g b cap : Nat} {F : List Fr} {J : List Value} (h : Hp A g b cap F J) (hb : Below A.heap.size A B) : Hp B g b cap F J := h.keep (hb.block _ h.gt) (hb.block _ h.bt)
theorem add_mk (b n : Nat) : (⟨b, 0, none⟩ : Addr).add n = ⟨b, n, none⟩ := by simp [Addr.add, eq_comm]
theorem Hp.head {A : World} {g b cap : Nat} {F : List Fr} {J : List Value} (h : Hp A g b cap F J) : A.cell? ⟨g, 0, none⟩ = some (.slice (some ⟨b, 0, none⟩) F.length cap) := (blk_cell h.hp 0).trans rfl
theorem Hp.at0 {A : World} {g b cap : Nat} {F : List Fr} {J : List Value} (h : Hp A g b cap F J) {i : Nat} {f : Fr} (hf : F[i]? = some f) {ad : Addr} (he : ad = ⟨b, 0, none⟩) :
    A.cell? (ad.add (i * 2)) = some (.slice f.A f.l.length f.c) ∧ A.cell? ⟨(ad.add (i * 2)).block, (ad.add (i * 2)).off + 1, none⟩ = some (.int .i64 (f.p : Int)) ∧ A.frozen? (ad.add (i * 2)) = false ∧ A.frozen? ⟨(ad.add (i * 2)).block, (ad.add (i * 2)).off + 1, none⟩ = false := by
  subst he
  rw [add_mk]
  have hc := cellsF_at J hf
  exact ⟨(blk_cell h.fr _).trans (by simpa using hc.1), (blk_cell h.fr _).trans (by simpa using hc.2), blk_frozen h.fr _, blk_frozen h.fr _⟩
/-- One front is written. -/
theorem Hp.put {A : World} {g b cap : Nat} {F : List Fr} {J : List Value} (h : Hp A g b cap F J) {i : Nat} (hi : i < F.length) (f : Fr) {ad : Addr} (he : ad = ⟨b, 0, none⟩) :
    Hp ((A.setCell (ad.add (i * 2)) (.slice f.A f.l.length f.c)).setCell ⟨(ad.add (i * 2)).block, (ad.add (i * 2)).off + 1, none⟩ (.int .i64 (f.p : Int))) g b cap (F.set i f) J := by
  subst he
  rw [add_mk]
  have hne := h.ne
  refine ⟨?_, ?_, by rw [List.length_set]; exact h.le⟩
  · rw [List.length_set]
    exact blk_far (blk_far h.hp hne _) hne _
  · refine (blk_set (blk_set h.fr (i * 2) (.slice f.A f.l.length f.c)) (i * 2 + 1) (.int .i64 (f.p : Int))).trans ?_
    rw [List.setIfInBounds_toArray, List.setIfInBounds_toArray, cellsF_set F i f J hi]
theorem put_kept {A : World} {b : Nat} {ad : Addr} (he : ad = ⟨b, 0, none⟩) (i : Nat) (u v : Value) :
    (∀ k, k ≠ b → ((A.setCell (ad.add (i * 2)) u).setCell ⟨(ad.add (i * 2)).block, (ad.add (i * 2)).off + 1, none⟩ v).heap[k]? = A.heap[k]?) ∧
    (∀ {n : Nat} {w0 : World}, Below n w0 A → n ≤ b → Below n w0 ((A.setCell (ad.add (i * 2)) u).setCell ⟨(ad.add (i * 2)).block, (ad.add (i * 2)).off + 1, none⟩ v)) ∧
    ((A.setCell (ad.add (i * 2)) u).setCell ⟨(ad.add (i * 2)).block, (ad.add (i * 2)).off + 1, none⟩ v).heap.size = A.heap.size := by
  subst he
  rw [add_mk]
  refine ⟨fun k hk => (Below.heap_setCell _ _ _ _ hk).trans (Below.heap_setCell _ _ _ _ hk), fun h hn => (h.setCell (p := ⟨b, i * 2, none⟩) hn _).setCell (p := ⟨b, i * 2 + 1, none⟩) hn _, by simp⟩
/-- For two stores of fronts, one behind the other: the cells are there. -/
theorem swap_cells {W : World} {p p' q q' : Addr} {b c d : Value} (u v u2 : Value) (h1 : W.cell? p' = some b) (h2 : W.cell? q = some c) (h3 : W.cell? q' = some d) :
    ∃ z1 z3 z5 z6, (W.setCell p u).cell? p' = some z1 ∧ ((W.setCell p u).setCell p' v).cell? q = some z3 ∧ ((W.setCell p u).setCell p' v).cell? q' = some z5 ∧ (((W.setCell p u).setCell p' v).setCell q u2).cell? q' = some z6 := by
  obtain ⟨z1, hz1⟩ := Go.RowKit.cell?_setCell_some (p := p) (x := u) h1
  obtain ⟨z2, hz2⟩ := Go.RowKit.cell?_setCell_some (p := p) (x := u) h2
  obtain ⟨z3, hz3⟩ := Go.RowKit.cell?_setCell_some (p := p') (x := v) hz2
  obtain ⟨z4, hz4⟩ := Go.RowKit.cell?_setCell_some (p := p) (x := u) h3
  obtain ⟨z5, hz5⟩ := Go.RowKit.cell?_setCell_some (p := p') (x := v) hz4
  obtain ⟨z6, hz6⟩ := Go.RowKit.cell?_setCell_some (p := q) (x := u2) hz5
  exact ⟨z1, z3, z5, z6, hz1, hz3, hz5, hz6⟩
def keyF (f : Fr) : List Int := (rd_T41 f.l 0).f0
/-- Does a front come ahead of another one? -/
def lessF (x y : Fr) : Bool := decide (cmpI (keyF x) (keyF y) < 0) || (decide (cmpI (keyF x) (keyF y) = 0) && decide (x.p < y.p))
theorem lessF_f (x y : Fr) (hx : x.l ≠ []) (hy : y.l ≠ []) : merge_less.f x.l (x.p : Int) y.l (y.p : Int) = some (lessF x y) := by
  have h1 : 0 < x.l.length := List.length_pos_iff.2 hx
  have h2 : 0 < y.l.length := List.length_pos_iff.2 hy
  unfold merge_less.f lessF keyF
  rw [if_pos (by omega), if_pos (by omega), bytes_Compare.f]
  simp only [Option.bind_some]
  by_cases h : cmpI (rd_T41 x.l 0).f0 (rd_T41 y.l 0).f0 < 0
  · rw [if_pos h, decide_eq_true h]; rfl
  · rw [if_neg h, decide_eq_false h]
    by_cases h0 : cmpI (rd_T41 x.l 0).f0 (rd_T41 y.l 0).f0 = 0
    · rw [if_pos h0, decide_eq_true h0]; simp
    · rw [if_neg h0, decide_eq_false h0]; simp
theorem mless_calls (x y : Fr) (hx : x.l ≠ []) (hy : y.l ≠ []) (W : World) (h1 : Kd.C k41 W x.A x.l.length x.l) (h2 : x.l.length ≤ x.c) (h3 : Kd.C k41 W y.A y.l.length y.l) (h4 : y.l.length ≤ y.c) :
    Calls Try.prog 34 #[frV x, frV y] W fun e w' => e = .returned (.bool (lessF x y)) ∧ Below W.heap.size W w' :=
  merge_less.calls x.A x.c x.l (x.p : Int) y.A y.c y.l (y.p : Int) (lessF x y) W h1 h2 h3 h4 (lessF_f x y hx hy)
/-- The lesser one of two places. -/
def pick1 (F : List Fr) (a k : Nat) : Nat := match F[k]?, F[a]? with
  | some x, some y => if lessF x y then k else a
  | _, _ => a
def pick2 (F : List Fr) (a : Nat) : Nat := if 2 * a + 1 < F.length then pick1 F a (2 * a + 1) else a
/-- The least one of a place and its two. -/
def leastF (F : List Fr) (a : Nat) : Nat := if 2 * a + 2 < F.length then pick1 F (pick2 F a) (2 * a + 2) else pick2 F a
theorem pick1_lt {F : List Fr} {a k : Nat} (ha : a < F.length) (hk : k < F.length) : pick1 F a k < F.length := by
  unfold pick1
  split
  · split <;> assumption
  · exact ha
theorem pick1_or (F : List Fr) (a k : Nat) : pick1 F a k = a ∨ pick1 F a k = k := by
  unfold pick1
  split
  · split
    · exact .inr rfl
    · exact .inl rfl
  · exact .inl rfl
theorem leastF_or (F : List Fr) (a : Nat) : leastF F a = a ∨ (a < leastF F a ∧ leastF F a < F.length ∧ (leastF F a = 2 * a + 1 ∨ leastF F a = 2 * a + 2)) := by
  unfold leastF pick2
  by_cases h2 : 2 * a + 2 < F.length
  · rw [if_pos h2, if_pos (by omega)]
    rcases pick1_or F (pick1 F a (2 * a + 1)) (2 * a + 2) with h | h
    · rw [h]
      rcases pick1_or F a (2 * a + 1) with h3 | h3
      · exact .inl h3
      · rw [h3]; exact .inr ⟨by omega, by omega, .inl rfl⟩
    · rw [h]; exact .inr ⟨by omega, h2, .inr rfl⟩
  · rw [if_neg h2]
    by_cases h1 : 2 * a + 1 < F.length
    · rw [if_pos h1]
      rcases pick1_or F a (2 * a + 1) with h3 | h3
      · exact .inl h3
      · rw [h3]; exact .inr ⟨by omega, by omega, .inl rfl⟩
    · rw [if_neg h1]; exact .inl rfl
def swapF (F : List Fr) (a m : Nat) : List Fr := match F[a]?, F[m]? with
  | some x, some y => (F.set a y).set m x
  | _, _ => F
theorem swapF_len (F : List Fr) (a m : Nat) : (swapF F a m).length = F.length := by
  unfold swapF
  split
  · rw [List.length_set, List.length_set]
  · rfl
/-- A front moves down to its place. -/
def sinkL : Nat → List Fr → Nat → List Fr
  | 0, F, _ => F
  | k + 1, F, a => if leastF F a = a then F else sinkL k (swapF F a (leastF F a)) (leastF F a)
theorem sinkL_len : ∀ (k : Nat) (F : List Fr) (a : Nat), (sinkL k F a).length = F.length
  | 0, F, a => rfl
  | k + 1, F, a => by
    rw [sinkL]
    split
    · rfl
    · rw [sinkL_len k, swapF_len]
theorem sinkL_fuel : ∀ (k k' : Nat) (F : List Fr) (a : Nat), F.length - a < k → F.length - a < k' → sinkL k F a = sinkL k' F a
  | 0, _, _, _, h, _ => absurd h (Nat.not_lt_zero _)
  | _, 0, _, _, _, h => absurd h (Nat.not_lt_zero _)
  | k + 1, k' + 1, F, a, h1, h2 => by
    rw [sinkL, sinkL]
    rcases leastF_or F a with h | ⟨h3, h4, _⟩
    · rw [if_pos h, if_pos h]
    · rw [if_neg (by omega), if_neg (by omega)]
      exact sinkL_fuel k k' _ _ (by rw [swapF_len]; omega) (by rw [swapF_len]; omega)
/-- The fronts' rows are read in every world behind w0, and none is empty. -/
def RowsOk (w0 : World) (F : List Fr) : Prop := ∀ f ∈ F, f.l ≠ [] ∧ f.l.length ≤ f.c ∧ ∀ W, Below w0.heap.size w0 W → Kd.C k41 W f.A f.l.length f.l
theorem mem_swapF {F : List Fr} {a m : Nat} {f : Fr} (h : f ∈ swapF F a m) : f ∈ F := by
  unfold swapF at h
  split at h
  · next x y hx hy =>
    rcases List.mem_or_eq_of_mem_set h with h | rfl
    · rcases List.mem_or_eq_of_mem_set h with h | rfl
      · exact h
      · exact List.mem_of_getElem? hy
    · exact List.mem_of_getElem? hx
  · exact h
theorem mem_sinkL : ∀ {k : Nat} {F : List Fr} {a : Nat} {f : Fr}, f ∈ sinkL k F a → f ∈ F
  | 0, _, _, _, h => h
  | k + 1, F, a, f, h => by
    rw [sinkL] at h
    split at h
    · exact h
    · exact mem_swapF (mem_sinkL h)
end Go.Proofs.Ytihdomhiiolojaa.P

namespace Go.Proofs.Ytihdomhiiolojaa.P
open Go.RowKit Go.Proofs.YtihdomhiiolojaaW.PrintWords Go.Proofs.YtihdomhiiolojaaW.PrintLast Go.Proofs.YtihdomhiiolojaaW.PrintMore
set_option linter.unusedVariables false
set_option linter.unusedSimpArgs false

/-- A front's cells. -/
def kF : Kd Fr where
  sz := 2
  E := []
  K := fun _ f cs => cs = [.slice f.A f.l.length f.c, .int .i64 (f.p : Int)]
  M := fun _ _ _ f cs => cs = [.slice f.A f.l.length f.c, .int .i64 (f.p : Int)]
  K_len := fun h => by rw [h]; rfl
  K_one := fun h u hu => by
    rw [h] at hu
    simp only [List.mem_cons, List.not_mem_nil, or_false] at hu
    rcases hu with rfl | rfl <;> rfl
  K_below := fun _ h => h
  K_of_M := fun h => h
  M_mono := fun _ h => h
  M_bound := fun h => h
  M_move := fun _ h => h
  M_lower := fun _ h => h
theorem reps_cellsF : ∀ {F : List Fr} {cs : List Value}, Reps (fun f c => c = [.slice f.A f.l.length f.c, .int .i64 (f.p : Int)]) 2 F cs → cs = cellsF F
  | [], cs, h => by
    have := h.1
    simp at this
    subst this
    rfl
  | f :: F, cs, h => by
    have h0 := h.2 0 f rfl
    rw [Nat.zero_mul, List.drop_zero] at h0
    have hl := h.1
    have ih : cs.drop 2 = cellsF F := by
      refine reps_cellsF ⟨by rw [List.length_drop, hl, List.length_cons]; omega, fun j p hp => ?_⟩
      have := h.2 (j + 1) p (by simpa using hp)
      rw [List.drop_drop]
      rw [show (j + 1) * 2 = 2 + j * 2 by omega] at this
      exact this
    rw [cellsF, ← ih]
    have e : cs = cs.take 2 ++ cs.drop 2 := (List.take_append_drop 2 cs).symm
    rw [h0] at e
    exact e
/-- A row of fronts stands in memory as a heap's. -/
theorem row_hp {W : World} {base g : Nat} {v : Value} {F : List Fr} (h : kF.R 56 W base (fun _ => True) v F) (hF : F ≠ []) (hg : W.heap[g]? = some (.cells #[v] 50 (0, 0))) :
    ∃ b cap J, base ≤ b ∧ v = .slice (some ⟨b, 0, none⟩) F.length cap ∧ Hp W g b cap F J := by
  obtain ⟨_, inner, ho, hr⟩ := h
  have hc := reps_cellsF hr
  subst hc
  have hl := cellsF_len F
  rcases ho.2 with ⟨rfl, h0⟩ | ⟨b, cap, cur, rfl, hb, hh, hrest⟩
  · exact absurd (List.length_eq_zero_iff.1 h0) hF
  · obtain ⟨hnc, _, _, htk⟩ := hrest
    refine ⟨b, cap, cur.toList.drop (F.length * 2), hb, rfl, hg, ?_, hnc⟩
    have e : cellsF F ++ cur.toList.drop (F.length * 2) = cur.toList := by
      rw [← htk]; exact List.take_append_drop _ _
    rw [e]
    exact hh
/-- The rows' fronts, by place. -/
def frsTo (rows : List (List En)) : Nat → List (List En × Nat)
  | 0 => []
  | i + 1 => match rows[i]? with
    | some r => if r = [] then frsTo rows i else frsTo rows i ++ [(r, i)]
    | none => frsTo rows i
def prF (f : Fr) : List En × Nat := (f.l, f.p)
/-- The first row's word that is none. -/
def newE (rows : List (List En)) : Int := match rows.find? (fun r => mrightE r != 0) with | some r => mrightE r | none => 0
theorem newE_hit {rows : List (List En)} {i : Nat} {r : List En} (h : rows[i]? = some r) (hr : mrightE r ≠ 0) (hb : ∀ q ∈ rows.take i, mrightE q = 0) : newE rows = mrightE r := by
  have hf : ∀ {l : List (List En)} {i : Nat}, l[i]? = some r → (∀ q ∈ l.take i, mrightE q = 0) → l.find? (fun r => mrightE r != 0) = some r := by
    intro l
    induction l with
    | nil => intro i h; simp at h
    | cons a l ih =>
      intro i h hb
      cases i with
      | zero => obtain rfl := Option.some.inj h; rw [List.find?_cons_of_pos (p := fun r => mrightE r != 0) (bne_iff_ne.2 hr)]
      | succ i =>
        rw [List.find?_cons_of_neg (p := fun r => mrightE r != 0) (by rw [hb a (by simp)]; decide)]
        exact ih (by simpa using h) (fun q hq => hb q (by rw [List.take_succ_cons]; exact List.mem_cons_of_mem _ hq))
  unfold newE
  rw [hf h hb]
theorem newE_none {rows : List (List En)} (hb : ∀ q ∈ rows, mrightE q = 0) : newE rows = 0 := by
  have : rows.find? (fun r => mrightE r != 0) = none := List.find?_eq_none.2 (fun q hq => by rw [hb q hq]; decide)
  unfold newE
  rw [this]
/-- The fronts sink, from place i - 1 down. -/
def heapifyL (F : List Fr) : Nat → List Fr
  | 0 => F
  | i + 1 => heapifyL (sinkL (F.length + 1) F i) i
theorem mem_heapifyL : ∀ {i : Nat} {F : List Fr} {f : Fr}, f ∈ heapifyL F i → f ∈ F
  | 0, _, _, h => h
  | i + 1, F, f, h => mem_sinkL (mem_heapifyL h)
theorem heapifyL_len : ∀ (i : Nat) (F : List Fr), (heapifyL F i).length = F.length
  | 0, F => rfl
  | i + 1, F => by rw [heapifyL, heapifyL_len i, sinkL_len]
/-- A heap in the world W, made behind w0. -/
structure HpS (w0 W : World) (g : Nat) (F : List Fr) : Prop where
  be : Below w0.heap.size w0 W
  gt : w0.heap.size ≤ g
  ro : RowsOk w0 F
  st : (F = [] ∧ ∃ A cap, W.heap[g]? = some (.cells #[.slice A 0 cap] 50 (0, 0))) ∨ (F ≠ [] ∧ ∃ b cap J, w0.heap.size ≤ b ∧ Hp W g b cap F J)
end Go.Proofs.Ytihdomhiiolojaa.P

namespace Go.Proofs.Ytihdomhiiolojaa.P
open Go.RowKit Go.Proofs.YtihdomhiiolojaaW.PrintWords Go.Proofs.YtihdomhiiolojaaW.PrintLast Go.Proofs.YtihdomhiiolojaaW.PrintMore
set_option linter.unusedVariables false
set_option linter.unusedSimpArgs false

/-- x does not come behind y. -/
def leF (x y : Fr) : Prop := lessF y x = false
theorem leF_iff (x y : Fr) : leF x y ↔ cmpI (keyF x) (keyF y) < 0 ∨ (cmpI (keyF x) (keyF y) = 0 ∧ x.p ≤ y.p) := by
  have ha := cmpI_anti (keyF x) (keyF y)
  unfold leF lessF
  rw [Bool.or_eq_false_iff, Bool.and_eq_false_iff]
  simp only [decide_eq_false_iff_not]
  constructor
  · rintro ⟨h1, h2 | h2⟩
    · exact .inl (by omega)
    · by_cases h : cmpI (keyF x) (keyF y) < 0
      · exact .inl h
      · exact .inr ⟨by omega, by omega⟩
  · rintro (h | ⟨h1, h2⟩)
    · exact ⟨by omega, .inl (by omega)⟩
    · exact ⟨by omega, .inr (by omega)⟩
theorem leF_refl (x : Fr) : leF x x := (leF_iff x x).2 (.inr ⟨cmpI_self _, Nat.le_refl _⟩)
theorem leF_trans {x y z : Fr} (h1 : leF x y) (h2 : leF y z) : leF x z := by
  rw [leF_iff] at *
  rcases h1 with h1 | ⟨h1, h1'⟩ <;> rcases h2 with h2 | ⟨h2, h2'⟩
  · exact .inl (cmpI_trans h1 h2)
  · exact .inl (cmpI_lt_le h1 (by omega))
  · exact .inl (cmpI_le_lt (by omega) h2)
  · have h3 : cmpI (keyF x) (keyF z) ≤ 0 := cmpI_le_trans (b := keyF y) (by omega) (by omega)
    by_cases h : cmpI (keyF x) (keyF z) < 0
    · exact .inl h
    · exact .inr ⟨by omega, by omega⟩
theorem leF_of_less {x y : Fr} (h : lessF x y = true) : leF x y := by
  rw [leF_iff]
  unfold lessF at h
  rw [Bool.or_eq_true, Bool.and_eq_true] at h
  simp only [decide_eq_true_iff] at h
  rcases h with h | ⟨h, h'⟩
  · exact .inl h
  · exact .inr ⟨h, by omega⟩
theorem leF_anti {x y : Fr} (h1 : leF x y) (h2 : leF y x) : x.p = y.p := by
  rw [leF_iff] at *
  have ha := cmpI_anti (keyF x) (keyF y)
  rcases h1 with h1 | ⟨h1, h1'⟩ <;> rcases h2 with h2 | ⟨h2, h2'⟩ <;> omega
/-- The front at k is not behind its two. -/
def OkAt (F : List Fr) (k : Nat) : Prop := ∀ c, (c = 2 * k + 1 ∨ c = 2 * k + 2) → ∀ x y, F[k]? = some x → F[c]? = some y → leF x y
theorem pick1_le {F : List Fr} {a k : Nat} {x y : Fr} (hx : F[a]? = some x) (hy : F[k]? = some y) : ∃ z, F[pick1 F a k]? = some z ∧ leF z x ∧ leF z y := by
  unfold pick1
  rw [hx, hy]
  simp only []
  by_cases h : lessF y x = true
  · rw [if_pos h]; exact ⟨y, hy, leF_of_less h, leF_refl y⟩
  · rw [if_neg h]; exact ⟨x, hx, leF_refl x, by unfold leF; simpa using h⟩
theorem leastF_le {F : List Fr} {a : Nat} {x : Fr} (hx : F[a]? = some x) : ∃ z, F[leastF F a]? = some z ∧ leF z x ∧ ∀ c, (c = 2 * a + 1 ∨ c = 2 * a + 2) → ∀ y, F[c]? = some y → leF z y := by
  unfold leastF pick2
  by_cases h2 : 2 * a + 2 < F.length
  · rw [if_pos h2, if_pos (by omega)]
    obtain ⟨y1, hy1⟩ : ∃ y, F[2 * a + 1]? = some y := ⟨_, List.getElem?_eq_getElem (by omega)⟩
    obtain ⟨y2, hy2⟩ : ∃ y, F[2 * a + 2]? = some y := ⟨_, List.getElem?_eq_getElem h2⟩
    obtain ⟨z1, hz1, a1, b1⟩ := pick1_le hx hy1
    obtain ⟨z2, hz2, a2, b2⟩ := pick1_le hz1 hy2
    refine ⟨z2, hz2, leF_trans a2 a1, ?_⟩
    rintro c (rfl | rfl) y hy
    · rw [hy1] at hy; obtain rfl := Option.some.inj hy; exact leF_trans a2 b1
    · rw [hy2] at hy; obtain rfl := Option.some.inj hy; exact b2
  · rw [if_neg h2]
    by_cases h1 : 2 * a + 1 < F.length
    · rw [if_pos h1]
      obtain ⟨y1, hy1⟩ : ∃ y, F[2 * a + 1]? = some y := ⟨_, List.getElem?_eq_getElem h1⟩
      obtain ⟨z1, hz1, a1, b1⟩ := pick1_le hx hy1
      refine ⟨z1, hz1, a1, ?_⟩
      rintro c (rfl | rfl) y hy
      · rw [hy1] at hy; obtain rfl := Option.some.inj hy; exact b1
      · rw [List.getElem?_eq_none (by omega)] at hy; cases hy
    · rw [if_neg h1]
      refine ⟨x, hx, leF_refl x, ?_⟩
      rintro c (rfl | rfl) y hy <;> (rw [List.getElem?_eq_none (by omega)] at hy; cases hy)
theorem swapF_perm (F : List Fr) (a m : Nat) : (swapF F a m).Perm F := by
  unfold swapF
  split
  · next x y hx hy =>
    obtain ⟨ha, hxe⟩ := List.getElem?_eq_some_iff.1 hx
    obtain ⟨hm, hye⟩ := List.getElem?_eq_some_iff.1 hy
    rw [← hxe, ← hye]
    exact List.set_set_perm ha hm
  · exact List.Perm.refl _
theorem sinkL_perm : ∀ (k : Nat) (F : List Fr) (a : Nat), (sinkL k F a).Perm F
  | 0, F, _ => List.Perm.refl _
  | k + 1, F, a => by
    rw [sinkL]
    split
    · exact List.Perm.refl _
    · exact (sinkL_perm k _ _).trans (swapF_perm F a _)
theorem heapifyL_perm : ∀ (i : Nat) (F : List Fr), (heapifyL F i).Perm F
  | 0, F => List.Perm.refl _
  | i + 1, F => (heapifyL_perm i _).trans (sinkL_perm _ F i)
theorem sinkL_ok : ∀ (n : Nat) (F : List Fr) (a i : Nat), F.length - a < n → i ≤ a → (∀ k, i ≤ k → k ≠ a → OkAt F k) →
    (∀ q, i ≤ q → (a = 2 * q + 1 ∨ a = 2 * q + 2) → ∀ c, (c = 2 * a + 1 ∨ c = 2 * a + 2) → ∀ x y, F[q]? = some x → F[c]? = some y → leF x y) →
    ∀ k, i ≤ k → OkAt (sinkL n F a) k
  | 0, _, _, _, h, _, _, _ => absurd h (Nat.not_lt_zero _)
  | n + 1, F, a, i, hn, hia, hok, hpar => by
    intro k hk
    rw [sinkL]
    by_cases hla : leastF F a = a
    · rw [if_pos hla]
      by_cases hka : k = a
      · subst hka
        intro c hc x y hx hy
        obtain ⟨z, hz, _, h2⟩ := leastF_le hx
        rw [hla, hx] at hz
        obtain rfl := Option.some.inj hz
        exact h2 c hc y hy
      · exact hok k hk hka
    · rw [if_neg hla]
      rcases leastF_or F a with h | ⟨h3, h4, h5⟩
      · exact absurd h hla
      obtain ⟨x0, hx0⟩ : ∃ x, F[a]? = some x := ⟨_, List.getElem?_eq_getElem (by omega)⟩
      obtain ⟨z, hz, hzx, hzc⟩ := leastF_le hx0
      obtain ⟨m, hm⟩ : ∃ m, leastF F a = m := ⟨_, rfl⟩
      rw [hm] at h3 h4 h5 hz ⊢
      have hsw : swapF F a m = (F.set a z).set m x0 := by unfold swapF; rw [hx0, hz]
      have ga : (swapF F a m)[a]? = some z := by
        rw [hsw, List.getElem?_set_ne (by omega), List.getElem?_set_self (by omega)]
      have gm : (swapF F a m)[m]? = some x0 := by
        rw [hsw, List.getElem?_set_self (by rw [List.length_set]; omega)]
      have go : ∀ j, j ≠ a → j ≠ m → (swapF F a m)[j]? = F[j]? := fun j h1 h2 => by
        rw [hsw, List.getElem?_set_ne (by omega), List.getElem?_set_ne (by omega)]
      refine sinkL_ok n (swapF F a m) m i (by rw [swapF_len]; omega) (by omega) ?_ ?_ k hk
      · intro j hj hjm c hc x y hx hy
        by_cases hja : j = a
        · subst hja
          rw [ga] at hx
          obtain rfl := Option.some.inj hx
          by_cases hcm : c = m
          · subst hcm
            rw [gm] at hy
            obtain rfl := Option.some.inj hy
            exact hzx
          · rw [go c (by omega) hcm] at hy
            exact hzc c hc y hy
        · rw [go j hja hjm] at hx
          by_cases hca : c = a
          · subst hca
            rw [ga] at hy
            obtain rfl := Option.some.inj hy
            exact hpar j hj hc m h5 x _ hx hz
          · by_cases hcm : c = m
            · omega
            · rw [go c hca hcm] at hy
              exact hok j hj hja c hc x y hx hy
      · intro q hq hqm c hc x y hx hy
        obtain rfl : q = a := by omega
        rw [ga] at hx
        obtain rfl := Option.some.inj hx
        rw [go c (by omega) (by omega)] at hy
        exact hok m (by omega) (by omega) c hc _ y hz hy
theorem heapifyL_ok : ∀ (i : Nat) (F : List Fr), (∀ k, i ≤ k → OkAt F k) → ∀ k, OkAt (heapifyL F i) k
  | 0, F, h, k => h k (Nat.zero_le _)
  | i + 1, F, h, k => by
    rw [heapifyL]
    refine heapifyL_ok i _ ?_ k
    intro j hj
    by_cases hi : i < F.length + 1
    · exact sinkL_ok (F.length + 1) F i i (by omega) (Nat.le_refl _) (fun k h1 h2 => h k (by omega)) (fun q h1 h2 => by omega) j hj
    · exact sinkL_ok (F.length + 1) F i i (by omega) (Nat.le_refl _) (fun k h1 h2 => h k (by omega)) (fun q h1 h2 => by omega) j hj
/-- All are in order behind 'heapify'. -/
theorem heapify_ok (F : List Fr) (k : Nat) : OkAt (heapifyL F (F.length / 2 + 1)) k := by
  refine heapifyL_ok _ F ?_ k
  intro j hj c hc x y hx hy
  have := (List.getElem?_eq_some_iff.1 hy).1
  omega
/-- The first is the least. -/
theorem first_le {F : List Fr} (h : ∀ k, OkAt F k) {x : Fr} (hx : F[0]? = some x) : ∀ (k : Nat) (y : Fr), F[k]? = some y → leF x y := by
  intro k
  induction k using Nat.strongRecOn with
  | ind k ih =>
    intro y hy
    by_cases hk : k = 0
    · subst hk
      rw [hx] at hy
      obtain rfl := Option.some.inj hy
      exact leF_refl _
    · have hkl := (List.getElem?_eq_some_iff.1 hy).1
      obtain ⟨z, hz⟩ : ∃ z, F[(k - 1) / 2]? = some z := ⟨_, List.getElem?_eq_getElem (by omega)⟩
      exact leF_trans (ih ((k - 1) / 2) (by omega) z hz) (h ((k - 1) / 2) k (by omega) z y hz hy)
/-- What Next leaves of the fronts: the first one's rest, or none of it. -/
def restF (A' : Option Addr) (c' : Nat) (f : Fr) (F : List Fr) : List Fr :=
  if 1 < f.l.length then ⟨A', c', f.l.tail, f.p⟩ :: F
  else match F.getLast? with | some y => y :: F.dropLast | none => []
def nextF (A' : Option Addr) (c' : Nat) (f : Fr) (F : List Fr) : List Fr := sinkL ((restF A' c' f F).length + 1) (restF A' c' f F) 0
theorem restF_perm (A' : Option Addr) (c' : Nat) (f : Fr) (F : List Fr) : (restF A' c' f F).Perm (if 1 < f.l.length then ⟨A', c', f.l.tail, f.p⟩ :: F else F) := by
  unfold restF
  split
  · exact List.Perm.refl _
  · split
    · next y hy =>
      have hne : F ≠ [] := by rintro rfl; simp at hy
      have e : F = F.dropLast ++ [y] := by
        have := List.dropLast_concat_getLast hne
        rw [List.getLast?_eq_some_getLast hne] at hy
        rw [← Option.some.inj hy]; exact this.symm
      conv => rhs; rw [e]
      exact (List.perm_append_singleton y F.dropLast).symm
    · next hy =>
      have : F = [] := by simpa using hy
      rw [this]
theorem restF_ok (A' : Option Addr) (c' : Nat) {f : Fr} {F : List Fr} (h : ∀ k, OkAt (f :: F) k) : ∀ k, 0 ≤ k → k ≠ 0 → OkAt (restF A' c' f F) k := by
  intro k _ hk c hc x y hx hy
  have hs : ∀ j, j ≠ 0 → ∀ z, (restF A' c' f F)[j]? = some z → (f :: F)[j]? = some z := by
    intro j hj z hz
    obtain ⟨i, rfl⟩ : ∃ i, j = i + 1 := ⟨j - 1, by omega⟩
    unfold restF at hz
    split at hz
    · simpa using hz
    · split at hz
      · simp only [List.getElem?_cons_succ] at hz ⊢
        obtain ⟨hl, he⟩ := List.getElem?_eq_some_iff.1 hz
        rw [List.length_dropLast] at hl
        rw [List.getElem_dropLast] at he
        exact List.getElem?_eq_some_iff.2 ⟨by omega, he⟩
      · simp at hz
  exact h k c hc x y (hs k hk x hx) (hs c (by omega) y hy)
/-- Behind a Next all are in order again. -/
theorem nextF_ok (A' : Option Addr) (c' : Nat) {f : Fr} {F : List Fr} (h : ∀ k, OkAt (f :: F) k) : ∀ k, OkAt (nextF A' c' f F) k := fun k =>
  sinkL_ok _ (restF A' c' f F) 0 0 (by omega) (Nat.le_refl _) (restF_ok A' c' h) (fun q _ h2 => by omega) k (Nat.zero_le _)
theorem nextF_perm (A' : Option Addr) (c' : Nat) (f : Fr) (F : List Fr) : (nextF A' c' f F).Perm (if 1 < f.l.length then ⟨A', c', f.l.tail, f.p⟩ :: F else F) := (sinkL_perm _ _ _).trans (restF_perm A' c' f F)
end Go.Proofs.Ytihdomhiiolojaa.P
