/- A heap's fronts as a row that grows, and as what stands in memory. No conditions. -/
import Derived.Test.YtihdomhiiolojaaMgHeap
namespace Go.Proofs.Ytihdomhiiolojaa.P
open Go.RowKit Go.Proofs.YtihdomhiiolojaaW.PrintWords Go.Proofs.YtihdomhiiolojaaW.PrintLast Go.Proofs.YtihdomhiiolojaaW.PrintMore
set_option linter.unusedVariables false
set_option linter.unusedSimpArgs false

/-- A front's cells. -/
def kF : Kd Fr where
  sz := 2
  E := []
  K := fun _ f cs => cs = [.slice f.A f.l.length f.c, .int .i64 (f.p : Int)]
  M := fun _ _ _ f cs => cs = [.slice f.A f.l.length f.c, .int .i64 (f.p : Int)]
  K_len := fun h => by rw [h]; rfl
  K_one := fun h u hu => by
    rw [h] at hu
    simp only [List.mem_cons, List.not_mem_nil, or_false] at hu
    rcases hu with rfl | rfl <;> rfl
  K_below := fun _ h => h
  K_of_M := fun h => h
  M_mono := fun _ h => h
  M_bound := fun h => h
  M_move := fun _ h => h
  M_lower := fun _ h => h
theorem reps_cellsF : ∀ {F : List Fr} {cs : List Value}, Reps (fun f c => c = [.slice f.A f.l.length f.c, .int .i64 (f.p : Int)]) 2 F cs → cs = cellsF F
  | [], cs, h => by
    have := h.1
    simp at this
    subst this
    rfl
  | f :: F, cs, h => by
    have h0 := h.2 0 f rfl
    rw [Nat.zero_mul, List.drop_zero] at h0
    have hl := h.1
    have ih : cs.drop 2 = cellsF F := by
      refine reps_cellsF ⟨by rw [List.length_drop, hl, List.length_cons]; omega, fun j p hp => ?_⟩
      have := h.2 (j + 1) p (by simpa using hp)
      rw [List.drop_drop]
      rw [show (j + 1) * 2 = 2 + j * 2 by omega] at this
      exact this
    rw [cellsF, ← ih]
    have e : cs = cs.take 2 ++ cs.drop 2 := (List.take_append_drop 2 cs).symm
    rw [h0] at e
    exact e
/-- A row of fronts stands in memory as a heap's. -/
theorem row_hp {W : World} {base g : Nat} {v : Value} {F : List Fr} (h : kF.R 56 W base (fun _ => True) v F) (hF : F ≠ []) (hg : W.heap[g]? = some (.cells #[v] 50 (0, 0))) :
    ∃ b cap J, base ≤ b ∧ v = .slice (some ⟨b, 0, none⟩) F.length cap ∧ Hp W g b cap F J := by
  obtain ⟨_, inner, ho, hr⟩ := h
  have hc := reps_cellsF hr
  subst hc
  have hl := cellsF_len F
  rcases ho.2 with ⟨rfl, h0⟩ | ⟨b, cap, cur, rfl, hb, hh, hrest⟩
  · exact absurd (List.length_eq_zero_iff.1 h0) hF
  · obtain ⟨hnc, _, _, htk⟩ := hrest
    refine ⟨b, cap, cur.toList.drop (F.length * 2), hb, rfl, hg, ?_, hnc⟩
    have e : cellsF F ++ cur.toList.drop (F.length * 2) = cur.toList := by
      rw [← htk]; exact List.take_append_drop _ _
    rw [e]
    exact hh
/-- The rows' fronts, by place. -/
def frsTo (rows : List (List En)) : Nat → List (List En × Nat)
  | 0 => []
  | i + 1 => match rows[i]? with
    | some r => if r = [] then frsTo rows i else frsTo rows i ++ [(r, i)]
    | none => frsTo rows i
def prF (f : Fr) : List En × Nat := (f.l, f.p)
/-- The first row's word that is none. -/
def newE (rows : List (List En)) : Int := match rows.find? (fun r => mrightE r != 0) with | some r => mrightE r | none => 0
theorem newE_hit {rows : List (List En)} {i : Nat} {r : List En} (h : rows[i]? = some r) (hr : mrightE r ≠ 0) (hb : ∀ q ∈ rows.take i, mrightE q = 0) : newE rows = mrightE r := by
  have hf : ∀ {l : List (List En)} {i : Nat}, l[i]? = some r → (∀ q ∈ l.take i, mrightE q = 0) → l.find? (fun r => mrightE r != 0) = some r := by
    intro l
    induction l with
    | nil => intro i h; simp at h
    | cons a l ih =>
      intro i h hb
      cases i with
      | zero => obtain rfl := Option.some.inj h; rw [List.find?_cons_of_pos (p := fun r => mrightE r != 0) (bne_iff_ne.2 hr)]
      | succ i =>
        rw [List.find?_cons_of_neg (p := fun r => mrightE r != 0) (by rw [hb a (by simp)]; decide)]
        exact ih (by simpa using h) (fun q hq => hb q (by rw [List.take_succ_cons]; exact List.mem_cons_of_mem _ hq))
  unfold newE
  rw [hf h hb]
theorem newE_none {rows : List (List En)} (hb : ∀ q ∈ rows, mrightE q = 0) : newE rows = 0 := by
  have : rows.find? (fun r => mrightE r != 0) = none := List.find?_eq_none.2 (fun q hq => by rw [hb q hq]; decide)
  unfold newE
  rw [this]
/-- The fronts sink, from place i - 1 down. -/
def heapifyL (F : List Fr) : Nat → List Fr
  | 0 => F
  | i + 1 => heapifyL (sinkL (F.length + 1) F i) i
theorem mem_heapifyL : ∀ {i : Nat} {F : List Fr} {f : Fr}, f ∈ heapifyL F i → f ∈ F
  | 0, _, _, h => h
  | i + 1, F, f, h => mem_sinkL (mem_heapifyL h)
theorem heapifyL_len : ∀ (i : Nat) (F : List Fr), (heapifyL F i).length = F.length
  | 0, F => rfl
  | i + 1, F => by rw [heapifyL, heapifyL_len i, sinkL_len]
/-- A heap in the world W, made behind w0. -/
structure HpS (w0 W : World) (g : Nat) (F : List Fr) : Prop where
  be : Below w0.heap.size w0 W
  gt : w0.heap.size ≤ g
  ro : RowsOk w0 F
  st : (F = [] ∧ ∃ A cap, W.heap[g]? = some (.cells #[.slice A 0 cap] 50 (0, 0))) ∨ (F ≠ [] ∧ ∃ b cap J, w0.heap.size ≤ b ∧ Hp W g b cap F J)
end Go.Proofs.Ytihdomhiiolojaa.P
