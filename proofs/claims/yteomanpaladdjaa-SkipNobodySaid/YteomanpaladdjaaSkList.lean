/- The skip list as a whole, and how a key's place is found, in plain Lean. No conditions. -/
import Derived.Test.YteomanpaladdjaaSkSpec
import Derived.Test.YteomanpaladdjaaCmpOrd
namespace Go.Proofs.Yteomanpaladdjaa.P
open Go.RowKit Go.Proofs.YteomanpaladdjaaW.PrintWords Go.Proofs.YteomanpaladdjaaW.PrintLast Go.Proofs.YteomanpaladdjaaW.PrintMore
set_option linter.unusedVariables false
set_option linter.unusedSimpArgs false
def hdC (ns : List Nd) (sz : Int) (fr : Bool) : List Value := .slice none 0 0 :: ([.int .u64 0, .bool false, .int .i64 0, .int .u64 0, .int .i64 0, .int .i64 0] ++ (nxs 8 ns ++ [.int .i64 ns.length, .int .i64 sz, .bool fr]))
def NdRise (ns : List Nd) : Prop := ns.Pairwise (fun m k => cmpI m.e.f0 k.e.f0 < 0)
def lastB (g : Nat) (X : List Nd) : Nat := match X.getLast? with | none => g | some m => m.b
theorem lastB_snoc (g : Nat) (X : List Nd) (m : Nd) : lastB g (X ++ [m]) = m.b := by unfold lastB; rw [List.getLast?_append]; rfl
def TopOk (j : Nat) (X : List Nd) : Prop := ∀ P m, X = P ++ [m] → j < m.h
theorem TopOk.snoc {j : Nat} {X : List Nd} {m : Nd} (h : j < m.h) : TopOk j (X ++ [m]) := fun P k e => by
  have := (List.append_inj' e rfl).2
  injection this with this
  rw [← this]; exact h
theorem snoc_or (X : List Nd) : X = [] ∨ ∃ P m, X = P ++ [m] := by
  rcases List.eq_nil_or_concat X with h | ⟨P, m, h⟩
  · exact .inl h
  · exact .inr ⟨P, m, by rw [h, List.concat_eq_append]⟩
theorem pdB_top {g j : Nat} {X : List Nd} (h : TopOk j X) : pdB g j X = lastB g X := by
  rcases snoc_or X with rfl | ⟨P, m, rfl⟩
  · rfl
  · rw [lastB_snoc, pdB_app, pdB, if_pos (h P m rfl)]
    rfl
def lowB (key : List Int) (m : Nd) : Bool := decide (cmpI m.e.f0 key < 0)
/-- Where level j stops: the last one ahead of the key that it meets. -/
theorem find_stop {g j : Nat} {key : List Int} {X Y : List Nd} (ht : TopOk j X) (hX : ∀ m ∈ X, cmpI m.e.f0 key < 0) (hY : ∀ m ∈ Y, j < m.h → ¬ cmpI m.e.f0 key < 0) : pdB g j ((X ++ Y).filter (lowB key)) = lastB g X := by
  rw [List.filter_append, (List.filter_eq_self (p := lowB key)).2 (fun m hm => decide_eq_true (hX m hm)), pdB_app, pdB_top ht]
  refine pdB_none (fun m hm hj => ?_)
  rw [List.mem_filter] at hm
  exact hY m hm.1 hj (of_decide_eq_true hm.2)
/-- What level j leads to behind X: nothing, or a node; if its key is not below, the level stops. -/
theorem find_next {j : Nat} {key : List Int} {X Y : List Nd} (hr : NdRise (X ++ Y)) (hX : ∀ m ∈ X, cmpI m.e.f0 key < 0) :
    (nx j Y = .pointer none ∧ ∀ m ∈ Y, j < m.h → ¬ cmpI m.e.f0 key < 0) ∨
    ∃ P n Q, Y = P ++ n :: Q ∧ j < n.h ∧ nx j Y = .pointer (some ⟨n.b, 0, none⟩) ∧
      ((cmpI n.e.f0 key < 0 ∧ ∀ m ∈ X ++ P ++ [n], cmpI m.e.f0 key < 0) ∨ (¬ cmpI n.e.f0 key < 0 ∧ ∀ m ∈ Y, j < m.h → ¬ cmpI m.e.f0 key < 0)) := by
  rcases nx_split j Y with ⟨h1, h2⟩ | ⟨P, n, Q, rfl, h1, h2, h3⟩
  · exact .inl ⟨h1, fun m hm hj => absurd hj (h2 m hm)⟩
  · refine .inr ⟨P, n, Q, rfl, h1, h3, ?_⟩
    unfold NdRise at hr
    rw [List.pairwise_append, List.pairwise_append, List.pairwise_cons] at hr
    obtain ⟨_, ⟨_, ⟨hQ, _⟩, hP⟩, _⟩ := hr
    by_cases hc : cmpI n.e.f0 key < 0
    · refine .inl ⟨hc, fun m hm => ?_⟩
      rw [List.mem_append, List.mem_append, List.mem_singleton] at hm
      rcases hm with (hm | hm) | rfl
      · exact hX m hm
      · exact cmpI_trans (hP m hm n (List.mem_cons_self ..)) hc
      · exact hc
    · refine .inr ⟨hc, fun m hm hj hl => ?_⟩
      rcases List.mem_append.1 hm with hm | hm
      · exact h2 m hm hj
      · rcases List.mem_cons.1 hm with rfl | hm
        · exact hc hl
        · exact hc (cmpI_trans (hQ m hm) hl)
theorem lv_at {h j : Nat} (r : List Nd) (hj : j < 8) : (nxs h r)[j]? = some (lv h r j) := by
  match j, hj with
  | 0, _ => rfl
  | 1, _ => rfl
  | 2, _ => rfl
  | 3, _ => rfl
  | 4, _ => rfl
  | 5, _ => rfl
  | 6, _ => rfl
  | 7, _ => rfl
theorem ndC_next {n : Nd} {r : List Nd} {j : Nat} (hj : j < 8) : (ndC n r)[7 + j]? = some (lv n.h r j) := by
  rw [← lv_at r hj, Nat.add_comm]; rfl
theorem hdC_next {ns : List Nd} {sz : Int} {fr : Bool} {j : Nat} (hj : j < 8) : (hdC ns sz fr)[7 + j]? = some (nx j ns) := by
  have h1 : (hdC ns sz fr)[7 + j]? = (nxs 8 ns ++ [.int .i64 ns.length, .int .i64 sz, .bool fr])[j]? := by rw [Nat.add_comm]; rfl
  rw [h1, List.getElem?_append_left (by show j < 8; exact hj), lv_at ns hj]
  unfold lv
  rw [if_pos hj]
/-- The list lies there. -/
structure SkL (W : World) (base : Nat) (ok : Nat → Prop) (g : Nat) (ns : List Nd) (sz : Int) (fr : Bool) : Prop where
  head : W.heap[g]? = some (.cells (hdC ns sz fr).toArray 61 (0, 0))
  headB : base ≤ g
  headO : ok g
  nodes : SkN W base ok ns
  rise : NdRise ns
  apart : (∀ m ∈ ns, m.b ≠ g) ∧ ns.Pairwise (fun m k => m.b ≠ k.b)
  tall : ∀ m ∈ ns, 0 < m.h ∧ m.h ≤ 8
theorem SkL.next {W : World} {base g : Nat} {ok : Nat → Prop} {X Y : List Nd} {sz : Int} {fr : Bool} (h : SkL W base ok g (X ++ Y) sz fr) {j : Nat} (hj : j < 8) (ht : TopOk j X) : W.cell? ⟨lastB g X, 7 + j, none⟩ = some (nx j Y) := by
  rcases snoc_or X with rfl | ⟨P, m, rfl⟩
  · refine (blk_cell h.head _).trans ?_
    rw [List.getElem?_toArray]
    exact hdC_next hj
  · rw [lastB_snoc]
    have hn := h.nodes
    rw [List.append_assoc] at hn
    refine (blk_cell (SkN_at hn).1 _).trans ?_
    rw [List.getElem?_toArray]
    show (ndC m Y)[7 + j]? = _
    rw [ndC_next hj]
    unfold lv
    rw [if_pos (ht P m rfl)]
end Go.Proofs.Yteomanpaladdjaa.P
