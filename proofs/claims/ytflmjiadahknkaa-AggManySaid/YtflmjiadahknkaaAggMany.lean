/- What is known of many facts: a fold, and its laws. No conditions. -/
import Derived.Test.YtflmjiadahknkaaAggPure2
import Derived.Test.YtflmjiadahknkaaPaggMany
namespace Go.Proofs.Ytflmjiadahknkaa.Pure
open Go.RowKit Go.Proofs.Ytflmjiadahknkaa.P Go.Proofs.YtflmjiadahknkaaW.PrintWords Go.Proofs.YtflmjiadahknkaaW.PrintLast
set_option linter.unusedVariables false
set_option linter.unusedSimpArgs false

theorem lesser_comm (a b : Int) : lesser a b = lesser b a := by unfold lesser; split <;> split <;> omega
theorem greater_comm (a b : Int) : greater a b = greater b a := by unfold greater; split <;> split <;> omega
theorem mn_comm {E a F b : Int} (hE : E = 0 → a = 0) (hF : F = 0 → b = 0) : mnE E a F b = mnE F b E a := by
  unfold mnE
  by_cases h : E = 0 <;> by_cases h2 : F = 0 <;> simp [h, h2, lesser_comm a b]
  have := hE h; have := hF h2; omega
theorem mx_comm {E a F b : Int} (hE : E = 0 → a = 0) (hF : F = 0 → b = 0) : mxE E a F b = mxE F b E a := by
  unfold mxE
  by_cases h : E = 0 <;> by_cases h2 : F = 0 <;> simp [h, h2, greater_comm a b]
  have := hE h; have := hF h2; omega

abbrev E4 := Int × Int × Int × Int
/-- Two parts together. -/
def mg (p q : E4) : E4 := (addE p.1 q.1, p.2.1 + q.2.1, mnE p.1 p.2.2.1 q.1 q.2.2.1, mxE p.1 p.2.2.2 q.1 q.2.2.2)
def e0 : E4 := (0, 0, 0, 0)
def e1 (v : Int) : E4 := (1, v, v, v)
def OkP (p : E4) : Prop := OkE p.1 p.2.1 p.2.2.1 p.2.2.2
def tp (p : E4) : AggT := tup p.1 p.2.1 p.2.2.1 p.2.2.2
/-- What is known of many facts. -/
def many (l : List Int) : E4 := l.foldl (fun p v => mg p (e1 v)) e0

theorem ok_e0 : OkP e0 := ⟨by decide, by decide, fun _ => ⟨rfl, rfl, rfl⟩, fun h => absurd rfl h⟩
theorem ok_e1 (v : Int) : OkP (e1 v) := ⟨by show (0 : Int) ≤ 1; decide, by show (1 : Int) ≤ 18446744073709551616; decide, fun h => absurd h (by show ¬ (1 : Int) = 0; decide), fun _ => Int.le_refl _⟩
theorem ok_mg {p q : E4} (h : OkP p) (k : OkP q) : OkP (mg p q) := ok_add h k
theorem mg_assoc {p q r : E4} (h : OkP p) (k : OkP q) (m : OkP r) : mg (mg p q) r = mg p (mg q r) := by
  unfold mg
  simp only []
  rw [addE_assoc _ _ _ h.1 k.1 m.1, Int.add_assoc, mn_assoc h.1 k.1 m.1, mx_assoc h.1 k.1 m.1]
theorem mg_comm {p q : E4} (h : OkP p) (k : OkP q) : mg p q = mg q p := by
  unfold mg
  rw [addE_comm, Int.add_comm, mn_comm (fun e => (h.2.2.1 e).2.1) (fun e => (k.2.2.1 e).2.1), mx_comm (fun e => (h.2.2.1 e).2.2) (fun e => (k.2.2.1 e).2.2)]
theorem e0_mg {p : E4} (h : OkP p) : mg e0 p = p := by
  obtain ⟨E, S, a, b⟩ := p
  have h0 : 0 ≤ E := h.1
  have h1 : E ≤ 18446744073709551616 := h.2.1
  have e : addE 0 E = E := by unfold addE; split <;> omega
  unfold mg e0 mnE mxE
  simp only [if_true, Int.zero_add, e]
theorem ok_fold (l : List Int) : ∀ p, OkP p → OkP (l.foldl (fun p v => mg p (e1 v)) p) := by
  induction l with
  | nil => exact fun p h => h
  | cons v l ih => exact fun p h => ih _ (ok_mg h (ok_e1 v))
theorem ok_many (l : List Int) : OkP (many l) := ok_fold l _ ok_e0
theorem fold_mg (l : List Int) : ∀ p, OkP p → l.foldl (fun p v => mg p (e1 v)) p = mg p (many l) := by
  induction l with
  | nil => intro p h; rw [mg_comm h (ok_many _)]; exact (e0_mg h).symm
  | cons v l ih =>
    intro p h
    rw [many, List.foldl_cons, List.foldl_cons, ih _ (ok_mg h (ok_e1 v)), ih _ (ok_mg ok_e0 (ok_e1 v)), e0_mg (ok_e1 v), mg_assoc h (ok_e1 v) (ok_many l)]
theorem many_cons (v : Int) (l : List Int) : many (v :: l) = mg (e1 v) (many l) := by
  rw [many, List.foldl_cons, fold_mg _ _ (ok_mg ok_e0 (ok_e1 v)), e0_mg (ok_e1 v)]
theorem many_append (l m : List Int) : many (l ++ m) = mg (many l) (many m) := by
  rw [many, List.foldl_append]
  exact fold_mg m _ (ok_many l)
theorem many_count (l : List Int) (h : l.length < 18446744073709551616) : (many l).1 = l.length := by
  induction l with
  | nil => rfl
  | cons v l ih =>
    have := ih (by simp at h; omega)
    rw [many_cons]
    show addE 1 (many l).1 = _
    rw [this, addE, if_pos (by simp at h; omega)]
    simp; omega
theorem many_bounds (l : List Int) (hl : l.length < 18446744073709551616) : l ≠ [] → (many l).2.2.1 ∈ l ∧ (many l).2.2.2 ∈ l ∧ ∀ x ∈ l, (many l).2.2.1 ≤ x ∧ x ≤ (many l).2.2.2 := by
  induction l with
  | nil => exact fun h => absurd rfl h
  | cons v l ih =>
    intro _
    have hc := many_count l (by simp at hl; omega)
    rw [many_cons]
    show mnE 1 v (many l).1 (many l).2.2.1 ∈ _ ∧ mxE 1 v (many l).1 (many l).2.2.2 ∈ _ ∧ ∀ x ∈ v :: l, mnE 1 v (many l).1 (many l).2.2.1 ≤ x ∧ x ≤ mxE 1 v (many l).1 (many l).2.2.2
    unfold mnE mxE
    rw [if_neg (show ¬ (1 : Int) = 0 by decide), if_neg (show ¬ (1 : Int) = 0 by decide), hc]
    cases l with
    | nil => simp
    | cons u l =>
      rw [if_neg (by simp only [List.length_cons]; omega), if_neg (by simp only [List.length_cons]; omega)]
      obtain ⟨h1, h2, h3⟩ := ih (by simp at hl ⊢; omega) (by simp)
      generalize (many (u :: l)).2.2.1 = a at h1 h3 ⊢
      generalize (many (u :: l)).2.2.2 = b at h2 h3 ⊢
      unfold lesser greater
      refine ⟨?_, ?_, fun x hx => ?_⟩
      · split <;> simp_all
      · split <;> simp_all
      · rcases List.mem_cons.1 hx with rfl | hx
        · constructor <;> split <;> omega
        · have := h3 x hx
          constructor <;> split <;> omega

theorem one_f (v : Int) (h : -9223372036854775808 ≤ v ∧ v < 9223372036854775808) : agg_One.f v = some (tp (e1 v)) := by
  unfold agg_One.f
  rw [of_f v h.1 h.2]
  rfl
theorem merge_tp {p q : E4} (h : OkP p) (k : OkP q) : agg_Merge.f (tp p).1 (tp p).2.1 (tp p).2.2.1 (tp p).2.2.2.1 (tp p).2.2.2.2.1 (tp p).2.2.2.2.2 (tp q).1 (tp q).2.1 (tp q).2.2.1 (tp q).2.2.2.1 (tp q).2.2.2.2.1 (tp q).2.2.2.2.2 = some (tp (mg p q)) :=
  merge_tup _ _ _ _ _ _ _ _ h k
theorem wrap_succ {i : Nat} (h : i ≤ 1000000) : wrap64 ((i : Int) + 1) = ((i + 1 : Nat) : Int) := by unfold wrap64; omega
theorem many_step (k : Nat) (l : List Int) (i : Nat) (hi : i < l.length) (hl : l.length ≤ 1000000) (p : E4) (hp : OkP p) (hv : -9223372036854775808 ≤ l[i] ∧ l[i] < 9223372036854775808) (X : AggT) (hX : X = tp p) :
    agg_Many.l0 (k + 1) l l.length i X.1 X.2.1 X.2.2.1 X.2.2.2.1 X.2.2.2.2.1 X.2.2.2.2.2 = agg_Many.l0 k l l.length ((i + 1 : Nat) : Int) (tp (mg p (e1 l[i]))).1 (tp (mg p (e1 l[i]))).2.1 (tp (mg p (e1 l[i]))).2.2.1 (tp (mg p (e1 l[i]))).2.2.2.1 (tp (mg p (e1 l[i]))).2.2.2.2.1 (tp (mg p (e1 l[i]))).2.2.2.2.2 := by
  have hr : rd l (i : Int) = l[i] := by simp [rd, hi]
  have hm := merge_tp hp (ok_e1 l[i])
  rw [← hX] at hm
  generalize tp (mg p (e1 l[i])) = Y at hm ⊢
  clear hX hp
  rw [agg_Many.l0, if_pos (by omega), if_pos (by omega), if_pos (by omega), hr, one_f _ hv, wrap_succ (by omega)]
  simp only [Option.bind_some]
  rw [hm]
  rfl
theorem many_l0 (l : List Int) (hl : l.length ≤ 1000000) (hv : ∀ x ∈ l, -9223372036854775808 ≤ x ∧ x < 9223372036854775808) (d : Nat) : ∀ (k i : Nat), i + d = l.length →
    agg_Many.l0 (k + d + 1) l l.length i (tp (many (l.take i))).1 (tp (many (l.take i))).2.1 (tp (many (l.take i))).2.2.1 (tp (many (l.take i))).2.2.2.1 (tp (many (l.take i))).2.2.2.2.1 (tp (many (l.take i))).2.2.2.2.2 = some (tp (many l)) := by
  induction d with
  | zero =>
    intro k i hi
    rw [agg_Many.l0, if_neg (by omega), List.take_of_length_le (by omega)]
  | succ d ih =>
    intro k i hi
    have hlt : i < l.length := by omega
    have ht : many (l.take (i + 1)) = mg (many (l.take i)) (e1 l[i]) := by
      rw [List.take_succ_eq_append_getElem hlt, many_append, many_cons]
      congr 1
      rw [mg_comm (ok_e1 _) (ok_many _)]
      exact e0_mg (ok_e1 _)
    have hs := many_step (k + d + 1) l i hlt hl _ (ok_many (l.take i)) (hv _ (List.getElem_mem hlt)) _ rfl
    rw [← ht] at hs
    exact hs.trans (ih k (i + 1) (by omega))
theorem tp_e0 : tp e0 = (0, false, 0, 0, 0, 0) := by decide +kernel
theorem many_f (l : List Int) (hl : l.length ≤ 1000000) (hv : ∀ x ∈ l, -9223372036854775808 ≤ x ∧ x < 9223372036854775808) (k : Nat) : agg_Many.f (k + l.length + 1) l = some (tp (many l)) := by
  have := many_l0 l hl hv l.length k 0 (by omega)
  rw [List.take_zero, show many [] = e0 from rfl, tp_e0] at this
  exact this

end Go.Proofs.Ytflmjiadahknkaa.Pure
