/- AggParts, in plain Lean. No conditions. -/
import Derived.Test.YtflmjiadahknkaaAggMany
import Derived.Test.YtflmjiadahknkaaPrickyardlaw02AggParts
namespace Go.Proofs.Ytflmjiadahknkaa.Pure
open Go.RowKit Go.Proofs.Ytflmjiadahknkaa.P Go.Proofs.YtflmjiadahknkaaW.PrintWords Go.Proofs.YtflmjiadahknkaaW.PrintLast
set_option linter.unusedVariables false
set_option linter.unusedSimpArgs false

theorem and_1023 (x : Int) : ∃ r : Nat, r < 1024 ∧ Go.bits .and .i64 x 1023 = r := by
  refine ⟨(BitVec.ofInt 64 x &&& BitVec.ofInt 64 1023).toNat, ?_, ?_⟩
  · rw [BitVec.toNat_and]
    exact Nat.lt_of_le_of_lt Nat.and_le_right (by decide)
  · have h : (BitVec.ofInt 64 x &&& BitVec.ofInt 64 1023).toNat < 1024 := by
      rw [BitVec.toNat_and]
      exact Nat.lt_of_le_of_lt Nat.and_le_right (by decide)
    show IntKind.i64.wrap (((BitVec.ofInt 64 x &&& BitVec.ofInt 64 1023).toNat : Nat) : Int) = _
    rw [IntKind.wrap_i64]
    omega
/-- The row, turned. -/
def rot (l : List Int) (r : Nat) : List Int := l.drop (r % l.length) ++ l.take (r % l.length)
theorem rot_length (l : List Int) (r : Nat) : (rot l r).length = l.length := by
  unfold rot
  rw [List.length_append, List.length_drop, List.length_take]
  cases l with
  | nil => simp
  | cons v l => have := Nat.mod_lt r (show 0 < (v :: l).length by simp); omega
theorem rot_at (l : List Int) (r i : Nat) (h : i < l.length) : (rot l r).getD i 0 = l.getD ((i + r) % l.length) 0 := by
  have hm := Nat.mod_lt r (show 0 < l.length by omega)
  unfold rot
  by_cases hi : i < l.length - r % l.length
  · have e : (i + r) % l.length = i + r % l.length := by
      rw [Nat.add_mod, Nat.mod_eq_of_lt h, Nat.mod_eq_of_lt (by omega)]
    rw [e, List.getD_eq_getElem?_getD, List.getElem?_append_left (by rw [List.length_drop]; exact hi), List.getElem?_drop, ← List.getD_eq_getElem?_getD, Nat.add_comm]
  · have e : (i + r) % l.length = i - (l.length - r % l.length) := by
      rw [Nat.add_mod, Nat.mod_eq_of_lt h]
      have : i + r % l.length = (i - (l.length - r % l.length)) + l.length := by omega
      rw [this, Nat.add_mod_right, Nat.mod_eq_of_lt (by omega)]
    rw [e, List.getD_eq_getElem?_getD, List.getElem?_append_right (by rw [List.length_drop]; omega), List.length_drop, List.getElem?_take_of_lt (by omega), ← List.getD_eq_getElem?_getD]
theorem many_rot (l : List Int) (r : Nat) : many (rot l r) = many l := by
  unfold rot
  rw [many_append, mg_comm (ok_many _) (ok_many _), ← many_append, List.take_append_drop]

theorem parts_l0 (l : List Int) (hl : l.length ≤ 300) (a2 : Int) (r : Nat) (hr : r < 1024) (h2 : Go.bits .and .i64 a2 1023 = r) (X : AggT) (d : Nat) : ∀ (k i : Nat), i + d = l.length →
    rickyardlaw02_AggParts.l0 (k + d + 1) l a2 ((rot l r).take i) i X.1 X.2.1 X.2.2.1 X.2.2.2.1 X.2.2.2.2.1 X.2.2.2.2.2 = rickyardlaw02_AggParts.l1 k l (rot l r) ((l.length : Int) == 0) ((l.length : Int) == 0) 0 X.1 X.2.1 X.2.2.1 X.2.2.2.1 X.2.2.2.2.1 X.2.2.2.2.2 := by
  induction d with
  | zero =>
    intro k i hi
    rw [rickyardlaw02_AggParts.l0, if_neg (by omega), List.take_of_length_le (by rw [rot_length]; omega)]
  | succ d ih =>
    intro k i hi
    have hlt : i < l.length := by omega
    have hw : wrap64 ((i : Int) + (r : Int)) = ((i + r : Nat) : Int) := by unfold wrap64; omega
    have hm : Int.tmod ((i + r : Nat) : Int) (l.length : Int) = (((i + r) % l.length : Nat) : Int) := by rw [Int.tmod_eq_emod_of_nonneg (by omega)]; omega
    have hml := Nat.mod_lt (i + r) (show 0 < l.length by omega)
    have hrd : rd l (((i + r) % l.length : Nat) : Int) = (rot l r).getD i 0 := by rw [rot_at l r i hlt]; show l.getD (((((i + r) % l.length : Nat) : Int)).toNat) 0 = _; rw [Int.toNat_natCast]
    have ht : (rot l r).take i ++ [(rot l r).getD i 0] = (rot l r).take (i + 1) := by
      have : i < (rot l r).length := by rw [rot_length]; exact hlt
      rw [List.take_succ_eq_append_getElem this, List.getD_eq_getElem?_getD, List.getElem?_eq_getElem this]; rfl
    rw [show k + (d + 1) + 1 = (k + d + 1) + 1 from rfl, rickyardlaw02_AggParts.l0, if_pos (by omega), if_neg (by omega), h2, hw, hm, if_pos (by omega), if_pos (by omega), if_pos (by rw [List.length_take]; omega), hrd, ht,
      show wrap64 ((i : Int) + 1) = ((i + 1 : Nat) : Int) by unfold wrap64; omega]
    exact ih k (i + 1) (by omega)

theorem parts_step (k : Nat) (l m : List Int) (x y : Bool) (i : Nat) (hl : l.length ≤ 300) (hi : i < l.length) (a b c d : Int) (e : Bool) (f : Int) (h1 : d ≤ rd l i) (h2 : rd l i ≤ f) :
    rickyardlaw02_AggParts.l1 (k + 1) l m x y i a e b c d f = rickyardlaw02_AggParts.l1 k l m (x || rd l i == d) (y || rd l i == f) ((i + 1 : Nat) : Int) a e b c d f := by
  have hw : wrap64 ((i : Int) + 1) = ((i + 1 : Nat) : Int) := by unfold wrap64; omega
  rw [rickyardlaw02_AggParts.l1, if_pos (by omega), hw]
  cases x <;> cases y <;> simp [show ¬ (rd l (i : Int) < d) by omega, show ¬ (rd l (i : Int) > f) by omega, show (0 : Int) ≤ (i : Int) by omega]

theorem parts_l1 (l m : List Int) (hl : l.length ≤ 300) (a b c d : Int) (e : Bool) (f : Int) (hb : ∀ x ∈ l, d ≤ x ∧ x ≤ f) (n : Nat) : ∀ (k i : Nat) (x y : Bool), i + n = l.length →
    ∃ x' y' : Bool, rickyardlaw02_AggParts.l1 (k + n + 1) l m x y i a e b c d f = rickyardlaw02_AggParts.l1 (k + 1) l m x' y' l.length a e b c d f ∧ (x = true ∨ d ∈ l.drop i → x' = true) ∧ (y = true ∨ f ∈ l.drop i → y' = true) := by
  induction n with
  | zero =>
    intro k i x y hi
    obtain rfl : i = l.length := by omega
    refine ⟨x, y, rfl, ?_, ?_⟩ <;> simp
  | succ n ih =>
    intro k i x y hi
    have hlt : i < l.length := by omega
    have hr : rd l (i : Int) = l[i] := by simp [rd, hlt]
    have hq := hb _ (List.getElem_mem hlt)
    rw [show k + (n + 1) + 1 = (k + n + 1) + 1 from rfl, parts_step _ l m x y i hl hlt a b c d e f (by rw [hr]; exact hq.1) (by rw [hr]; exact hq.2)]
    obtain ⟨x', y', h1, h2, h3⟩ := ih k (i + 1) (x || rd l i == d) (y || rd l i == f) (by omega)
    refine ⟨x', y', h1, fun h => h2 ?_, fun h => h3 ?_⟩
    · rw [List.drop_eq_getElem_cons hlt, List.mem_cons] at h
      rcases h with h | h | h
      · exact .inl (by rw [h]; rfl)
      · exact .inl (by rw [hr, ← h]; simp)
      · exact .inr h
    · rw [List.drop_eq_getElem_cons hlt, List.mem_cons] at h
      rcases h with h | h | h
      · exact .inl (by rw [h]; rfl)
      · exact .inl (by rw [hr, ← h]; simp)
      · exact .inr h

theorem parts_end (k : Nat) (l : List Int) (hl : l.length ≤ 300) (hv : ∀ x ∈ l, -9223372036854775808 ≤ x ∧ x < 9223372036854775808) (r : Nat) :
    rickyardlaw02_AggParts.l1 (k + 60 + l.length + 1 + 1) l (rot l r) true true l.length (tp (many l)).1 (tp (many l)).2.1 (tp (many l)).2.2.1 (tp (many l)).2.2.2.1 (tp (many l)).2.2.2.2.1 (tp (many l)).2.2.2.2.2 = some true := by
  have hm : agg_Many.f (k + 60 + l.length + 1) (rot l r) = some (tp (many l)) := by
    have := many_f (rot l r) (by rw [rot_length]; omega) (fun x hx => hv x ?_) (k + 60)
    · rw [rot_length, many_rot] at this; exact this
    · unfold rot at hx
      rcases List.mem_append.1 hx with hx | hx
      · exact List.mem_of_mem_drop hx
      · exact List.mem_of_mem_take hx
  rw [rickyardlaw02_AggParts.l1, if_neg (by omega), alive02_f _ (by omega)]
  simp only [Option.bind_some, if_true]
  rw [hm]
  simp only [Option.bind_some, beq_self_eq_true, Bool.and_self, if_true]
  have hc := many_count l (by omega)
  have e1 : (tp (many l)).1 = l.length := by
    show cN (many l).1 = _
    rw [hc, cN, if_neg (by omega)]
  have e2 : (tp (many l)).2.1 = false := by
    show cO (many l).1 = _
    rw [hc, cO, decide_eq_false (by omega)]
  rw [e1, e2, if_pos (by rw [IntKind.wrap_u64]; omega)]
  rfl

theorem AggParts : rickyardlaw02_AggParts.Pure := by
  intro l a1 a2 _ _ hw w1 w2
  have hv : ∀ x ∈ l, -9223372036854775808 ≤ x ∧ x < 9223372036854775808 := fun x hx => of_wf_i64 (hw x hx)
  refine ⟨1000 + l.length + l.length + l.length + 10, ?_⟩
  have hal : rickyardlaw02_AggParts.j0 (1000 + l.length + l.length + l.length + 10) l a1 a2 true = some true := by
    rw [rickyardlaw02_AggParts.j0, if_pos rfl, alive02_f _ (by omega)]; rfl
  unfold rickyardlaw02_AggParts.f
  by_cases h1 : (l.length : Int) > 300
  · rw [if_pos h1]; exact hal
  rw [if_neg h1]
  by_cases h2 : a1 < 0
  · rw [if_pos h2]; exact hal
  rw [if_neg h2]
  by_cases h3 : a1 > (l.length : Int)
  · rw [decide_eq_true h3]; exact hal
  rw [decide_eq_false h3]
  have hl : l.length ≤ 300 := by omega
  obtain ⟨c, rfl⟩ := Int.eq_ofNat_of_zero_le (show 0 ≤ a1 by omega)
  obtain ⟨r, hr, h2r⟩ := and_1023 a2
  have m0 := many_f l (by omega) hv (1000 + l.length + l.length + 8)
  have ml := many_f (l.take c) (by rw [List.length_take]; omega) (fun x hx => hv x (List.mem_of_mem_take hx)) (1000 + l.length + l.length + l.length + 8 - (l.take c).length)
  have mr := many_f (l.drop c) (by rw [List.length_drop]; omega) (fun x hx => hv x (List.mem_of_mem_drop hx)) (1000 + l.length + l.length + l.length + 8 - (l.drop c).length)
  rw [show 1000 + l.length + l.length + 8 + l.length + 1 = 1000 + l.length + l.length + l.length + 9 by omega] at m0
  rw [show 1000 + l.length + l.length + l.length + 8 - (l.take c).length + (l.take c).length + 1 = 1000 + l.length + l.length + l.length + 9 by rw [List.length_take]; omega] at ml
  rw [show 1000 + l.length + l.length + l.length + 8 - (l.drop c).length + (l.drop c).length + 1 = 1000 + l.length + l.length + l.length + 9 by rw [List.length_drop]; omega] at mr
  rw [show 1000 + l.length + l.length + l.length + 10 = (1000 + l.length + l.length + l.length + 9) + 1 from rfl, rickyardlaw02_AggParts.j0, if_neg (by decide), m0]
  simp only [Option.bind_some]
  rw [if_pos (by omega), if_pos (by omega), Int.toNat_natCast, ml]
  simp only [Option.bind_some]
  rw [mr]
  simp only [Option.bind_some]
  rw [merge_tp (ok_many _) (ok_many _), ← many_append, List.take_append_drop]
  simp only [Option.bind_some, beq_self_eq_true, Bool.not_true, Bool.or_self, Bool.false_eq_true, if_false]
  have q0 := parts_l0 l hl a2 r hr h2r (tp (many l)) l.length (1000 + l.length + l.length + 8) 0 (by omega)
  rw [List.take_zero, show 1000 + l.length + l.length + 8 + l.length + 1 = 1000 + l.length + l.length + l.length + 9 by omega] at q0
  refine Eq.trans q0 ?_
  have hb : ∀ x ∈ l, (tp (many l)).2.2.2.2.1 ≤ x ∧ x ≤ (tp (many l)).2.2.2.2.2 := fun x hx => (many_bounds l (by omega) (fun e => by rw [e] at hx; cases hx)).2.2 x hx
  obtain ⟨x', y', q1, q2, q3⟩ := parts_l1 l (rot l r) hl (tp (many l)).1 (tp (many l)).2.2.1 (tp (many l)).2.2.2.1 (tp (many l)).2.2.2.2.1 (tp (many l)).2.1 (tp (many l)).2.2.2.2.2 hb l.length (946 + 60 + l.length + 1) 0 ((l.length : Int) == 0) ((l.length : Int) == 0) (by omega)
  have e3 : ∀ d : Int, (l ≠ [] → d ∈ l) → ((l.length : Int) == 0) = true ∨ d ∈ l.drop 0 := fun d hd => by
    cases l with
    | nil => exact .inl rfl
    | cons v l => exact .inr (by simpa using hd (by simp))
  have ex : x' = true := q2 (e3 _ fun h => (many_bounds l (by omega) h).1)
  have ey : y' = true := q3 (e3 _ fun h => (many_bounds l (by omega) h).2.1)
  rw [ex, ey] at q1
  have q4 := parts_end 946 l hl hv r
  rw [show 1000 + l.length + l.length + 8 = 946 + 60 + l.length + 1 + l.length + 1 by omega]
  exact Eq.trans q1 q4

end Go.Proofs.Ytflmjiadahknkaa.Pure
