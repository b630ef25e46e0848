/- AggMany: what is known of many facts is what the reference tells. No conditions. -/
import Derived.Test.YtflmjiadahknkaaAggRef
import Derived.Test.YtflmjiadahknkaaPrickyardlaw02AggMany
namespace Go.Proofs.Ytflmjiadahknkaa.Pure
open Go.RowKit Go.Proofs.Ytflmjiadahknkaa.P Go.Proofs.YtflmjiadahknkaaW.PrintWords Go.Proofs.YtflmjiadahknkaaW.PrintLast
set_option linter.unusedVariables false
set_option linter.unusedSimpArgs false

theorem refMany_step (k : Nat) (l : List Int) (hl : l.length ≤ 1000000) (h0 : 0 < l.length) (P : E4) (hP : OkP P) (v : Int) (hv : -9223372036854775808 ≤ v ∧ v < 9223372036854775808) (hr : rd l ((l.length - 1 : Nat) : Int) = v)
    (ih : rickyardref02_Many.f k (l.take (l.length - 1)) = some (tp P)) (hk : 1 ≤ k) : rickyardref02_Many.f (k + 1) l = some (tp (mg P (e1 v))) := by
  have hw : wrap64 ((l.length : Int) - 1) = ((l.length - 1 : Nat) : Int) := by unfold wrap64; omega
  obtain ⟨j, rfl⟩ : ∃ j, k = j + 1 := ⟨k - 1, by omega⟩
  have hm := refMerge_tp j hP (ok_e1 v)
  generalize tp (mg P (e1 v)) = Y at hm ⊢
  rw [rickyardref02_Many.f, if_neg (by omega), hw, if_pos (by omega), if_pos (by omega), Int.toNat_natCast, ih]
  simp only [Option.bind_some]
  rw [if_pos (by omega), hr, refOne_f v hv]
  simp only [Option.bind_some]
  rw [hm]
  rfl
theorem refMany_f (n : Nat) : ∀ (k : Nat) (l : List Int), l.length = n → n ≤ 1000000 → (∀ x ∈ l, -9223372036854775808 ≤ x ∧ x < 9223372036854775808) → rickyardref02_Many.f (k + n + 1) l = some (tp (many l)) := by
  induction n with
  | zero =>
    intro k l hl _ _
    have : l = [] := List.length_eq_zero_iff.1 hl
    subst this
    rw [rickyardref02_Many.f, if_pos (by simp), show many [] = e0 from rfl, tp_e0]
  | succ n ih =>
    intro k l hl hn hv
    have hlt : n < l.length := by omega
    have ht : l.take n ++ [l[n]] = l := by rw [← List.take_succ_eq_append_getElem hlt, List.take_of_length_le (by omega)]
    have hm : many l = mg (many (l.take n)) (e1 l[n]) := by
      conv => lhs; rw [← ht]
      rw [many_append, many_cons]
      congr 1
      rw [mg_comm (ok_e1 _) (ok_many _)]
      exact e0_mg (ok_e1 _)
    rw [hm]
    refine refMany_step (k + n + 1) l (by omega) (by omega) _ (ok_many _) _ (hv _ (List.getElem_mem hlt)) ?_ ?_ (by omega)
    · rw [hl]
      show l.getD ((((n + 1 - 1 : Nat) : Int)).toNat) 0 = _
      rw [Int.toNat_natCast, List.getD_eq_getElem?_getD, show n + 1 - 1 = n from rfl, List.getElem?_eq_getElem hlt]; rfl
    · rw [hl, show n + 1 - 1 = n from rfl]
      exact ih k (l.take n) (by rw [List.length_take]; omega) (by omega) (fun x hx => hv x (List.mem_of_mem_take hx))

theorem AggMany : rickyardlaw02_AggMany.Pure := by
  intro l _ _ hw
  have hv : ∀ x ∈ l, -9223372036854775808 ≤ x ∧ x < 9223372036854775808 := fun x hx => of_wf_i64 (hw x hx)
  refine ⟨60 + l.length + 1, ?_⟩
  unfold rickyardlaw02_AggMany.f
  by_cases h : (l.length : Int) > 300
  · rw [if_pos h, alive02_f _ (by omega)]; rfl
  · rw [if_neg h, alive02_f _ (by omega)]
    simp only [Option.bind_some, if_true]
    rw [many_f l (by omega) hv 60, refMany_f l.length 60 l rfl (by omega) hv]
    simp only [Option.bind_some, beq_self_eq_true, Bool.and_self]

end Go.Proofs.Ytflmjiadahknkaa.Pure
