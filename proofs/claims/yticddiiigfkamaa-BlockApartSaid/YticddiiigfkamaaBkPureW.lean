/- What block's Write laws ask, in plain Lean. No conditions. -/
import Derived.Test.YticddiiigfkamaaPrickyardlaw09great
import Derived.Test.YticddiiigfkamaaPrickyardlaw09As
import Derived.Test.YticddiiigfkamaaEAlive09
import Derived.Test.YticddiiigfkamaaPrickyardlaw09Same
import Derived.Test.YticddiiigfkamaaBkRead
import Derived.Test.YticddiiigfkamaaBkWrite
namespace Go.Proofs.Yticddiiigfkamaa.Pure
open Go.RowKit Go.Proofs.Yticddiiigfkamaa.P Go.Proofs.YticddiiigfkamaaW.PrintWords Go.Proofs.YticddiiigfkamaaW.PrintLast
set_option linter.unusedVariables false
set_option linter.unusedSimpArgs false

theorem w64_up {i : Nat} (h : i < 9223372036854775807) : wrap64 ((i : Int) + 1) = ((i + 1 : Nat) : Int) := by unfold wrap64; omega
theorem great_l0 (l : List Pr) (hl : l.length ≤ 5000) : ∀ (d i k : Nat), l.length - i = d → d < k → ∃ g, rickyardlaw09_great.l0 k l (i : Int) = some g
  | d, i, 0, _, h => absurd h (Nat.not_lt_zero _)
  | d, i, k + 1, hd, hk => by
    rw [rickyardlaw09_great.l0]
    by_cases h1 : i < l.length
    · rw [if_pos (by omega), if_pos (by omega), w64_up (by omega)]
      obtain ⟨g, hg⟩ := great_l0 l hl (d - 1) (i + 1) k (by omega) (by omega)
      rw [hg]
      repeat' split
      all_goals exact ⟨_, rfl⟩
    · rw [if_neg (by omega)]
      exact ⟨_, rfl⟩
theorem great_f (l : List Pr) (k : Nat) (hk : l.length + 2 ≤ k) : rickyardlaw09_great.f k l = some true ∨ (l.length ≤ 5000 ∧ ∃ g, rickyardlaw09_great.f k l = some g) := by
  obtain ⟨k, rfl⟩ : ∃ j, k = j + 1 := ⟨k - 1, by omega⟩
  unfold rickyardlaw09_great.f
  by_cases h5 : 5000 < l.length
  · left
    rw [if_pos (by omega), if_neg (by omega), decide_eq_true (by omega), rickyardlaw09_great.j0, if_pos rfl]
  right
  refine ⟨by omega, ?_⟩
  obtain ⟨g, hg⟩ := great_l0 l (by omega) _ 0 k rfl (by omega)
  have e1 : rickyardlaw09_great.j0 (k + 1) l true = some true := by rw [rickyardlaw09_great.j0, if_pos rfl]
  have e2 : rickyardlaw09_great.j0 (k + 1) l false = some g := by rw [rickyardlaw09_great.j0, if_neg (by decide)]; exact hg
  rw [decide_eq_false (show ¬ ((l.length : Int) > 5000) by omega), e1, e2]
  repeat' split
  all_goals exact ⟨_, rfl⟩
/-- As the document's. -/
def a47 (p : Pr) : S47 := ⟨p.f0, p.f1⟩
theorem rd39 {l : List Pr} {i : Nat} {p : Pr} (h : l[i]? = some p) : rd_T39 l (i : Int) = p := by simp [rd_T39, List.getD_eq_getElem?_getD, h]
theorem rd47 {l : List Pr} {i : Nat} {p : Pr} (h : l[i]? = some p) : rd_T47 (l.map a47) (i : Int) = a47 p := by simp [rd_T47, List.getD_eq_getElem?_getD, h]
theorem as_l0 (l : List Pr) (hl : l.length ≤ 5000) : ∀ (d i k : Nat), l.length - i = d → i ≤ l.length → d < k → rickyardlaw09_As.l0 k l ((l.take i).map a47) (i : Int) = some (l.map a47)
  | d, i, 0, _, _, h => absurd h (Nat.not_lt_zero _)
  | d, i, k + 1, hd, hi, hk => by
    rw [rickyardlaw09_As.l0]
    by_cases h1 : i < l.length
    · obtain ⟨p, hp⟩ : ∃ p, l[i]? = some p := ⟨_, List.getElem?_eq_getElem h1⟩
      rw [if_pos (by omega), if_pos (by omega), if_pos (by rw [List.length_map, List.length_take]; omega), w64_up (by omega), rd39 hp]
      have ih := as_l0 l hl (d - 1) (i + 1) k (by omega) (by omega) (by omega)
      rw [List.take_add_one, hp, List.map_append] at ih
      exact ih
    · rw [if_neg (by omega), List.take_of_length_le (by omega)]
theorem as_f (l : List Pr) (hl : l.length ≤ 5000) (k : Nat) (hk : l.length < k) : rickyardlaw09_As.f k l = some (l.map a47) := as_l0 l hl _ 0 k rfl (Nat.zero_le _) hk
theorem rd47' {l : List Pr} {i : Nat} {p : Pr} (h : l[i]? = some p) : rd_T47 (l.map a47) (i : Int) = a47 p := rd47 h
/-- A row is the same as itself. -/
theorem same_l0 (l : List Pr) (hl : l.length ≤ 5000) : ∀ (d i k : Nat), l.length - i = d → d < k → rickyardlaw09_Same.l0 k l (l.map a47) (i : Int) = some true
  | d, i, 0, _, h => absurd h (Nat.not_lt_zero _)
  | d, i, k + 1, hd, hk => by
    rw [rickyardlaw09_Same.l0]
    by_cases h1 : i < l.length
    · obtain ⟨p, hp⟩ : ∃ p, l[i]? = some p := ⟨_, List.getElem?_eq_getElem h1⟩
      rw [if_pos (by omega), if_pos (by omega), if_pos (by rw [List.length_map]; omega), rd39 hp, rd47 hp, if_pos (show (strOfNums p.f0).toList = (strOfNums (a47 p).f0).toList from rfl), if_pos (show (strOfNums p.f1).toList = (strOfNums (a47 p).f1).toList from rfl), w64_up (by omega)]
      exact same_l0 l hl (d - 1) (i + 1) k (by omega) (by omega)
    · rw [if_neg (by omega)]
theorem same_f (l : List Pr) (hl : l.length ≤ 5000) (k : Nat) (hk : l.length < k) : rickyardlaw09_Same.f k l (l.map a47) = some true := by
  unfold rickyardlaw09_Same.f
  rw [if_pos (by rw [List.length_map])]
  exact same_l0 l hl _ 0 k rfl hk
end Go.Proofs.Yticddiiigfkamaa.Pure
