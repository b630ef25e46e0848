/- The document's ReadShort (printed) tells what rs tells. No conditions. -/
import Derived.Test.YticddiiigfkamaaPrickyardref04ReadShort
import Derived.Test.YticddiiigfkamaaBkRShort
import Derived.Test.YticddiiigfkamaaBkSpec
namespace Go.Proofs.Yticddiiigfkamaa.Pure
open Go.RowKit Go.Proofs.Yticddiiigfkamaa.P Go.Proofs.YticddiiigfkamaaW.PrintWords Go.Proofs.YticddiiigfkamaaW.PrintLast
set_option linter.unusedVariables false
set_option linter.unusedSimpArgs false

theorem u64_of (n : Nat) (h : n < 18446744073709551616) : IntKind.u64.wrap (n : Int) = (n : Int) := IntWalk.u64_in _ (by omega)
/-- One digit more. -/
theorem rs_digit (x V W : Nat) (hx : x < 256) (h : V + (x % 128) * W < 18446744073709551616) : IntKind.u64.wrap ((V : Int) + IntKind.u64.wrap (IntKind.u64.wrap (Int.tmod (x : Int) 128) * (W : Int))) = ((V + (x % 128) * W : Nat) : Int) := by
  have e1 : Int.tmod (x : Int) 128 = ((x % 128 : Nat) : Int) := by rw [Int.tmod_eq_emod_of_nonneg (by omega)]; omega
  rw [e1, u64_of _ (by omega), ← Int.natCast_mul, u64_of _ (by omega), ← Int.natCast_add, u64_of _ h]
theorem rs_w64 (i : Nat) (h : i < 100) : wrap64 ((i : Int) + 1) = ((i + 1 : Nat) : Int) := by unfold wrap64; omega
theorem rs_far (b : List Int) (hB : ∀ x ∈ b, 0 ≤ x ∧ x < 256) : ∀ (d i V : Nat) (K : Nat), i + d = 9 → 2 ≤ i → V < 128 ^ i → 2 * d + 1 ≤ K → ∃ v u e, rickyardref04_ReadShort.l0 (K + 1) b (V : Int) ((128 ^ i : Nat) : Int) (i : Int) = some (v, u, e) ∧ 0 ≤ v ∧ (e ≠ 0 ∨ 4096 < v)
  | 0, i, V, K, hd, hi, hV, hK => by
    have : i = 9 := by omega
    subst this
    obtain ⟨W, hW⟩ : ∃ W, 128 ^ 9 = W := ⟨_, rfl⟩
    have hWv : W = 9223372036854775808 := by rw [← hW]
    rw [hW] at hV ⊢
    rw [rickyardref04_ReadShort.l0]
    by_cases hl : 9 < b.length
    case neg => rw [if_neg (by omega)]; exact ⟨_, _, _, rfl, by omega, .inl (by decide)⟩
    obtain ⟨K, rfl⟩ : ∃ j, K = j + 1 := ⟨K - 1, by omega⟩
    obtain ⟨c, hc⟩ : ∃ c, b[9]? = some c := ⟨_, List.getElem?_eq_getElem hl⟩
    have hcb := hB c (List.mem_of_getElem? hc)
    obtain ⟨x, rfl⟩ : ∃ x : Nat, c = (x : Int) := ⟨c.toNat, by omega⟩
    have hx : x < 256 := by omega
    rw [if_pos (by omega), rd_nat b hc, if_pos (by omega), if_pos (by omega)]
    by_cases h0 : x = 0
    · subst h0
      rw [if_pos (by omega), rickyardref04_ReadShort.j1, if_neg (by decide), if_pos (by omega), if_pos (by omega), rd_nat b hc, if_pos (by omega), if_pos (by omega), if_pos (by omega)]
      exact ⟨_, _, _, rfl, by omega, .inl (by decide)⟩
    · rw [if_neg (by omega)]
      by_cases h1 : x = 1
      · subst h1
        have hd1 := rs_digit 1 V W (by omega) (by omega)
        rw [show (((1 : Nat) : Int) != 1) = false from rfl, rickyardref04_ReadShort.j1, if_neg (by decide), if_pos (by omega), if_pos (by omega), rd_nat b hc, if_pos (by omega), if_neg (by omega), hd1]
        exact ⟨_, _, _, rfl, by omega, .inr (by omega)⟩
      · rw [show (((x : Nat) : Int) != 1) = true from bne_iff_ne.2 (by omega), rickyardref04_ReadShort.j1, if_pos rfl]
        exact ⟨_, _, _, rfl, by omega, .inl (by decide)⟩
  | d + 1, i, V, K, hd, hi, hV, hK => by
    obtain ⟨W, hW⟩ : ∃ W, 128 ^ i = W := ⟨_, rfl⟩
    have hW1 : 16384 ≤ W := by rw [← hW]; exact (Nat.pow_le_pow_right (by omega) hi : 128 ^ 2 ≤ 128 ^ i)
    have hW8 : W ≤ 72057594037927936 := by rw [← hW]; exact (Nat.pow_le_pow_right (by omega) (show i ≤ 8 by omega) : 128 ^ i ≤ 128 ^ 8)
    rw [hW] at hV ⊢
    rw [rickyardref04_ReadShort.l0]
    by_cases hl : i < b.length
    case neg => rw [if_neg (by omega)]; exact ⟨_, _, _, rfl, by omega, .inl (by decide)⟩
    obtain ⟨K, rfl⟩ : ∃ j, K = j + 2 := ⟨K - 2, by omega⟩
    obtain ⟨c, hc⟩ : ∃ c, b[i]? = some c := ⟨_, List.getElem?_eq_getElem hl⟩
    have hcb := hB c (List.mem_of_getElem? hc)
    obtain ⟨x, rfl⟩ : ∃ x : Nat, c = (x : Int) := ⟨c.toNat, by omega⟩
    have hx : x < 256 := by omega
    have hy : (x % 128) * W ≤ 127 * W := Nat.mul_le_mul_right _ (by omega)
    have hd1 := rs_digit x V W hx (by omega)
    rw [if_pos (by omega), if_neg (by omega), rickyardref04_ReadShort.j1, if_neg (by decide), if_pos (by omega), if_pos (by omega), rd_nat b hc, hd1]
    by_cases h128 : x < 128
    · rw [if_pos (by omega)]
      by_cases h0 : x = 0
      · rw [if_pos (by omega), if_pos (by omega)]
        exact ⟨_, _, _, rfl, by omega, .inl (by decide)⟩
      · rw [if_neg (by omega)]
        have : W ≤ (x % 128) * W := Nat.le_mul_of_pos_left _ (by omega)
        exact ⟨_, _, _, rfl, by omega, .inr (by omega)⟩
    · rw [if_neg (by omega), rs_w64 i (by omega), show ((W : Int) * 128) = ((W * 128 : Nat) : Int) by omega, u64_of _ (by omega)]
      have ih := rs_far b hB d (i + 1) (V + (x % 128) * W) K (by omega) (by omega) (by rw [Nat.pow_succ, hW]; omega) (by omega)
      rw [Nat.pow_succ, hW] at ih
      exact ih
theorem refRS_f (b : List Int) (hB : ∀ x ∈ b, 0 ≤ x ∧ x < 256) (K : Nat) (hK : 30 ≤ K) : ∃ v u e, rickyardref04_ReadShort.f K b = some (v, u, e) ∧ RsP b v u e := by
  obtain ⟨K, rfl⟩ : ∃ j, K = j + 30 := ⟨K - 30, by omega⟩
  unfold rickyardref04_ReadShort.f
  match b, hB with
  | [], hB =>
    rw [rickyardref04_ReadShort.l0, if_neg (by simp)]
    exact ⟨_, _, _, rfl, by omega, .inl (by decide)⟩
  | c :: t, hB =>
    have hcb := hB c (by simp)
    obtain ⟨x, rfl⟩ : ∃ x : Nat, c = (x : Int) := ⟨c.toNat, by omega⟩
    have hx : x < 256 := by omega
    have r0 : rd ((x : Int) :: t) 0 = (x : Int) := rfl
    have hd0 := rs_digit x 0 1 hx (by omega)
    rw [show ((0 : Nat) : Int) = 0 from rfl, show ((1 : Nat) : Int) = 1 from rfl, Nat.mul_one, Nat.zero_add] at hd0
    rw [rickyardref04_ReadShort.l0, if_pos (by simp only [List.length_cons]; omega), if_neg (by omega), rickyardref04_ReadShort.j1, if_neg (by decide), if_pos (by omega), if_pos (by simp only [List.length_cons]; omega), r0, hd0]
    by_cases h128 : x < 128
    · rw [if_pos (by omega)]
      have hr : rs ((x : Int) :: t) = some (x, 1) := by rw [rs, if_pos (by omega)]; simp
      have fin : ∃ v u e, some (((x % 128 : Nat) : Int), wrap64 (0 + 1), (0 : Int)) = some (v, u, e) ∧ RsP ((x : Int) :: t) v u e := by
        refine ⟨_, _, _, rfl, by omega, ?_⟩
        rw [hr]
        exact ⟨by omega, rs_w64 0 (by omega), rfl⟩
      by_cases h0 : x = 0
      · rw [if_pos (by omega), if_neg (by omega)]; exact fin
      · rw [if_neg (by omega)]; exact fin
    · rw [if_neg (by omega), show wrap64 (0 + 1) = ((1 : Nat) : Int) from rs_w64 0 (by omega), show IntKind.u64.wrap (1 * 128) = ((128 : Nat) : Int) from u64_of 128 (by omega)]
      have hr : rs ((x : Int) :: t) = rs2 (x : Int) t := by rw [rs, if_neg (by omega)]
      cases t with
      | nil =>
        rw [rickyardref04_ReadShort.l0, if_neg (by simp)]
        refine ⟨_, _, _, rfl, by omega, ?_⟩
        rw [hr, rs2]
        exact .inl (by decide)
      | cons c2 t =>
        have hcb2 := hB c2 (by simp)
        obtain ⟨y, rfl⟩ : ∃ y : Nat, c2 = (y : Int) := ⟨c2.toNat, by omega⟩
        have hy : y < 256 := by omega
        have r1 : rd ((x : Int) :: (y : Int) :: t) ((1 : Nat) : Int) = (y : Int) := rfl
        have hd1 := rs_digit y (x % 128) 128 hy (by omega)
        rw [rickyardref04_ReadShort.l0, if_pos (by simp only [List.length_cons]; omega), if_neg (by omega), rickyardref04_ReadShort.j1, if_neg (by decide), if_pos (by omega), if_pos (by simp only [List.length_cons]; omega), r1, hd1]
        by_cases h2 : y < 128
        · rw [if_pos (by omega)]
          by_cases h0 : y = 0
          · rw [if_pos (by omega), if_pos (by omega)]
            refine ⟨_, _, _, rfl, by omega, ?_⟩
            rw [hr, rs2, if_neg (by omega), if_pos (by omega)]
            exact .inl (by decide)
          · rw [if_neg (by omega), rs_w64 1 (by omega)]
            refine ⟨_, _, _, rfl, by omega, ?_⟩
            rw [hr, rs2, if_neg (by omega), if_neg (by omega)]
            by_cases h4 : ((x : Int) % 128).toNat + 128 * ((y : Int)).toNat ≤ 4096
            · rw [if_pos h4]
              exact ⟨by omega, rfl, rfl⟩
            · rw [if_neg h4]
              exact .inr (by omega)
        · rw [if_neg (by omega), rs_w64 1 (by omega), show ((128 : Nat) : Int) * 128 = ((16384 : Nat) : Int) by decide, u64_of _ (by omega)]
          obtain ⟨v, u, e, h1, h2', h3⟩ := rs_far ((x : Int) :: (y : Int) :: t) hB 7 2 (x % 128 + y % 128 * 128) (K + 25) (by omega) (by omega) (by omega) (by omega)
          refine ⟨v, u, e, h1, h2', ?_⟩
          rw [hr, rs2, if_pos (by omega)]
          exact h3
end Go.Proofs.Yticddiiigfkamaa.Pure
