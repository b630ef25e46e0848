/- BlockBack, in plain Lean, and its walk. No conditions. -/
import Derived.Test.YticddiiigfkamaaBkPureR
import Derived.Test.YticddiiigfkamaaBkPureW
import Derived.Test.YticddiiigfkamaaPrickyardlaw09BlockBack
namespace Go.Proofs.Yticddiiigfkamaa.Pure
open Go.RowKit Go.Proofs.Yticddiiigfkamaa.P Go.Proofs.YticddiiigfkamaaW.PrintWords Go.Proofs.YticddiiigfkamaaW.PrintLast
set_option linter.unusedVariables false
set_option linter.unusedSimpArgs false

theorem bb_end (k : Nat) (b : List Int) (hB : ∀ x ∈ b, 0 ≤ x ∧ x < 256) :
    ((block_Read.f b).bind fun bt244 => ((block_Write.f bt244.1).bind fun bt248 => ((rickyardlaw09_alive.f).bind fun t252 => (if t252 = true then (if bt244.2 = 0 then (if bt248.2 = 0 then (some ((strOfNums bt248.1).toList == (strOfNums b).toList)) else (some false)) else (some true)) else (some false))))) = some true := by
  obtain ⟨m, f, hr⟩ := read_bad b hB
  rw [hr, rickyardlaw09_alive.f]
  simp only [Option.bind_some]
  by_cases hf : f = 0
  · rw [hf] at hr
    rw [write_read b hB hr]
    simp only [Option.bind_some]
    simp [hf]
  · obtain ⟨x, hx⟩ : ∃ x, block_Write.f m = some x := ⟨_, rfl⟩
    rw [hx]
    simp only [Option.bind_some]
    simp [hf]
theorem bb_j1 (k : Nat) (b : List Int) (hB : ∀ x ∈ b, 0 ≤ x ∧ x < 256) : rickyardlaw09_BlockBack.j1 (k + 1) b false = some true := by
  rw [rickyardlaw09_BlockBack.j1, if_neg (by decide)]
  exact bb_end k b hB
theorem bb_j0 (k : Nat) (l : List Pr) (b : List Int) (x : Bool) (hl : x = true ∨ l.length ≤ 5000) (hk : l.length < k + 1) (hB : ∀ x ∈ b, 0 ≤ x ∧ x < 256) (hL : ∀ p ∈ l, (∀ x ∈ p.f0, 0 ≤ x ∧ x < 256) ∧ ∀ x ∈ p.f1, 0 ≤ x ∧ x < 256) : rickyardlaw09_BlockBack.j0 (k + 1 + 1) l b x = some true := by
  rw [rickyardlaw09_BlockBack.j0]
  cases x with
  | true => rw [if_pos rfl]; rfl
  | false =>
    have hl : l.length ≤ 5000 := by rcases hl with h | h; cases h; exact h
    rw [if_neg (by decide), show block_Write.f l = some (if rightE l = 0 then (encTo l l.length, 0) else ([], rightE l)) from rfl]
    simp only [Option.bind_some]
    by_cases hr : rightE l = 0
    · rw [if_pos hr, if_pos rfl, read_write l hr hL]
      simp only [Option.bind_some]
      rw [if_pos trivial, as_f l hl _ hk]
      simp only [Option.bind_some]
      rw [same_f l hl _ hk]
      simp only [Option.bind_some]
      exact bb_j1 k b hB
    · rw [if_neg hr, if_neg hr]
      exact bb_end k b hB
theorem BlockBack_f (l : List Pr) (b : List Int) (hB : ∀ x ∈ b, 0 ≤ x ∧ x < 256) (hL : ∀ p ∈ l, (∀ x ∈ p.f0, 0 ≤ x ∧ x < 256) ∧ ∀ x ∈ p.f1, 0 ≤ x ∧ x < 256) : rickyardlaw09_BlockBack.f (l.length + 1 + 1) l b = some true := by
  unfold rickyardlaw09_BlockBack.f
  rcases great_f l (l.length + 1 + 1) (by omega) with h | ⟨hl, g, h⟩
  · rw [h]
    simp only [Option.bind_some]
    rw [if_pos trivial]
    exact bb_j0 l.length l b true (.inl rfl) (by omega) hB hL
  · rw [h]
    simp only [Option.bind_some]
    cases g with
    | true => rw [if_pos rfl]; exact bb_j0 l.length l b true (.inl rfl) (by omega) hB hL
    | false => rw [if_neg (by decide)]; exact bb_j0 l.length l b _ (.inr hl) (by omega) hB hL
theorem BlockBack_walk (A0 : Option Addr) (c0 : Nat) (l0 : List Pr) (A1 : Option Addr) (c1 : Nat) (l1 : List Int) (W : World) (hr0 : Kd.C k39 W A0 l0.length l0) (hc0 : l0.length ≤ c0) (hb0 : ∀ p ∈ l0, (∀ x ∈ p.f0, 0 ≤ x ∧ x < 256) ∧ ∀ x ∈ p.f1, 0 ≤ x ∧ x < 256)
    (hr1 : Kd.C (Kd.int .u8) W A1 l1.length l1) (hc1 : l1.length ≤ c1) (hb1 : ∀ x ∈ l1, 0 ≤ x ∧ x < 256) :
    Calls Try.prog 4 #[.slice A0 l0.length c0, .slice A1 l1.length c1] W fun e w' => e = .returned (.bool true) ∧ Below W.heap.size W w' :=
  rickyardlaw09_BlockBack.calls _ A0 c0 l0 A1 c1 l1 true W hr0 hc0 hr1 hc1 (BlockBack_f l0 l1 hb1 hb0) rfl
end Go.Proofs.Yticddiiigfkamaa.Pure
