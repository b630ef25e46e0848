/- BlockWrites, in plain Lean, and its walk. No conditions. -/
import Derived.Test.YticddiiigfkamaaBkRefWrite
import Derived.Test.YticddiiigfkamaaBkPureW
import Derived.Test.YticddiiigfkamaaPrickyardlaw09BlockWrites
namespace Go.Proofs.Yticddiiigfkamaa.Pure
open Go.RowKit Go.Proofs.Yticddiiigfkamaa.P Go.Proofs.YticddiiigfkamaaW.PrintWords Go.Proofs.YticddiiigfkamaaW.PrintLast
set_option linter.unusedVariables false
set_option linter.unusedSimpArgs false

theorem refWrite_back (l : List Pr) : rickyardref09_Write.f (l.map a47) = block_Write.f l := by
  unfold rickyardref09_Write.f
  rw [List.map_map]
  congr 1
  exact List.map_id'' (fun _ => rfl) l
theorem bw_j0 (K : Nat) (l : List Pr) (a c : List Int) (x : Bool) (hl : x = true ∨ (l.length ≤ 5000 ∧ a.length ≤ 1000)) (hK : 20000 ≤ K) : rickyardlaw09_BlockWrites.j0 (K + 1) l a c x = some true := by
  rw [rickyardlaw09_BlockWrites.j0]
  cases x with
  | true => rw [if_pos rfl]; rfl
  | false =>
    have hl : l.length ≤ 5000 ∧ a.length ≤ 1000 := by rcases hl with h | h; cases h; exact h
    rw [if_neg (by decide)]
    obtain ⟨r, hr⟩ : ∃ r, block_Write.f l = some r := ⟨_, rfl⟩
    rw [hr, as_f l hl.1 K (by omega)]
    simp only [Option.bind_some]
    rw [refWrite_back, hr, rickyardlaw09_alive.f]
    simp only [Option.bind_some]
    rw [if_pos trivial, if_pos trivial, if_pos trivial, common_f a c (by omega) K (by omega), refCommon_f a c K (by omega) (by omega)]
    simp
theorem BlockWrites_f (l : List Pr) (a c : List Int) : rickyardlaw09_BlockWrites.f (l.length + 20001) l a c = some true := by
  unfold rickyardlaw09_BlockWrites.f
  have ht : ∀ x, (x = true ∨ (l.length ≤ 5000 ∧ a.length ≤ 1000)) → rickyardlaw09_BlockWrites.j0 (l.length + 20001) l a c x = some true := fun x hx => bw_j0 (l.length + 20000) l a c x hx (by omega)
  rcases great_f l (l.length + 20001) (by omega) with h | ⟨hl, g, h⟩
  · rw [h]; exact ht true (.inl rfl)
  · rw [h]
    simp only [Option.bind_some]
    cases g with
    | true => exact ht true (.inl rfl)
    | false =>
      rw [if_neg (by decide)]
      by_cases ha : (a.length : Int) > 1000
      · rw [if_pos ha]; exact ht true (.inl rfl)
      · rw [if_neg ha]; exact ht _ (.inr ⟨hl, by omega⟩)
theorem BlockWrites_walk (A0 : Option Addr) (c0 : Nat) (l0 : List Pr) (A1 : Option Addr) (c1 : Nat) (l1 : List Int) (A2 : Option Addr) (c2 : Nat) (l2 : List Int) (W : World) (hr0 : Kd.C k39 W A0 l0.length l0) (hc0 : l0.length ≤ c0) (hb0 : ∀ p ∈ l0, (∀ x ∈ p.f0, 0 ≤ x ∧ x < 256) ∧ ∀ x ∈ p.f1, 0 ≤ x ∧ x < 256)
    (hr1 : Kd.C (Kd.int .u8) W A1 l1.length l1) (hc1 : l1.length ≤ c1) (hb1 : ∀ x ∈ l1, 0 ≤ x ∧ x < 256) (hr2 : Kd.C (Kd.int .u8) W A2 l2.length l2) (hc2 : l2.length ≤ c2) (hb2 : ∀ x ∈ l2, 0 ≤ x ∧ x < 256) :
    Calls Try.prog 3 #[.slice A0 l0.length c0, .slice A1 l1.length c1, .slice A2 l2.length c2] W fun e w' => e = .returned (.bool true) ∧ Below W.heap.size W w' :=
  rickyardlaw09_BlockWrites.calls _ A0 c0 l0 A1 c1 l1 A2 c2 l2 true W hr0 hc0 hr1 hc1 hr2 hc2 (BlockWrites_f l0 l1 l2) rfl
end Go.Proofs.Yticddiiigfkamaa.Pure
