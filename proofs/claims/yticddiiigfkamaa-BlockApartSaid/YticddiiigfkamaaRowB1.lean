/- Parameters []byte, opened. No conditions. -/
import Derived.Test.YticddiiigfkamaaPx0
import Derived.Deep.Matrix
import Derived.WalkKit
import Derived.ProofKit
import Derived.OpenShut
import Derived.ChangeOld
namespace Go.Proofs.Yticddiiigfkamaa.P
open Go.ChangeShapes Go.WideShapes Go.ChangeAt Go.RowKit Go.Proofs.YticddiiigfkamaaW.PrintWords
set_option linter.unusedVariables false
variable {H : Type} {enc : TypeId × Value → H} {w : World} {base : Nat}

theorem C_of_cells {x : Addr} {zs : List Int} {n : Nat} (hn : n ≤ zs.length) (hm : zs.length ≤ 9223372036854775807) (hc : ∀ i, i < zs.length → w.cell? (x.add i) = some (.int .u8 (zs.getD i 0))) :
    Kd.C (Kd.int .u8) w (some x) n (zs.take n) := by
  refine ⟨by simp; omega, by omega, fun _ => ⟨_, rfl, fun j p hj => ⟨[.int .u8 p], rfl, rfl, fun i u hu => ?_⟩⟩⟩
  have hi : i = 0 ∧ u = .int .u8 p := by
    cases i with
    | zero => simp at hu; exact ⟨rfl, hu.symm⟩
    | succ i => simp at hu
  obtain ⟨rfl, rfl⟩ := hi
  obtain ⟨h1, h2⟩ := List.getElem?_eq_some_iff.1 hj
  have h3 : j < zs.length := by simp at h1; omega
  have h4 := hc j h3
  rw [List.getElem_take] at h2
  rw [List.getD_eq_getElem?_getD, List.getElem?_eq_getElem h3, h2] at h4
  show w.cell? (x.add (j * 1 + 0)) = _
  rw [Nat.mul_one, Nat.add_zero]
  exact h4
theorem take_bytes {zs : List Int} {n : Nat} (h : ∀ x ∈ zs, (Lit.int .u8 x).wf = true) : ∀ x ∈ zs.take n, 0 ≤ x ∧ x < 256 := fun x hx => by
  have := h x (List.mem_of_mem_take hx)
  simp [Lit.wf, IntKind.min, IntKind.max, IntKind.signed, IntKind.bits] at this
  omega

theorem open_bytes {r : Reach} {v : Value} {d : DataW H} {ps : List MemPlace} (hval : Value.okWide Try.prog w r base 23 v) (h0 : DataW.Trod enc Try.prog w 0 (fun _ => true) true 23 v d ps) :
    ∃ (A : Option Addr) (c : Nat) (l : List Int), v = .slice A l.length c ∧ l.length ≤ c ∧ Kd.C (Kd.int .u8) w A l.length l ∧ ∀ x ∈ l, 0 ≤ x ∧ x < 256 := by
  obtain ⟨a0, len0, cap0, rfl⟩ := okWide_slice Try.underlying23 hval
  obtain ⟨fuel, hf⟩ := h0
  rcases open_ints Try.underlying23 Try.underlying5 (by kernel_rfl) hf with ⟨hcs, _⟩ | ⟨x, l, c, zs, hcs, _, hl, hm, hz, _, hcell, hwz⟩
  · simp [Value.cells] at hcs
    obtain ⟨rfl, rfl, rfl⟩ := hcs
    exact ⟨none, 0, [], rfl, Nat.le_refl _, Kd.C_nil _ _, fun x hx => by cases hx⟩
  · simp [Value.cells] at hcs
    obtain ⟨rfl, rfl, rfl⟩ := hcs
    simp only [if_true] at hz
    have e : (zs.take len0).length = len0 := by simp; omega
    refine ⟨some x, cap0, zs.take len0, by rw [e], by rw [e]; exact hl, by rw [e]; exact C_of_cells (by omega) (by rw [hz]; simpa [maxLen] using hm) hcell, take_bytes hwz⟩

end Go.Proofs.Yticddiiigfkamaa.P
