/- Parameters []byte and [][]byte, opened. No conditions. -/
import Derived.Test.YtliafeandefocaaRowB1
import Derived.Deep.Matrix
import Derived.WalkKit
import Derived.ProofKit
import Derived.OpenShut
import Derived.ChangeOld
namespace Go.Proofs.Ytliafeandefocaa.P
open Go.ChangeShapes Go.WideShapes Go.ChangeAt Go.RowKit Go.Proofs.YtliafeandefocaaW.PrintWords
set_option linter.unusedVariables false
variable {H : Type} {enc : TypeId × Value → H} {w : World} {base : Nat}

theorem open_rows {r : Reach} {v : Value} {d : DataW H} {ps : List MemPlace} (hval : Value.okWide Try.prog w r base 22 v) (h0 : DataW.Trod enc Try.prog w 0 (fun _ => true) true 22 v d ps) :
    ∃ (A : Option Addr) (c : Nat) (l : List (List Int)), v = .slice A l.length c ∧ l.length ≤ c ∧ Kd.C (Kd.slice 5 (Kd.int .u8)) w A l.length l ∧ ∀ m ∈ l, ∀ x ∈ m, 0 ≤ x ∧ x < 256 := by
  obtain ⟨a0, len0, cap0, rfl⟩ := okWide_slice Try.underlying22 hval
  obtain ⟨fuel, hf⟩ := h0
  rcases Go.Deep.open_int_rows Try.underlying22 Try.underlying23 Try.underlying5 (by kernel_rfl) (by kernel_rfl) hf with ⟨hcs, _⟩ | ⟨x, len, cap, A, L, C, Z, hcs, _, hl, hm, _, hrow⟩
  · simp [Value.cells] at hcs
    obtain ⟨rfl, rfl, rfl⟩ := hcs
    exact ⟨none, 0, [], rfl, Nat.le_refl _, Kd.C_nil _ _, fun x hx => by cases hx⟩
  · simp [Value.cells] at hcs
    obtain ⟨rfl, rfl, rfl⟩ := hcs
    have e : ((List.range len0).map fun i => (Z i).take (L i)).length = len0 := by simp
    refine ⟨some x, cap0, (List.range len0).map fun i => (Z i).take (L i), by rw [e], by rw [e]; exact hl, ?_, ?_⟩
    · rw [e]
      refine ⟨e, by simp only [maxLen] at hm; omega, fun _ => ⟨_, rfl, fun j p hj => ?_⟩⟩
      simp only [List.getElem?_map, Option.map_eq_some_iff] at hj
      obtain ⟨i, hi, rfl⟩ := hj
      obtain ⟨h1, h2⟩ := List.getElem?_eq_some_iff.1 hi
      simp at h1 h2
      subst h2
      obtain ⟨c1, c2, c3, c4, c5, c6, c7⟩ := hrow j (by omega)
      have e2 : ((Z j).take (L j)).length = L j := by simp; omega
      refine ⟨[.slice (A j) (L j) (C j)], rfl, ⟨A j, C j, by rw [e2], by rw [e2]; exact c2, ?_⟩, fun i u hu => ?_⟩
      · rw [e2]
        cases hA : A j with
        | none =>
          have := c6 hA
          have h0 : L j = 0 := by omega
          rw [h0, List.take_zero]
          exact Kd.C_nil _ _
        | some a => exact C_of_cells (by omega) (by rw [c4]; simp only [maxLen] at c3; omega) (fun i hi => (c7 a hA).2 i (by omega))
      · cases i with
        | zero =>
          simp at hu
          subst hu
          show w.cell? (x.add (j * 1 + 0)) = _
          rw [Nat.mul_one, Nat.add_zero]
          exact c1
        | succ i => simp at hu
    · intro m hm'
      obtain ⟨i, hi, rfl⟩ := List.mem_map.1 hm'
      have := List.mem_range.1 hi
      exact take_bytes (hrow i (by omega)).2.2.2.2.1

end Go.Proofs.Ytliafeandefocaa.P
