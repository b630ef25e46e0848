/- Parameters []byte and [][]byte, opened. No conditions. -/
import Derived.Test.YthdkcfobhofmpaaPx0
import Derived.Deep.Matrix
import Derived.WalkKit
import Derived.ProofKit
import Derived.OpenShut
import Derived.ChangeOld
namespace Go.Proofs.Ythdkcfobhofmpaa.P
open Go.ChangeShapes Go.WideShapes Go.ChangeAt Go.RowKit Go.Proofs.YthdkcfobhofmpaaW.PrintWords
set_option linter.unusedVariables false
variable {H : Type} {enc : TypeId × Value → H} {w : World} {base : Nat}

theorem C_of_cells {x : Addr} {zs : List Int} {n : Nat} (hn : n ≤ zs.length) (hm : zs.length ≤ 9223372036854775807) (hc : ∀ i, i < zs.length → w.cell? (x.add i) = some (.int .u8 (zs.getD i 0))) :
    Kd.C (Kd.int .u8) w (some x) n (zs.take n) := by
  refine ⟨by simp; omega, by omega, fun _ => ⟨_, rfl, fun j p hj => ⟨[.int .u8 p], rfl, rfl, fun i u hu => ?_⟩⟩⟩
  have hi : i = 0 ∧ u = .int .u8 p := by
    cases i with
    | zero => simp at hu; exact ⟨rfl, hu.symm⟩
    | succ i => simp at hu
  obtain ⟨rfl, rfl⟩ := hi
  obtain ⟨h1, h2⟩ := List.getElem?_eq_some_iff.1 hj
  have h3 : j < zs.length := by simp at h1; omega
  have h4 := hc j h3
  rw [List.getElem_take] at h2
  rw [List.getD_eq_getElem?_getD, List.getElem?_eq_getElem h3, h2] at h4
  show w.cell? (x.add (j * 1 + 0)) = _
  rw [Nat.mul_one, Nat.add_zero]
  exact h4
theorem take_bytes {zs : List Int} {n : Nat} (h : ∀ x ∈ zs, (Lit.int .u8 x).wf = true) : ∀ x ∈ zs.take n, 0 ≤ x ∧ x < 256 := fun x hx => by
  have := h x (List.mem_of_mem_take hx)
  simp [Lit.wf, IntKind.min, IntKind.max, IntKind.signed, IntKind.bits] at this
  omega

theorem open_bytes {r : Reach} {v : Value} {d : DataW H} {ps : List MemPlace} (hval : Value.okWide Try.prog w r base 22 v) (h0 : DataW.Trod enc Try.prog w 0 (fun _ => true) true 22 v d ps) :
    ∃ (A : Option Addr) (c : Nat) (l : List Int), v = .slice A l.length c ∧ l.length ≤ c ∧ Kd.C (Kd.int .u8) w A l.length l ∧ ∀ x ∈ l, 0 ≤ x ∧ x < 256 := by
  obtain ⟨a0, len0, cap0, rfl⟩ := okWide_slice Try.underlying22 hval
  obtain ⟨fuel, hf⟩ := h0
  rcases open_ints Try.underlying22 Try.underlying5 (by kernel_rfl) hf with ⟨hcs, _⟩ | ⟨x, l, c, zs, hcs, _, hl, hm, hz, _, hcell, hwz⟩
  · simp [Value.cells] at hcs
    obtain ⟨rfl, rfl, rfl⟩ := hcs
    exact ⟨none, 0, [], rfl, Nat.le_refl _, Kd.C_nil _ _, fun x hx => by cases hx⟩
  · simp [Value.cells] at hcs
    obtain ⟨rfl, rfl, rfl⟩ := hcs
    simp only [if_true] at hz
    have e : (zs.take len0).length = len0 := by simp; omega
    refine ⟨some x, cap0, zs.take len0, by rw [e], by rw [e]; exact hl, by rw [e]; exact C_of_cells (by omega) (by rw [hz]; simpa [maxLen] using hm) hcell, take_bytes hwz⟩

theorem open_rows {r : Reach} {v : Value} {d : DataW H} {ps : List MemPlace} (hval : Value.okWide Try.prog w r base 38 v) (h0 : DataW.Trod enc Try.prog w 0 (fun _ => true) true 38 v d ps) :
    ∃ (A : Option Addr) (c : Nat) (l : List (List Int)), v = .slice A l.length c ∧ l.length ≤ c ∧ Kd.C (Kd.slice 5 (Kd.int .u8)) w A l.length l ∧ ∀ m ∈ l, ∀ x ∈ m, 0 ≤ x ∧ x < 256 := by
  obtain ⟨a0, len0, cap0, rfl⟩ := okWide_slice Try.underlying38 hval
  obtain ⟨fuel, hf⟩ := h0
  rcases Go.Deep.open_int_rows Try.underlying38 Try.underlying22 Try.underlying5 (by kernel_rfl) (by kernel_rfl) hf with ⟨hcs, _⟩ | ⟨x, len, cap, A, L, C, Z, hcs, _, hl, hm, _, hrow⟩
  · simp [Value.cells] at hcs
    obtain ⟨rfl, rfl, rfl⟩ := hcs
    exact ⟨none, 0, [], rfl, Nat.le_refl _, Kd.C_nil _ _, fun x hx => by cases hx⟩
  · simp [Value.cells] at hcs
    obtain ⟨rfl, rfl, rfl⟩ := hcs
    have e : ((List.range len0).map fun i => (Z i).take (L i)).length = len0 := by simp
    refine ⟨some x, cap0, (List.range len0).map fun i => (Z i).take (L i), by rw [e], by rw [e]; exact hl, ?_, ?_⟩
    · rw [e]
      refine ⟨e, by simp only [maxLen] at hm; omega, fun _ => ⟨_, rfl, fun j p hj => ?_⟩⟩
      simp only [List.getElem?_map, Option.map_eq_some_iff] at hj
      obtain ⟨i, hi, rfl⟩ := hj
      obtain ⟨h1, h2⟩ := List.getElem?_eq_some_iff.1 hi
      simp at h1 h2
      subst h2
      obtain ⟨c1, c2, c3, c4, c5, c6, c7⟩ := hrow j (by omega)
      have e2 : ((Z j).take (L j)).length = L j := by simp; omega
      refine ⟨[.slice (A j) (L j) (C j)], rfl, ⟨A j, C j, by rw [e2], by rw [e2]; exact c2, ?_⟩, fun i u hu => ?_⟩
      · rw [e2]
        cases hA : A j with
        | none =>
          have := c6 hA
          have h0 : L j = 0 := by omega
          rw [h0, List.take_zero]
          exact Kd.C_nil _ _
        | some a => exact C_of_cells (by omega) (by rw [c4]; simp only [maxLen] at c3; omega) (fun i hi => (c7 a hA).2 i (by omega))
      · cases i with
        | zero =>
          simp at hu
          subst hu
          show w.cell? (x.add (j * 1 + 0)) = _
          rw [Nat.mul_one, Nat.add_zero]
          exact c1
        | succ i => simp at hu
    · intro m hm'
      obtain ⟨i, hi, rfl⟩ := List.mem_map.1 hm'
      have := List.mem_range.1 hi
      exact take_bytes (hrow i (by omega)).2.2.2.2.1

end Go.Proofs.Ythdkcfobhofmpaa.P
