/- A parameter []block.Pair, opened. No conditions. -/
import Derived.Test.YticddiiigfkamaaRowB1
import Derived.Test.YticddiiigfkamaaBkRight
import Derived.Deep.SlicePairs
import Derived.WalkKit
import Derived.ProofKit
import Derived.OpenShut
import Derived.ChangeOld
namespace Go.Proofs.Yticddiiigfkamaa.P
open Go.ChangeShapes Go.WideShapes Go.ChangeAt Go.RowKit Go.Proofs.YticddiiigfkamaaW.PrintWords
set_option linter.unusedVariables false
variable {H : Type} {enc : TypeId × Value → H} {w : World} {base : Nat}

/-- One []byte cell. -/
theorem open_b1 {fuel : Nat} {v : Value} {y : DataW H × List MemPlace} (h : DataW.trod enc Try.prog w 0 (fun _ => true) true fuel 23 [v] = some y) :
    ∃ (A : Option Addr) (c : Nat) (l : List Int), v = .slice A l.length c ∧ l.length ≤ c ∧ Kd.C (Kd.int .u8) w A l.length l ∧ ∀ x ∈ l, 0 ≤ x ∧ x < 256 := by
  rcases open_ints Try.underlying23 Try.underlying5 (by kernel_rfl) h with ⟨hcs, _⟩ | ⟨x, len0, cap0, zs, hcs, _, hl, hm, hz, _, hcell, hwz⟩
  · simp only [List.cons.injEq, and_true] at hcs
    subst hcs
    exact ⟨none, 0, [], rfl, Nat.le_refl _, Kd.C_nil _ _, fun x hx => by cases hx⟩
  · simp only [List.cons.injEq, and_true] at hcs
    subst hcs
    simp only [if_true] at hz
    have e : (zs.take len0).length = len0 := by simp; omega
    refine ⟨some x, cap0, zs.take len0, by rw [e], by rw [e]; exact hl, by rw [e]; exact C_of_cells (by omega) (by rw [hz]; simpa [maxLen] using hm) hcell, take_bytes hwz⟩

theorem open_pairs {r : Reach} {v : Value} {d : DataW H} {ps : List MemPlace} (hval : Value.okWide Try.prog w r base 22 v) (h0 : DataW.Trod enc Try.prog w 0 (fun _ => true) true 22 v d ps) :
    ∃ (A : Option Addr) (c : Nat) (l : List Pr), v = .slice A l.length c ∧ l.length ≤ c ∧ Kd.C k39 w A l.length l ∧ ∀ p ∈ l, (∀ x ∈ p.f0, 0 ≤ x ∧ x < 256) ∧ ∀ x ∈ p.f1, 0 ≤ x ∧ x < 256 := by
  obtain ⟨a0, len0, cap0, rfl⟩ := okWide_slice Try.underlying22 hval
  obtain ⟨fuel, hf⟩ := h0
  rcases Go.Deep.open_slice_pairs Try.underlying22 Try.underlying39 (by kernel_rfl) rfl rfl (by kernel_rfl) (by kernel_rfl) hf with ⟨hcs, _⟩ | ⟨x, len, cap, m, n, V0, V1, D0, D1, P0, P1, hcs, _, hl, hm, hmm, _, hrow⟩
  · simp [Value.cells] at hcs
    obtain ⟨rfl, rfl, rfl⟩ := hcs
    exact ⟨none, 0, [], rfl, Nat.le_refl _, Kd.C_nil _ _, fun x hx => by cases hx⟩
  · simp [Value.cells] at hcs
    obtain ⟨rfl, rfl, rfl⟩ := hcs
    simp only [if_true] at hmm
    rw [hmm] at hrow
    have each : ∀ i, i < len0 → ∃ q : Pr, ∃ A0 c0 A1 c1, w.cell? (x.add (i * 2)) = some (.slice A0 q.f0.length c0) ∧ w.cell? (x.add (i * 2 + 1)) = some (.slice A1 q.f1.length c1) ∧ q.f0.length ≤ c0 ∧ Kd.C (Kd.int .u8) w A0 q.f0.length q.f0 ∧ q.f1.length ≤ c1 ∧ Kd.C (Kd.int .u8) w A1 q.f1.length q.f1 ∧ (∀ x ∈ q.f0, 0 ≤ x ∧ x < 256) ∧ ∀ x ∈ q.f1, 0 ≤ x ∧ x < 256 := by
      intro i hi
      obtain ⟨e0, e1, t0, t1⟩ := hrow i (by omega)
      obtain ⟨A0, c0, l0, hv0, hc0, hC0, hB0⟩ := open_b1 t0
      obtain ⟨A1, c1, l1, hv1, hc1, hC1, hB1⟩ := open_b1 t1
      exact ⟨⟨l0, l1⟩, A0, c0, A1, c1, by rw [e0, hv0], by rw [e1, hv1], hc0, hC0, hc1, hC1, hB0, hB1⟩
    haveI : Inhabited Pr := ⟨⟨[], []⟩⟩
    obtain ⟨q, hq⟩ := Go.Deep.choose_lt each
    have e : ((List.range len0).map q).length = len0 := by simp
    refine ⟨some x, cap0, (List.range len0).map q, by rw [e], by rw [e]; exact hl, ?_, ?_⟩
    · rw [e]
      refine ⟨e, by simp only [maxLen] at hm; omega, fun _ => ⟨_, rfl, fun j p hj => ?_⟩⟩
      simp only [List.getElem?_map, Option.map_eq_some_iff] at hj
      obtain ⟨i, hi, rfl⟩ := hj
      obtain ⟨h1, h2⟩ := List.getElem?_eq_some_iff.1 hi
      simp at h1 h2
      subst h2
      obtain ⟨A0, c0, A1, c1, e0, e1, hc0, hC0, hc1, hC1, _, _⟩ := hq j (by omega)
      refine ⟨[.slice A0 (q j).f0.length c0, .slice A1 (q j).f1.length c1], rfl, k39_mk w (q j) hc0 hC0 hc1 hC1, fun i u hu => ?_⟩
      match i, hu with
      | 0, hu =>
        simp at hu
        subst hu
        exact e0
      | 1, hu =>
        simp at hu
        subst hu
        exact e1
      | i + 2, hu => simp at hu
    · intro p hp
      obtain ⟨i, hi, rfl⟩ := List.mem_map.1 hp
      have hi := List.mem_range.1 hi
      obtain ⟨A0, c0, A1, c1, _, _, _, _, _, _, h0, h1⟩ := hq i hi
      exact ⟨h0, h1⟩

end Go.Proofs.Yticddiiigfkamaa.P
