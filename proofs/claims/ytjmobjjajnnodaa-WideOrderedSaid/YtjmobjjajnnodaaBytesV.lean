/- Eight bytes and their number, there and back. No conditions. -/
import Derived.Test.YtjmobjjajnnodaaBytes8
namespace Go.Proofs.Ytjmobjjajnnodaa.P
open Go.RowKit Go.Proofs.YtjmobjjajnnodaaW.PrintWords Go.Proofs.YtjmobjjajnnodaaW.PrintLast Go.Proofs.YtjmobjjajnnodaaW.PrintMore
set_option linter.unusedVariables false
set_option linter.unusedSimpArgs false

theorem by_drop {l : List Int} (h : IsBy l) (n : Nat) : IsBy (l.drop n) := fun x hx => h x (List.mem_of_mem_drop hx)
theorem by_take {l : List Int} (h : IsBy l) (n : Nat) : IsBy (l.take n) := fun x hx => h x (List.mem_of_mem_take hx)
/-- The number of eight bytes. -/
def v8 (m : List Int) : Nat := accB m 0 8
theorem v8_lt {m : List Int} (h : IsBy m) : v8 m < 18446744073709551616 := accB_lt h 0 8
theorem acc_hi (m : List Int) (h : m.length = 16) : accB m 8 8 = v8 (m.drop 8) := by
  have e : ∀ i, (m.drop 8).getD i 0 = m.getD (8 + i) 0 := fun i => by rw [List.getD_eq_getElem?_getD, List.getD_eq_getElem?_getD, List.getElem?_drop]
  unfold v8
  simp only [accB, e, Nat.zero_add]
theorem acc_lo (m : List Int) (h : m.length = 16) : accB m 0 8 = v8 (m.take 8) := by
  have e : ∀ i, i < 8 → (m.take 8).getD i 0 = m.getD i 0 := fun i hi => by rw [List.getD_eq_getElem?_getD, List.getD_eq_getElem?_getD, List.getElem?_take_of_lt hi]
  unfold v8
  simp only [accB, Nat.zero_add, e 0 (by decide), e 1 (by decide), e 2 (by decide), e 3 (by decide), e 4 (by decide), e 5 (by decide), e 6 (by decide), e 7 (by decide)]
theorem v8_lit (a b c d e f g k : Int) : v8 [a, b, c, d, e, f, g, k] = 256 * (256 * (256 * (256 * (256 * (256 * (256 * (256 * 0 + a.toNat) + b.toNat) + c.toNat) + d.toNat) + e.toNat) + f.toNat) + g.toNat) + k.toNat := by
  unfold v8
  simp only [accB]
  rfl
theorem by_cut {x : Int} (h : 0 ≤ x ∧ x < 256) : ∃ n : Nat, x = n ∧ n < 256 := ⟨x.toNat, by omega, by omega⟩
theorem e8_v8_lit (a b c d e f g k : Int) (h : IsBy [a, b, c, d, e, f, g, k]) : e8 (v8 [a, b, c, d, e, f, g, k]) = [a, b, c, d, e, f, g, k] := by
  obtain ⟨a, rfl, ha⟩ := by_cut (h a (by simp))
  obtain ⟨b, rfl, hb⟩ := by_cut (h b (by simp))
  obtain ⟨c, rfl, hc⟩ := by_cut (h c (by simp))
  obtain ⟨d, rfl, hd⟩ := by_cut (h d (by simp))
  obtain ⟨e, rfl, he⟩ := by_cut (h e (by simp))
  obtain ⟨f, rfl, hf⟩ := by_cut (h f (by simp))
  obtain ⟨g, rfl, hg⟩ := by_cut (h g (by simp))
  obtain ⟨k, rfl, hk⟩ := by_cut (h k (by simp))
  clear h
  rw [v8_lit, e8_lit]
  simp only [Int.toNat_natCast]
  exact cons_eq (by omega) (cons_eq (by omega) (cons_eq (by omega) (cons_eq (by omega) (cons_eq (by omega) (cons_eq (by omega) (cons_eq (by omega) (cons_eq (by omega) rfl)))))))
theorem e8_v8 {m : List Int} (h : IsBy m) (hl : m.length = 8) : e8 (v8 m) = m := by
  rcases m with _ | ⟨a, m⟩; · cases hl
  rcases m with _ | ⟨b, m⟩; · cases hl
  rcases m with _ | ⟨c, m⟩; · cases hl
  rcases m with _ | ⟨d, m⟩; · cases hl
  rcases m with _ | ⟨e, m⟩; · cases hl
  rcases m with _ | ⟨f, m⟩; · cases hl
  rcases m with _ | ⟨g, m⟩; · cases hl
  rcases m with _ | ⟨k, m⟩; · cases hl
  rcases m with _ | ⟨z, m⟩
  · exact e8_v8_lit a b c d e f g k h
  · simp at hl
theorem v8_e8 {n : Nat} (h : n < 18446744073709551616) : v8 (e8 n) = n := by
  rw [e8_lit]
  rw [v8_lit]
  simp only [Int.toNat_natCast]
  omega
theorem e8_by (n : Nat) : IsBy (e8 n) := by
  intro x hx
  unfold e8 at hx
  obtain ⟨j, _, rfl⟩ := List.mem_map.1 hx
  omega


theorem u64_wrap64 {n : Nat} (h : n < 18446744073709551616) : (IntKind.u64.wrap (wrap64 (n : Int))).toNat = n := by rw [IntKind.wrap_u64]; unfold wrap64; omega
theorem wrap64_u64 {x : Int} (h : -9223372036854775808 ≤ x) (h2 : x < 9223372036854775808) : wrap64 (((IntKind.u64.wrap x).toNat : Nat) : Int) = x := by rw [IntKind.wrap_u64]; unfold wrap64; omega
theorem u64_rng (x : Int) : 0 ≤ IntKind.u64.wrap x ∧ IntKind.u64.wrap x < 18446744073709551616 := by rw [IntKind.wrap_u64]; omega
/-- A number's bytes are read as it. -/
theorem read_write (a0 a1 : Int) (h0 : 0 ≤ a1) (h1 : a1 < 18446744073709551616) (h2 : -9223372036854775808 ≤ a0) (h3 : a0 < 9223372036854775808) : wide_Read.f (wl a0 a1 8) = some (a0, a1, 0) := by
  have hlen := wl_len a0 a1 8
  have hr := u64_rng a0
  have hb : IsBy (wl a0 a1 8) := by
    rw [wl_e8 a0 a1 h0 h1]
    intro x hx
    rcases List.mem_append.1 hx with h | h
    · exact e8_by _ x h
    · exact e8_by _ x h
  unfold wide_Read.f
  rw [if_neg (by omega), if_neg (by omega), if_pos hb, acc_hi _ hlen, acc_lo _ hlen, wl_e8 a0 a1 h0 h1]
  rw [List.take_append_of_le_length (by rw [e8_len]; exact Nat.le_refl _), List.take_of_length_le (by rw [e8_len]; exact Nat.le_refl _), List.drop_append_of_le_length (by rw [e8_len]; exact Nat.le_refl _), List.drop_of_length_le (by rw [e8_len]; exact Nat.le_refl _), List.nil_append]
  rw [v8_e8 (by omega), v8_e8 (by omega), wrap64_u64 h2 h3]
  rw [show ((a1.toNat : Nat) : Int) = a1 by omega]
/-- What is read is written so. -/
theorem write_read {l : List Int} (hb : IsBy l) {q0 q1 : Int} (h : wide_Read.f l = some (q0, q1, 0)) : (0 ≤ q1 ∧ q1 < 18446744073709551616) ∧ wl q0 q1 8 = l := by
  unfold wide_Read.f at h
  by_cases c1 : l.length < 16
  · rw [if_pos c1] at h; simp at h
  rw [if_neg c1] at h
  by_cases c2 : 16 < l.length
  · rw [if_pos c2] at h; simp at h
  rw [if_neg c2, if_pos hb] at h
  have hlen : l.length = 16 := by omega
  simp only [Option.some.injEq, Prod.mk.injEq, and_true] at h
  obtain ⟨rfl, rfl⟩ := h
  rw [acc_hi _ hlen, acc_lo _ hlen]
  have k1 := v8_lt (by_take hb 8)
  have k2 := v8_lt (by_drop hb 8)
  refine ⟨⟨by omega, by omega⟩, ?_⟩
  rw [wl_e8 _ _ (by omega) (by omega), u64_wrap64 k1, Int.toNat_natCast, e8_v8 (by_take hb 8) (by simp [hlen]), e8_v8 (by_drop hb 8) (by simp [hlen]), List.take_append_drop]
end Go.Proofs.Ytjmobjjajnnodaa.P
