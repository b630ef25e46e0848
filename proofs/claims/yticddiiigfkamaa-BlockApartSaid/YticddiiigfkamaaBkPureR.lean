/- There and back: what Write writes is read again. No conditions. -/
import Derived.Test.YticddiiigfkamaaBkRead
import Derived.Test.YticddiiigfkamaaBkWrite
namespace Go.Proofs.Yticddiiigfkamaa.Pure
open Go.RowKit Go.Proofs.Yticddiiigfkamaa.P Go.Proofs.YticddiiigfkamaaW.PrintWords Go.Proofs.YticddiiigfkamaaW.PrintLast
set_option linter.unusedVariables false
set_option linter.unusedSimpArgs false

theorem rs_short (n : Nat) (h : n ≤ 4096) (t : List Int) : rs (shortL n ++ t) = some (n, (shortL n).length) := by
  unfold shortL
  by_cases h1 : n < 128
  · rw [if_pos h1]
    show rs ((n : Int) :: t) = _
    rw [rs, if_pos (by omega)]
    simp
  · rw [if_neg h1]
    show rs (((n % 128 + 128 : Nat) : Int) :: ((n / 128 : Nat) : Int) :: t) = _
    rw [rs, if_neg (by omega), rs2, if_neg (by omega), if_neg (by omega)]
    have e : (((n % 128 + 128 : Nat) : Int) % 128).toNat + 128 * (((n / 128 : Nat) : Int)).toNat = n := by omega
    rw [if_pos (by omega), e]
    rfl
theorem rdK_short {k : Nat} {b : List Int} {ns : List Nat} {n : Nat} {t : List Int} (h : rdK k b = some (ns, shortL n ++ t)) (hn : n ≤ 4096) : rdK (k + 1) b = some (ns ++ [n], t) := by
  rw [rdK_go h (rs_short n hn t), List.drop_left]
theorem rdK_three (a b c : Nat) (ha : a ≤ 4096) (hb : b ≤ 4096) (hc : c ≤ 4096) (t : List Int) : rdK 3 (shortL a ++ (shortL b ++ (shortL c ++ t))) = some ([a, b, c], t) :=
  rdK_short (k := 2) (ns := [a, b]) (rdK_short (k := 1) (ns := [a]) (rdK_short (k := 0) (ns := []) rfl ha) hb) hc
theorem cmn_takeN : ∀ (a b : List Int) (n : Nat), n ≤ cmn a b → a.take n = b.take n
  | [], _, n, h => by simp [cmn] at h; subst h; simp
  | _ :: _, [], n, h => by simp [cmn] at h; subst h; simp
  | x :: a, y :: b, n, h => by
    rw [cmn] at h
    by_cases e : x = y
    · rw [if_pos e] at h
      cases n with
      | zero => simp
      | succ n => rw [List.take_succ_cons, List.take_succ_cons, e, cmn_takeN a b n (by omega)]
    · rw [if_neg e] at h
      obtain rfl : n = 0 := by omega
      simp
theorem next_enc (p : Pr) (place : Nat) (last t : List Int) (h0 : p.f0.length ≤ 4096) (h1 : p.f1.length ≤ 4096) (hlt : 0 < place → cmpI last p.f0 < 0) : nextS (encP (cnAt place last p) p ++ t) place last = some (p, t) := by
  obtain ⟨n, hn⟩ : ∃ n, cnAt place last p = n := ⟨_, rfl⟩
  rw [hn]
  have hn0 : n ≤ p.f0.length := by rw [← hn]; exact cnAt_le _ _ _
  have hn1 : n ≤ last.length := by rw [← hn]; unfold cnAt; split; exact Nat.zero_le _; exact (cmn_le _ _).1
  have htk : last.take n = p.f0.take n := by
    rw [← hn]; unfold cnAt
    split
    · simp
    · exact cmn_takeN _ _ _ (Nat.le_refl _)
  have hk : last.take n ++ (p.f0.drop n ++ (p.f1 ++ t)).take (p.f0.length - n) = p.f0 := by
    have e : (p.f0.drop n ++ (p.f1 ++ t)).take (p.f0.length - n) = p.f0.drop n := by rw [show p.f0.length - n = (p.f0.drop n).length by simp, List.take_left]
    rw [e, htk, List.take_append_drop]
  have hv : ((p.f0.drop n ++ (p.f1 ++ t)).take (p.f0.length - n + p.f1.length)).drop (p.f0.length - n) = p.f1 := by
    have e : (p.f0.drop n).length = p.f0.length - n := by simp
    rw [← e, List.take_length_add_append, List.drop_left, List.take_left]
  have hr : (p.f0.drop n ++ (p.f1 ++ t)).drop (p.f0.length - n + p.f1.length) = t := by
    have e : (p.f0.drop n).length = p.f0.length - n := by simp
    rw [← e, ← List.drop_drop, List.drop_left, List.drop_left]
  have e3 : encP n p ++ t = shortL n ++ (shortL (p.f0.length - n) ++ (shortL p.f1.length ++ (p.f0.drop n ++ (p.f1 ++ t)))) := by simp only [encP, List.append_assoc]
  rw [e3]
  have hA : wrongA last place n (p.f0.length - n) p.f1.length (p.f0.drop n ++ (p.f1 ++ t)).length = false := by
    unfold wrongA
    have q2 : (decide (place % 8 = 0) && decide (0 < n)) = false := by
      by_cases h : place % 8 = 0
      · have : n = 0 := by rw [← hn]; unfold cnAt; rw [if_pos h]
        rw [this]; simp
      · simp [h]
    rw [decide_eq_false (by omega), q2, decide_eq_false (by omega), decide_eq_false (by simp only [List.length_append, List.length_drop]; omega)]
    rfl
  have hBb : wrongB last p.f0 place n = false := by
    unfold wrongB
    have q1 : (decide (0 < place) && decide (0 ≤ cmpI last p.f0)) = false := by
      by_cases h : 0 < place
      · have := hlt h
        rw [decide_eq_false (show ¬ 0 ≤ cmpI last p.f0 by omega)]; simp
      · simp [h]
    have q2 : (decide (0 < place % 8) && (cmn last p.f0 != n)) = false := by
      by_cases h : place % 8 = 0
      · simp [h]
      · have : cmn last p.f0 = n := by rw [← hn]; unfold cnAt; rw [if_neg h]
        rw [this]; simp
    rw [q1, q2]; rfl
  have hok := nextS_ok (place := place) (last := last) (rdK_three n (p.f0.length - n) p.f1.length (by omega) (by omega) h1 (p.f0.drop n ++ (p.f1 ++ t))) hA (by rw [hk]; exact hBb)
  rw [hk, hv, hr] at hok
  exact hok
theorem encP_pos (n : Nat) (p : Pr) (t : List Int) : (encP n p ++ t).length ≠ 0 := by
  have := (shortL_len n).2
  unfold encP
  simp only [List.length_append]
  omega
/-- What was written is read. -/
theorem rdAll_enc : ∀ (l : List Pr) (k place : Nat) (last : List Int) (out : List Pr), (∀ p ∈ l, p.f0.length ≤ 4096 ∧ p.f1.length ≤ 4096) → place + l.length ≤ 4096 → (0 < place → ∀ p, l[0]? = some p → cmpI last p.f0 < 0) → risesP l = true → l.length < k →
    rdAll k (encL place last l) place last out = (out ++ l, true)
  | _, 0, _, _, _, _, _, _, _, h => absurd h (Nat.not_lt_zero _)
  | [], k + 1, place, last, out, _, _, _, _, _ => by rw [encL, rdAll, if_pos (show ([] : List Int).length = 0 from rfl), List.append_nil]
  | p :: l, k + 1, place, last, out, hl, hp, hlt, hr, hk => by
    simp only [List.length_cons] at hp hk
    have hm := hl p (by simp)
    rw [encL, rdAll, if_neg (encP_pos _ _ _), next_enc p place last _ hm.1 hm.2 (fun h => hlt h p rfl)]
    simp only []
    rw [if_pos (by omega), rdAll_enc l k (place + 1) p.f0 (out ++ [p]) (fun q hq => hl q (by simp [hq])) (by omega) ?_ ?_ (by omega)]
    · simp
    · intro _ q hq
      match l, hq with
      | r :: l, hq =>
        obtain rfl := Option.some.inj hq
        rw [risesP, Bool.and_eq_true, decide_eq_true_eq] at hr
        exact hr.1
    · match l, hr with
      | [], _ => rfl
      | r :: l, hr =>
        rw [risesP, Bool.and_eq_true] at hr
        exact hr.2
theorem shortL_byte (n : Nat) (h : n ≤ 4096) : ∀ x ∈ shortL n, 0 ≤ x ∧ x < 256 := by
  intro x hx
  unfold shortL at hx
  split at hx
  · simp at hx; omega
  · simp only [List.mem_cons, List.not_mem_nil, or_false] at hx
    rcases hx with rfl | rfl <;> omega
theorem encL_byte : ∀ (l : List Pr) (place : Nat) (last : List Int), (∀ p ∈ l, p.f0.length ≤ 4096 ∧ p.f1.length ≤ 4096) → (∀ p ∈ l, (∀ x ∈ p.f0, 0 ≤ x ∧ x < 256) ∧ ∀ x ∈ p.f1, 0 ≤ x ∧ x < 256) → ∀ x ∈ encL place last l, 0 ≤ x ∧ x < 256
  | [], _, _, _, _ => fun x hx => by simp [encL] at hx
  | p :: l, place, last, hl, hB => by
    intro x hx
    rw [encL] at hx
    have hm := hl p (by simp)
    have hb := hB p (by simp)
    rcases List.mem_append.1 hx with hx | hx
    · unfold encP at hx
      simp only [List.mem_append] at hx
      have hc := cnAt_le place last p
      rcases hx with (((hx | hx) | hx) | hx) | hx
      · exact shortL_byte _ (by omega) x hx
      · exact shortL_byte _ (by omega) x hx
      · exact shortL_byte _ hm.2 x hx
      · exact hb.1 x (List.mem_of_mem_drop hx)
      · exact hb.2 x hx
    · exact encL_byte l _ _ (fun q hq => hl q (by simp [hq])) (fun q hq => hB q (by simp [hq])) x hx
theorem encL_ge : ∀ (l : List Pr) (place : Nat) (last : List Int), l.length ≤ (encL place last l).length
  | [], _, _ => by simp
  | p :: l, place, last => by
    rw [encL, List.length_append, List.length_cons]
    have := encL_ge l (place + 1) p.f0
    have := encP_pos (cnAt place last p) p []
    simp only [List.append_nil] at this
    omega
/-- Read of what Write wrote. -/
theorem read_write (l : List Pr) (h : rightE l = 0) (hB : ∀ p ∈ l, (∀ x ∈ p.f0, 0 ≤ x ∧ x < 256) ∧ ∀ x ∈ p.f1, 0 ≤ x ∧ x < 256) : block_Read.f (encTo l l.length) = some (l, 0) := by
  obtain ⟨h1, h2, h3⟩ := right_zero h
  have hl := not_long h2
  have e : encTo l l.length = encL 0 [] l := by unfold encTo; rw [List.take_length]
  rw [e, read_f _ (encL_byte l 0 [] hl hB), rdAll_enc l _ 0 [] [] hl (by omega) (fun h => absurd h (by omega)) h3 (by have := encL_ge l 0 []; omega)]
  rfl
theorem rs_canon {b : List Int} {n u : Nat} (h : rs b = some (n, u)) (hB : ∀ x ∈ b, 0 ≤ x ∧ x < 256) : b = shortL n ++ b.drop u ∧ n ≤ 4096 := by
  match b, h, hB with
  | [], h, _ => simp [rs] at h
  | c :: t, h, hB =>
    have hc := hB c (by simp)
    rw [rs] at h
    by_cases h1 : c < 128
    · rw [if_pos h1] at h
      simp only [Option.some.injEq, Prod.mk.injEq] at h
      obtain ⟨rfl, rfl⟩ := h
      refine ⟨?_, by omega⟩
      unfold shortL
      rw [if_pos (by omega), show ((c.toNat : Nat) : Int) = c by omega]
      rfl
    · rw [if_neg h1] at h
      match t, h, hB with
      | [], h, _ => simp [rs2] at h
      | d :: t, h, hB =>
        have hd := hB d (by simp)
        rw [rs2] at h
        by_cases h2 : 128 ≤ d
        · rw [if_pos h2] at h; cases h
        rw [if_neg h2] at h
        by_cases h3 : d = 0
        · rw [if_pos h3] at h; cases h
        rw [if_neg h3] at h
        by_cases h4 : (c % 128).toNat + 128 * d.toNat ≤ 4096
        · rw [if_pos h4] at h
          simp only [Option.some.injEq, Prod.mk.injEq] at h
          obtain ⟨rfl, rfl⟩ := h
          refine ⟨?_, h4⟩
          unfold shortL
          rw [if_neg (by omega), show ((((c % 128).toNat + 128 * d.toNat) % 128 + 128 : Nat) : Int) = c by omega, show ((((c % 128).toNat + 128 * d.toNat) / 128 : Nat) : Int) = d by omega]
          rfl
        · rw [if_neg h4] at h; cases h
theorem rdK_canon {b : List Int} (hB : ∀ x ∈ b, 0 ≤ x ∧ x < 256) {k : Nat} {ns : List Nat} {b' : List Int} (h : rdK (k + 1) b = some (ns, b')) : ∃ ns1 b1 n, rdK k b = some (ns1, b1) ∧ ns = ns1 ++ [n] ∧ b1 = shortL n ++ b' ∧ n ≤ 4096 := by
  rw [rdK] at h
  cases h1 : rdK k b with
  | none => rw [h1] at h; cases h
  | some q =>
    obtain ⟨ns1, b1⟩ := q
    rw [h1] at h
    simp only [] at h
    cases h2 : rs b1 with
    | none => rw [h2] at h; cases h
    | some r =>
      obtain ⟨n, u⟩ := r
      rw [h2] at h
      simp only [Option.some.injEq, Prod.mk.injEq] at h
      obtain ⟨rfl, rfl⟩ := h
      obtain ⟨e, hn⟩ := rs_canon h2 (fun x hx => hB x (rdK_mem h1 x hx))
      exact ⟨ns1, b1, n, rfl, rfl, e, hn⟩
theorem rdK3_canon {b : List Int} (hB : ∀ x ∈ b, 0 ≤ x ∧ x < 256) {n0 n1 n2 : Nat} {b' : List Int} (h : rdK 3 b = some ([n0, n1, n2], b')) : b = shortL n0 ++ (shortL n1 ++ (shortL n2 ++ b')) := by
  obtain ⟨m2, b2, k2, e2, f2, g2, _⟩ := rdK_canon hB h
  obtain ⟨m1, b1, k1, e1, f1, g1, _⟩ := rdK_canon hB e2
  obtain ⟨m0, b0, k0, e0, f0, g0, _⟩ := rdK_canon hB e1
  rw [rdK] at e0
  simp only [Option.some.injEq, Prod.mk.injEq] at e0
  obtain ⟨rfl, rfl⟩ := e0
  subst f0
  subst f1
  simp at f2
  obtain ⟨rfl, rfl, rfl⟩ := f2
  rw [g0, g1, g2]
theorem next_canon {b : List Int} {place : Nat} {last : List Int} {p : Pr} {rest : List Int} (h : nextS b place last = some (p, rest)) (hB : ∀ x ∈ b, 0 ≤ x ∧ x < 256) :
    b = encP (cnAt place last p) p ++ rest ∧ p.f0.length ≤ 4096 ∧ p.f1.length ≤ 4096 ∧ (0 < place → cmpI last p.f0 < 0) := by
  unfold nextS at h
  split at h
  case h_2 => cases h
  case h_1 n0 n1 n2 b' h3 =>
    split at h
    · cases h
    split at h
    · cases h
    next hA hV =>
      simp only [Option.some.injEq, Prod.mk.injEq] at h
      obtain ⟨rfl, rfl⟩ := h
      have hle := rdK_le hB h3
      have h2 := hle n2 (by simp)
      unfold wrongA at hA
      simp only [Bool.or_eq_true, Bool.and_eq_true, decide_eq_true_eq, not_or, not_and] at hA
      obtain ⟨⟨⟨a1, a2⟩, a3⟩, a4⟩ := hA
      unfold wrongB at hV
      simp only [Bool.or_eq_true, Bool.and_eq_true, decide_eq_true_eq, not_or, not_and, bne_iff_ne, ne_eq, Decidable.not_not] at hV
      obtain ⟨v1, v2⟩ := hV
      have l0 : (last.take n0).length = n0 := by rw [List.length_take]; omega
      have l1 : (b'.take n1).length = n1 := by rw [List.length_take]; omega
      have l2 : ((b'.take (n1 + n2)).drop n1).length = n2 := by rw [List.length_drop, List.length_take]; omega
      have hc : cnAt place last ⟨last.take n0 ++ b'.take n1, (b'.take (n1 + n2)).drop n1⟩ = n0 := by
        unfold cnAt
        split
        · have := a2 (by assumption); omega
        · exact v2 (by omega)
      refine ⟨?_, ?_, ?_, fun h => ?_⟩
      · rw [hc]
        unfold encP
        show b = shortL n0 ++ shortL ((last.take n0 ++ b'.take n1).length - n0) ++ shortL ((b'.take (n1 + n2)).drop n1).length ++ (last.take n0 ++ b'.take n1).drop n0 ++ (b'.take (n1 + n2)).drop n1 ++ b'.drop (n1 + n2)
        have e1 : (last.take n0 ++ b'.take n1).length - n0 = n1 := by rw [List.length_append, l0, l1]; omega
        have e2 : (last.take n0 ++ b'.take n1).drop n0 = b'.take n1 := by
          have := List.drop_left (l₁ := last.take n0) (l₂ := b'.take n1)
          rwa [l0] at this
        have e3 : b'.take n1 ++ ((b'.take (n1 + n2)).drop n1 ++ b'.drop (n1 + n2)) = b' := by
          have e4 : b'.take n1 = (b'.take (n1 + n2)).take n1 := by rw [List.take_take, Nat.min_eq_left (by omega)]
          rw [e4, ← List.append_assoc, List.take_append_drop, List.take_append_drop]
        rw [e1, e2, l2]
        simp only [List.append_assoc]
        rw [e3]
        exact rdK3_canon hB h3
      · show (last.take n0 ++ b'.take n1).length ≤ 4096
        rw [List.length_append, l0, l1]; omega
      · show ((b'.take (n1 + n2)).drop n1).length ≤ 4096
        rw [l2]; exact h2
      · show cmpI last (last.take n0 ++ b'.take n1) < 0
        have := v1 h
        omega
/-- What is read was written so. -/
theorem enc_rdAll : ∀ (k : Nat) (b : List Int) (place : Nat) (last : List Int) (out out' : List Pr), (∀ x ∈ b, 0 ≤ x ∧ x < 256) → place ≤ 4096 → rdAll k b place last out = (out', true) →
    ∃ l, out' = out ++ l ∧ encL place last l = b ∧ (∀ p ∈ l, p.f0.length ≤ 4096 ∧ p.f1.length ≤ 4096) ∧ place + l.length ≤ 4096 ∧ (0 < place → ∀ p, l[0]? = some p → cmpI last p.f0 < 0) ∧ risesP l = true
  | 0, _, _, _, _, _, _, _, h => by rw [rdAll] at h; simp at h
  | k + 1, b, place, last, out, out', hB, hp, h => by
    rw [rdAll] at h
    by_cases h0 : b.length = 0
    · rw [if_pos h0] at h
      simp only [Prod.mk.injEq, and_true] at h
      subst h
      exact ⟨[], by simp, by rw [encL, List.length_eq_zero_iff.1 h0], fun p hp => (by cases hp), (by simpa using hp), fun _ p hp => (by simp at hp), rfl⟩
    rw [if_neg h0] at h
    cases hn : nextS b place last with
    | none => rw [hn] at h; simp at h
    | some q =>
      obtain ⟨p, rest⟩ := q
      rw [hn] at h
      simp only [] at h
      by_cases h4 : place < 4096
      · rw [if_pos h4] at h
        obtain ⟨c1, c2, c3, c4⟩ := next_canon hn hB
        have ht := nextS_tell hn hB
        obtain ⟨l, e1, e2, e3, e5, e6, e7⟩ := enc_rdAll k rest (place + 1) p.f0 (out ++ [p]) out' ht.2.2 (by omega) h
        refine ⟨p :: l, by rw [e1]; simp, by rw [encL, e2]; exact c1.symm, ?_, by simp only [List.length_cons]; omega, ?_, ?_⟩
        · intro q hq
          rcases List.mem_cons.1 hq with rfl | hq
          · exact ⟨c2, c3⟩
          · exact e3 q hq
        · intro h q hq
          obtain rfl := Option.some.inj hq
          exact c4 h
        · match l, e6, e7 with
          | [], _, _ => rfl
          | r :: l, e6, e7 =>
            rw [risesP, Bool.and_eq_true, decide_eq_true_eq]
            exact ⟨e6 (by omega) r rfl, e7⟩
      · rw [if_neg h4] at h; simp at h
theorem right_of {l : List Pr} (h1 : l.length ≤ 4096) (h2 : ∀ p ∈ l, p.f0.length ≤ 4096 ∧ p.f1.length ≤ 4096) (h3 : risesP l = true) : rightE l = 0 := by
  unfold rightE
  have : l.any longP = false := by
    rw [List.any_eq_false]
    intro p hp
    have := h2 p hp
    unfold longP
    simp; omega
  rw [if_neg (by omega), if_neg (by rw [this]; decide), if_pos h3]
/-- Bytes that are read are written again. -/
theorem write_read (b : List Int) (hB : ∀ x ∈ b, 0 ≤ x ∧ x < 256) {m : List Pr} (h : block_Read.f b = some (m, 0)) : block_Write.f m = some (b, 0) := by
  rw [read_f _ hB] at h
  have h := Option.some.inj h
  split at h
  · next h2 =>
    simp only [Prod.mk.injEq, and_true] at h
    obtain ⟨l, e1, e2, e3, e4, _, e6⟩ := enc_rdAll _ b 0 [] [] m hB (by omega) (Prod.ext h h2)
    simp only [List.nil_append] at e1
    subst e1
    unfold block_Write.f
    rw [if_pos (right_of (by omega) e3 e6)]
    have : encTo m m.length = encL 0 [] m := by unfold encTo; rw [List.take_length]
    rw [this, e2]
  · simp at h
theorem read_bad (b : List Int) (hB : ∀ x ∈ b, 0 ≤ x ∧ x < 256) : ∃ m f, block_Read.f b = some (m, f) := by rw [read_f _ hB]; split <;> exact ⟨_, _, rfl⟩
end Go.Proofs.Yticddiiigfkamaa.Pure
