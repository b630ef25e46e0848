/- BlockShort, in plain Lean, and its walk. No conditions. -/
import Derived.Test.YticddiiigfkamaaBkPureR
import Derived.Test.YticddiiigfkamaaBkPureW
import Derived.Test.YticddiiigfkamaaPrickyardlaw09BlockShort
namespace Go.Proofs.Yticddiiigfkamaa.Pure
open Go.RowKit Go.Proofs.Yticddiiigfkamaa.P Go.Proofs.YticddiiigfkamaaW.PrintWords Go.Proofs.YticddiiigfkamaaW.PrintLast
set_option linter.unusedVariables false
set_option linter.unusedSimpArgs false

def tot : List Pr → Nat
  | [] => 0
  | p :: t => p.f0.length + p.f1.length + 9 + tot t
theorem tot_le : ∀ l : List Pr, (∀ p ∈ l, p.f0.length ≤ 4096 ∧ p.f1.length ≤ 4096) → tot l ≤ 8201 * l.length
  | [], _ => by simp [tot]
  | p :: l, h => by
    have := tot_le l (fun q hq => h q (by simp [hq]))
    have := h p (by simp)
    rw [tot, List.length_cons]
    omega
theorem enc_tot : ∀ (l : List Pr) (place : Nat) (last : List Int), (encL place last l).length ≤ tot l
  | [], _, _ => by simp [encL, tot]
  | p :: l, place, last => by
    have := enc_tot l (place + 1) p.f0
    have a := shortL_len (cnAt place last p)
    have b := shortL_len (p.f0.length - cnAt place last p)
    have c := shortL_len p.f1.length
    rw [encL, tot, List.length_append]
    unfold encP
    simp only [List.length_append, List.length_drop]
    omega
theorem w64_s (n : Nat) (h : n ≤ 40000000) : wrap64 (n : Int) = n := IntWalk.wrap64_in _ (by omega)
theorem bs_l0 (l : List Pr) (a : Int) (x : List Int) (hn : l.length ≤ 5000) : ∀ (d i s K : Nat), l.length - i = d → i ≤ l.length → s + tot (l.drop i) ≤ 40000000 →
    rickyardlaw09_BlockShort.l0 (d + 1 + K) l a x (s : Int) (i : Int) = if (x.length : Int) > ((s + tot (l.drop i) : Nat) : Int) then some false else (if a < 0 then rickyardlaw09_BlockShort.j1 K l a x true else rickyardlaw09_BlockShort.j1 K l a x (decide (a ≥ (x.length : Int))))
  | 0, i, s, K, hd, hi, hs => by
    rw [show 0 + 1 + K = K + 1 by omega, rickyardlaw09_BlockShort.l0, if_neg (by omega), List.drop_eq_nil_of_le (by omega)]
    rfl
  | d + 1, i, s, K, hd, hi, hs => by
    have h1 : i < l.length := by omega
    obtain ⟨p, hp⟩ : ∃ p, l[i]? = some p := ⟨_, List.getElem?_eq_getElem h1⟩
    have hdr : l.drop i = p :: l.drop (i + 1) := by rw [List.drop_eq_getElem_cons h1]; congr 1; exact (List.getElem?_eq_some_iff.1 hp).2
    rw [hdr, tot] at hs
    have e : wrap64 ((wrap64 ((wrap64 ((s : Int) + (p.f0.length : Int))) + (p.f1.length : Int))) + 9) = ((s + p.f0.length + p.f1.length + 9 : Nat) : Int) := by
      have e1 : wrap64 ((s : Int) + (p.f0.length : Int)) = ((s + p.f0.length : Nat) : Int) := by rw [← Int.natCast_add]; exact w64_s _ (by omega)
      have e2 : wrap64 (((s + p.f0.length : Nat) : Int) + (p.f1.length : Int)) = ((s + p.f0.length + p.f1.length : Nat) : Int) := by rw [← Int.natCast_add]; exact w64_s _ (by omega)
      have e3 : wrap64 (((s + p.f0.length + p.f1.length : Nat) : Int) + 9) = ((s + p.f0.length + p.f1.length + 9 : Nat) : Int) := w64_s (s + p.f0.length + p.f1.length + 9) (by omega)
      rw [e1, e2, e3]
    rw [show d + 1 + 1 + K = (d + 1 + K) + 1 by omega, rickyardlaw09_BlockShort.l0, if_pos (by omega), if_pos (by omega), rd39 hp, e, w64_up (by omega), bs_l0 l a x hn d (i + 1) (s + p.f0.length + p.f1.length + 9) K (by omega) (by omega) (by omega), hdr, tot]
    rw [show s + p.f0.length + p.f1.length + 9 + tot (l.drop (i + 1)) = s + (p.f0.length + p.f1.length + 9 + tot (l.drop (i + 1))) by omega]
/-- What reads as pairs at the front. -/
theorem enc_prefix : ∀ (m l : List Pr) (place : Nat) (last rest : List Int), (∀ p ∈ m, p.f0.length ≤ 4096 ∧ p.f1.length ≤ 4096) → (∀ p ∈ l, p.f0.length ≤ 4096 ∧ p.f1.length ≤ 4096) →
    (0 < place → ∀ p, m[0]? = some p → cmpI last p.f0 < 0) → (0 < place → ∀ p, l[0]? = some p → cmpI last p.f0 < 0) → risesP m = true → risesP l = true → encL place last l = encL place last m ++ rest →
    m = l.take m.length ∧ m.length ≤ l.length
  | [], l, _, _, _, _, _, _, _, _, _, _ => by simp
  | p :: m, [], place, last, rest, _, _, _, _, _, _, h => by
    exfalso
    rw [encL, encL] at h
    have := congrArg List.length h
    have h2 := encP_pos (cnAt place last p) p []
    simp only [List.length_append, List.length_nil, List.append_nil] at this h2
    omega
  | p :: m, q :: l, place, last, rest, hm, hl, rm, rl, sm, sl, h => by
    have h1 := hm p (by simp)
    have h2 := hl q (by simp)
    have n1 := next_enc p place last (encL (place + 1) p.f0 m ++ rest) h1.1 h1.2 (fun h => rm h p rfl)
    have n2 := next_enc q place last (encL (place + 1) q.f0 l) h2.1 h2.2 (fun h => rl h q rfl)
    rw [encL, encL, List.append_assoc] at h
    rw [h, n1] at n2
    simp only [Option.some.injEq, Prod.mk.injEq] at n2
    obtain ⟨rfl, he⟩ := n2
    have up : ∀ t : List Pr, risesP (p :: t) = true → (0 < place + 1 → ∀ r, t[0]? = some r → cmpI p.f0 r.f0 < 0) ∧ risesP t = true := by
      intro t ht
      match t, ht with
      | [], _ => exact ⟨fun _ r hr => by simp at hr, rfl⟩
      | r :: t, ht =>
        rw [risesP, Bool.and_eq_true, decide_eq_true_eq] at ht
        exact ⟨fun _ r' hr => by obtain rfl := Option.some.inj hr; exact ht.1, ht.2⟩
    have ih := enc_prefix m l (place + 1) p.f0 rest (fun q hq => hm q (by simp [hq])) (fun q hq => hl q (by simp [hq])) (up m sm).1 (up l sl).1 (up m sm).2 (up l sl).2 he.symm
    refine ⟨?_, by simp only [List.length_cons]; omega⟩
    rw [List.length_cons, List.take_succ_cons, ← ih.1]
theorem read_ok (b : List Int) (hB : ∀ x ∈ b, 0 ≤ x ∧ x < 256) {m : List Pr} (h : block_Read.f b = some (m, 0)) : encL 0 [] m = b ∧ (∀ p ∈ m, p.f0.length ≤ 4096 ∧ p.f1.length ≤ 4096) ∧ risesP m = true := by
  rw [read_f _ hB] at h
  have h := Option.some.inj h
  split at h
  · next h2 =>
    simp only [Prod.mk.injEq, and_true] at h
    obtain ⟨l, e1, e2, e3, e4, _, e6⟩ := enc_rdAll _ b 0 [] [] m hB (by omega) (Prod.ext h h2)
    simp only [List.nil_append] at e1
    subst e1
    exact ⟨e2, e3, e6⟩
  · simp at h
theorem bs_j1 (l : List Pr) (a : Int) (K : Nat) (hr : rightE l = 0) (hK : l.length < K) (hL : ∀ p ∈ l, (∀ x ∈ p.f0, 0 ≤ x ∧ x < 256) ∧ ∀ x ∈ p.f1, 0 ≤ x ∧ x < 256) (ha : 0 ≤ a) : rickyardlaw09_BlockShort.j1 (K + 1) l a (encL 0 [] l) (decide (a ≥ ((encL 0 [] l).length : Int))) = some true := by
  obtain ⟨h1, h2, h3⟩ := right_zero hr
  have hl := not_long h2
  rw [rickyardlaw09_BlockShort.j1]
  by_cases hc : a ≥ ((encL 0 [] l).length : Int)
  · rw [if_pos (decide_eq_true hc)]; rfl
  rw [if_neg (by rw [decide_eq_false hc]; decide), if_pos ha, if_pos (by omega)]
  have hB : ∀ x ∈ (encL 0 [] l).take a.toNat, 0 ≤ x ∧ x < 256 := fun x hx => encL_byte l 0 [] hl hL x (List.mem_of_mem_take hx)
  obtain ⟨m, f, hrd⟩ := read_bad _ hB
  rw [hrd, rickyardlaw09_alive.f]
  simp only [Option.bind_some]
  by_cases hf : f = 0
  · subst hf
    obtain ⟨o1, o2, o3⟩ := read_ok _ hB hrd
    have hp := enc_prefix m l 0 [] ((encL 0 [] l).drop a.toNat) o2 hl (fun h => absurd h (by omega)) (fun h => absurd h (by omega)) o3 h3 (by rw [o1, List.take_append_drop])
    have hlt : m.length < l.length := by
      rcases Nat.lt_or_ge m.length l.length with h | h
      · exact h
      · exfalso
        have e : m = l := by rw [hp.1, List.take_of_length_le h]
        rw [e] at o1
        have := congrArg List.length o1
        rw [List.length_take] at this
        omega
    rw [if_pos trivial, if_pos (show (0 : Int) = 0 from rfl), if_pos (by omega), if_pos (by omega), if_pos (by omega), Int.toNat_natCast, ← hp.1, as_f m (by omega) K (by omega)]
    simp only [Option.bind_some]
    rw [same_f m (by omega) K (by omega)]
    rfl
  · simp [hf]
theorem BlockShort_f (l : List Pr) (a : Int) (hL : ∀ p ∈ l, (∀ x ∈ p.f0, 0 ≤ x ∧ x < 256) ∧ ∀ x ∈ p.f1, 0 ≤ x ∧ x < 256) : rickyardlaw09_BlockShort.f (l.length + 1 + (l.length + 1 + 1)) l a = some true := by
  unfold rickyardlaw09_BlockShort.f
  rcases great_f l (l.length + 1 + (l.length + 1 + 1)) (by omega) with h | ⟨hl, g, h⟩
  · rw [h]; rfl
  · rw [h]
    simp only [Option.bind_some]
    cases g with
    | true => rfl
    | false =>
      rw [if_neg (by decide), show block_Write.f l = some (if rightE l = 0 then (encTo l l.length, 0) else ([], rightE l)) from rfl]
      simp only [Option.bind_some]
      by_cases hr : rightE l = 0
      · obtain ⟨h1, h2, h3⟩ := right_zero hr
        have hlo := not_long h2
        have ht := tot_le l hlo
        have e : encTo l l.length = encL 0 [] l := by unfold encTo; rw [List.take_length]
        have hb := bs_l0 l a (encL 0 [] l) hl l.length 0 0 (l.length + 1 + 1) (by omega) (by omega) (by rw [List.drop_zero]; omega)
        rw [if_pos hr, if_pos (show (encTo l l.length, (0 : Int)).2 = 0 from rfl)]
        show rickyardlaw09_BlockShort.l0 (l.length + 1 + (l.length + 1 + 1)) l a (encTo l l.length) 0 0 = some true
        rw [e]
        rw [show ((0 : Nat) : Int) = 0 from rfl] at hb
        rw [hb, List.drop_zero, if_neg (by have := enc_tot l 0 []; omega)]
        by_cases ha : a < 0
        · rw [if_pos ha, rickyardlaw09_BlockShort.j1, if_pos rfl]; rfl
        · rw [if_neg ha]
          exact bs_j1 l a (l.length + 1) hr (by omega) hL (by omega)
      · rw [if_neg hr, if_neg hr]; rfl
theorem BlockShort_walk (A0 : Option Addr) (c0 : Nat) (l0 : List Pr) (a1 : Int) (W : World) (hr0 : Kd.C k39 W A0 l0.length l0) (hc0 : l0.length ≤ c0) (hb0 : ∀ p ∈ l0, (∀ x ∈ p.f0, 0 ≤ x ∧ x < 256) ∧ ∀ x ∈ p.f1, 0 ≤ x ∧ x < 256) (w1 : (Lit.int .i64 a1).wf = true) :
    Calls Try.prog 5 #[.slice A0 l0.length c0, .int .i64 a1] W fun e w' => e = .returned (.bool true) ∧ Below W.heap.size W w' :=
  rickyardlaw09_BlockShort.calls _ A0 c0 l0 a1 true W hr0 hc0 (BlockShort_f l0 a1 hb0) rfl
end Go.Proofs.Yticddiiigfkamaa.Pure
