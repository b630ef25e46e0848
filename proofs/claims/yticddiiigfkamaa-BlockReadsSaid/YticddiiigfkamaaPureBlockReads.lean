/- BlockReads, in plain Lean: what the document reads is what the code reads. No conditions. -/
import Derived.Test.YticddiiigfkamaaBkSeek
import Derived.Test.YticddiiigfkamaaBkRefSeek
import Derived.Test.YticddiiigfkamaaBkPureA
import Derived.Test.YticddiiigfkamaaPrickyardlaw09BlockReads
namespace Go.Proofs.Yticddiiigfkamaa.Pure
open Go.RowKit Go.Proofs.Yticddiiigfkamaa.P Go.Proofs.YticddiiigfkamaaW.PrintWords Go.Proofs.YticddiiigfkamaaW.PrintLast
set_option linter.unusedVariables false
set_option linter.unusedSimpArgs false

theorem rises_tail {p : Pr} {l : List Pr} (h : risesP (p :: l) = true) : risesP l = true := by
  match l, h with
  | [], _ => rfl
  | q :: l, h => rw [risesP, Bool.and_eq_true] at h; exact h.2
theorem nLess_spec (key : List Int) : ∀ (l : List Pr), risesP l = true → ∀ (i : Nat) (x : Pr), l[i]? = some x → (cmpI x.f0 key < 0 ↔ i < nLess l key)
  | [], _, i, x, h => by simp at h
  | p :: l, hr, i, x, h => by
    have ih := nLess_spec key l (rises_tail hr)
    by_cases hp : cmpI p.f0 key < 0
    · have e : nLess (p :: l) key = nLess l key + 1 := by unfold nLess; rw [List.countP_cons_of_pos (p := fun p : Pr => decide (cmpI p.f0 key < 0)) (decide_eq_true hp)]
      rw [e]
      cases i with
      | zero => obtain rfl := Option.some.inj h; exact ⟨fun _ => Nat.succ_pos _, fun _ => hp⟩
      | succ i => rw [ih i x (by simpa using h)]; omega
    · have e : nLess (p :: l) key = 0 := by
        unfold nLess
        rw [List.countP_eq_zero]
        intro y hy
        obtain ⟨t, ht, rfl⟩ := List.getElem_of_mem hy
        rw [decide_eq_true_eq]
        intro hl
        cases t with
        | zero => exact hp hl
        | succ t => exact hp (cmpI_trans (rises_lt (p :: l) hr 0 (t + 1) p _ (by omega) rfl (List.getElem?_eq_getElem ht)) hl)
      rw [e]
      refine ⟨fun hl => ?_, fun h => absurd h (Nat.not_lt_zero _)⟩
      cases i with
      | zero => obtain rfl := Option.some.inj h; exact absurd hl hp
      | succ i => exact absurd (cmpI_trans (rises_lt (p :: l) hr 0 (i + 1) p x (by omega) rfl h) hl) hp
theorem nextS_inv {b : List Int} {place : Nat} {last : List Int} {p : Pr} {rest : List Int} (h : nextS b place last = some (p, rest)) :
    ∃ n0 n1 n2 b', rdK 3 b = some ([n0, n1, n2], b') ∧ n0 ≤ last.length ∧ n1 + n2 ≤ b'.length ∧ p = rrP last b' n0 n1 n2 ∧ rest = b'.drop (n1 + n2) := by
  unfold nextS at h
  split at h
  · next n0 n1 n2 b' he =>
    refine ⟨n0, n1, n2, b', he, ?_⟩
    split at h
    · cases h
    · next hA =>
      split at h
      · cases h
      · simp only [Option.some.injEq, Prod.mk.injEq] at h
        unfold wrongA at hA
        simp only [Bool.or_eq_true, decide_eq_true_eq, not_or] at hA
        exact ⟨by omega, by omega, h.1.symm, h.2.symm⟩
  · cases h
/-- What the code reads the document reads. -/
theorem rr_of_rdAll : ∀ (k : Nat) (b : List Int) (place : Nat) (last : List Int) (out out' : List Pr), out.length = place → rdAll k b place last out = (out', true) → rr k b last out = some out'
  | 0, _, _, _, _, _, _, h => by rw [rdAll] at h; simp at h
  | k + 1, b, place, last, out, out', ho, h => by
    rw [rdAll] at h
    rw [rr]
    by_cases h0 : b.length = 0
    · rw [if_pos h0] at h ⊢
      simp only [Prod.mk.injEq, and_true] at h
      rw [h]
    rw [if_neg h0] at h ⊢
    cases hn : nextS b place last with
    | none => rw [hn] at h; simp at h
    | some q =>
      obtain ⟨p, rest⟩ := q
      rw [hn] at h
      simp only [] at h
      by_cases h4 : place < 4096
      · rw [if_pos h4] at h
        obtain ⟨n0, n1, n2, b', e1, e2, e3, rfl, rfl⟩ := nextS_inv hn
        rw [if_neg (by omega), e1]
        simp only []
        rw [if_neg (by omega), if_neg (by omega), if_neg (by omega)]
        exact rr_of_rdAll k _ (place + 1) _ _ out' (by rw [List.length_append, ho]; rfl) h
      · rw [if_neg h4] at h; simp at h
/-- What the document reads are bytes. -/
theorem rr_bytes : ∀ (k : Nat) (b last : List Int) (out out' : List Pr), (∀ x ∈ b, 0 ≤ x ∧ x < 256) → (∀ x ∈ last, 0 ≤ x ∧ x < 256) → PrB out → rr k b last out = some out' → PrB out'
  | 0, _, _, _, _, _, _, _, h => by rw [rr] at h; cases h
  | k + 1, b, last, out, out', hb, hl, ho, h => by
    rw [rr] at h
    by_cases h0 : b.length = 0
    · rw [if_pos h0] at h; obtain rfl := Option.some.inj h; exact ho
    rw [if_neg h0] at h
    by_cases h4 : 4096 < out.length
    · rw [if_pos h4] at h; obtain rfl := Option.some.inj h; exact ho
    rw [if_neg h4] at h
    split at h
    · next n0 n1 n2 b' he =>
      have hb' : ∀ x ∈ b', 0 ≤ x ∧ x < 256 := fun x hx => hb x (rdK_mem he x hx)
      split at h
      · cases h
      split at h
      · cases h
      split at h
      · cases h
      have hkey : ∀ x ∈ last.take n0 ++ b'.take n1, 0 ≤ x ∧ x < 256 := fun x hx => by
        rcases List.mem_append.1 hx with hx | hx
        · exact hl x (List.mem_of_mem_take hx)
        · exact hb' x (List.mem_of_mem_take hx)
      refine rr_bytes k _ _ _ out' (fun x hx => hb' x (List.mem_of_mem_drop hx)) hkey ?_ h
      intro p hp
      rcases List.mem_append.1 hp with hp | hp
      · exact ho p hp
      · obtain rfl : p = rrP last b' n0 n1 n2 := by simpa using hp
        exact ⟨hkey, fun x hx => hb' x (List.mem_of_mem_take (List.mem_of_mem_drop hx))⟩
    · cases h
theorem refRd_eq (b : List Int) (hB : ∀ x ∈ b, 0 ≤ x ∧ x < 256) : block_Read.f b = some (refRdS b) := by
  have hrd := read_f b hB
  cases h2 : (rdAll (b.length + 1) b 0 [] []).2 with
  | true =>
    rw [h2, if_pos rfl] at hrd
    obtain ⟨l, hl⟩ : ∃ l, (rdAll (b.length + 1) b 0 [] []).1 = l := ⟨_, rfl⟩
    rw [hl] at hrd
    have hr := rr_of_rdAll _ b 0 [] [] l rfl (Prod.ext hl h2)
    have hw := write_read b hB hrd
    rw [hrd]
    unfold refRdS
    rw [hr]
    simp only []
    rw [hw]
    simp only []
    rw [if_pos trivial, if_pos (cmpI_self b)]
  | false =>
    rw [h2, if_neg (by decide)] at hrd
    rw [hrd]
    unfold refRdS
    cases hr : rr (b.length + 1) b [] [] with
    | none => rfl
    | some l =>
      simp only []
      have hP := rr_bytes _ b [] [] l hB (fun x hx => by cases hx) (fun p hp => by cases hp) hr
      by_cases hz : rightE l = 0
      · rw [show block_Write.f l = some (if rightE l = 0 then (encTo l l.length, 0) else ([], rightE l)) from rfl, if_pos hz]
        simp only []
        rw [if_pos trivial]
        by_cases hc : cmpI (encTo l l.length) b = 0
        · exfalso
          have e := (cmpI_zero (enc_bytes hz hP) hB).1 hc
          have hrw := read_write l hz hP
          rw [e, hrd] at hrw
          simp at hrw
        · rw [if_neg hc]
      · rw [show block_Write.f l = some (if rightE l = 0 then (encTo l l.length, 0) else ([], rightE l)) from rfl, if_neg hz]
        simp only []
        rw [if_neg hz]
theorem seek_eq (b key : List Int) (hB : ∀ x ∈ b, 0 ≤ x ∧ x < 256) : rickyardref09_Seek.f b key = block_Seek.f b key := by
  have hrd := refRd_eq b hB
  have hrr : rickyardref09_Read.f b = some ((refRdS b).1.map to47, (refRdS b).2) := by unfold rickyardref09_Read.f; rw [if_pos hB]
  unfold rickyardref09_Seek.f block_Seek.f
  rw [hrr, hrd]
  obtain ⟨l, e, hres⟩ : ∃ l e, refRdS b = (l, e) := ⟨_, _, rfl⟩
  rw [hres] at hrd ⊢
  simp only []
  congr 1
  by_cases he : e = 0
  · subst he
    rw [if_pos rfl]
    obtain ⟨hri, hln⟩ := read_rises hrd
    have hs := nLess_spec key l hri
    cases hn : l[nLess l key]? with
    | none =>
      have hf : (l.map to47).find? (geP key) = none := find_none' (fun y hy => by
        obtain ⟨p, hp, rfl⟩ := List.mem_map.1 hy
        obtain ⟨t, ht, rfl⟩ := List.getElem_of_mem hp
        have hlt := List.getElem?_eq_none_iff.1 hn
        have := (hs t _ (List.getElem?_eq_getElem ht)).2 (by omega)
        exact decide_eq_false (by show ¬ 0 ≤ cmpI (l[t]).f0 key; omega))
      rw [hf]
    | some p =>
      have hf : (l.map to47).find? (geP key) = some (to47 p) := find_at (i := nLess l key) (by rw [List.getElem?_map, hn]; rfl) (by
        have h_ := hs _ p hn
        exact decide_eq_true (by show 0 ≤ cmpI p.f0 key; omega)) (fun y hy => by
        rw [← List.map_take] at hy
        obtain ⟨q, hq, rfl⟩ := List.mem_map.1 hy
        obtain ⟨t, ht, rfl⟩ := List.getElem_of_mem hq
        rw [List.length_take] at ht
        rw [List.getElem_take]
        have := (hs t _ (List.getElem?_eq_getElem (by omega))).2 (by omega)
        exact decide_eq_false (by show ¬ 0 ≤ cmpI (l[t]).f0 key; omega))
      rw [hf]
      rfl
  · rw [if_neg he]
    have hl : l = [] := by
      have hrd2 := read_f b hB
      rw [hrd] at hrd2
      have hrd2 := Option.some.inj hrd2
      split at hrd2
      · simp only [Prod.mk.injEq] at hrd2; exact absurd hrd2.2 he
      · simp only [Prod.mk.injEq] at hrd2; exact hrd2.1
    subst hl
    rfl
theorem br_l0 (b key : List Int) (hB : ∀ x ∈ b, 0 ≤ x ∧ x < 256) (l : List Pr) (e : Int) (p0 p1 : List Int) (th : Bool) (g : Int) (hrd : block_Read.f b = some (l, e)) (hsk : block_Seek.f b key = some (p0, p1, th, g)) (hl : l.length ≤ 5000) :
    ∀ (d i : Nat) (own : List Int) (K : Nat), own.length - i = d → i ≤ own.length → own.length ≤ 3000 → l.length + d < K → rickyardlaw09_BlockReads.l0 (K + 1) b key own l e th g (i : Int) p0 p1 = some true
  | 0, i, own, K, hd, hi, ho, hK => by
    rw [rickyardlaw09_BlockReads.l0, if_neg (by omega)]
    have hrr : rickyardref09_Read.f b = some (l.map to47, e) := by
      have h := refRd_eq b hB
      rw [hrd] at h
      unfold rickyardref09_Read.f
      rw [if_pos hB, ← Option.some.inj h]
    rw [hrr, seek_eq b key hB, hsk, rickyardlaw09_alive.f]
    simp only [Option.bind_some]
    rw [if_pos trivial, show l.map to47 = l.map a47 from rfl, same_f l hl K (by omega)]
    simp only [Option.bind_some]
    rw [if_pos trivial, if_pos trivial, if_pos trivial, if_pos trivial, if_pos (by simp)]
    simp
  | d + 1, i, own, K, hd, hi, ho, hK => by
    obtain ⟨K, rfl⟩ : ∃ j, K = j + 1 := ⟨K - 1, by omega⟩
    rw [rickyardlaw09_BlockReads.l0, if_pos (by omega), if_pos (by omega), w64_up (by omega)]
    exact br_l0 b key hB l e p0 p1 th g hrd hsk hl d (i + 1) _ K (by rw [List.length_set]; omega) (by rw [List.length_set]; omega) (by rw [List.length_set]; omega) (by omega)
theorem br_j0 (b key : List Int) (hB : ∀ x ∈ b, 0 ≤ x ∧ x < 256) (x : Bool) (hx : x = true ∨ b.length ≤ 3000) (K : Nat) (hK : 9000 ≤ K) : rickyardlaw09_BlockReads.j0 (K + 1) b key x = some true := by
  rw [rickyardlaw09_BlockReads.j0]
  cases x with
  | true => rw [if_pos rfl]; rfl
  | false =>
    have hb : b.length ≤ 3000 := by rcases hx with h | h; cases h; exact h
    have hcp : rickyardref05_Copy.f b = some b := by unfold rickyardref05_Copy.f; rw [if_pos (by simp; omega)]; simp
    obtain ⟨l, e, hrd⟩ := read_bad b hB
    obtain ⟨q, hq⟩ : ∃ q, block_Seek.f b key = some q := by unfold block_Seek.f; rw [hrd]; exact ⟨_, rfl⟩
    obtain ⟨p0, p1, th, g⟩ := q
    have hl : l.length ≤ 4096 := by
      by_cases he : e = 0
      · subst he; exact (read_rises hrd).2
      · have hrd2 := read_f b hB
        rw [hrd] at hrd2
        have hrd2 := Option.some.inj hrd2
        split at hrd2
        · simp only [Prod.mk.injEq] at hrd2; exact absurd hrd2.2 he
        · simp only [Prod.mk.injEq] at hrd2; rw [hrd2.1]; simp
    rw [if_neg (by decide), hcp]
    simp only [Option.bind_some]
    rw [hrd, hq]
    simp only [Option.bind_some]
    obtain ⟨K, rfl⟩ : ∃ j, K = j + 1 := ⟨K - 1, by omega⟩
    exact br_l0 b key hB l e p0 p1 th g hrd hq (by omega) b.length 0 b K (by omega) (by omega) hb (by omega)
theorem BlockReads : rickyardlaw09_BlockReads.Pure := by
  intro b key _ _ hB _ _ _
  have hB' : ∀ x ∈ b, 0 ≤ x ∧ x < 256 := fun x hx => by
    have h := hB x hx
    simp only [Lit.wf, Bool.and_eq_true, decide_eq_true_eq] at h
    have h1 : IntKind.u8.min = 0 := rfl
    have h2 : IntKind.u8.max = 255 := rfl
    omega
  refine ⟨9001, ?_⟩
  unfold rickyardlaw09_BlockReads.f
  by_cases h : (b.length : Int) > 3000
  · rw [if_pos h]; exact br_j0 b key hB' true (.inl rfl) 9000 (by omega)
  · rw [if_neg h]; exact br_j0 b key hB' _ (.inr (by omega)) 9000 (by omega)
end Go.Proofs.Yticddiiigfkamaa.Pure
