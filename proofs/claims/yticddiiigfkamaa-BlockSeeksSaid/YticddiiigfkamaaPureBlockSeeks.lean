/- BlockSeeks, in plain Lean, and its walk. No conditions. -/
import Derived.Test.YticddiiigfkamaaBkSeek
import Derived.Test.YticddiiigfkamaaBkPureW
import Derived.Test.YticddiiigfkamaaPrickyardlaw09BlockSeeks
namespace Go.Proofs.Yticddiiigfkamaa.Pure
open Go.RowKit Go.Proofs.Yticddiiigfkamaa.P Go.Proofs.YticddiiigfkamaaW.PrintWords Go.Proofs.YticddiiigfkamaaW.PrintLast
set_option linter.unusedVariables false
set_option linter.unusedSimpArgs false

theorem rises_tail {p : Pr} {l : List Pr} (h : risesP (p :: l) = true) : risesP l = true := by
  match l, h with
  | [], _ => rfl
  | q :: l, h => rw [risesP, Bool.and_eq_true] at h; exact h.2
/-- Those that are less stand ahead. -/
theorem nLess_spec (key : List Int) : ∀ (l : List Pr), risesP l = true → ∀ (i : Nat) (x : Pr), l[i]? = some x → (cmpI x.f0 key < 0 ↔ i < nLess l key)
  | [], _, i, x, h => by simp at h
  | p :: l, hr, i, x, h => by
    have ih := nLess_spec key l (rises_tail hr)
    by_cases hp : cmpI p.f0 key < 0
    · have e : nLess (p :: l) key = nLess l key + 1 := by unfold nLess; rw [List.countP_cons_of_pos (p := fun p : Pr => decide (cmpI p.f0 key < 0)) (decide_eq_true hp)]
      rw [e]
      cases i with
      | zero => obtain rfl := Option.some.inj h; exact ⟨fun _ => Nat.succ_pos _, fun _ => hp⟩
      | succ i => rw [ih i x (by simpa using h)]; omega
    · have e : nLess (p :: l) key = 0 := by
        unfold nLess
        rw [List.countP_eq_zero]
        intro y hy
        obtain ⟨t, ht, rfl⟩ := List.getElem_of_mem hy
        rw [decide_eq_true_eq]
        intro hl
        cases t with
        | zero => exact hp hl
        | succ t => exact hp (cmpI_trans (rises_lt (p :: l) hr 0 (t + 1) p _ (by omega) rfl (List.getElem?_eq_getElem ht)) hl)
      rw [e]
      refine ⟨fun hl => ?_, fun h => absurd h (Nat.not_lt_zero _)⟩
      cases i with
      | zero => obtain rfl := Option.some.inj h; exact absurd hl hp
      | succ i => exact absurd (cmpI_trans (rises_lt (p :: l) hr 0 (i + 1) p x (by omega) rfl h) hl) hp
theorem bs_l0 (l : List Pr) (key : List Int) (hl : l.length ≤ 5000) (hr : risesP l = true) (q0 q1 : List Int) (hq : ∀ p, l[nLess l key]? = some p → q0 = p.f0 ∧ q1 = p.f1) :
    ∀ (d i K : Nat), l.length - i = d → i ≤ l.length → 2 * d < K → rickyardlaw09_BlockSeeks.l0 K l key (decide (nLess l key < l.length)) 0 (decide (nLess l key < i)) (i : Int) q0 q1 = some true
  | d, i, 0, _, _, h => absurd h (Nat.not_lt_zero _)
  | 0, i, K + 1, hd, hi, hK => by
    have : i = l.length := by omega
    subst this
    rw [rickyardlaw09_BlockSeeks.l0, if_neg (by omega), rickyardlaw09_alive.f]
    simp
  | d + 1, i, K + 1, hd, hi, hK => by
    have h1 : i < l.length := by omega
    obtain ⟨p, hp⟩ : ∃ p, l[i]? = some p := ⟨_, List.getElem?_eq_getElem h1⟩
    have hs := nLess_spec key l hr i p hp
    obtain ⟨K, rfl⟩ : ∃ j, K = j + 1 := ⟨K - 1, by omega⟩
    have ih := bs_l0 l key hl hr q0 q1 hq d (i + 1) K (by omega) (by omega) (by omega)
    rw [rickyardlaw09_BlockSeeks.l0, if_pos (by omega), if_pos (by omega), rd39 hp, str_lt]
    by_cases hl : cmpI p.f0 key < 0
    · have hin := hs.1 hl
      rw [if_pos (decide_eq_true hl), rickyardlaw09_BlockSeeks.j2, if_neg (by decide), w64_up (by omega), decide_eq_false (show ¬ nLess l key < i by omega)]
      rw [decide_eq_false (show ¬ nLess l key < i + 1 by omega)] at ih
      exact ih
    · have hin : ¬ i < nLess l key := fun h => hl (hs.2 h)
      rw [if_neg (by rw [decide_eq_false hl]; decide), rickyardlaw09_BlockSeeks.j2]
      rw [decide_eq_true (show nLess l key < i + 1 by omega)] at ih
      rcases Nat.lt_or_eq_of_le (Nat.le_of_not_lt hin) with h | h
      · rw [decide_eq_true h, if_neg (by decide), w64_up (by omega)]
        exact ih
      · obtain ⟨e0, e1⟩ := hq p (by rw [h]; exact hp)
        rw [decide_eq_false (show ¬ nLess l key < i by omega), if_pos (by decide), if_pos (decide_eq_true (by omega)), if_pos (by omega), if_pos (by omega), rd39 hp, e0, e1, if_pos rfl, if_pos rfl, w64_up (by omega)]
        rw [e0, e1] at ih
        exact ih
theorem bs_j0 (l : List Pr) (key : List Int) (K : Nat) (hK : 2 * l.length < K) (hl : l.length ≤ 5000) (hL : ∀ p ∈ l, (∀ x ∈ p.f0, 0 ≤ x ∧ x < 256) ∧ ∀ x ∈ p.f1, 0 ≤ x ∧ x < 256) (b : Bool) : rickyardlaw09_BlockSeeks.j0 (K + 1) l key b = some true := by
  rw [rickyardlaw09_BlockSeeks.j0]
  cases b with
  | true => rfl
  | false =>
    rw [if_neg (by decide), show block_Write.f l = some (if rightE l = 0 then (encTo l l.length, 0) else ([], rightE l)) from rfl]
    simp only [Option.bind_some]
    by_cases hr : rightE l = 0
    · obtain ⟨_, _, h3⟩ := right_zero hr
      rw [if_pos hr, if_pos (show (encTo l l.length, (0 : Int)).2 = 0 from rfl)]
      have hrd : block_Read.f (encTo l l.length) = some (l, 0) := read_write l hr hL
      unfold block_Seek.f
      rw [hrd]
      simp only []
      rw [if_pos trivial]
      cases hn : l[nLess l key]? with
      | none =>
        have hb := bs_l0 l key hl h3 [] [] (fun p hp => by rw [hn] at hp; cases hp) l.length 0 K (by omega) (by omega) (by omega)
        rw [decide_eq_false (show ¬ nLess l key < l.length by have := List.getElem?_eq_none_iff.1 hn; omega), decide_eq_false (by omega)] at hb
        exact hb
      | some p =>
        have hb := bs_l0 l key hl h3 p.f0 p.f1 (fun p' hp => by rw [hn] at hp; obtain rfl := Option.some.inj hp; exact ⟨rfl, rfl⟩) l.length 0 K (by omega) (by omega) (by omega)
        rw [decide_eq_true (List.getElem?_eq_some_iff.1 hn).1, decide_eq_false (by omega)] at hb
        exact hb
    · rw [if_neg hr, if_neg hr]; rfl
theorem BlockSeeks_f (l : List Pr) (key : List Int) (hL : ∀ p ∈ l, (∀ x ∈ p.f0, 0 ≤ x ∧ x < 256) ∧ ∀ x ∈ p.f1, 0 ≤ x ∧ x < 256) : rickyardlaw09_BlockSeeks.f (2 * l.length + 2) l key = some true := by
  unfold rickyardlaw09_BlockSeeks.f
  rcases great_f l (2 * l.length + 2) (by omega) with h | ⟨hl, g, h⟩
  · rw [h]; rfl
  · rw [h]
    simp only [Option.bind_some]
    cases g with
    | true => rfl
    | false =>
      rw [if_neg (by decide)]
      exact bs_j0 l key _ (by omega) hl hL _
theorem BlockSeeks_walk (A0 : Option Addr) (c0 : Nat) (l0 : List Pr) (A1 : Option Addr) (c1 : Nat) (l1 : List Int) (W : World) (hr0 : Kd.C k39 W A0 l0.length l0) (hc0 : l0.length ≤ c0) (hb0 : ∀ p ∈ l0, (∀ x ∈ p.f0, 0 ≤ x ∧ x < 256) ∧ ∀ x ∈ p.f1, 0 ≤ x ∧ x < 256)
    (hr1 : Kd.C (Kd.int .u8) W A1 l1.length l1) (hc1 : l1.length ≤ c1) (hb1 : ∀ x ∈ l1, 0 ≤ x ∧ x < 256) :
    Calls Try.prog 8 #[.slice A0 l0.length c0, .slice A1 l1.length c1] W fun e w' => e = .returned (.bool true) ∧ Below W.heap.size W w' :=
  rickyardlaw09_BlockSeeks.calls _ A0 c0 l0 A1 c1 l1 true W hr0 hc0 hr1 hc1 (BlockSeeks_f l0 l1 hb0) rfl
end Go.Proofs.Yticddiiigfkamaa.Pure
