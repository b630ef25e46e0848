/- A row that is one's own: its keys' first bytes are turned. No conditions. -/
import Derived.Test.YtihdomhiiolojaaMgAlone
namespace Go.Proofs.Ytihdomhiiolojaa.P
open Go.RowKit Go.Proofs.YtihdomhiiolojaaW.PrintWords Go.Proofs.YtihdomhiiolojaaW.PrintLast Go.Proofs.YtihdomhiiolojaaW.PrintMore
set_option linter.unusedVariables false
set_option linter.unusedSimpArgs false
open Go.Proofs.Ytihdomhiiolojaa.Pure
theorem S_flip {W : World} {base n c i : Nat} {ok : Nat → Prop} {ad : Addr} {l : List En} {y : En} (h : Kd.S k41 41 W base ok (.slice (some ad) n c) l) (hy : l[i]? = some y) (hk : 0 < y.f0.length) :
    ∃ b d, W.cell? (ad.add (i * 7)) = some (.slice (some ⟨b, 0, none⟩) y.f0.length d) ∧ W.cell? ⟨b, 0, none⟩ = some (.int .u8 (y.f0.getD 0 0)) ∧ W.frozen? ⟨b, 0, none⟩ = false ∧ ok b ∧ ∀ u, Kd.S k41 41 (W.setCell ⟨b, 0, none⟩ (.int .u8 u)) base ok (.slice (some ad) n c) (l.set i ⟨y.f0.set 0 u, y.f1⟩) := by
  have hn := (Kd.S_reads' h).1
  have hi := (List.getElem?_eq_some_iff.1 hy).1
  obtain ⟨oki, c7, hcl, hM, hcc, hoki, hback⟩ := Kd.S_borrow h z41 (i : Int) (by omega) (by omega)
  rw [Int.toNat_natCast, List.getD_eq_getElem?_getD, hy] at hM
  obtain ⟨v0, rfl, g0⟩ := k41_openM hM
  obtain ⟨B, d, rfl⟩ := Kd.R_slice g0
  have hc := (Kd.R_reads' g0).2.2
  have hk' : 0 < (Option.getD (some y) z41).f0.length := hk
  have hnb : B ≠ none := by
    rintro rfl
    obtain ⟨ad', e, _⟩ := hc.2.2 hk'
    cases e
  cases B with
  | none => exact absurd rfl hnb
  | some a0 =>
    obtain ⟨b, rfl⟩ := Kd.R_head g0
    have hcf := Kd.R_celln (0 : Int) g0 0 (by decide) (by exact_mod_cast hk')
    have hp := fun u : Int => Kd.R_putg g0 0 u
    have hob := hoki b (g0.1 b (by simp [Value.ownBlock]))
    have h7 := hcc 0 _ rfl
    rw [Int.toNat_natCast] at h7
    refine ⟨b, d, h7, hcf.1, hcf.2, hob.1, fun u => ?_⟩
    have := hback (x' := ⟨y.f0.set 0 u, y.f1⟩) (hp u).2 (fun k e => by cases e; exact g0.1 b (by simp [Value.ownBlock])) (by
      have hq := k41_mkM (W.setCell ⟨b, 0, none⟩ (.int .u8 u)) base oki ⟨y.f0.set 0 u, y.f1⟩ (hp u).1
      exact hq)
    rw [Int.toNat_natCast] at this
    exact this
def FlipI (w w2 w3 : World) (b1 : Nat) (A : Option Addr) (n c : Nat) (w' : World) (l' : List En) : Prop :=
  l'.length = n ∧ Kd.S k41 41 w' b1 (fun k => b1 ≤ k ∧ k < w2.heap.size) (.slice A n c) l' ∧ Below w.heap.size w w' ∧ w3.heap.size ≤ w'.heap.size ∧ ∀ k, ¬ (b1 ≤ k ∧ k < w2.heap.size) → k < w3.heap.size → w'.heap[k]? = w3.heap[k]?
theorem FlipI.below {w w2 w3 w' X : World} {b1 n c : Nat} {A : Option Addr} {l' : List En} (h : FlipI w w2 w3 b1 A n c w' l') (hb : Below w'.heap.size w' X) : FlipI w w2 w3 b1 A n c X l' :=
  ⟨h.1, Kd.S_below h.2.1 hb, below_step h.2.2.1 hb, Nat.le_trans h.2.2.2.1 hb.size, fun k hk hl => (hb.block k (Nat.lt_of_lt_of_le hl h.2.2.2.1)).trans (h.2.2.2.2 k hk hl)⟩
theorem FlipI.flip {w w2 w3 w' : World} {b1 n c i : Nat} {ad : Addr} {l' : List En} (h : FlipI w w2 w3 b1 (some ad) n c w' l') (hb1 : w.heap.size ≤ b1) {y : En} (hy : l'[i]? = some y) (hk : 0 < y.f0.length) :
    ∃ b d, w'.cell? (ad.add (i * 7)) = some (.slice (some ⟨b, 0, none⟩) y.f0.length d) ∧ w'.cell? ⟨b, 0, none⟩ = some (.int .u8 (y.f0.getD 0 0)) ∧ w'.frozen? ⟨b, 0, none⟩ = false ∧ ∀ u, ∃ l2, FlipI w w2 w3 b1 (some ad) n c (w'.setCell ⟨b, 0, none⟩ (.int .u8 u)) l2 := by
  obtain ⟨g1, g2, g3, g4, g5⟩ := h
  obtain ⟨b, d, h1, h2, h3, h4, h5⟩ := S_flip g2 hy hk
  refine ⟨b, d, h1, h2, h3, fun u => ⟨_, by rw [List.length_set]; exact g1, h5 u, below_set g3 (Nat.le_trans hb1 h4.1), by simpa using g4, fun k hk hl => ?_⟩⟩
  exact (Below.heap_setCell _ _ _ k (by rintro rfl; exact hk h4)).trans (g5 k hk hl)
end Go.Proofs.Ytihdomhiiolojaa.P
