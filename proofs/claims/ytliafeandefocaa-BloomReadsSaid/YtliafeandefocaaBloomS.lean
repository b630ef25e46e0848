/- What the statements' loops need: 'long' answers; keys one behind the other. No conditions. -/
import Derived.Test.YtliafeandefocaaBloomL
namespace Go.Proofs.Ytliafeandefocaa.P
open Go.RowKit Go.Proofs.YtliafeandefocaaW.PrintWords Go.Proofs.YtliafeandefocaaW.PrintLast Go.Proofs.YtliafeandefocaaW.PrintMore
set_option linter.unusedVariables false
set_option linter.unusedSimpArgs false

theorem long_l0 (l : List (List Int)) (hl : l.length ≤ 100) (d : Nat) : ∀ (k i : Nat), i + d = l.length → ∃ r, rickyardlaw07_long.l0 (k + d + 1) l i = some r ∧ (r = false → ∀ j, i ≤ j → j < l.length → (l.getD j []).length ≤ 300) := by
  induction d with
  | zero =>
    intro k i hi
    rw [rickyardlaw07_long.l0, if_neg (by omega)]
    exact ⟨false, rfl, fun _ j h1 h2 => by omega⟩
  | succ d ih =>
    intro k i hi
    rw [show k + (d + 1) + 1 = (k + d + 1) + 1 from rfl, rickyardlaw07_long.l0, if_pos (by omega), if_pos (by omega)]
    by_cases h : ((rd_L1 l i).length : Int) > 300
    · rw [if_pos h]; exact ⟨true, rfl, fun hf => by cases hf⟩
    · rw [if_neg h, show wrap64 ((i : Int) + 1) = ((i + 1 : Nat) : Int) by unfold wrap64; omega]
      obtain ⟨r, h1, h2⟩ := ih k (i + 1) (by omega)
      refine ⟨r, h1, fun hr j hj1 hj2 => ?_⟩
      by_cases e : j = i
      · subst e
        have e2 : rd_L1 l (j : Int) = l.getD j [] := by simp [rd_L1]
        rw [e2] at h; omega
      · exact h2 hr j (by omega) hj2
theorem long_f (l : List (List Int)) : ∃ k r, rickyardlaw07_long.f k l = some r ∧ (r = false → l.length ≤ 100 ∧ ∀ m ∈ l, m.length ≤ 300) := by
  unfold rickyardlaw07_long.f
  by_cases h : (l.length : Int) > 100
  · exact ⟨0, true, if_pos h, fun hf => by cases hf⟩
  · obtain ⟨r, h1, h2⟩ := long_l0 l (by omega) l.length 0 0 (by omega)
    refine ⟨_, r, (if_neg h).trans h1, fun hr => ⟨by omega, fun m hm => ?_⟩⟩
    obtain ⟨j, hj, rfl⟩ := List.getElem_of_mem hm
    have := h2 hr j (by omega) hj
    rwa [List.getD_eq_getElem?_getD, List.getElem?_eq_getElem hj] at this
/-- 'long', called. -/
theorem long_calls (A0 : Option Addr) (c0 : Nat) (l : List (List Int)) : ∃ r : Bool, (r = false → l.length ≤ 100 ∧ ∀ m ∈ l, m.length ≤ 300) ∧ ∀ w, Kd.C (Kd.slice 5 (Kd.int .u8)) w A0 l.length l → l.length ≤ c0 →
    Calls Try.prog 11 #[.slice A0 l.length c0] w fun e w' => e = .returned (.bool r) ∧ Below w.heap.size w w' := by
  obtain ⟨k, r, h1, h2⟩ := long_f l
  exact ⟨r, h2, fun w hr hc => (rickyardlaw07_long.calls k A0 c0 l r w hr hc h1).mono fun e w' ⟨a, b⟩ => ⟨a, b.below⟩⟩

/-- The i-th key of a row, wherever the row is still read. -/
theorem key_at {w : World} {A0 : Option Addr} {l : List (List Int)} (hr : Kd.C (Kd.slice 5 (Kd.int .u8)) w A0 l.length l) {i : Nat} (hi : i < l.length) :
    ∃ ad A c key, A0 = some ad ∧ l.getD i [] = key ∧ w.cell? (ad.add i) = some (.slice A key.length c) ∧ key.length ≤ c ∧ Kd.C (Kd.int .u8) w A key.length key := by
  obtain ⟨ad, A, c, e, h1, h2, h3⟩ := at_L1 hr (i : Int) (by omega) (by omega)
  have e2 : rd_L1 l (i : Int) = l.getD i [] := by simp [rd_L1]
  rw [e2] at h1 h2 h3
  refine ⟨ad, A, c, _, e, rfl, ?_, h2, h3⟩
  rw [Int.toNat_natCast] at h1
  exact h1

/-- The digits when i keys are in. -/
def bitsAt (n : Nat) (h : Int) (l : List (List Int)) (i : Nat) : List Int := addAll (List.replicate n 0) ((l.take i).map (plcK n h))
theorem bitsAt_length (n : Nat) (h : Int) (l : List (List Int)) (i : Nat) : (bitsAt n h l i).length = n := by rw [bitsAt, addAll_length, List.length_replicate]
theorem bitsAt_bytes (n : Nat) (h : Int) (l : List (List Int)) (i : Nat) : IsB (bitsAt n h l i) := addAll_bytes (zeros_bytes n)
theorem bitsAt_succ (n : Nat) (h : Int) (l : List (List Int)) {i : Nat} (hi : i < l.length) : bitsAt n h l (i + 1) = addS (bitsAt n h l i) (plcK n h (l.getD i [])) := by
  have e : l.take (i + 1) = l.take i ++ [l.getD i []] := by
    rw [List.take_add_one, List.getElem?_eq_getElem hi, List.getD_eq_getElem?_getD, List.getElem?_eq_getElem hi]; rfl
  rw [bitsAt, e, List.map_append, addAll_append]
  rfl
theorem bitsAt_all (n : Nat) (h : Int) (l : List (List Int)) : bitsAt n h l l.length = addAll (List.replicate n 0) (l.map (plcK n h)) := by rw [bitsAt, List.take_length]

/-- Between two keys. -/
structure KeysI (w : World) (g b n : Nat) (h : Int) (l : List (List Int)) (i : Nat) (W : World) : Prop where
  fl : Flt W g b h (bitsAt n h l i)
  be : Below w.heap.size w W
  gl : w.heap.size ≤ g
  bl : w.heap.size ≤ b
theorem KeysI.next {w A C : World} {g b n : Nat} {h : Int} {l : List (List Int)} {i : Nat} (H : KeysI w g b n h l i A) (hi : i < l.length) (hF : Flt C g b h (addS (bitsAt n h l i) (plcK n h (l.getD i [])))) (hg : A.grownBy C (some b)) : KeysI w g b n h l (i + 1) C :=
  ⟨by rw [bitsAt_succ n h l hi]; exact hF, H.be.grown hg H.be.size (fun k hk => by cases hk; exact H.bl), H.gl, H.bl⟩
theorem KeysI.below {w A C : World} {g b n : Nat} {h : Int} {l : List (List Int)} {i : Nat} (H : KeysI w g b n h l i A) (hb : Below A.heap.size A C) : KeysI w g b n h l i C :=
  ⟨H.fl.below hb, H.be.trans (hb.mono H.be.size), H.gl, H.bl⟩
theorem rows_below {w C : World} {A0 : Option Addr} {l : List (List Int)} (hr : Kd.C (Kd.slice 5 (Kd.int .u8)) w A0 l.length l) (hb : Below w.heap.size w C) : Kd.C (Kd.slice 5 (Kd.int .u8)) C A0 l.length l := Kd.C_below hr hb

/-- Add, between two keys. -/
theorem keys_add {w W : World} {g b n : Nat} {h : Int} {l : List (List Int)} {i : Nat} (H : KeysI w g b n h l i W) (h1 : 1 ≤ h) (h2 : h ≤ 8) (n1 : 1 ≤ n) (n2 : n ≤ 8192) (hi : i < l.length) {A : Option Addr} {c : Nat} {key : List Int} (hkey : l.getD i [] = key)
    (hr : Kd.C (Kd.int .u8) W A key.length key) (hc : key.length ≤ c) :
    Calls Try.prog 13 #[ptr g, .slice A key.length c] W fun e w' => e = .returned (.int .i64 0) ∧ KeysI w g b n h l (i + 1) w' := by
  subst hkey
  refine (add_calls g b h _ A c _ W H.fl h1 (by omega) (by rw [bitsAt_length]; exact n1) (by rw [bitsAt_length]; exact n2) (bitsAt_bytes n h l i) hr hc).mono fun e w' ⟨a1, a2, a3⟩ => ⟨a1, ?_⟩
  rw [bitsAt_length] at a2
  exact H.next hi a2 a3

theorem write_read (g b : Nat) (h : Int) (l : List Int) (w : World) (hF : Flt w g b h l) (hh : 1 ≤ h) (hh2 : h ≤ 255) (hl2 : l.length ≤ 8192) :
    Calls Try.prog 18 #[ptr g] w fun e w' => ∃ A c, e = .returned (.tuple #[.slice A (h :: l).length c, .int .i64 0]) ∧ Kd.C (Kd.int .u8) w' A (h :: l).length (h :: l) ∧ (h :: l).length ≤ c ∧ Below w.heap.size w w' := by
  refine (write_calls g b h l w hF hh hh2 hl2).mono fun e w' ⟨v, he, hR, hb⟩ => ?_
  obtain ⟨A, c, rfl, hl, hc⟩ := Kd.R_reads hR
  exact ⟨A, c, he, hc, hl, hb⟩
theorem str_of {w : World} {A : Option Addr} {n c : Nat} {l : List Int} (h : Kd.C (Kd.int .u8) w A n l) : (convert 23 9 (.slice A n c)).run Try.prog w = .ok (.string (strOfNums l)) w :=
  Kd.C_string Try.underlying23 Try.underlying5 Try.underlying9 h

theorem bitsAt_may (n : Nat) (hn : 1 ≤ n) (h : Int) (l : List (List Int)) {i : Nat} (hi : i < l.length) : mayS (bitsAt n h l l.length) (plcK n h (l.getD i [])) = true := by
  rw [bitsAt_all]
  refine may_of_mem (n := n) _ _ _ (by simp) ?_ ?_
  · intro ps hps
    obtain ⟨k, _, rfl⟩ := List.mem_map.1 hps
    exact plcK_fits n hn h k
  · rw [List.getD_eq_getElem?_getD, List.getElem?_eq_getElem hi]
    exact List.mem_map.2 ⟨_, List.getElem_mem hi, rfl⟩

end Go.Proofs.Ytliafeandefocaa.P
