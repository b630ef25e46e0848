/- rickyardlaw05.CrcFrames: for all data and all bytes, Frame, Next and All tell what the reference tells, and share nothing. No conditions. -/
import Derived.Test.YthdkcfobhofmpaaPrickyardlaw05CrcFrames
import Derived.Test.YthdkcfobhofmpaaCrcPure2
namespace Go.Proofs.Ythdkcfobhofmpaa.Pure
open Go.RowKit Go.Proofs.Ythdkcfobhofmpaa.P Go.Proofs.YthdkcfobhofmpaaW.PrintWords Go.Proofs.YthdkcfobhofmpaaW.PrintLast
set_option linter.unusedVariables false
set_option linter.unusedSimpArgs false

theorem refFrame_f (k : Nat) (l : List Int) (h : l.length ≤ 70000) : rickyardref05_Frame.f (k + 5) l = if l.length ≤ 65535 then some (frame l, 0) else some ([], 2) := by
  unfold rickyardref05_Frame.f
  by_cases hl : l.length ≤ 65535
  · rw [if_neg (by omega), if_pos hl, show ((l.length : Int) % 4294967296) = (l.length : Int) from by omega, refFour_k k _ (by omega) (by omega)]
    simp only [Option.bind_some]
    rw [if_pos (by simp [four]; omega), show rickyardref05_Sum.f (four ↑l.length ++ l) = some (sumOf (four l.length ++ l)) from rfl]
    simp only [Option.bind_some]
    rw [refFour_k k (sumOf (four ↑l.length ++ l)) (bvi_nonneg _) (bvi_lt _)]
    simp only [Option.bind_some]
    rw [if_pos (by simp [four]; omega)]
    rfl
  · rw [if_pos (by omega), if_neg hl]

theorem refAll_l0 {l : List Int} (hl : IsBytes l) (hlen : l.length ≤ 1000000) (d : Nat) : ∀ (k at_ : Nat) (out : List (List Int)), l.length - at_ ≤ d → at_ ≤ l.length → out.length ≤ at_ →
    rickyardref05_All.l0 (k + d + 1) l out at_ = some ((allN (l.length - at_ + 1) l at_ out).1, ((allN (l.length - at_ + 1) l at_ out).2 : Int)) := by
  induction d with
  | zero =>
    intro k at_ out hd ha ho
    rw [show k + 0 + 1 = k + 1 from rfl, rickyardref05_All.l0, if_neg (by omega)]
    rw [allN_stop l at_ out (by rw [List.drop_of_length_le (by omega)]; unfold nextS; simp)]
  | succ d ih =>
    intro k at_ out hd ha ho
    by_cases hat : at_ < l.length
    · rw [show k + (d + 1) + 1 = (k + d + 1) + 1 from by omega, rickyardref05_All.l0, if_pos (by omega), if_pos (by omega), if_pos (by omega), Int.toNat_natCast]
      unfold rNext.f
      rw [if_pos ⟨hl.drop _, by rw [List.length_drop]; omega⟩]
      simp only [Option.bind_some]
      rw [show l.length - at_ + 1 = (l.length - at_) + 1 from rfl]
      conv => rhs; unfold allN
      by_cases he : (nextS (l.drop at_)).2.2 = 0
      · have hok := nextS_ok (hl.drop at_) (show nextS (l.drop at_) = ((nextS (l.drop at_)).1, (nextS (l.drop at_)).2.1, 0) by rw [← he])
        rw [List.length_drop] at hok
        rw [if_pos he, if_pos he, if_pos (by omega)]
        have hw : wrap64 ((at_ : Int) + (nextS (l.drop at_)).2.1) = ((at_ + (nextS (l.drop at_)).2.1.toNat : Nat) : Int) := by unfold wrap64; omega
        rw [hw, ih k _ _ (by omega) (by omega) (by simp; omega), allN_fuel l _ (l.length - at_) _ _ (Nat.le_refl _) (by omega) hl (by omega)]
      · rw [if_neg he, if_neg he]
    · rw [show k + (d + 1) + 1 = (k + d + 1) + 1 from by omega, rickyardref05_All.l0, if_neg (by omega)]
      rw [allN_stop l at_ out (by rw [List.drop_of_length_le (by omega)]; unfold nextS; simp)]
theorem refAll_f {l : List Int} (hl : IsBytes l) (hlen : l.length ≤ 1000000) (k : Nat) : rickyardref05_All.f (k + l.length + 1) l = some ((allS l).1, ((allS l).2 : Int)) := by
  unfold rickyardref05_All.f allS
  exact refAll_l0 hl hlen l.length k 0 [] (by omega) (by omega) (by simp)

theorem refSame_l0 (a : List (List Int)) (ha : a.length ≤ 9223372036854775806) (d : Nat) : ∀ (k i : Nat), i + d = a.length → rickyardref05_Same.l0 (k + d + 1) a a i = some true := by
  induction d with
  | zero =>
    intro k i hi
    rw [show k + 0 + 1 = k + 1 from rfl, rickyardref05_Same.l0, if_neg (by omega)]
  | succ d ih =>
    intro k i hi
    have hw : wrap64 ((i : Int) + 1) = ((i + 1 : Nat) : Int) := by unfold wrap64; omega
    rw [show k + (d + 1) + 1 = (k + d + 1) + 1 from by omega, rickyardref05_Same.l0, if_pos (by omega), if_pos (by omega), if_pos (by omega), if_pos rfl, hw]
    exact ih k (i + 1) (by omega)
theorem refSame_f (a : List (List Int)) (ha : a.length ≤ 9223372036854775806) (k : Nat) : rickyardref05_Same.f (k + a.length + 1) a a = some true := by
  unfold rickyardref05_Same.f
  rw [if_pos rfl]
  exact refSame_l0 a ha a.length k 0 (by omega)

theorem allN_len (l : List Int) (hl : IsBytes l) : ∀ (k at_ : Nat) (out : List (List Int)), at_ ≤ l.length → out.length ≤ at_ → (allN k l at_ out).1.length ≤ l.length := by
  intro k
  induction k with
  | zero => intro at_ out h1 h2; unfold allN; simp only; omega
  | succ k ih =>
    intro at_ out h1 h2
    unfold allN
    by_cases he : (nextS (l.drop at_)).2.2 = 0
    · have hok := nextS_ok (hl.drop at_) (show nextS (l.drop at_) = ((nextS (l.drop at_)).1, (nextS (l.drop at_)).2.1, 0) by rw [← he])
      rw [List.length_drop] at hok
      rw [if_pos he]
      exact ih _ _ (by omega) (by simp; omega)
    · rw [if_neg he]; simp only; omega

theorem frames_loop (l1 x5 : List Int) (x6 : Int) (x7 : List Int) (x8 : Int) (x10 : List Int) (x11 x12 : Int) (x13 : List (List Int)) (x14 : Int) (L k : Nat) (hL : L ≤ 1000000)
    (hfin : ∀ x9 : List Int, x9.length = L → rickyardlaw05_CrcFrames.l0 (k + 1) l1 x5 x6 x7 x8 x9 x10 x11 x12 x13 x14 L = some true) (d : Nat) :
    ∀ (i : Nat) (x9 : List Int), i + d = L → x9.length = L → rickyardlaw05_CrcFrames.l0 (k + d + 1) l1 x5 x6 x7 x8 x9 x10 x11 x12 x13 x14 i = some true := by
  induction d with
  | zero =>
    intro i x9 hi hx
    obtain rfl : i = L := by omega
    exact hfin x9 hx
  | succ d ih =>
    intro i x9 hi hx
    have hw : wrap64 ((i : Int) + 1) = ((i + 1 : Nat) : Int) := by unfold wrap64; omega
    rw [show k + (d + 1) + 1 = (k + d + 1) + 1 from by omega, rickyardlaw05_CrcFrames.l0, if_pos (by omega), if_pos (by omega), hw]
    exact ih (i + 1) _ (by omega) (by rw [List.length_set]; exact hx)

theorem CrcFrames : rickyardlaw05_CrcFrames.Pure := by
  intro l m _ _ hl' _ _ hm'
  have hl := isBytes_wf hl'
  have hm := isBytes_wf hm'
  have main : ∀ k : Nat, 20000 ≤ k → rickyardlaw05_CrcFrames.f (k + 5 + 1) l m = some true := by
   intro k hk
   have hall : rickyardlaw05_CrcFrames.j0 (k + 5 + 1) l m true = some true := by
     rw [rickyardlaw05_CrcFrames.j0]; rfl
   have hrest : l.length ≤ 70000 → m.length ≤ 4000 → rickyardlaw05_CrcFrames.j0 (k + 5 + 1) l m false = some true := by
     intro q1 q2
     have hfr : crc_Frame.f l = if l.length ≤ 65535 then some (frame l, 0) else some ([], 2) := by
       by_cases h : l.length ≤ 65535
       · rw [if_pos h]; exact frame_f l h
       · rw [if_neg h]; unfold crc_Frame.f; rw [if_pos (by omega)]
     rw [rickyardlaw05_CrcFrames.j0, if_neg (by decide), hfr, refFrame_f k l q1]
     have hcopy : rickyardref05_Copy.f m = some m := by
       unfold rickyardref05_Copy.f
       rw [if_pos (by simp; omega)]
       rfl
     have hfinal : ∀ (fr : List Int) (e : Int) (x9 : List Int), x9.length = m.length →
         rickyardlaw05_CrcFrames.l0 ((k + 4) - m.length + 1) m fr e fr e x9 (nextS m).1 (nextS m).2.1 (nextS m).2.2 (allS m).1 ((allS m).2 : Int) m.length = some true := fun fr e x9 hx => by
       rw [rickyardlaw05_CrcFrames.l0, if_neg (by omega)]
       unfold rNext.f
       rw [if_pos ⟨hm, by omega⟩]
       simp only [Option.bind_some]
       rw [show (k + 4) - m.length = ((k + 4) - m.length - m.length - 1) + m.length + 1 from by omega, refAll_f hm (by omega)]
       unfold rickyardlaw05_alive.f
       simp only [Option.bind_some, if_true]
       have hlen := allN_len m hm (m.length + 1) 0 [] (by omega) (by simp)
       rw [show (k + 4) - m.length - m.length - 1 + m.length + 1 = ((k + 4) - m.length - (allS m).1.length - 1) + (allS m).1.length + 1 from by unfold allS; omega, refSame_f (allS m).1 (by unfold allS; omega)]
       simp
     have hgo : ∀ (fr : List Int) (e : Int), rickyardlaw05_CrcFrames.l0 (k + 5) m fr e fr e m (nextS m).1 (nextS m).2.1 (nextS m).2.2 (allS m).1 ((allS m).2 : Int) 0 = some true := fun fr e => by
       have := frames_loop m fr e fr e (nextS m).1 (nextS m).2.1 (nextS m).2.2 (allS m).1 ((allS m).2 : Int) m.length ((k + 4) - m.length) (by omega) (hfinal fr e) m.length 0 m (by omega) rfl
       rwa [show (k + 4) - m.length + m.length + 1 = (k + 5) from by omega] at this
     rw [hcopy]
     have hnext := next_f hm (by omega)
     have hallf : crc_All.f m = some ((allS m).1, ((allS m).2 : Int)) := by
       unfold crc_All.f
       rw [if_pos ⟨hm, by omega⟩]
     by_cases h : l.length ≤ 65535
     · rw [if_pos h]
       simp only [Option.bind_some]
       rw [hnext, hallf]
       simp only [Option.bind_some]
       exact hgo _ _
     · rw [if_neg h]
       simp only [Option.bind_some]
       rw [hnext, hallf]
       simp only [Option.bind_some]
       exact hgo _ _
   unfold rickyardlaw05_CrcFrames.f
   have key : l.length ≤ 70000 → rickyardlaw05_CrcFrames.j0 (k + 5 + 1) l m (decide ((m.length : Int) > 4000)) = some true := fun q => by
     by_cases h : (m.length : Int) > 4000
     · rw [decide_eq_true h, hall]
     · rw [decide_eq_false h, hrest q (by omega)]
   by_cases h1 : (l.length : Int) > 500
   · rw [if_pos h1]
     by_cases h2 : (l.length : Int) ≤ 65535
     · rw [if_pos h2, hall]
     · rw [if_neg h2]
       by_cases h3 : (l.length : Int) > 70000
       · rw [if_pos h3, hall]
       · rw [if_neg h3, key (by omega)]
   · rw [if_neg h1]
     by_cases h3 : (l.length : Int) > 70000
     · rw [if_pos h3, hall]
     · rw [if_neg h3, key (by omega)]

  exact ⟨20000 + 5 + 1, main 20000 (Nat.le_refl _)⟩

end Go.Proofs.Ythdkcfobhofmpaa.Pure
