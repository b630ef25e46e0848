/- rickyardlaw05.CrcPieces: the sum of a text and more behind it goes on from the text's sum. No conditions. -/
import Derived.Test.YthdkcfobhofmpaaPrickyardlaw05CrcPieces
namespace Go.Proofs.Ythdkcfobhofmpaa.Pure
open Go.RowKit Go.Proofs.Ythdkcfobhofmpaa.P Go.Proofs.YthdkcfobhofmpaaW.PrintWords Go.Proofs.YthdkcfobhofmpaaW.PrintLast

theorem CrcPieces : rickyardlaw05_CrcPieces.Pure := by
  intro l m _ hl _ _ hm _
  refine ⟨1, ?_⟩
  have hrest : l.length ≤ 3000 → m.length ≤ 3000 → rickyardlaw05_CrcPieces.j0 1 l m false = some true := by
    intro q1 q2
    rw [rickyardlaw05_CrcPieces.j0, if_neg (by decide)]
    unfold rickyardref05_Copy.f
    rw [if_pos (by simp; omega)]
    simp only [Option.bind_some, List.nil_append]
    rw [if_pos (by omega)]
    unfold rickyardlaw05_alive.f crc_Sum.f cMore.f
    simp only [Option.bind_some, if_true, ofInt_bvi]
    have e1 : cmore (BitVec.ofInt 32 0) (l ++ m) = cmore (cmore (BitVec.ofInt 32 0) l) m := by
      unfold cmore
      rw [cfold_append, BitVec.not_not]
    have e2 : ∀ s, cmore s [] = s := fun s => by
      unfold cmore cfold
      simp
    rw [e1, if_pos rfl, e2, beq_self_eq_true]
  have hall : rickyardlaw05_CrcPieces.j0 1 l m true = some true := by
    rw [rickyardlaw05_CrcPieces.j0]
    rfl
  unfold rickyardlaw05_CrcPieces.f
  by_cases h1 : (l.length : Int) > 3000
  · rw [if_pos h1, hall]
  · rw [if_neg h1]
    by_cases h2 : (m.length : Int) > 3000
    · rw [decide_eq_true h2, hall]
    · rw [decide_eq_false h2, hrest (by omega) (by omega)]

end Go.Proofs.Ythdkcfobhofmpaa.Pure
