/- rickyardlaw05.CrcSums: for all bytes and every sum, crc.Sum and crc.More are the reference's. No conditions. -/
import Derived.Test.YthdkcfobhofmpaaPrickyardlaw05CrcSums
namespace Go.Proofs.Ythdkcfobhofmpaa.Pure
open Go.RowKit Go.Proofs.Ythdkcfobhofmpaa.P Go.Proofs.YthdkcfobhofmpaaW.PrintWords Go.Proofs.YthdkcfobhofmpaaW.PrintLast

theorem CrcSums : rickyardlaw05_CrcSums.Pure := by
  intro l0 a1 _ _ _ _
  unfold rickyardlaw05_CrcSums.f rickyardlaw05_alive.f crc_Sum.f rickyardref05_Sum.f cMore.f rMore.f
  simp

end Go.Proofs.Ythdkcfobhofmpaa.Pure
