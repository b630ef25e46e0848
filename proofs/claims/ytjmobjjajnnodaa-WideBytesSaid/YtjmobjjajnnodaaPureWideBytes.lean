/- rickyardlaw01.WideBytes: bytes are those of the reference. No conditions. -/
import Derived.Test.YtjmobjjajnnodaaWidePure1
import Derived.Test.YtjmobjjajnnodaaBytes8
import Derived.Test.YtjmobjjajnnodaaPrickyardlaw01WideBytes
namespace Go.Proofs.Ytjmobjjajnnodaa.Pure
open Go.RowKit Go.Proofs.Ytjmobjjajnnodaa.P Go.Proofs.YtjmobjjajnnodaaW.PrintWords Go.Proofs.YtjmobjjajnnodaaW.PrintLast
set_option linter.unusedVariables false

theorem read_some (l : List Int) (h : IsBy l) : ∃ r, wide_Read.f l = some r := by
  unfold wide_Read.f
  by_cases h1 : l.length < 16
  · rw [if_pos h1]; exact ⟨_, rfl⟩
  · rw [if_neg h1]
    by_cases h2 : 16 < l.length
    · rw [if_pos h2]; exact ⟨_, rfl⟩
    · rw [if_neg h2, if_pos h]; exact ⟨_, rfl⟩
theorem WideBytes_walk (a0 a1 : Int) (A : Option Addr) (c : Nat) (l : List Int) (w : World) (p0 : (Lit.int .i64 a0).wf = true) (p1 : (Lit.int .u64 a1).wf = true) (hr : Kd.C (Kd.int .u8) w A l.length l) (hc : l.length ≤ c) (hb : ∀ x ∈ l, 0 ≤ x ∧ x < 256) :
    Calls Try.prog 10 #[.agg #[.int .i64 a0, .int .u64 a1], .slice A l.length c] w fun e w' => e = .returned (.bool true) ∧ Below w.heap.size w w' := by
  have pb := of_wf_u64 p1
  refine rickyardlaw01_WideBytes.calls 60 a0 a1 A c l true w hr hc ?_ rfl
  obtain ⟨r, h⟩ := read_some l hb
  unfold rickyardlaw01_WideBytes.f
  rw [read_same, h, alive01_f 60 (by decide), write_same a0 a1 pb.1 pb.2]
  simp only [Option.bind_some, if_true]
  unfold wide_Write.f
  simp only [Option.bind_some, if_true, beq_self_eq_true, Bool.and_self]

end Go.Proofs.Ytjmobjjajnnodaa.Pure
