/-
  No cell of these rows narrows 'for every input' (looked for: loops, veiled, ifaces, maps, wideKeys, modest, calm, conditions, laid).
  DERIVED. THE GIVEN ROWS OF THIS SEAT. 7 by the template 'for every input the law returns true; each argument reads behind the call as it read before'; 0 by the template 'total and deterministic' (their statements: YtihdomhiiolojaaTotals.lean).
  GIVEN WITH THE SEED: the statements are not yours to turn. If you find one false, say at which input.
  Laid BY PROGRAM, IN A SANDBOX (cutbox-rows.mjs): the forced cells as the released guide's own fill.sh prints them over the translation 9830661f851b5caf… (all of the seat's roots in one cut). By AI agents, Wed Nov 11 2026. No macro, syntax, notation, axiom, sorry.
-/
import Derived.Test.YtihdomhiiolojaaChecked
import GoSem.Claim
import GoSem.ClaimJoined
import GoSem.ClaimMapViews
import Derived.JoinedTies
import Derived.KernelRfl
namespace Go.Proofs.Ytihdomhiiolojaa
/- THE CELL 'sum', in the pinned program and in every row, IS THE sha256 OF THE DUMP (.gsa) THAT YtihdomhiiolojaaProg.lean LOADS. Nothing in Lean hashes anything: it is a label: what it is worth is what the hold of that sum in a sandbox is worth. -/
noncomputable def Try.pinned : Pinned := { name := "ytihdomhiiolojaa", sum := "9830661f851b5caf1b61c58335f9bbfe1e9c51c1524ab8f5511dd7124b05eda7", checked := Try.checked }
namespace Rows
def none {H : Type} : Left H := { results := [], args := [] }

/-- 'rickyardlaw14.MergeNexts': WHATEVER THE INPUT: true; the input reads as it did. -/
def mergeNextsSpec : ChangeSpec := { name := "mergeNexts", fn := fun _ => fun
  | [d] => { results := [.lit (.bool true)], args := [d] }
  | _ => none }
def mergeNextsRow : OpenClaim := { program := "ytihdomhiiolojaa", sum := "9830661f851b5caf1b61c58335f9bbfe1e9c51c1524ab8f5511dd7124b05eda7", func := "rickyard/rickyardlaw14.MergeNexts", spec := "mergeNexts", inPlace := ["internal/bytealg.Compare", "math/bits.Add64"], unfollowed := true, recurses := true, apart := false }
def MergeNextsSaid : Prop := mergeNextsRow.holds Try.pinned (OpenSpec.ofChange mergeNextsSpec)

/-- ITS FALSE NEIGHBOUR: 'it returns false'. Refute it at one input. -/
def mergeNextsWrong : ChangeSpec := { name := "mergeNexts", fn := fun _ => fun
  | [d] => { results := [.lit (.bool false)], args := [d] }
  | _ => none }
def MergeNextsWrongFalsely : Prop := mergeNextsRow.holds Try.pinned (OpenSpec.ofChange mergeNextsWrong)

/-- 'rickyardlaw14.MergeAll': WHATEVER THE INPUT: true; the input reads as it did. -/
def mergeAllSpec : ChangeSpec := { name := "mergeAll", fn := fun _ => fun
  | [d] => { results := [.lit (.bool true)], args := [d] }
  | _ => none }
def mergeAllRow : OpenClaim := { program := "ytihdomhiiolojaa", sum := "9830661f851b5caf1b61c58335f9bbfe1e9c51c1524ab8f5511dd7124b05eda7", func := "rickyard/rickyardlaw14.MergeAll", spec := "mergeAll", inPlace := ["internal/bytealg.Compare", "math/bits.Add64"], unfollowed := true, recurses := true, apart := false }
def MergeAllSaid : Prop := mergeAllRow.holds Try.pinned (OpenSpec.ofChange mergeAllSpec)

/-- ITS FALSE NEIGHBOUR: 'it returns false'. Refute it at one input. -/
def mergeAllWrong : ChangeSpec := { name := "mergeAll", fn := fun _ => fun
  | [d] => { results := [.lit (.bool false)], args := [d] }
  | _ => none }
def MergeAllWrongFalsely : Prop := mergeAllRow.holds Try.pinned (OpenSpec.ofChange mergeAllWrong)

/-- 'rickyardlaw14.MergeNobody': WHATEVER THE INPUT: true; the input reads as it did. -/
def mergeNobodySpec : ChangeSpec := { name := "mergeNobody", fn := fun _ => fun
  | [] => { results := [.lit (.bool true)], args := [] }
  | _ => none }
def mergeNobodyRow : OpenClaim := { program := "ytihdomhiiolojaa", sum := "9830661f851b5caf1b61c58335f9bbfe1e9c51c1524ab8f5511dd7124b05eda7", func := "rickyard/rickyardlaw14.MergeNobody", spec := "mergeNobody", inPlace := ["internal/bytealg.Compare", "math/bits.Add64"], unfollowed := true, recurses := true, apart := false }
def MergeNobodySaid : Prop := mergeNobodyRow.holds Try.pinned (OpenSpec.ofChange mergeNobodySpec)

/-- ITS FALSE NEIGHBOUR: 'it returns false'. Refute it at one input. -/
def mergeNobodyWrong : ChangeSpec := { name := "mergeNobody", fn := fun _ => fun
  | [] => { results := [.lit (.bool false)], args := [] }
  | _ => none }
def MergeNobodyWrongFalsely : Prop := mergeNobodyRow.holds Try.pinned (OpenSpec.ofChange mergeNobodyWrong)

/-- 'rickyardlaw14.MergeOnce': WHATEVER THE INPUT: true; the input reads as it did. -/
def mergeOnceSpec : ChangeSpec := { name := "mergeOnce", fn := fun _ => fun
  | [d] => { results := [.lit (.bool true)], args := [d] }
  | _ => none }
def mergeOnceRow : OpenClaim := { program := "ytihdomhiiolojaa", sum := "9830661f851b5caf1b61c58335f9bbfe1e9c51c1524ab8f5511dd7124b05eda7", func := "rickyard/rickyardlaw14.MergeOnce", spec := "mergeOnce", inPlace := ["internal/bytealg.Compare", "math/bits.Add64"], unfollowed := true, recurses := true, apart := false }
def MergeOnceSaid : Prop := mergeOnceRow.holds Try.pinned (OpenSpec.ofChange mergeOnceSpec)

/-- ITS FALSE NEIGHBOUR: 'it returns false'. Refute it at one input. -/
def mergeOnceWrong : ChangeSpec := { name := "mergeOnce", fn := fun _ => fun
  | [d] => { results := [.lit (.bool false)], args := [d] }
  | _ => none }
def MergeOnceWrongFalsely : Prop := mergeOnceRow.holds Try.pinned (OpenSpec.ofChange mergeOnceWrong)

/-- 'rickyardlaw14.MergeOrder': WHATEVER THE INPUT: true; the input reads as it did. -/
def mergeOrderSpec : ChangeSpec := { name := "mergeOrder", fn := fun _ => fun
  | [d1, d2, d3] => { results := [.lit (.bool true)], args := [d1, d2, d3] }
  | _ => none }
def mergeOrderRow : OpenClaim := { program := "ytihdomhiiolojaa", sum := "9830661f851b5caf1b61c58335f9bbfe1e9c51c1524ab8f5511dd7124b05eda7", func := "rickyard/rickyardlaw14.MergeOrder", spec := "mergeOrder", inPlace := ["internal/bytealg.Compare", "math/bits.Add64"], unfollowed := true, recurses := true, apart := false }
def MergeOrderSaid : Prop := mergeOrderRow.holds Try.pinned (OpenSpec.ofChange mergeOrderSpec)

/-- ITS FALSE NEIGHBOUR: 'it returns false'. Refute it at one input. -/
def mergeOrderWrong : ChangeSpec := { name := "mergeOrder", fn := fun _ => fun
  | [d1, d2, d3] => { results := [.lit (.bool false)], args := [d1, d2, d3] }
  | _ => none }
def MergeOrderWrongFalsely : Prop := mergeOrderRow.holds Try.pinned (OpenSpec.ofChange mergeOrderWrong)

/-- 'rickyardlaw14.MergeAlone': WHATEVER THE INPUT: true; the input reads as it did. -/
def mergeAloneSpec : ChangeSpec := { name := "mergeAlone", fn := fun _ => fun
  | [d] => { results := [.lit (.bool true)], args := [d] }
  | _ => none }
def mergeAloneRow : OpenClaim := { program := "ytihdomhiiolojaa", sum := "9830661f851b5caf1b61c58335f9bbfe1e9c51c1524ab8f5511dd7124b05eda7", func := "rickyard/rickyardlaw14.MergeAlone", spec := "mergeAlone", inPlace := ["internal/bytealg.Compare", "math/bits.Add64"], unfollowed := true, recurses := true, apart := false }
def MergeAloneSaid : Prop := mergeAloneRow.holds Try.pinned (OpenSpec.ofChange mergeAloneSpec)

/-- ITS FALSE NEIGHBOUR: 'it returns false'. Refute it at one input. -/
def mergeAloneWrong : ChangeSpec := { name := "mergeAlone", fn := fun _ => fun
  | [d] => { results := [.lit (.bool false)], args := [d] }
  | _ => none }
def MergeAloneWrongFalsely : Prop := mergeAloneRow.holds Try.pinned (OpenSpec.ofChange mergeAloneWrong)

/-- 'rickyardlaw14.MergeKnows': WHATEVER THE INPUT: true; the input reads as it did. -/
def mergeKnowsSpec : ChangeSpec := { name := "mergeKnows", fn := fun _ => fun
  | [d1, d2] => { results := [.lit (.bool true)], args := [d1, d2] }
  | _ => none }
def mergeKnowsRow : OpenClaim := { program := "ytihdomhiiolojaa", sum := "9830661f851b5caf1b61c58335f9bbfe1e9c51c1524ab8f5511dd7124b05eda7", func := "rickyard/rickyardlaw14.MergeKnows", spec := "mergeKnows", inPlace := ["internal/bytealg.Compare", "math/bits.Add64"], unfollowed := true, recurses := true, apart := false }
def MergeKnowsSaid : Prop := mergeKnowsRow.holds Try.pinned (OpenSpec.ofChange mergeKnowsSpec)

/-- ITS FALSE NEIGHBOUR: 'it returns false'. Refute it at one input. -/
def mergeKnowsWrong : ChangeSpec := { name := "mergeKnows", fn := fun _ => fun
  | [d1, d2] => { results := [.lit (.bool false)], args := [d1, d2] }
  | _ => none }
def MergeKnowsWrongFalsely : Prop := mergeKnowsRow.holds Try.pinned (OpenSpec.ofChange mergeKnowsWrong)

/- THE SECOND FORM. 'bulk': how many values and letters a reading holds, each counted each time it is reached (what is shared counts as often as it is met; a slice's spare places count too). A statement '..UptoSaid' is the law's where the arguments, and the package variables that the reading takes, are together of bulk at most 1048576: NARROWER than '..Said'. Prove '..Said' where nothing that the law and all that it calls make is longer than what came in: it says more and counts as full. Else prove '..UptoSaid'. A law counts once. -/
mutual
def uptoBulk {H : Type} : DataW H → Nat
  | .lit (.string bytes) => bytes.length + 1
  | .lit _ => 1
  | .nil => 1
  | .ptr d => uptoBulk d + 1
  | .slice elems spare => uptoBulkAll elems + uptoBulkAll spare + 1
  | .agg parts => uptoBulkAll parts + 1
  | .iface _ d => uptoBulk d + 1
  | .map entries => uptoBulkEntries entries + 1
  | .held _ => 1
def uptoBulkAll {H : Type} : List (DataW H) → Nat
  | [] => 0
  | d :: r => uptoBulk d + uptoBulkAll r
def uptoBulkEntries {H : Type} : List (Lit × DataW H) → Nat
  | [] => 0
  | x :: r => uptoBulkEntry x + uptoBulkEntries r
def uptoBulkEntry {H : Type} : Lit × DataW H → Nat
  | (.string bytes, d) => bytes.length + uptoBulk d + 1
  | (_, d) => uptoBulk d + 1
 end
def uptoSmall : (H : Type) → List (DataW H) → Bool := fun _ ds => decide (uptoBulkAll ds ≤ 1048576)
def OpenSpec.upto (s : _root_.Go.ChangeSpec) : _root_.Go.OpenSpec := { _root_.Go.OpenSpec.ofChange s with cond := some uptoSmall }

/-- 'rickyardlaw14.MergeNexts', WHERE WHAT IT READS IS OF BULK AT MOST 1048576: true; the input reads as it did. -/
def mergeNextsUptoRow : OpenClaim := { program := "ytihdomhiiolojaa", sum := "9830661f851b5caf1b61c58335f9bbfe1e9c51c1524ab8f5511dd7124b05eda7", func := "rickyard/rickyardlaw14.MergeNexts", spec := "mergeNexts", inPlace := ["internal/bytealg.Compare", "math/bits.Add64"], unfollowed := true, recurses := true, apart := false, narrowed := true }
def MergeNextsUptoSaid : Prop := mergeNextsUptoRow.holds Try.pinned (OpenSpec.upto mergeNextsSpec)

/-- 'rickyardlaw14.MergeAll', WHERE WHAT IT READS IS OF BULK AT MOST 1048576: true; the input reads as it did. -/
def mergeAllUptoRow : OpenClaim := { program := "ytihdomhiiolojaa", sum := "9830661f851b5caf1b61c58335f9bbfe1e9c51c1524ab8f5511dd7124b05eda7", func := "rickyard/rickyardlaw14.MergeAll", spec := "mergeAll", inPlace := ["internal/bytealg.Compare", "math/bits.Add64"], unfollowed := true, recurses := true, apart := false, narrowed := true }
def MergeAllUptoSaid : Prop := mergeAllUptoRow.holds Try.pinned (OpenSpec.upto mergeAllSpec)

/-- 'rickyardlaw14.MergeNobody', WHERE WHAT IT READS IS OF BULK AT MOST 1048576: true; the input reads as it did. -/
def mergeNobodyUptoRow : OpenClaim := { program := "ytihdomhiiolojaa", sum := "9830661f851b5caf1b61c58335f9bbfe1e9c51c1524ab8f5511dd7124b05eda7", func := "rickyard/rickyardlaw14.MergeNobody", spec := "mergeNobody", inPlace := ["internal/bytealg.Compare", "math/bits.Add64"], unfollowed := true, recurses := true, apart := false, narrowed := true }
def MergeNobodyUptoSaid : Prop := mergeNobodyUptoRow.holds Try.pinned (OpenSpec.upto mergeNobodySpec)

/-- 'rickyardlaw14.MergeOnce', WHERE WHAT IT READS IS OF BULK AT MOST 1048576: true; the input reads as it did. -/
def mergeOnceUptoRow : OpenClaim := { program := "ytihdomhiiolojaa", sum := "9830661f851b5caf1b61c58335f9bbfe1e9c51c1524ab8f5511dd7124b05eda7", func := "rickyard/rickyardlaw14.MergeOnce", spec := "mergeOnce", inPlace := ["internal/bytealg.Compare", "math/bits.Add64"], unfollowed := true, recurses := true, apart := false, narrowed := true }
def MergeOnceUptoSaid : Prop := mergeOnceUptoRow.holds Try.pinned (OpenSpec.upto mergeOnceSpec)

/-- 'rickyardlaw14.MergeOrder', WHERE WHAT IT READS IS OF BULK AT MOST 1048576: true; the input reads as it did. -/
def mergeOrderUptoRow : OpenClaim := { program := "ytihdomhiiolojaa", sum := "9830661f851b5caf1b61c58335f9bbfe1e9c51c1524ab8f5511dd7124b05eda7", func := "rickyard/rickyardlaw14.MergeOrder", spec := "mergeOrder", inPlace := ["internal/bytealg.Compare", "math/bits.Add64"], unfollowed := true, recurses := true, apart := false, narrowed := true }
def MergeOrderUptoSaid : Prop := mergeOrderUptoRow.holds Try.pinned (OpenSpec.upto mergeOrderSpec)

/-- 'rickyardlaw14.MergeAlone', WHERE WHAT IT READS IS OF BULK AT MOST 1048576: true; the input reads as it did. -/
def mergeAloneUptoRow : OpenClaim := { program := "ytihdomhiiolojaa", sum := "9830661f851b5caf1b61c58335f9bbfe1e9c51c1524ab8f5511dd7124b05eda7", func := "rickyard/rickyardlaw14.MergeAlone", spec := "mergeAlone", inPlace := ["internal/bytealg.Compare", "math/bits.Add64"], unfollowed := true, recurses := true, apart := false, narrowed := true }
def MergeAloneUptoSaid : Prop := mergeAloneUptoRow.holds Try.pinned (OpenSpec.upto mergeAloneSpec)

/-- 'rickyardlaw14.MergeKnows', WHERE WHAT IT READS IS OF BULK AT MOST 1048576: true; the input reads as it did. -/
def mergeKnowsUptoRow : OpenClaim := { program := "ytihdomhiiolojaa", sum := "9830661f851b5caf1b61c58335f9bbfe1e9c51c1524ab8f5511dd7124b05eda7", func := "rickyard/rickyardlaw14.MergeKnows", spec := "mergeKnows", inPlace := ["internal/bytealg.Compare", "math/bits.Add64"], unfollowed := true, recurses := true, apart := false, narrowed := true }
def MergeKnowsUptoSaid : Prop := mergeKnowsUptoRow.holds Try.pinned (OpenSpec.upto mergeKnowsSpec)

end Rows
end Go.Proofs.Ytihdomhiiolojaa
