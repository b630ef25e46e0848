/-
  No cell of these rows narrows 'for every input' (looked for: loops, veiled, ifaces, maps, wideKeys, modest, calm, conditions, laid).
  DERIVED. THE GIVEN ROWS OF THIS SEAT. 6 by the template 'for every input the law returns true; each argument reads behind the call as it read before'; 0 by the template 'total and deterministic' (their statements: YtflmjiadahknkaaTotals.lean).
  GIVEN WITH THE SEED: the statements are not yours to turn. If you find one false, say at which input.
  Laid BY PROGRAM, IN A SANDBOX (cutbox-rows.mjs): the forced cells as the released guide's own fill.sh prints them over the translation c3b6222d4e9d8ccf… (all of the seat's roots in one cut). By AI agents, Wed Nov 11 2026. No macro, syntax, notation, axiom, sorry.
-/
import Derived.Test.YtflmjiadahknkaaChecked
import GoSem.Claim
import GoSem.ClaimJoined
import GoSem.ClaimMapViews
import Derived.JoinedTies
import Derived.KernelRfl
namespace Go.Proofs.Ytflmjiadahknkaa
/- THE CELL 'sum', in the pinned program and in every row, IS THE sha256 OF THE DUMP (.gsa) THAT YtflmjiadahknkaaProg.lean LOADS. Nothing in Lean hashes anything: it is a label: what it is worth is what the hold of that sum in a sandbox is worth. -/
noncomputable def Try.pinned : Pinned := { name := "ytflmjiadahknkaa", sum := "c3b6222d4e9d8ccf2ea9904999e47fbc57a67b25cd686f2a70686d5202025355", checked := Try.checked }
namespace Rows
def none {H : Type} : Left H := { results := [], args := [] }

/-- 'rickyardlaw02.AggMonoid': WHATEVER THE INPUT: true; the input reads as it did. -/
def aggMonoidSpec : ChangeSpec := { name := "aggMonoid", fn := fun _ => fun
  | [d1, d2, d3] => { results := [.lit (.bool true)], args := [d1, d2, d3] }
  | _ => none }
def aggMonoidRow : OpenClaim := { program := "ytflmjiadahknkaa", sum := "c3b6222d4e9d8ccf2ea9904999e47fbc57a67b25cd686f2a70686d5202025355", func := "rickyard/rickyardlaw02.AggMonoid", spec := "aggMonoid", inPlace := ["math/bits.Add64"], unfollowed := true, recurses := true, apart := false }
def AggMonoidSaid : Prop := aggMonoidRow.holds Try.pinned (OpenSpec.ofChange aggMonoidSpec)

/-- ITS FALSE NEIGHBOUR: 'it returns false'. Refute it at one input. -/
def aggMonoidWrong : ChangeSpec := { name := "aggMonoid", fn := fun _ => fun
  | [d1, d2, d3] => { results := [.lit (.bool false)], args := [d1, d2, d3] }
  | _ => none }
def AggMonoidWrongFalsely : Prop := aggMonoidRow.holds Try.pinned (OpenSpec.ofChange aggMonoidWrong)

/-- 'rickyardlaw02.AggSticky': WHATEVER THE INPUT: true; the input reads as it did. -/
def aggStickySpec : ChangeSpec := { name := "aggSticky", fn := fun _ => fun
  | [d1, d2] => { results := [.lit (.bool true)], args := [d1, d2] }
  | _ => none }
def aggStickyRow : OpenClaim := { program := "ytflmjiadahknkaa", sum := "c3b6222d4e9d8ccf2ea9904999e47fbc57a67b25cd686f2a70686d5202025355", func := "rickyard/rickyardlaw02.AggSticky", spec := "aggSticky", inPlace := ["math/bits.Add64"], unfollowed := true, recurses := true, apart := false }
def AggStickySaid : Prop := aggStickyRow.holds Try.pinned (OpenSpec.ofChange aggStickySpec)

/-- ITS FALSE NEIGHBOUR: 'it returns false'. Refute it at one input. -/
def aggStickyWrong : ChangeSpec := { name := "aggSticky", fn := fun _ => fun
  | [d1, d2] => { results := [.lit (.bool false)], args := [d1, d2] }
  | _ => none }
def AggStickyWrongFalsely : Prop := aggStickyRow.holds Try.pinned (OpenSpec.ofChange aggStickyWrong)

/-- 'rickyardlaw02.AggMany': WHATEVER THE INPUT: true; the input reads as it did. -/
def aggManySpec : ChangeSpec := { name := "aggMany", fn := fun _ => fun
  | [d] => { results := [.lit (.bool true)], args := [d] }
  | _ => none }
def aggManyRow : OpenClaim := { program := "ytflmjiadahknkaa", sum := "c3b6222d4e9d8ccf2ea9904999e47fbc57a67b25cd686f2a70686d5202025355", func := "rickyard/rickyardlaw02.AggMany", spec := "aggMany", inPlace := ["math/bits.Add64"], unfollowed := true, recurses := true, apart := false }
def AggManySaid : Prop := aggManyRow.holds Try.pinned (OpenSpec.ofChange aggManySpec)

/-- ITS FALSE NEIGHBOUR: 'it returns false'. Refute it at one input. -/
def aggManyWrong : ChangeSpec := { name := "aggMany", fn := fun _ => fun
  | [d] => { results := [.lit (.bool false)], args := [d] }
  | _ => none }
def AggManyWrongFalsely : Prop := aggManyRow.holds Try.pinned (OpenSpec.ofChange aggManyWrong)

/-- 'rickyardlaw02.AggParts': WHATEVER THE INPUT: true; the input reads as it did. -/
def aggPartsSpec : ChangeSpec := { name := "aggParts", fn := fun _ => fun
  | [d1, d2, d3] => { results := [.lit (.bool true)], args := [d1, d2, d3] }
  | _ => none }
def aggPartsRow : OpenClaim := { program := "ytflmjiadahknkaa", sum := "c3b6222d4e9d8ccf2ea9904999e47fbc57a67b25cd686f2a70686d5202025355", func := "rickyard/rickyardlaw02.AggParts", spec := "aggParts", inPlace := ["math/bits.Add64"], unfollowed := true, recurses := true, apart := false }
def AggPartsSaid : Prop := aggPartsRow.holds Try.pinned (OpenSpec.ofChange aggPartsSpec)

/-- ITS FALSE NEIGHBOUR: 'it returns false'. Refute it at one input. -/
def aggPartsWrong : ChangeSpec := { name := "aggParts", fn := fun _ => fun
  | [d1, d2, d3] => { results := [.lit (.bool false)], args := [d1, d2, d3] }
  | _ => none }
def AggPartsWrongFalsely : Prop := aggPartsRow.holds Try.pinned (OpenSpec.ofChange aggPartsWrong)

/-- 'rickyardlaw02.AggBytes': WHATEVER THE INPUT: true; the input reads as it did. -/
def aggBytesSpec : ChangeSpec := { name := "aggBytes", fn := fun _ => fun
  | [d1, d2] => { results := [.lit (.bool true)], args := [d1, d2] }
  | _ => none }
def aggBytesRow : OpenClaim := { program := "ytflmjiadahknkaa", sum := "c3b6222d4e9d8ccf2ea9904999e47fbc57a67b25cd686f2a70686d5202025355", func := "rickyard/rickyardlaw02.AggBytes", spec := "aggBytes", inPlace := ["math/bits.Add64"], unfollowed := true, recurses := true, apart := false }
def AggBytesSaid : Prop := aggBytesRow.holds Try.pinned (OpenSpec.ofChange aggBytesSpec)

/-- ITS FALSE NEIGHBOUR: 'it returns false'. Refute it at one input. -/
def aggBytesWrong : ChangeSpec := { name := "aggBytes", fn := fun _ => fun
  | [d1, d2] => { results := [.lit (.bool false)], args := [d1, d2] }
  | _ => none }
def AggBytesWrongFalsely : Prop := aggBytesRow.holds Try.pinned (OpenSpec.ofChange aggBytesWrong)

/-- 'rickyardlaw02.AggBack': WHATEVER THE INPUT: true; the input reads as it did. -/
def aggBackSpec : ChangeSpec := { name := "aggBack", fn := fun _ => fun
  | [d1, d2] => { results := [.lit (.bool true)], args := [d1, d2] }
  | _ => none }
def aggBackRow : OpenClaim := { program := "ytflmjiadahknkaa", sum := "c3b6222d4e9d8ccf2ea9904999e47fbc57a67b25cd686f2a70686d5202025355", func := "rickyard/rickyardlaw02.AggBack", spec := "aggBack", inPlace := ["math/bits.Add64"], unfollowed := true, recurses := true, apart := false }
def AggBackSaid : Prop := aggBackRow.holds Try.pinned (OpenSpec.ofChange aggBackSpec)

/-- ITS FALSE NEIGHBOUR: 'it returns false'. Refute it at one input. -/
def aggBackWrong : ChangeSpec := { name := "aggBack", fn := fun _ => fun
  | [d1, d2] => { results := [.lit (.bool false)], args := [d1, d2] }
  | _ => none }
def AggBackWrongFalsely : Prop := aggBackRow.holds Try.pinned (OpenSpec.ofChange aggBackWrong)

/- THE SECOND FORM. 'bulk': how many values and letters a reading holds, each counted each time it is reached (what is shared counts as often as it is met; a slice's spare places count too). A statement '..UptoSaid' is the law's where the arguments, and the package variables that the reading takes, are together of bulk at most 1048576: NARROWER than '..Said'. Prove '..Said' where nothing that the law and all that it calls make is longer than what came in: it says more and counts as full. Else prove '..UptoSaid'. A law counts once. -/
mutual
def uptoBulk {H : Type} : DataW H → Nat
  | .lit (.string bytes) => bytes.length + 1
  | .lit _ => 1
  | .nil => 1
  | .ptr d => uptoBulk d + 1
  | .slice elems spare => uptoBulkAll elems + uptoBulkAll spare + 1
  | .agg parts => uptoBulkAll parts + 1
  | .iface _ d => uptoBulk d + 1
  | .map entries => uptoBulkEntries entries + 1
  | .held _ => 1
def uptoBulkAll {H : Type} : List (DataW H) → Nat
  | [] => 0
  | d :: r => uptoBulk d + uptoBulkAll r
def uptoBulkEntries {H : Type} : List (Lit × DataW H) → Nat
  | [] => 0
  | x :: r => uptoBulkEntry x + uptoBulkEntries r
def uptoBulkEntry {H : Type} : Lit × DataW H → Nat
  | (.string bytes, d) => bytes.length + uptoBulk d + 1
  | (_, d) => uptoBulk d + 1
 end
def uptoSmall : (H : Type) → List (DataW H) → Bool := fun _ ds => decide (uptoBulkAll ds ≤ 1048576)
def OpenSpec.upto (s : _root_.Go.ChangeSpec) : _root_.Go.OpenSpec := { _root_.Go.OpenSpec.ofChange s with cond := some uptoSmall }

/-- 'rickyardlaw02.AggMonoid', WHERE WHAT IT READS IS OF BULK AT MOST 1048576: true; the input reads as it did. -/
def aggMonoidUptoRow : OpenClaim := { program := "ytflmjiadahknkaa", sum := "c3b6222d4e9d8ccf2ea9904999e47fbc57a67b25cd686f2a70686d5202025355", func := "rickyard/rickyardlaw02.AggMonoid", spec := "aggMonoid", inPlace := ["math/bits.Add64"], unfollowed := true, recurses := true, apart := false, narrowed := true }
def AggMonoidUptoSaid : Prop := aggMonoidUptoRow.holds Try.pinned (OpenSpec.upto aggMonoidSpec)

/-- 'rickyardlaw02.AggSticky', WHERE WHAT IT READS IS OF BULK AT MOST 1048576: true; the input reads as it did. -/
def aggStickyUptoRow : OpenClaim := { program := "ytflmjiadahknkaa", sum := "c3b6222d4e9d8ccf2ea9904999e47fbc57a67b25cd686f2a70686d5202025355", func := "rickyard/rickyardlaw02.AggSticky", spec := "aggSticky", inPlace := ["math/bits.Add64"], unfollowed := true, recurses := true, apart := false, narrowed := true }
def AggStickyUptoSaid : Prop := aggStickyUptoRow.holds Try.pinned (OpenSpec.upto aggStickySpec)

/-- 'rickyardlaw02.AggMany', WHERE WHAT IT READS IS OF BULK AT MOST 1048576: true; the input reads as it did. -/
def aggManyUptoRow : OpenClaim := { program := "ytflmjiadahknkaa", sum := "c3b6222d4e9d8ccf2ea9904999e47fbc57a67b25cd686f2a70686d5202025355", func := "rickyard/rickyardlaw02.AggMany", spec := "aggMany", inPlace := ["math/bits.Add64"], unfollowed := true, recurses := true, apart := false, narrowed := true }
def AggManyUptoSaid : Prop := aggManyUptoRow.holds Try.pinned (OpenSpec.upto aggManySpec)

/-- 'rickyardlaw02.AggParts', WHERE WHAT IT READS IS OF BULK AT MOST 1048576: true; the input reads as it did. -/
def aggPartsUptoRow : OpenClaim := { program := "ytflmjiadahknkaa", sum := "c3b6222d4e9d8ccf2ea9904999e47fbc57a67b25cd686f2a70686d5202025355", func := "rickyard/rickyardlaw02.AggParts", spec := "aggParts", inPlace := ["math/bits.Add64"], unfollowed := true, recurses := true, apart := false, narrowed := true }
def AggPartsUptoSaid : Prop := aggPartsUptoRow.holds Try.pinned (OpenSpec.upto aggPartsSpec)

/-- 'rickyardlaw02.AggBytes', WHERE WHAT IT READS IS OF BULK AT MOST 1048576: true; the input reads as it did. -/
def aggBytesUptoRow : OpenClaim := { program := "ytflmjiadahknkaa", sum := "c3b6222d4e9d8ccf2ea9904999e47fbc57a67b25cd686f2a70686d5202025355", func := "rickyard/rickyardlaw02.AggBytes", spec := "aggBytes", inPlace := ["math/bits.Add64"], unfollowed := true, recurses := true, apart := false, narrowed := true }
def AggBytesUptoSaid : Prop := aggBytesUptoRow.holds Try.pinned (OpenSpec.upto aggBytesSpec)

/-- 'rickyardlaw02.AggBack', WHERE WHAT IT READS IS OF BULK AT MOST 1048576: true; the input reads as it did. -/
def aggBackUptoRow : OpenClaim := { program := "ytflmjiadahknkaa", sum := "c3b6222d4e9d8ccf2ea9904999e47fbc57a67b25cd686f2a70686d5202025355", func := "rickyard/rickyardlaw02.AggBack", spec := "aggBack", inPlace := ["math/bits.Add64"], unfollowed := true, recurses := true, apart := false, narrowed := true }
def AggBackUptoSaid : Prop := aggBackUptoRow.holds Try.pinned (OpenSpec.upto aggBackSpec)

end Rows
end Go.Proofs.Ytflmjiadahknkaa
