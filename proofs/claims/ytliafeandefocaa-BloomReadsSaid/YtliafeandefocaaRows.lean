/-
  No cell of these rows narrows 'for every input' (looked for: loops, veiled, ifaces, maps, wideKeys, modest, calm, conditions, laid).
  DERIVED. THE GIVEN ROWS OF THIS SEAT. 7 by the template 'for every input the law returns true; each argument reads behind the call as it read before'; 0 by the template 'total and deterministic' (their statements: YtliafeandefocaaTotals.lean).
  GIVEN WITH THE SEED: the statements are not yours to turn. If you find one false, say at which input.
  Laid BY PROGRAM, IN A SANDBOX (cutbox-rows.mjs): the forced cells as the released guide's own fill.sh prints them over the translation 32347d0e19f47856… (all of the seat's roots in one cut). By AI agents, Wed Nov 11 2026. No macro, syntax, notation, axiom, sorry.
-/
import Derived.Test.YtliafeandefocaaChecked
import GoSem.Claim
import GoSem.ClaimJoined
import GoSem.ClaimMapViews
import Derived.JoinedTies
import Derived.KernelRfl
namespace Go.Proofs.Ytliafeandefocaa
/- THE CELL 'sum', in the pinned program and in every row, IS THE sha256 OF THE DUMP (.gsa) THAT YtliafeandefocaaProg.lean LOADS. Nothing in Lean hashes anything: it is a label: what it is worth is what the hold of that sum in a sandbox is worth. -/
noncomputable def Try.pinned : Pinned := { name := "ytliafeandefocaa", sum := "32347d0e19f478560893995c0b0b1be62a957278c42652fb439db76cff50c735", checked := Try.checked }
namespace Rows
def none {H : Type} : Left H := { results := [], args := [] }

/-- 'rickyardlaw07.BloomMore': WHATEVER THE INPUT: true; the input reads as it did. -/
def bloomMoreSpec : ChangeSpec := { name := "bloomMore", fn := fun _ => fun
  | [d1, d2, d3, d4, d5] => { results := [.lit (.bool true)], args := [d1, d2, d3, d4, d5] }
  | _ => none }
def bloomMoreRow : OpenClaim := { program := "ytliafeandefocaa", sum := "32347d0e19f478560893995c0b0b1be62a957278c42652fb439db76cff50c735", func := "rickyard/rickyardlaw07.BloomMore", spec := "bloomMore", unfollowed := true, recurses := true, apart := false }
def BloomMoreSaid : Prop := bloomMoreRow.holds Try.pinned (OpenSpec.ofChange bloomMoreSpec)

/-- ITS FALSE NEIGHBOUR: 'it returns false'. Refute it at one input. -/
def bloomMoreWrong : ChangeSpec := { name := "bloomMore", fn := fun _ => fun
  | [d1, d2, d3, d4, d5] => { results := [.lit (.bool false)], args := [d1, d2, d3, d4, d5] }
  | _ => none }
def BloomMoreWrongFalsely : Prop := bloomMoreRow.holds Try.pinned (OpenSpec.ofChange bloomMoreWrong)

/-- 'rickyardlaw07.BloomLives': WHATEVER THE INPUT: true; the input reads as it did. -/
def bloomLivesSpec : ChangeSpec := { name := "bloomLives", fn := fun _ => fun
  | [d1, d2, d3, d4] => { results := [.lit (.bool true)], args := [d1, d2, d3, d4] }
  | _ => none }
def bloomLivesRow : OpenClaim := { program := "ytliafeandefocaa", sum := "32347d0e19f478560893995c0b0b1be62a957278c42652fb439db76cff50c735", func := "rickyard/rickyardlaw07.BloomLives", spec := "bloomLives", unfollowed := true, recurses := true, apart := false }
def BloomLivesSaid : Prop := bloomLivesRow.holds Try.pinned (OpenSpec.ofChange bloomLivesSpec)

/-- ITS FALSE NEIGHBOUR: 'it returns false'. Refute it at one input. -/
def bloomLivesWrong : ChangeSpec := { name := "bloomLives", fn := fun _ => fun
  | [d1, d2, d3, d4] => { results := [.lit (.bool false)], args := [d1, d2, d3, d4] }
  | _ => none }
def BloomLivesWrongFalsely : Prop := bloomLivesRow.holds Try.pinned (OpenSpec.ofChange bloomLivesWrong)

/-- 'rickyardlaw07.BloomNobody': WHATEVER THE INPUT: true; the input reads as it did. -/
def bloomNobodySpec : ChangeSpec := { name := "bloomNobody", fn := fun _ => fun
  | [d] => { results := [.lit (.bool true)], args := [d] }
  | _ => none }
def bloomNobodyRow : OpenClaim := { program := "ytliafeandefocaa", sum := "32347d0e19f478560893995c0b0b1be62a957278c42652fb439db76cff50c735", func := "rickyard/rickyardlaw07.BloomNobody", spec := "bloomNobody", unfollowed := true, recurses := true, apart := false }
def BloomNobodySaid : Prop := bloomNobodyRow.holds Try.pinned (OpenSpec.ofChange bloomNobodySpec)

/-- ITS FALSE NEIGHBOUR: 'it returns false'. Refute it at one input. -/
def bloomNobodyWrong : ChangeSpec := { name := "bloomNobody", fn := fun _ => fun
  | [d] => { results := [.lit (.bool false)], args := [d] }
  | _ => none }
def BloomNobodyWrongFalsely : Prop := bloomNobodyRow.holds Try.pinned (OpenSpec.ofChange bloomNobodyWrong)

/-- 'rickyardlaw07.BloomOrder': WHATEVER THE INPUT: true; the input reads as it did. -/
def bloomOrderSpec : ChangeSpec := { name := "bloomOrder", fn := fun _ => fun
  | [d1, d2, d3, d4] => { results := [.lit (.bool true)], args := [d1, d2, d3, d4] }
  | _ => none }
def bloomOrderRow : OpenClaim := { program := "ytliafeandefocaa", sum := "32347d0e19f478560893995c0b0b1be62a957278c42652fb439db76cff50c735", func := "rickyard/rickyardlaw07.BloomOrder", spec := "bloomOrder", unfollowed := true, recurses := true, apart := false }
def BloomOrderSaid : Prop := bloomOrderRow.holds Try.pinned (OpenSpec.ofChange bloomOrderSpec)

/-- ITS FALSE NEIGHBOUR: 'it returns false'. Refute it at one input. -/
def bloomOrderWrong : ChangeSpec := { name := "bloomOrder", fn := fun _ => fun
  | [d1, d2, d3, d4] => { results := [.lit (.bool false)], args := [d1, d2, d3, d4] }
  | _ => none }
def BloomOrderWrongFalsely : Prop := bloomOrderRow.holds Try.pinned (OpenSpec.ofChange bloomOrderWrong)

/-- 'rickyardlaw07.BloomReads': WHATEVER THE INPUT: true; the input reads as it did. -/
def bloomReadsSpec : ChangeSpec := { name := "bloomReads", fn := fun _ => fun
  | [d1, d2, d3] => { results := [.lit (.bool true)], args := [d1, d2, d3] }
  | _ => none }
def bloomReadsRow : OpenClaim := { program := "ytliafeandefocaa", sum := "32347d0e19f478560893995c0b0b1be62a957278c42652fb439db76cff50c735", func := "rickyard/rickyardlaw07.BloomReads", spec := "bloomReads", unfollowed := true, recurses := true, apart := false }
def BloomReadsSaid : Prop := bloomReadsRow.holds Try.pinned (OpenSpec.ofChange bloomReadsSpec)

/-- ITS FALSE NEIGHBOUR: 'it returns false'. Refute it at one input. -/
def bloomReadsWrong : ChangeSpec := { name := "bloomReads", fn := fun _ => fun
  | [d1, d2, d3] => { results := [.lit (.bool false)], args := [d1, d2, d3] }
  | _ => none }
def BloomReadsWrongFalsely : Prop := bloomReadsRow.holds Try.pinned (OpenSpec.ofChange bloomReadsWrong)

/-- 'rickyardlaw07.BloomNever': WHATEVER THE INPUT: true; the input reads as it did. -/
def bloomNeverSpec : ChangeSpec := { name := "bloomNever", fn := fun _ => fun
  | [d1, d2, d3] => { results := [.lit (.bool true)], args := [d1, d2, d3] }
  | _ => none }
def bloomNeverRow : OpenClaim := { program := "ytliafeandefocaa", sum := "32347d0e19f478560893995c0b0b1be62a957278c42652fb439db76cff50c735", func := "rickyard/rickyardlaw07.BloomNever", spec := "bloomNever", unfollowed := true, recurses := true, apart := false }
def BloomNeverSaid : Prop := bloomNeverRow.holds Try.pinned (OpenSpec.ofChange bloomNeverSpec)

/-- ITS FALSE NEIGHBOUR: 'it returns false'. Refute it at one input. -/
def bloomNeverWrong : ChangeSpec := { name := "bloomNever", fn := fun _ => fun
  | [d1, d2, d3] => { results := [.lit (.bool false)], args := [d1, d2, d3] }
  | _ => none }
def BloomNeverWrongFalsely : Prop := bloomNeverRow.holds Try.pinned (OpenSpec.ofChange bloomNeverWrong)

/-- 'rickyardlaw07.BloomBack': WHATEVER THE INPUT: true; the input reads as it did. -/
def bloomBackSpec : ChangeSpec := { name := "bloomBack", fn := fun _ => fun
  | [d1, d2, d3, d4] => { results := [.lit (.bool true)], args := [d1, d2, d3, d4] }
  | _ => none }
def bloomBackRow : OpenClaim := { program := "ytliafeandefocaa", sum := "32347d0e19f478560893995c0b0b1be62a957278c42652fb439db76cff50c735", func := "rickyard/rickyardlaw07.BloomBack", spec := "bloomBack", unfollowed := true, recurses := true, apart := false }
def BloomBackSaid : Prop := bloomBackRow.holds Try.pinned (OpenSpec.ofChange bloomBackSpec)

/-- ITS FALSE NEIGHBOUR: 'it returns false'. Refute it at one input. -/
def bloomBackWrong : ChangeSpec := { name := "bloomBack", fn := fun _ => fun
  | [d1, d2, d3, d4] => { results := [.lit (.bool false)], args := [d1, d2, d3, d4] }
  | _ => none }
def BloomBackWrongFalsely : Prop := bloomBackRow.holds Try.pinned (OpenSpec.ofChange bloomBackWrong)

/- THE SECOND FORM. 'bulk': how many values and letters a reading holds, each counted each time it is reached (what is shared counts as often as it is met; a slice's spare places count too). A statement '..UptoSaid' is the law's where the arguments, and the package variables that the reading takes, are together of bulk at most 1048576: NARROWER than '..Said'. Prove '..Said' where nothing that the law and all that it calls make is longer than what came in: it says more and counts as full. Else prove '..UptoSaid'. A law counts once. -/
mutual
def uptoBulk {H : Type} : DataW H → Nat
  | .lit (.string bytes) => bytes.length + 1
  | .lit _ => 1
  | .nil => 1
  | .ptr d => uptoBulk d + 1
  | .slice elems spare => uptoBulkAll elems + uptoBulkAll spare + 1
  | .agg parts => uptoBulkAll parts + 1
  | .iface _ d => uptoBulk d + 1
  | .map entries => uptoBulkEntries entries + 1
  | .held _ => 1
def uptoBulkAll {H : Type} : List (DataW H) → Nat
  | [] => 0
  | d :: r => uptoBulk d + uptoBulkAll r
def uptoBulkEntries {H : Type} : List (Lit × DataW H) → Nat
  | [] => 0
  | x :: r => uptoBulkEntry x + uptoBulkEntries r
def uptoBulkEntry {H : Type} : Lit × DataW H → Nat
  | (.string bytes, d) => bytes.length + uptoBulk d + 1
  | (_, d) => uptoBulk d + 1
 end
def uptoSmall : (H : Type) → List (DataW H) → Bool := fun _ ds => decide (uptoBulkAll ds ≤ 1048576)
def OpenSpec.upto (s : _root_.Go.ChangeSpec) : _root_.Go.OpenSpec := { _root_.Go.OpenSpec.ofChange s with cond := some uptoSmall }

/-- 'rickyardlaw07.BloomMore', WHERE WHAT IT READS IS OF BULK AT MOST 1048576: true; the input reads as it did. -/
def bloomMoreUptoRow : OpenClaim := { program := "ytliafeandefocaa", sum := "32347d0e19f478560893995c0b0b1be62a957278c42652fb439db76cff50c735", func := "rickyard/rickyardlaw07.BloomMore", spec := "bloomMore", unfollowed := true, recurses := true, apart := false, narrowed := true }
def BloomMoreUptoSaid : Prop := bloomMoreUptoRow.holds Try.pinned (OpenSpec.upto bloomMoreSpec)

/-- 'rickyardlaw07.BloomLives', WHERE WHAT IT READS IS OF BULK AT MOST 1048576: true; the input reads as it did. -/
def bloomLivesUptoRow : OpenClaim := { program := "ytliafeandefocaa", sum := "32347d0e19f478560893995c0b0b1be62a957278c42652fb439db76cff50c735", func := "rickyard/rickyardlaw07.BloomLives", spec := "bloomLives", unfollowed := true, recurses := true, apart := false, narrowed := true }
def BloomLivesUptoSaid : Prop := bloomLivesUptoRow.holds Try.pinned (OpenSpec.upto bloomLivesSpec)

/-- 'rickyardlaw07.BloomNobody', WHERE WHAT IT READS IS OF BULK AT MOST 1048576: true; the input reads as it did. -/
def bloomNobodyUptoRow : OpenClaim := { program := "ytliafeandefocaa", sum := "32347d0e19f478560893995c0b0b1be62a957278c42652fb439db76cff50c735", func := "rickyard/rickyardlaw07.BloomNobody", spec := "bloomNobody", unfollowed := true, recurses := true, apart := false, narrowed := true }
def BloomNobodyUptoSaid : Prop := bloomNobodyUptoRow.holds Try.pinned (OpenSpec.upto bloomNobodySpec)

/-- 'rickyardlaw07.BloomOrder', WHERE WHAT IT READS IS OF BULK AT MOST 1048576: true; the input reads as it did. -/
def bloomOrderUptoRow : OpenClaim := { program := "ytliafeandefocaa", sum := "32347d0e19f478560893995c0b0b1be62a957278c42652fb439db76cff50c735", func := "rickyard/rickyardlaw07.BloomOrder", spec := "bloomOrder", unfollowed := true, recurses := true, apart := false, narrowed := true }
def BloomOrderUptoSaid : Prop := bloomOrderUptoRow.holds Try.pinned (OpenSpec.upto bloomOrderSpec)

/-- 'rickyardlaw07.BloomReads', WHERE WHAT IT READS IS OF BULK AT MOST 1048576: true; the input reads as it did. -/
def bloomReadsUptoRow : OpenClaim := { program := "ytliafeandefocaa", sum := "32347d0e19f478560893995c0b0b1be62a957278c42652fb439db76cff50c735", func := "rickyard/rickyardlaw07.BloomReads", spec := "bloomReads", unfollowed := true, recurses := true, apart := false, narrowed := true }
def BloomReadsUptoSaid : Prop := bloomReadsUptoRow.holds Try.pinned (OpenSpec.upto bloomReadsSpec)

/-- 'rickyardlaw07.BloomNever', WHERE WHAT IT READS IS OF BULK AT MOST 1048576: true; the input reads as it did. -/
def bloomNeverUptoRow : OpenClaim := { program := "ytliafeandefocaa", sum := "32347d0e19f478560893995c0b0b1be62a957278c42652fb439db76cff50c735", func := "rickyard/rickyardlaw07.BloomNever", spec := "bloomNever", unfollowed := true, recurses := true, apart := false, narrowed := true }
def BloomNeverUptoSaid : Prop := bloomNeverUptoRow.holds Try.pinned (OpenSpec.upto bloomNeverSpec)

/-- 'rickyardlaw07.BloomBack', WHERE WHAT IT READS IS OF BULK AT MOST 1048576: true; the input reads as it did. -/
def bloomBackUptoRow : OpenClaim := { program := "ytliafeandefocaa", sum := "32347d0e19f478560893995c0b0b1be62a957278c42652fb439db76cff50c735", func := "rickyard/rickyardlaw07.BloomBack", spec := "bloomBack", unfollowed := true, recurses := true, apart := false, narrowed := true }
def BloomBackUptoSaid : Prop := bloomBackUptoRow.holds Try.pinned (OpenSpec.upto bloomBackSpec)

end Rows
end Go.Proofs.Ytliafeandefocaa
