/-
  No cell of these rows narrows 'for every input' (looked for: loops, veiled, ifaces, maps, wideKeys, modest, calm, conditions, laid).
  DERIVED. THE GIVEN ROWS OF THIS SEAT. 6 by the template 'for every input the law returns true; each argument reads behind the call as it read before'; 0 by the template 'total and deterministic' (their statements: YteomanpaladdjaaTotals.lean).
  GIVEN WITH THE SEED: the statements are not yours to turn. If you find one false, say at which input.
  Laid BY PROGRAM, IN A SANDBOX (cutbox-rows.mjs): the forced cells as the released guide's own fill.sh prints them over the translation b150e3d6b2c732d7… (all of the seat's roots in one cut). By AI agents, Wed Nov 11 2026. No macro, syntax, notation, axiom, sorry.
-/
import Derived.Test.YteomanpaladdjaaChecked
import GoSem.Claim
import GoSem.ClaimJoined
import GoSem.ClaimMapViews
import Derived.JoinedTies
import Derived.KernelRfl
namespace Go.Proofs.Yteomanpaladdjaa
/- THE CELL 'sum', in the pinned program and in every row, IS THE sha256 OF THE DUMP (.gsa) THAT YteomanpaladdjaaProg.lean LOADS. Nothing in Lean hashes anything: it is a label: what it is worth is what the hold of that sum in a sandbox is worth. -/
noncomputable def Try.pinned : Pinned := { name := "yteomanpaladdjaa", sum := "b150e3d6b2c732d748a6ae1fa232343ba0c4a88a1f8f914784fc6ac56f906004", checked := Try.checked }
namespace Rows
def none {H : Type} : Left H := { results := [], args := [] }

/-- 'rickyardlaw08.SkipTowers': WHATEVER THE INPUT: true; the input reads as it did. -/
def skipTowersSpec : ChangeSpec := { name := "skipTowers", fn := fun _ => fun
  | [d1, d2, d3, d4] => { results := [.lit (.bool true)], args := [d1, d2, d3, d4] }
  | _ => none }
def skipTowersRow : OpenClaim := { program := "yteomanpaladdjaa", sum := "b150e3d6b2c732d748a6ae1fa232343ba0c4a88a1f8f914784fc6ac56f906004", func := "rickyard/rickyardlaw08.SkipTowers", spec := "skipTowers", inPlace := ["internal/bytealg.Compare", "math/bits.Add64"], unfollowed := true, recurses := true, apart := false }
def SkipTowersSaid : Prop := skipTowersRow.holds Try.pinned (OpenSpec.ofChange skipTowersSpec)

/-- ITS FALSE NEIGHBOUR: 'it returns false'. Refute it at one input. -/
def skipTowersWrong : ChangeSpec := { name := "skipTowers", fn := fun _ => fun
  | [d1, d2, d3, d4] => { results := [.lit (.bool false)], args := [d1, d2, d3, d4] }
  | _ => none }
def SkipTowersWrongFalsely : Prop := skipTowersRow.holds Try.pinned (OpenSpec.ofChange skipTowersWrong)

/-- 'rickyardlaw08.SkipRises': WHATEVER THE INPUT: true; the input reads as it did. -/
def skipRisesSpec : ChangeSpec := { name := "skipRises", fn := fun _ => fun
  | [d1, d2, d3, d4] => { results := [.lit (.bool true)], args := [d1, d2, d3, d4] }
  | _ => none }
def skipRisesRow : OpenClaim := { program := "yteomanpaladdjaa", sum := "b150e3d6b2c732d748a6ae1fa232343ba0c4a88a1f8f914784fc6ac56f906004", func := "rickyard/rickyardlaw08.SkipRises", spec := "skipRises", inPlace := ["internal/bytealg.Compare", "math/bits.Add64"], unfollowed := true, recurses := true, apart := false }
def SkipRisesSaid : Prop := skipRisesRow.holds Try.pinned (OpenSpec.ofChange skipRisesSpec)

/-- ITS FALSE NEIGHBOUR: 'it returns false'. Refute it at one input. -/
def skipRisesWrong : ChangeSpec := { name := "skipRises", fn := fun _ => fun
  | [d1, d2, d3, d4] => { results := [.lit (.bool false)], args := [d1, d2, d3, d4] }
  | _ => none }
def SkipRisesWrongFalsely : Prop := skipRisesRow.holds Try.pinned (OpenSpec.ofChange skipRisesWrong)

/-- 'rickyardlaw08.SkipMerges': WHATEVER THE INPUT: true; the input reads as it did. -/
def skipMergesSpec : ChangeSpec := { name := "skipMerges", fn := fun _ => fun
  | [d1, d2, d3] => { results := [.lit (.bool true)], args := [d1, d2, d3] }
  | _ => none }
def skipMergesRow : OpenClaim := { program := "yteomanpaladdjaa", sum := "b150e3d6b2c732d748a6ae1fa232343ba0c4a88a1f8f914784fc6ac56f906004", func := "rickyard/rickyardlaw08.SkipMerges", spec := "skipMerges", inPlace := ["internal/bytealg.Compare", "math/bits.Add64"], unfollowed := true, recurses := true, apart := false }
def SkipMergesSaid : Prop := skipMergesRow.holds Try.pinned (OpenSpec.ofChange skipMergesSpec)

/-- ITS FALSE NEIGHBOUR: 'it returns false'. Refute it at one input. -/
def skipMergesWrong : ChangeSpec := { name := "skipMerges", fn := fun _ => fun
  | [d1, d2, d3] => { results := [.lit (.bool false)], args := [d1, d2, d3] }
  | _ => none }
def SkipMergesWrongFalsely : Prop := skipMergesRow.holds Try.pinned (OpenSpec.ofChange skipMergesWrong)

/-- 'rickyardlaw08.SkipKeeps': WHATEVER THE INPUT: true; the input reads as it did. -/
def skipKeepsSpec : ChangeSpec := { name := "skipKeeps", fn := fun _ => fun
  | [d1, d2, d3, d4] => { results := [.lit (.bool true)], args := [d1, d2, d3, d4] }
  | _ => none }
def skipKeepsRow : OpenClaim := { program := "yteomanpaladdjaa", sum := "b150e3d6b2c732d748a6ae1fa232343ba0c4a88a1f8f914784fc6ac56f906004", func := "rickyard/rickyardlaw08.SkipKeeps", spec := "skipKeeps", inPlace := ["internal/bytealg.Compare", "math/bits.Add64"], unfollowed := true, recurses := true, apart := false }
def SkipKeepsSaid : Prop := skipKeepsRow.holds Try.pinned (OpenSpec.ofChange skipKeepsSpec)

/-- ITS FALSE NEIGHBOUR: 'it returns false'. Refute it at one input. -/
def skipKeepsWrong : ChangeSpec := { name := "skipKeeps", fn := fun _ => fun
  | [d1, d2, d3, d4] => { results := [.lit (.bool false)], args := [d1, d2, d3, d4] }
  | _ => none }
def SkipKeepsWrongFalsely : Prop := skipKeepsRow.holds Try.pinned (OpenSpec.ofChange skipKeepsWrong)

/-- 'rickyardlaw08.SkipLives': WHATEVER THE INPUT: true; the input reads as it did. -/
def skipLivesSpec : ChangeSpec := { name := "skipLives", fn := fun _ => fun
  | [d] => { results := [.lit (.bool true)], args := [d] }
  | _ => none }
def skipLivesRow : OpenClaim := { program := "yteomanpaladdjaa", sum := "b150e3d6b2c732d748a6ae1fa232343ba0c4a88a1f8f914784fc6ac56f906004", func := "rickyard/rickyardlaw08.SkipLives", spec := "skipLives", inPlace := ["internal/bytealg.Compare", "math/bits.Add64"], unfollowed := true, recurses := true, apart := false }
def SkipLivesSaid : Prop := skipLivesRow.holds Try.pinned (OpenSpec.ofChange skipLivesSpec)

/-- ITS FALSE NEIGHBOUR: 'it returns false'. Refute it at one input. -/
def skipLivesWrong : ChangeSpec := { name := "skipLives", fn := fun _ => fun
  | [d] => { results := [.lit (.bool false)], args := [d] }
  | _ => none }
def SkipLivesWrongFalsely : Prop := skipLivesRow.holds Try.pinned (OpenSpec.ofChange skipLivesWrong)

/-- 'rickyardlaw08.SkipNobody': WHATEVER THE INPUT: true; the input reads as it did. -/
def skipNobodySpec : ChangeSpec := { name := "skipNobody", fn := fun _ => fun
  | [d1, d2, d3] => { results := [.lit (.bool true)], args := [d1, d2, d3] }
  | _ => none }
def skipNobodyRow : OpenClaim := { program := "yteomanpaladdjaa", sum := "b150e3d6b2c732d748a6ae1fa232343ba0c4a88a1f8f914784fc6ac56f906004", func := "rickyard/rickyardlaw08.SkipNobody", spec := "skipNobody", inPlace := ["internal/bytealg.Compare", "math/bits.Add64"], unfollowed := true, recurses := true, apart := false }
def SkipNobodySaid : Prop := skipNobodyRow.holds Try.pinned (OpenSpec.ofChange skipNobodySpec)

/-- ITS FALSE NEIGHBOUR: 'it returns false'. Refute it at one input. -/
def skipNobodyWrong : ChangeSpec := { name := "skipNobody", fn := fun _ => fun
  | [d1, d2, d3] => { results := [.lit (.bool false)], args := [d1, d2, d3] }
  | _ => none }
def SkipNobodyWrongFalsely : Prop := skipNobodyRow.holds Try.pinned (OpenSpec.ofChange skipNobodyWrong)

/- THE SECOND FORM. 'bulk': how many values and letters a reading holds, each counted each time it is reached (what is shared counts as often as it is met; a slice's spare places count too). A statement '..UptoSaid' is the law's where the arguments, and the package variables that the reading takes, are together of bulk at most 1048576: NARROWER than '..Said'. Prove '..Said' where nothing that the law and all that it calls make is longer than what came in: it says more and counts as full. Else prove '..UptoSaid'. A law counts once. -/
mutual
def uptoBulk {H : Type} : DataW H → Nat
  | .lit (.string bytes) => bytes.length + 1
  | .lit _ => 1
  | .nil => 1
  | .ptr d => uptoBulk d + 1
  | .slice elems spare => uptoBulkAll elems + uptoBulkAll spare + 1
  | .agg parts => uptoBulkAll parts + 1
  | .iface _ d => uptoBulk d + 1
  | .map entries => uptoBulkEntries entries + 1
  | .held _ => 1
def uptoBulkAll {H : Type} : List (DataW H) → Nat
  | [] => 0
  | d :: r => uptoBulk d + uptoBulkAll r
def uptoBulkEntries {H : Type} : List (Lit × DataW H) → Nat
  | [] => 0
  | x :: r => uptoBulkEntry x + uptoBulkEntries r
def uptoBulkEntry {H : Type} : Lit × DataW H → Nat
  | (.string bytes, d) => bytes.length + uptoBulk d + 1
  | (_, d) => uptoBulk d + 1
 end
def uptoSmall : (H : Type) → List (DataW H) → Bool := fun _ ds => decide (uptoBulkAll ds ≤ 1048576)
def OpenSpec.upto (s : _root_.Go.ChangeSpec) : _root_.Go.OpenSpec := { _root_.Go.OpenSpec.ofChange s with cond := some uptoSmall }

/-- 'rickyardlaw08.SkipTowers', WHERE WHAT IT READS IS OF BULK AT MOST 1048576: true; the input reads as it did. -/
def skipTowersUptoRow : OpenClaim := { program := "yteomanpaladdjaa", sum := "b150e3d6b2c732d748a6ae1fa232343ba0c4a88a1f8f914784fc6ac56f906004", func := "rickyard/rickyardlaw08.SkipTowers", spec := "skipTowers", inPlace := ["internal/bytealg.Compare", "math/bits.Add64"], unfollowed := true, recurses := true, apart := false, narrowed := true }
def SkipTowersUptoSaid : Prop := skipTowersUptoRow.holds Try.pinned (OpenSpec.upto skipTowersSpec)

/-- 'rickyardlaw08.SkipRises', WHERE WHAT IT READS IS OF BULK AT MOST 1048576: true; the input reads as it did. -/
def skipRisesUptoRow : OpenClaim := { program := "yteomanpaladdjaa", sum := "b150e3d6b2c732d748a6ae1fa232343ba0c4a88a1f8f914784fc6ac56f906004", func := "rickyard/rickyardlaw08.SkipRises", spec := "skipRises", inPlace := ["internal/bytealg.Compare", "math/bits.Add64"], unfollowed := true, recurses := true, apart := false, narrowed := true }
def SkipRisesUptoSaid : Prop := skipRisesUptoRow.holds Try.pinned (OpenSpec.upto skipRisesSpec)

/-- 'rickyardlaw08.SkipMerges', WHERE WHAT IT READS IS OF BULK AT MOST 1048576: true; the input reads as it did. -/
def skipMergesUptoRow : OpenClaim := { program := "yteomanpaladdjaa", sum := "b150e3d6b2c732d748a6ae1fa232343ba0c4a88a1f8f914784fc6ac56f906004", func := "rickyard/rickyardlaw08.SkipMerges", spec := "skipMerges", inPlace := ["internal/bytealg.Compare", "math/bits.Add64"], unfollowed := true, recurses := true, apart := false, narrowed := true }
def SkipMergesUptoSaid : Prop := skipMergesUptoRow.holds Try.pinned (OpenSpec.upto skipMergesSpec)

/-- 'rickyardlaw08.SkipKeeps', WHERE WHAT IT READS IS OF BULK AT MOST 1048576: true; the input reads as it did. -/
def skipKeepsUptoRow : OpenClaim := { program := "yteomanpaladdjaa", sum := "b150e3d6b2c732d748a6ae1fa232343ba0c4a88a1f8f914784fc6ac56f906004", func := "rickyard/rickyardlaw08.SkipKeeps", spec := "skipKeeps", inPlace := ["internal/bytealg.Compare", "math/bits.Add64"], unfollowed := true, recurses := true, apart := false, narrowed := true }
def SkipKeepsUptoSaid : Prop := skipKeepsUptoRow.holds Try.pinned (OpenSpec.upto skipKeepsSpec)

/-- 'rickyardlaw08.SkipLives', WHERE WHAT IT READS IS OF BULK AT MOST 1048576: true; the input reads as it did. -/
def skipLivesUptoRow : OpenClaim := { program := "yteomanpaladdjaa", sum := "b150e3d6b2c732d748a6ae1fa232343ba0c4a88a1f8f914784fc6ac56f906004", func := "rickyard/rickyardlaw08.SkipLives", spec := "skipLives", inPlace := ["internal/bytealg.Compare", "math/bits.Add64"], unfollowed := true, recurses := true, apart := false, narrowed := true }
def SkipLivesUptoSaid : Prop := skipLivesUptoRow.holds Try.pinned (OpenSpec.upto skipLivesSpec)

/-- 'rickyardlaw08.SkipNobody', WHERE WHAT IT READS IS OF BULK AT MOST 1048576: true; the input reads as it did. -/
def skipNobodyUptoRow : OpenClaim := { program := "yteomanpaladdjaa", sum := "b150e3d6b2c732d748a6ae1fa232343ba0c4a88a1f8f914784fc6ac56f906004", func := "rickyard/rickyardlaw08.SkipNobody", spec := "skipNobody", inPlace := ["internal/bytealg.Compare", "math/bits.Add64"], unfollowed := true, recurses := true, apart := false, narrowed := true }
def SkipNobodyUptoSaid : Prop := skipNobodyUptoRow.holds Try.pinned (OpenSpec.upto skipNobodySpec)

end Rows
end Go.Proofs.Yteomanpaladdjaa
