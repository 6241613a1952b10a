/-
  No cell of these rows narrows 'for every input' (looked for: loops, veiled, ifaces, maps, wideKeys, modest, calm, conditions, laid).
  DERIVED. THE GIVEN ROWS OF THIS SEAT. 7 by the template 'for every input the law returns true; each argument reads behind the call as it read before'; 0 by the template 'total and deterministic' (their statements: YtngddlihppomhaaTotals.lean).
  GIVEN WITH THE SEED: the statements are not yours to turn. If you find one false, say at which input.
  Laid BY PROGRAM, IN A SANDBOX (cutbox-rows.mjs): the forced cells as the released guide's own fill.sh prints them over the translation e7f0e9926fc4b6b7… (all of the seat's roots in one cut). By AI agents, Wed Nov 11 2026. No macro, syntax, notation, axiom, sorry.
-/
import Derived.Test.YtngddlihppomhaaChecked
import GoSem.Claim
import GoSem.ClaimJoined
import GoSem.ClaimMapViews
import Derived.JoinedTies
import Derived.KernelRfl
namespace Go.Proofs.Ytngddlihppomhaa
/- THE CELL 'sum', in the pinned program and in every row, IS THE sha256 OF THE DUMP (.gsa) THAT YtngddlihppomhaaProg.lean LOADS. Nothing in Lean hashes anything: it is a label: what it is worth is what the hold of that sum in a sandbox is worth. -/
noncomputable def Try.pinned : Pinned := { name := "ytngddlihppomhaa", sum := "e7f0e9926fc4b6b7fe918187e87a29b66f05485f3f8f4e3d5da2c6571bb8bc8c", checked := Try.checked }
namespace Rows
def none {H : Type} : Left H := { results := [], args := [] }

/-- 'gangwaylaw13.CfaRise': WHATEVER THE INPUT: true; the input reads as it did. -/
def cfaRiseSpec : ChangeSpec := { name := "cfaRise", fn := fun _ => fun
  | [d1, d2, d3, d4] => { results := [.lit (.bool true)], args := [d1, d2, d3, d4] }
  | _ => none }
def cfaRiseRow : OpenClaim := { program := "ytngddlihppomhaa", sum := "e7f0e9926fc4b6b7fe918187e87a29b66f05485f3f8f4e3d5da2c6571bb8bc8c", func := "gangway/gangwaylaw13.CfaRise", spec := "cfaRise", unfollowed := true, recurses := true, apart := false }
def CfaRiseSaid : Prop := cfaRiseRow.holds Try.pinned (OpenSpec.ofChange cfaRiseSpec)

/-- ITS FALSE NEIGHBOUR: 'it returns false'. Refute it at one input. -/
def cfaRiseWrong : ChangeSpec := { name := "cfaRise", fn := fun _ => fun
  | [d1, d2, d3, d4] => { results := [.lit (.bool false)], args := [d1, d2, d3, d4] }
  | _ => none }
def CfaRiseWrongFalsely : Prop := cfaRiseRow.holds Try.pinned (OpenSpec.ofChange cfaRiseWrong)

/-- 'gangwaylaw13.CfaKept': WHATEVER THE INPUT: true; the input reads as it did. -/
def cfaKeptSpec : ChangeSpec := { name := "cfaKept", fn := fun _ => fun
  | [d1, d2, d3] => { results := [.lit (.bool true)], args := [d1, d2, d3] }
  | _ => none }
def cfaKeptRow : OpenClaim := { program := "ytngddlihppomhaa", sum := "e7f0e9926fc4b6b7fe918187e87a29b66f05485f3f8f4e3d5da2c6571bb8bc8c", func := "gangway/gangwaylaw13.CfaKept", spec := "cfaKept", unfollowed := true, recurses := true, apart := false }
def CfaKeptSaid : Prop := cfaKeptRow.holds Try.pinned (OpenSpec.ofChange cfaKeptSpec)

/-- ITS FALSE NEIGHBOUR: 'it returns false'. Refute it at one input. -/
def cfaKeptWrong : ChangeSpec := { name := "cfaKept", fn := fun _ => fun
  | [d1, d2, d3] => { results := [.lit (.bool false)], args := [d1, d2, d3] }
  | _ => none }
def CfaKeptWrongFalsely : Prop := cfaKeptRow.holds Try.pinned (OpenSpec.ofChange cfaKeptWrong)

/-- 'gangwaylaw13.CfaTogether': WHATEVER THE INPUT: true; the input reads as it did. -/
def cfaTogetherSpec : ChangeSpec := { name := "cfaTogether", fn := fun _ => fun
  | [d1, d2, d3, d4] => { results := [.lit (.bool true)], args := [d1, d2, d3, d4] }
  | _ => none }
def cfaTogetherRow : OpenClaim := { program := "ytngddlihppomhaa", sum := "e7f0e9926fc4b6b7fe918187e87a29b66f05485f3f8f4e3d5da2c6571bb8bc8c", func := "gangway/gangwaylaw13.CfaTogether", spec := "cfaTogether", unfollowed := true, recurses := true, apart := false }
def CfaTogetherSaid : Prop := cfaTogetherRow.holds Try.pinned (OpenSpec.ofChange cfaTogetherSpec)

/-- ITS FALSE NEIGHBOUR: 'it returns false'. Refute it at one input. -/
def cfaTogetherWrong : ChangeSpec := { name := "cfaTogether", fn := fun _ => fun
  | [d1, d2, d3, d4] => { results := [.lit (.bool false)], args := [d1, d2, d3, d4] }
  | _ => none }
def CfaTogetherWrongFalsely : Prop := cfaTogetherRow.holds Try.pinned (OpenSpec.ofChange cfaTogetherWrong)

/-- 'gangwaylaw13.CfaRows': WHATEVER THE INPUT: true; the input reads as it did. -/
def cfaRowsSpec : ChangeSpec := { name := "cfaRows", fn := fun _ => fun
  | [d1, d2, d3, d4] => { results := [.lit (.bool true)], args := [d1, d2, d3, d4] }
  | _ => none }
def cfaRowsRow : OpenClaim := { program := "ytngddlihppomhaa", sum := "e7f0e9926fc4b6b7fe918187e87a29b66f05485f3f8f4e3d5da2c6571bb8bc8c", func := "gangway/gangwaylaw13.CfaRows", spec := "cfaRows", unfollowed := true, recurses := true, apart := false }
def CfaRowsSaid : Prop := cfaRowsRow.holds Try.pinned (OpenSpec.ofChange cfaRowsSpec)

/-- ITS FALSE NEIGHBOUR: 'it returns false'. Refute it at one input. -/
def cfaRowsWrong : ChangeSpec := { name := "cfaRows", fn := fun _ => fun
  | [d1, d2, d3, d4] => { results := [.lit (.bool false)], args := [d1, d2, d3, d4] }
  | _ => none }
def CfaRowsWrongFalsely : Prop := cfaRowsRow.holds Try.pinned (OpenSpec.ofChange cfaRowsWrong)

/-- 'gangwaylaw13.CfaWrites': WHATEVER THE INPUT: true; the input reads as it did. -/
def cfaWritesSpec : ChangeSpec := { name := "cfaWrites", fn := fun _ => fun
  | [d] => { results := [.lit (.bool true)], args := [d] }
  | _ => none }
def cfaWritesRow : OpenClaim := { program := "ytngddlihppomhaa", sum := "e7f0e9926fc4b6b7fe918187e87a29b66f05485f3f8f4e3d5da2c6571bb8bc8c", func := "gangway/gangwaylaw13.CfaWrites", spec := "cfaWrites", unfollowed := true, recurses := true, apart := false }
def CfaWritesSaid : Prop := cfaWritesRow.holds Try.pinned (OpenSpec.ofChange cfaWritesSpec)

/-- ITS FALSE NEIGHBOUR: 'it returns false'. Refute it at one input. -/
def cfaWritesWrong : ChangeSpec := { name := "cfaWrites", fn := fun _ => fun
  | [d] => { results := [.lit (.bool false)], args := [d] }
  | _ => none }
def CfaWritesWrongFalsely : Prop := cfaWritesRow.holds Try.pinned (OpenSpec.ofChange cfaWritesWrong)

/-- 'gangwaylaw13.CfaReads': WHATEVER THE INPUT: true; the input reads as it did. -/
def cfaReadsSpec : ChangeSpec := { name := "cfaReads", fn := fun _ => fun
  | [d] => { results := [.lit (.bool true)], args := [d] }
  | _ => none }
def cfaReadsRow : OpenClaim := { program := "ytngddlihppomhaa", sum := "e7f0e9926fc4b6b7fe918187e87a29b66f05485f3f8f4e3d5da2c6571bb8bc8c", func := "gangway/gangwaylaw13.CfaReads", spec := "cfaReads", unfollowed := true, recurses := true, apart := false }
def CfaReadsSaid : Prop := cfaReadsRow.holds Try.pinned (OpenSpec.ofChange cfaReadsSpec)

/-- ITS FALSE NEIGHBOUR: 'it returns false'. Refute it at one input. -/
def cfaReadsWrong : ChangeSpec := { name := "cfaReads", fn := fun _ => fun
  | [d] => { results := [.lit (.bool false)], args := [d] }
  | _ => none }
def CfaReadsWrongFalsely : Prop := cfaReadsRow.holds Try.pinned (OpenSpec.ofChange cfaReadsWrong)

/-- 'gangwaylaw13.CfaBack': WHATEVER THE INPUT: true; the input reads as it did. -/
def cfaBackSpec : ChangeSpec := { name := "cfaBack", fn := fun _ => fun
  | [d] => { results := [.lit (.bool true)], args := [d] }
  | _ => none }
def cfaBackRow : OpenClaim := { program := "ytngddlihppomhaa", sum := "e7f0e9926fc4b6b7fe918187e87a29b66f05485f3f8f4e3d5da2c6571bb8bc8c", func := "gangway/gangwaylaw13.CfaBack", spec := "cfaBack", unfollowed := true, recurses := true, apart := false }
def CfaBackSaid : Prop := cfaBackRow.holds Try.pinned (OpenSpec.ofChange cfaBackSpec)

/-- ITS FALSE NEIGHBOUR: 'it returns false'. Refute it at one input. -/
def cfaBackWrong : ChangeSpec := { name := "cfaBack", fn := fun _ => fun
  | [d] => { results := [.lit (.bool false)], args := [d] }
  | _ => none }
def CfaBackWrongFalsely : Prop := cfaBackRow.holds Try.pinned (OpenSpec.ofChange cfaBackWrong)

/- THE SECOND FORM. 'bulk': how many values and letters a reading holds, each counted each time it is reached (what is shared counts as often as it is met; a slice's spare places count too). A statement '..UptoSaid' is the law's where the arguments, and the package variables that the reading takes, are together of bulk at most 1048576: NARROWER than '..Said'. Prove '..Said' where nothing that the law and all that it calls make is longer than what came in: it says more and counts as full. Else prove '..UptoSaid'. A law counts once. -/
mutual
def uptoBulk {H : Type} : DataW H → Nat
  | .lit (.string bytes) => bytes.length + 1
  | .lit _ => 1
  | .nil => 1
  | .ptr d => uptoBulk d + 1
  | .slice elems spare => uptoBulkAll elems + uptoBulkAll spare + 1
  | .agg parts => uptoBulkAll parts + 1
  | .iface _ d => uptoBulk d + 1
  | .map entries => uptoBulkEntries entries + 1
  | .held _ => 1
def uptoBulkAll {H : Type} : List (DataW H) → Nat
  | [] => 0
  | d :: r => uptoBulk d + uptoBulkAll r
def uptoBulkEntries {H : Type} : List (Lit × DataW H) → Nat
  | [] => 0
  | x :: r => uptoBulkEntry x + uptoBulkEntries r
def uptoBulkEntry {H : Type} : Lit × DataW H → Nat
  | (.string bytes, d) => bytes.length + uptoBulk d + 1
  | (_, d) => uptoBulk d + 1
 end
def uptoSmall : (H : Type) → List (DataW H) → Bool := fun _ ds => decide (uptoBulkAll ds ≤ 1048576)
def OpenSpec.upto (s : _root_.Go.ChangeSpec) : _root_.Go.OpenSpec := { _root_.Go.OpenSpec.ofChange s with cond := some uptoSmall }

/-- 'gangwaylaw13.CfaRise', WHERE WHAT IT READS IS OF BULK AT MOST 1048576: true; the input reads as it did. -/
def cfaRiseUptoRow : OpenClaim := { program := "ytngddlihppomhaa", sum := "e7f0e9926fc4b6b7fe918187e87a29b66f05485f3f8f4e3d5da2c6571bb8bc8c", func := "gangway/gangwaylaw13.CfaRise", spec := "cfaRise", unfollowed := true, recurses := true, apart := false, narrowed := true }
def CfaRiseUptoSaid : Prop := cfaRiseUptoRow.holds Try.pinned (OpenSpec.upto cfaRiseSpec)

/-- 'gangwaylaw13.CfaKept', WHERE WHAT IT READS IS OF BULK AT MOST 1048576: true; the input reads as it did. -/
def cfaKeptUptoRow : OpenClaim := { program := "ytngddlihppomhaa", sum := "e7f0e9926fc4b6b7fe918187e87a29b66f05485f3f8f4e3d5da2c6571bb8bc8c", func := "gangway/gangwaylaw13.CfaKept", spec := "cfaKept", unfollowed := true, recurses := true, apart := false, narrowed := true }
def CfaKeptUptoSaid : Prop := cfaKeptUptoRow.holds Try.pinned (OpenSpec.upto cfaKeptSpec)

/-- 'gangwaylaw13.CfaTogether', WHERE WHAT IT READS IS OF BULK AT MOST 1048576: true; the input reads as it did. -/
def cfaTogetherUptoRow : OpenClaim := { program := "ytngddlihppomhaa", sum := "e7f0e9926fc4b6b7fe918187e87a29b66f05485f3f8f4e3d5da2c6571bb8bc8c", func := "gangway/gangwaylaw13.CfaTogether", spec := "cfaTogether", unfollowed := true, recurses := true, apart := false, narrowed := true }
def CfaTogetherUptoSaid : Prop := cfaTogetherUptoRow.holds Try.pinned (OpenSpec.upto cfaTogetherSpec)

/-- 'gangwaylaw13.CfaRows', WHERE WHAT IT READS IS OF BULK AT MOST 1048576: true; the input reads as it did. -/
def cfaRowsUptoRow : OpenClaim := { program := "ytngddlihppomhaa", sum := "e7f0e9926fc4b6b7fe918187e87a29b66f05485f3f8f4e3d5da2c6571bb8bc8c", func := "gangway/gangwaylaw13.CfaRows", spec := "cfaRows", unfollowed := true, recurses := true, apart := false, narrowed := true }
def CfaRowsUptoSaid : Prop := cfaRowsUptoRow.holds Try.pinned (OpenSpec.upto cfaRowsSpec)

/-- 'gangwaylaw13.CfaWrites', WHERE WHAT IT READS IS OF BULK AT MOST 1048576: true; the input reads as it did. -/
def cfaWritesUptoRow : OpenClaim := { program := "ytngddlihppomhaa", sum := "e7f0e9926fc4b6b7fe918187e87a29b66f05485f3f8f4e3d5da2c6571bb8bc8c", func := "gangway/gangwaylaw13.CfaWrites", spec := "cfaWrites", unfollowed := true, recurses := true, apart := false, narrowed := true }
def CfaWritesUptoSaid : Prop := cfaWritesUptoRow.holds Try.pinned (OpenSpec.upto cfaWritesSpec)

/-- 'gangwaylaw13.CfaReads', WHERE WHAT IT READS IS OF BULK AT MOST 1048576: true; the input reads as it did. -/
def cfaReadsUptoRow : OpenClaim := { program := "ytngddlihppomhaa", sum := "e7f0e9926fc4b6b7fe918187e87a29b66f05485f3f8f4e3d5da2c6571bb8bc8c", func := "gangway/gangwaylaw13.CfaReads", spec := "cfaReads", unfollowed := true, recurses := true, apart := false, narrowed := true }
def CfaReadsUptoSaid : Prop := cfaReadsUptoRow.holds Try.pinned (OpenSpec.upto cfaReadsSpec)

/-- 'gangwaylaw13.CfaBack', WHERE WHAT IT READS IS OF BULK AT MOST 1048576: true; the input reads as it did. -/
def cfaBackUptoRow : OpenClaim := { program := "ytngddlihppomhaa", sum := "e7f0e9926fc4b6b7fe918187e87a29b66f05485f3f8f4e3d5da2c6571bb8bc8c", func := "gangway/gangwaylaw13.CfaBack", spec := "cfaBack", unfollowed := true, recurses := true, apart := false, narrowed := true }
def CfaBackUptoSaid : Prop := cfaBackUptoRow.holds Try.pinned (OpenSpec.upto cfaBackSpec)

end Rows
end Go.Proofs.Ytngddlihppomhaa
