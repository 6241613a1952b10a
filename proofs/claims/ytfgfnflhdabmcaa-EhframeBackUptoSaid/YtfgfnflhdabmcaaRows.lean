/-
  No cell of these rows narrows 'for every input' (looked for: loops, veiled, ifaces, maps, wideKeys, modest, calm, conditions, laid).
  DERIVED. THE GIVEN ROWS OF THIS SEAT. 5 by the template 'for every input the law returns true; each argument reads behind the call as it read before'; 0 by the template 'total and deterministic' (their statements: YtfgfnflhdabmcaaTotals.lean).
  GIVEN WITH THE SEED: the statements are not yours to turn. If you find one false, say at which input.
  Laid BY PROGRAM, IN A SANDBOX (cutbox-rows.mjs): the forced cells as the released guide's own fill.sh prints them over the translation 9f0089620e81caf0… (all of the seat's roots in one cut). By AI agents, Wed Nov 11 2026. No macro, syntax, notation, axiom, sorry.
-/
import Derived.Test.YtfgfnflhdabmcaaChecked
import GoSem.Claim
import GoSem.ClaimJoined
import GoSem.ClaimMapViews
import Derived.JoinedTies
import Derived.KernelRfl
namespace Go.Proofs.Ytfgfnflhdabmcaa
/- THE CELL 'sum', in the pinned program and in every row, IS THE sha256 OF THE DUMP (.gsa) THAT YtfgfnflhdabmcaaProg.lean LOADS. Nothing in Lean hashes anything: it is a label: what it is worth is what the hold of that sum in a sandbox is worth. -/
noncomputable def Try.pinned : Pinned := { name := "ytfgfnflhdabmcaa", sum := "9f0089620e81caf0d63dcffbab635a6addc308964b0fdb962e270b5494545605", checked := Try.checked }
namespace Rows
def none {H : Type} : Left H := { results := [], args := [] }

/-- 'gangwaylaw14.EhframeWrites': WHATEVER THE INPUT: true; the input reads as it did. -/
def ehframeWritesSpec : ChangeSpec := { name := "ehframeWrites", fn := fun _ => fun
  | [d1, d2, d3, d4] => { results := [.lit (.bool true)], args := [d1, d2, d3, d4] }
  | _ => none }
def ehframeWritesRow : OpenClaim := { program := "ytfgfnflhdabmcaa", sum := "9f0089620e81caf0d63dcffbab635a6addc308964b0fdb962e270b5494545605", func := "gangway/gangwaylaw14.EhframeWrites", spec := "ehframeWrites", unfollowed := true, recurses := true, apart := false }
def EhframeWritesSaid : Prop := ehframeWritesRow.holds Try.pinned (OpenSpec.ofChange ehframeWritesSpec)

/-- ITS FALSE NEIGHBOUR: 'it returns false'. Refute it at one input. -/
def ehframeWritesWrong : ChangeSpec := { name := "ehframeWrites", fn := fun _ => fun
  | [d1, d2, d3, d4] => { results := [.lit (.bool false)], args := [d1, d2, d3, d4] }
  | _ => none }
def EhframeWritesWrongFalsely : Prop := ehframeWritesRow.holds Try.pinned (OpenSpec.ofChange ehframeWritesWrong)

/-- 'gangwaylaw14.EhframeMoved': WHATEVER THE INPUT: true; the input reads as it did. -/
def ehframeMovedSpec : ChangeSpec := { name := "ehframeMoved", fn := fun _ => fun
  | [d1, d2, d3, d4] => { results := [.lit (.bool true)], args := [d1, d2, d3, d4] }
  | _ => none }
def ehframeMovedRow : OpenClaim := { program := "ytfgfnflhdabmcaa", sum := "9f0089620e81caf0d63dcffbab635a6addc308964b0fdb962e270b5494545605", func := "gangway/gangwaylaw14.EhframeMoved", spec := "ehframeMoved", unfollowed := true, recurses := true, apart := false }
def EhframeMovedSaid : Prop := ehframeMovedRow.holds Try.pinned (OpenSpec.ofChange ehframeMovedSpec)

/-- ITS FALSE NEIGHBOUR: 'it returns false'. Refute it at one input. -/
def ehframeMovedWrong : ChangeSpec := { name := "ehframeMoved", fn := fun _ => fun
  | [d1, d2, d3, d4] => { results := [.lit (.bool false)], args := [d1, d2, d3, d4] }
  | _ => none }
def EhframeMovedWrongFalsely : Prop := ehframeMovedRow.holds Try.pinned (OpenSpec.ofChange ehframeMovedWrong)

/-- 'gangwaylaw14.EhframePointers': WHATEVER THE INPUT: true; the input reads as it did. -/
def ehframePointersSpec : ChangeSpec := { name := "ehframePointers", fn := fun _ => fun
  | [d1, d2, d3] => { results := [.lit (.bool true)], args := [d1, d2, d3] }
  | _ => none }
def ehframePointersRow : OpenClaim := { program := "ytfgfnflhdabmcaa", sum := "9f0089620e81caf0d63dcffbab635a6addc308964b0fdb962e270b5494545605", func := "gangway/gangwaylaw14.EhframePointers", spec := "ehframePointers", unfollowed := true, recurses := true, apart := false }
def EhframePointersSaid : Prop := ehframePointersRow.holds Try.pinned (OpenSpec.ofChange ehframePointersSpec)

/-- ITS FALSE NEIGHBOUR: 'it returns false'. Refute it at one input. -/
def ehframePointersWrong : ChangeSpec := { name := "ehframePointers", fn := fun _ => fun
  | [d1, d2, d3] => { results := [.lit (.bool false)], args := [d1, d2, d3] }
  | _ => none }
def EhframePointersWrongFalsely : Prop := ehframePointersRow.holds Try.pinned (OpenSpec.ofChange ehframePointersWrong)

/-- 'gangwaylaw14.EhframeBack': WHATEVER THE INPUT: true; the input reads as it did. -/
def ehframeBackSpec : ChangeSpec := { name := "ehframeBack", fn := fun _ => fun
  | [d1, d2, d3, d4, d5, d6, d7] => { results := [.lit (.bool true)], args := [d1, d2, d3, d4, d5, d6, d7] }
  | _ => none }
def ehframeBackRow : OpenClaim := { program := "ytfgfnflhdabmcaa", sum := "9f0089620e81caf0d63dcffbab635a6addc308964b0fdb962e270b5494545605", func := "gangway/gangwaylaw14.EhframeBack", spec := "ehframeBack", unfollowed := true, recurses := true, apart := false }
def EhframeBackSaid : Prop := ehframeBackRow.holds Try.pinned (OpenSpec.ofChange ehframeBackSpec)

/-- ITS FALSE NEIGHBOUR: 'it returns false'. Refute it at one input. -/
def ehframeBackWrong : ChangeSpec := { name := "ehframeBack", fn := fun _ => fun
  | [d1, d2, d3, d4, d5, d6, d7] => { results := [.lit (.bool false)], args := [d1, d2, d3, d4, d5, d6, d7] }
  | _ => none }
def EhframeBackWrongFalsely : Prop := ehframeBackRow.holds Try.pinned (OpenSpec.ofChange ehframeBackWrong)

/-- 'gangwaylaw14.EhframeWhole': WHATEVER THE INPUT: true; the input reads as it did. -/
def ehframeWholeSpec : ChangeSpec := { name := "ehframeWhole", fn := fun _ => fun
  | [d1, d2, d3] => { results := [.lit (.bool true)], args := [d1, d2, d3] }
  | _ => none }
def ehframeWholeRow : OpenClaim := { program := "ytfgfnflhdabmcaa", sum := "9f0089620e81caf0d63dcffbab635a6addc308964b0fdb962e270b5494545605", func := "gangway/gangwaylaw14.EhframeWhole", spec := "ehframeWhole", unfollowed := true, recurses := true, apart := false }
def EhframeWholeSaid : Prop := ehframeWholeRow.holds Try.pinned (OpenSpec.ofChange ehframeWholeSpec)

/-- ITS FALSE NEIGHBOUR: 'it returns false'. Refute it at one input. -/
def ehframeWholeWrong : ChangeSpec := { name := "ehframeWhole", fn := fun _ => fun
  | [d1, d2, d3] => { results := [.lit (.bool false)], args := [d1, d2, d3] }
  | _ => none }
def EhframeWholeWrongFalsely : Prop := ehframeWholeRow.holds Try.pinned (OpenSpec.ofChange ehframeWholeWrong)

/- THE SECOND FORM. 'bulk': how many values and letters a reading holds, each counted each time it is reached (what is shared counts as often as it is met; a slice's spare places count too). A statement '..UptoSaid' is the law's where the arguments, and the package variables that the reading takes, are together of bulk at most 1048576: NARROWER than '..Said'. Prove '..Said' where nothing that the law and all that it calls make is longer than what came in: it says more and counts as full. Else prove '..UptoSaid'. A law counts once. -/
mutual
def uptoBulk {H : Type} : DataW H → Nat
  | .lit (.string bytes) => bytes.length + 1
  | .lit _ => 1
  | .nil => 1
  | .ptr d => uptoBulk d + 1
  | .slice elems spare => uptoBulkAll elems + uptoBulkAll spare + 1
  | .agg parts => uptoBulkAll parts + 1
  | .iface _ d => uptoBulk d + 1
  | .map entries => uptoBulkEntries entries + 1
  | .held _ => 1
def uptoBulkAll {H : Type} : List (DataW H) → Nat
  | [] => 0
  | d :: r => uptoBulk d + uptoBulkAll r
def uptoBulkEntries {H : Type} : List (Lit × DataW H) → Nat
  | [] => 0
  | x :: r => uptoBulkEntry x + uptoBulkEntries r
def uptoBulkEntry {H : Type} : Lit × DataW H → Nat
  | (.string bytes, d) => bytes.length + uptoBulk d + 1
  | (_, d) => uptoBulk d + 1
 end
def uptoSmall : (H : Type) → List (DataW H) → Bool := fun _ ds => decide (uptoBulkAll ds ≤ 1048576)
def OpenSpec.upto (s : _root_.Go.ChangeSpec) : _root_.Go.OpenSpec := { _root_.Go.OpenSpec.ofChange s with cond := some uptoSmall }

/-- 'gangwaylaw14.EhframeWrites', WHERE WHAT IT READS IS OF BULK AT MOST 1048576: true; the input reads as it did. -/
def ehframeWritesUptoRow : OpenClaim := { program := "ytfgfnflhdabmcaa", sum := "9f0089620e81caf0d63dcffbab635a6addc308964b0fdb962e270b5494545605", func := "gangway/gangwaylaw14.EhframeWrites", spec := "ehframeWrites", unfollowed := true, recurses := true, apart := false, narrowed := true }
def EhframeWritesUptoSaid : Prop := ehframeWritesUptoRow.holds Try.pinned (OpenSpec.upto ehframeWritesSpec)

/-- 'gangwaylaw14.EhframeMoved', WHERE WHAT IT READS IS OF BULK AT MOST 1048576: true; the input reads as it did. -/
def ehframeMovedUptoRow : OpenClaim := { program := "ytfgfnflhdabmcaa", sum := "9f0089620e81caf0d63dcffbab635a6addc308964b0fdb962e270b5494545605", func := "gangway/gangwaylaw14.EhframeMoved", spec := "ehframeMoved", unfollowed := true, recurses := true, apart := false, narrowed := true }
def EhframeMovedUptoSaid : Prop := ehframeMovedUptoRow.holds Try.pinned (OpenSpec.upto ehframeMovedSpec)

/-- 'gangwaylaw14.EhframePointers', WHERE WHAT IT READS IS OF BULK AT MOST 1048576: true; the input reads as it did. -/
def ehframePointersUptoRow : OpenClaim := { program := "ytfgfnflhdabmcaa", sum := "9f0089620e81caf0d63dcffbab635a6addc308964b0fdb962e270b5494545605", func := "gangway/gangwaylaw14.EhframePointers", spec := "ehframePointers", unfollowed := true, recurses := true, apart := false, narrowed := true }
def EhframePointersUptoSaid : Prop := ehframePointersUptoRow.holds Try.pinned (OpenSpec.upto ehframePointersSpec)

/-- 'gangwaylaw14.EhframeBack', WHERE WHAT IT READS IS OF BULK AT MOST 1048576: true; the input reads as it did. -/
def ehframeBackUptoRow : OpenClaim := { program := "ytfgfnflhdabmcaa", sum := "9f0089620e81caf0d63dcffbab635a6addc308964b0fdb962e270b5494545605", func := "gangway/gangwaylaw14.EhframeBack", spec := "ehframeBack", unfollowed := true, recurses := true, apart := false, narrowed := true }
def EhframeBackUptoSaid : Prop := ehframeBackUptoRow.holds Try.pinned (OpenSpec.upto ehframeBackSpec)

/-- 'gangwaylaw14.EhframeWhole', WHERE WHAT IT READS IS OF BULK AT MOST 1048576: true; the input reads as it did. -/
def ehframeWholeUptoRow : OpenClaim := { program := "ytfgfnflhdabmcaa", sum := "9f0089620e81caf0d63dcffbab635a6addc308964b0fdb962e270b5494545605", func := "gangway/gangwaylaw14.EhframeWhole", spec := "ehframeWhole", unfollowed := true, recurses := true, apart := false, narrowed := true }
def EhframeWholeUptoSaid : Prop := ehframeWholeUptoRow.holds Try.pinned (OpenSpec.upto ehframeWholeSpec)

end Rows
end Go.Proofs.Ytfgfnflhdabmcaa
