/-
  No cell of these rows narrows 'for every input' (looked for: loops, veiled, ifaces, maps, wideKeys, modest, calm, conditions, laid).
  DERIVED. THE GIVEN ROWS OF THIS SEAT. 7 by the template 'for every input the law returns true; each argument reads behind the call as it read before'; 0 by the template 'total and deterministic' (their statements: YtjcabmopajhggaaTotals.lean).
  GIVEN WITH THE SEED: the statements are not yours to turn. If you find one false, say at which input.
  Laid BY PROGRAM, IN A SANDBOX (cutbox-rows.mjs): the forced cells as the released guide's own fill.sh prints them over the translation fc27622fdec850ef… (all of the seat's roots in one cut). By AI agents, Wed Nov 11 2026. No macro, syntax, notation, axiom, sorry.
-/
import Derived.Test.YtjcabmopajhggaaChecked
import GoSem.Claim
import GoSem.ClaimJoined
import GoSem.ClaimMapViews
import Derived.JoinedTies
import Derived.KernelRfl
namespace Go.Proofs.Ytjcabmopajhggaa
/- THE CELL 'sum', in the pinned program and in every row, IS THE sha256 OF THE DUMP (.gsa) THAT YtjcabmopajhggaaProg.lean LOADS. Nothing in Lean hashes anything: it is a label: what it is worth is what the hold of that sum in a sandbox is worth. -/
noncomputable def Try.pinned : Pinned := { name := "ytjcabmopajhggaa", sum := "fc27622fdec850ef60cd8c94dbb28767ca1f9bc75dc0de485e28d3da00f27155", checked := Try.checked }
namespace Rows
def none {H : Type} : Left H := { results := [], args := [] }

/-- 'gangwaylaw01.LebGroups': WHATEVER THE INPUT: true; the input reads as it did. -/
def lebGroupsSpec : ChangeSpec := { name := "lebGroups", fn := fun _ => fun
  | [d] => { results := [.lit (.bool true)], args := [d] }
  | _ => none }
def lebGroupsRow : OpenClaim := { program := "ytjcabmopajhggaa", sum := "fc27622fdec850ef60cd8c94dbb28767ca1f9bc75dc0de485e28d3da00f27155", func := "gangway/gangwaylaw01.LebGroups", spec := "lebGroups", unfollowed := true, recurses := true, apart := false }
def LebGroupsSaid : Prop := lebGroupsRow.holds Try.pinned (OpenSpec.ofChange lebGroupsSpec)

/-- ITS FALSE NEIGHBOUR: 'it returns false'. Refute it at one input. -/
def lebGroupsWrong : ChangeSpec := { name := "lebGroups", fn := fun _ => fun
  | [d] => { results := [.lit (.bool false)], args := [d] }
  | _ => none }
def LebGroupsWrongFalsely : Prop := lebGroupsRow.holds Try.pinned (OpenSpec.ofChange lebGroupsWrong)

/-- 'gangwaylaw01.LebPuts': WHATEVER THE INPUT: true; the input reads as it did. -/
def lebPutsSpec : ChangeSpec := { name := "lebPuts", fn := fun _ => fun
  | [d1, d2, d3, d4, d5] => { results := [.lit (.bool true)], args := [d1, d2, d3, d4, d5] }
  | _ => none }
def lebPutsRow : OpenClaim := { program := "ytjcabmopajhggaa", sum := "fc27622fdec850ef60cd8c94dbb28767ca1f9bc75dc0de485e28d3da00f27155", func := "gangway/gangwaylaw01.LebPuts", spec := "lebPuts", unfollowed := true, recurses := true, apart := false }
def LebPutsSaid : Prop := lebPutsRow.holds Try.pinned (OpenSpec.ofChange lebPutsSpec)

/-- ITS FALSE NEIGHBOUR: 'it returns false'. Refute it at one input. -/
def lebPutsWrong : ChangeSpec := { name := "lebPuts", fn := fun _ => fun
  | [d1, d2, d3, d4, d5] => { results := [.lit (.bool false)], args := [d1, d2, d3, d4, d5] }
  | _ => none }
def LebPutsWrongFalsely : Prop := lebPutsRow.holds Try.pinned (OpenSpec.ofChange lebPutsWrong)

/-- 'gangwaylaw01.LebReads': WHATEVER THE INPUT: true; the input reads as it did. -/
def lebReadsSpec : ChangeSpec := { name := "lebReads", fn := fun _ => fun
  | [d1, d2] => { results := [.lit (.bool true)], args := [d1, d2] }
  | _ => none }
def lebReadsRow : OpenClaim := { program := "ytjcabmopajhggaa", sum := "fc27622fdec850ef60cd8c94dbb28767ca1f9bc75dc0de485e28d3da00f27155", func := "gangway/gangwaylaw01.LebReads", spec := "lebReads", inPlace := ["internal/bytealg.IndexByte"], unfollowed := true, recurses := true, apart := false }
def LebReadsSaid : Prop := lebReadsRow.holds Try.pinned (OpenSpec.ofChange lebReadsSpec)

/-- ITS FALSE NEIGHBOUR: 'it returns false'. Refute it at one input. -/
def lebReadsWrong : ChangeSpec := { name := "lebReads", fn := fun _ => fun
  | [d1, d2] => { results := [.lit (.bool false)], args := [d1, d2] }
  | _ => none }
def LebReadsWrongFalsely : Prop := lebReadsRow.holds Try.pinned (OpenSpec.ofChange lebReadsWrong)

/-- 'gangwaylaw01.LebShort': WHATEVER THE INPUT: true; the input reads as it did. -/
def lebShortSpec : ChangeSpec := { name := "lebShort", fn := fun _ => fun
  | [d1, d2] => { results := [.lit (.bool true)], args := [d1, d2] }
  | _ => none }
def lebShortRow : OpenClaim := { program := "ytjcabmopajhggaa", sum := "fc27622fdec850ef60cd8c94dbb28767ca1f9bc75dc0de485e28d3da00f27155", func := "gangway/gangwaylaw01.LebShort", spec := "lebShort", unfollowed := true, recurses := true, apart := false }
def LebShortSaid : Prop := lebShortRow.holds Try.pinned (OpenSpec.ofChange lebShortSpec)

/-- ITS FALSE NEIGHBOUR: 'it returns false'. Refute it at one input. -/
def lebShortWrong : ChangeSpec := { name := "lebShort", fn := fun _ => fun
  | [d1, d2] => { results := [.lit (.bool false)], args := [d1, d2] }
  | _ => none }
def LebShortWrongFalsely : Prop := lebShortRow.holds Try.pinned (OpenSpec.ofChange lebShortWrong)

/-- 'gangwaylaw01.LebBack': WHATEVER THE INPUT: true; the input reads as it did. -/
def lebBackSpec : ChangeSpec := { name := "lebBack", fn := fun _ => fun
  | [d1, d2, d3, d4] => { results := [.lit (.bool true)], args := [d1, d2, d3, d4] }
  | _ => none }
def lebBackRow : OpenClaim := { program := "ytjcabmopajhggaa", sum := "fc27622fdec850ef60cd8c94dbb28767ca1f9bc75dc0de485e28d3da00f27155", func := "gangway/gangwaylaw01.LebBack", spec := "lebBack", unfollowed := true, recurses := true, apart := false }
def LebBackSaid : Prop := lebBackRow.holds Try.pinned (OpenSpec.ofChange lebBackSpec)

/-- ITS FALSE NEIGHBOUR: 'it returns false'. Refute it at one input. -/
def lebBackWrong : ChangeSpec := { name := "lebBack", fn := fun _ => fun
  | [d1, d2, d3, d4] => { results := [.lit (.bool false)], args := [d1, d2, d3, d4] }
  | _ => none }
def LebBackWrongFalsely : Prop := lebBackRow.holds Try.pinned (OpenSpec.ofChange lebBackWrong)

/-- 'gangwaylaw01.LebAligned': WHATEVER THE INPUT: true; the input reads as it did. -/
def lebAlignedSpec : ChangeSpec := { name := "lebAligned", fn := fun _ => fun
  | [d1, d2] => { results := [.lit (.bool true)], args := [d1, d2] }
  | _ => none }
def lebAlignedRow : OpenClaim := { program := "ytjcabmopajhggaa", sum := "fc27622fdec850ef60cd8c94dbb28767ca1f9bc75dc0de485e28d3da00f27155", func := "gangway/gangwaylaw01.LebAligned", spec := "lebAligned", unfollowed := true, recurses := true, apart := false }
def LebAlignedSaid : Prop := lebAlignedRow.holds Try.pinned (OpenSpec.ofChange lebAlignedSpec)

/-- ITS FALSE NEIGHBOUR: 'it returns false'. Refute it at one input. -/
def lebAlignedWrong : ChangeSpec := { name := "lebAligned", fn := fun _ => fun
  | [d1, d2] => { results := [.lit (.bool false)], args := [d1, d2] }
  | _ => none }
def LebAlignedWrongFalsely : Prop := lebAlignedRow.holds Try.pinned (OpenSpec.ofChange lebAlignedWrong)

/-- 'gangwaylaw01.LebSums': WHATEVER THE INPUT: true; the input reads as it did. -/
def lebSumsSpec : ChangeSpec := { name := "lebSums", fn := fun _ => fun
  | [d1, d2, d3, d4] => { results := [.lit (.bool true)], args := [d1, d2, d3, d4] }
  | _ => none }
def lebSumsRow : OpenClaim := { program := "ytjcabmopajhggaa", sum := "fc27622fdec850ef60cd8c94dbb28767ca1f9bc75dc0de485e28d3da00f27155", func := "gangway/gangwaylaw01.LebSums", spec := "lebSums", unfollowed := true, recurses := true, apart := false }
def LebSumsSaid : Prop := lebSumsRow.holds Try.pinned (OpenSpec.ofChange lebSumsSpec)

/-- ITS FALSE NEIGHBOUR: 'it returns false'. Refute it at one input. -/
def lebSumsWrong : ChangeSpec := { name := "lebSums", fn := fun _ => fun
  | [d1, d2, d3, d4] => { results := [.lit (.bool false)], args := [d1, d2, d3, d4] }
  | _ => none }
def LebSumsWrongFalsely : Prop := lebSumsRow.holds Try.pinned (OpenSpec.ofChange lebSumsWrong)

/- THE SECOND FORM. 'bulk': how many values and letters a reading holds, each counted each time it is reached (what is shared counts as often as it is met; a slice's spare places count too). A statement '..UptoSaid' is the law's where the arguments, and the package variables that the reading takes, are together of bulk at most 1048576: NARROWER than '..Said'. Prove '..Said' where nothing that the law and all that it calls make is longer than what came in: it says more and counts as full. Else prove '..UptoSaid'. A law counts once. -/
mutual
def uptoBulk {H : Type} : DataW H → Nat
  | .lit (.string bytes) => bytes.length + 1
  | .lit _ => 1
  | .nil => 1
  | .ptr d => uptoBulk d + 1
  | .slice elems spare => uptoBulkAll elems + uptoBulkAll spare + 1
  | .agg parts => uptoBulkAll parts + 1
  | .iface _ d => uptoBulk d + 1
  | .map entries => uptoBulkEntries entries + 1
  | .held _ => 1
def uptoBulkAll {H : Type} : List (DataW H) → Nat
  | [] => 0
  | d :: r => uptoBulk d + uptoBulkAll r
def uptoBulkEntries {H : Type} : List (Lit × DataW H) → Nat
  | [] => 0
  | x :: r => uptoBulkEntry x + uptoBulkEntries r
def uptoBulkEntry {H : Type} : Lit × DataW H → Nat
  | (.string bytes, d) => bytes.length + uptoBulk d + 1
  | (_, d) => uptoBulk d + 1
 end
def uptoSmall : (H : Type) → List (DataW H) → Bool := fun _ ds => decide (uptoBulkAll ds ≤ 1048576)
def OpenSpec.upto (s : _root_.Go.ChangeSpec) : _root_.Go.OpenSpec := { _root_.Go.OpenSpec.ofChange s with cond := some uptoSmall }

/-- 'gangwaylaw01.LebGroups', WHERE WHAT IT READS IS OF BULK AT MOST 1048576: true; the input reads as it did. -/
def lebGroupsUptoRow : OpenClaim := { program := "ytjcabmopajhggaa", sum := "fc27622fdec850ef60cd8c94dbb28767ca1f9bc75dc0de485e28d3da00f27155", func := "gangway/gangwaylaw01.LebGroups", spec := "lebGroups", unfollowed := true, recurses := true, apart := false, narrowed := true }
def LebGroupsUptoSaid : Prop := lebGroupsUptoRow.holds Try.pinned (OpenSpec.upto lebGroupsSpec)

/-- 'gangwaylaw01.LebPuts', WHERE WHAT IT READS IS OF BULK AT MOST 1048576: true; the input reads as it did. -/
def lebPutsUptoRow : OpenClaim := { program := "ytjcabmopajhggaa", sum := "fc27622fdec850ef60cd8c94dbb28767ca1f9bc75dc0de485e28d3da00f27155", func := "gangway/gangwaylaw01.LebPuts", spec := "lebPuts", unfollowed := true, recurses := true, apart := false, narrowed := true }
def LebPutsUptoSaid : Prop := lebPutsUptoRow.holds Try.pinned (OpenSpec.upto lebPutsSpec)

/-- 'gangwaylaw01.LebReads', WHERE WHAT IT READS IS OF BULK AT MOST 1048576: true; the input reads as it did. -/
def lebReadsUptoRow : OpenClaim := { program := "ytjcabmopajhggaa", sum := "fc27622fdec850ef60cd8c94dbb28767ca1f9bc75dc0de485e28d3da00f27155", func := "gangway/gangwaylaw01.LebReads", spec := "lebReads", inPlace := ["internal/bytealg.IndexByte"], unfollowed := true, recurses := true, apart := false, narrowed := true }
def LebReadsUptoSaid : Prop := lebReadsUptoRow.holds Try.pinned (OpenSpec.upto lebReadsSpec)

/-- 'gangwaylaw01.LebShort', WHERE WHAT IT READS IS OF BULK AT MOST 1048576: true; the input reads as it did. -/
def lebShortUptoRow : OpenClaim := { program := "ytjcabmopajhggaa", sum := "fc27622fdec850ef60cd8c94dbb28767ca1f9bc75dc0de485e28d3da00f27155", func := "gangway/gangwaylaw01.LebShort", spec := "lebShort", unfollowed := true, recurses := true, apart := false, narrowed := true }
def LebShortUptoSaid : Prop := lebShortUptoRow.holds Try.pinned (OpenSpec.upto lebShortSpec)

/-- 'gangwaylaw01.LebBack', WHERE WHAT IT READS IS OF BULK AT MOST 1048576: true; the input reads as it did. -/
def lebBackUptoRow : OpenClaim := { program := "ytjcabmopajhggaa", sum := "fc27622fdec850ef60cd8c94dbb28767ca1f9bc75dc0de485e28d3da00f27155", func := "gangway/gangwaylaw01.LebBack", spec := "lebBack", unfollowed := true, recurses := true, apart := false, narrowed := true }
def LebBackUptoSaid : Prop := lebBackUptoRow.holds Try.pinned (OpenSpec.upto lebBackSpec)

/-- 'gangwaylaw01.LebAligned', WHERE WHAT IT READS IS OF BULK AT MOST 1048576: true; the input reads as it did. -/
def lebAlignedUptoRow : OpenClaim := { program := "ytjcabmopajhggaa", sum := "fc27622fdec850ef60cd8c94dbb28767ca1f9bc75dc0de485e28d3da00f27155", func := "gangway/gangwaylaw01.LebAligned", spec := "lebAligned", unfollowed := true, recurses := true, apart := false, narrowed := true }
def LebAlignedUptoSaid : Prop := lebAlignedUptoRow.holds Try.pinned (OpenSpec.upto lebAlignedSpec)

/-- 'gangwaylaw01.LebSums', WHERE WHAT IT READS IS OF BULK AT MOST 1048576: true; the input reads as it did. -/
def lebSumsUptoRow : OpenClaim := { program := "ytjcabmopajhggaa", sum := "fc27622fdec850ef60cd8c94dbb28767ca1f9bc75dc0de485e28d3da00f27155", func := "gangway/gangwaylaw01.LebSums", spec := "lebSums", unfollowed := true, recurses := true, apart := false, narrowed := true }
def LebSumsUptoSaid : Prop := lebSumsUptoRow.holds Try.pinned (OpenSpec.upto lebSumsSpec)

end Rows
end Go.Proofs.Ytjcabmopajhggaa
