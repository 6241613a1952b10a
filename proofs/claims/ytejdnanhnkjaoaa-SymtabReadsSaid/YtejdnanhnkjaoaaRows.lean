/-
  No cell of these rows narrows 'for every input' (looked for: loops, veiled, ifaces, maps, wideKeys, modest, calm, conditions, laid).
  DERIVED. THE GIVEN ROWS OF THIS SEAT. 6 by the template 'for every input the law returns true; each argument reads behind the call as it read before'; 0 by the template 'total and deterministic' (their statements: YtejdnanhnkjaoaaTotals.lean).
  GIVEN WITH THE SEED: the statements are not yours to turn. If you find one false, say at which input.
  Laid BY PROGRAM, IN A SANDBOX (cutbox-rows.mjs): the forced cells as the released guide's own fill.sh prints them over the translation 9a79141870d466b6… (all of the seat's roots in one cut). By AI agents, Wed Nov 11 2026. No macro, syntax, notation, axiom, sorry.
-/
import Derived.Test.YtejdnanhnkjaoaaChecked
import GoSem.Claim
import GoSem.ClaimJoined
import GoSem.ClaimMapViews
import Derived.JoinedTies
import Derived.KernelRfl
namespace Go.Proofs.Ytejdnanhnkjaoaa
/- THE CELL 'sum', in the pinned program and in every row, IS THE sha256 OF THE DUMP (.gsa) THAT YtejdnanhnkjaoaaProg.lean LOADS. Nothing in Lean hashes anything: it is a label: what it is worth is what the hold of that sum in a sandbox is worth. -/
noncomputable def Try.pinned : Pinned := { name := "ytejdnanhnkjaoaa", sum := "9a79141870d466b6ec4dcbb89e31f7ffba68432d5987e28e7a6398f2744a4474", checked := Try.checked }
namespace Rows
def none {H : Type} : Left H := { results := [], args := [] }

/-- 'gangwaylaw08.SymtabHashes': WHATEVER THE INPUT: true; the input reads as it did. -/
def symtabHashesSpec : ChangeSpec := { name := "symtabHashes", fn := fun _ => fun
  | [d1, d2] => { results := [.lit (.bool true)], args := [d1, d2] }
  | _ => none }
def symtabHashesRow : OpenClaim := { program := "ytejdnanhnkjaoaa", sum := "9a79141870d466b6ec4dcbb89e31f7ffba68432d5987e28e7a6398f2744a4474", func := "gangway/gangwaylaw08.SymtabHashes", spec := "symtabHashes", inPlace := ["internal/bytealg.IndexByteString"], plainKeys := false, apart := false }
def SymtabHashesSaid : Prop := symtabHashesRow.holds Try.pinned (OpenSpec.ofChange symtabHashesSpec)

/-- ITS FALSE NEIGHBOUR: 'it returns false'. Refute it at one input. -/
def symtabHashesWrong : ChangeSpec := { name := "symtabHashes", fn := fun _ => fun
  | [d1, d2] => { results := [.lit (.bool false)], args := [d1, d2] }
  | _ => none }
def SymtabHashesWrongFalsely : Prop := symtabHashesRow.holds Try.pinned (OpenSpec.ofChange symtabHashesWrong)

/-- 'gangwaylaw08.SymtabNames': WHATEVER THE INPUT: true; the input reads as it did. -/
def symtabNamesSpec : ChangeSpec := { name := "symtabNames", fn := fun _ => fun
  | [d1, d2, d3] => { results := [.lit (.bool true)], args := [d1, d2, d3] }
  | _ => none }
def symtabNamesRow : OpenClaim := { program := "ytejdnanhnkjaoaa", sum := "9a79141870d466b6ec4dcbb89e31f7ffba68432d5987e28e7a6398f2744a4474", func := "gangway/gangwaylaw08.SymtabNames", spec := "symtabNames", inPlace := ["internal/bytealg.IndexByteString"], plainKeys := false, apart := false }
def SymtabNamesSaid : Prop := symtabNamesRow.holds Try.pinned (OpenSpec.ofChange symtabNamesSpec)

/-- ITS FALSE NEIGHBOUR: 'it returns false'. Refute it at one input. -/
def symtabNamesWrong : ChangeSpec := { name := "symtabNames", fn := fun _ => fun
  | [d1, d2, d3] => { results := [.lit (.bool false)], args := [d1, d2, d3] }
  | _ => none }
def SymtabNamesWrongFalsely : Prop := symtabNamesRow.holds Try.pinned (OpenSpec.ofChange symtabNamesWrong)

/-- 'gangwaylaw08.SymtabOnce': WHATEVER THE INPUT: true; the input reads as it did. -/
def symtabOnceSpec : ChangeSpec := { name := "symtabOnce", fn := fun _ => fun
  | [d] => { results := [.lit (.bool true)], args := [d] }
  | _ => none }
def symtabOnceRow : OpenClaim := { program := "ytejdnanhnkjaoaa", sum := "9a79141870d466b6ec4dcbb89e31f7ffba68432d5987e28e7a6398f2744a4474", func := "gangway/gangwaylaw08.SymtabOnce", spec := "symtabOnce", inPlace := ["internal/bytealg.IndexByteString"], plainKeys := false, apart := false }
def SymtabOnceSaid : Prop := symtabOnceRow.holds Try.pinned (OpenSpec.ofChange symtabOnceSpec)

/-- ITS FALSE NEIGHBOUR: 'it returns false'. Refute it at one input. -/
def symtabOnceWrong : ChangeSpec := { name := "symtabOnce", fn := fun _ => fun
  | [d] => { results := [.lit (.bool false)], args := [d] }
  | _ => none }
def SymtabOnceWrongFalsely : Prop := symtabOnceRow.holds Try.pinned (OpenSpec.ofChange symtabOnceWrong)

/-- 'gangwaylaw08.SymtabWrites': WHATEVER THE INPUT: true; the input reads as it did. -/
def symtabWritesSpec : ChangeSpec := { name := "symtabWrites", fn := fun _ => fun
  | [d1, d2] => { results := [.lit (.bool true)], args := [d1, d2] }
  | _ => none }
def symtabWritesRow : OpenClaim := { program := "ytejdnanhnkjaoaa", sum := "9a79141870d466b6ec4dcbb89e31f7ffba68432d5987e28e7a6398f2744a4474", func := "gangway/gangwaylaw08.SymtabWrites", spec := "symtabWrites", inPlace := ["internal/bytealg.IndexByteString"], unfollowed := true, recurses := true, plainKeys := false, apart := false }
def SymtabWritesSaid : Prop := symtabWritesRow.holds Try.pinned (OpenSpec.ofChange symtabWritesSpec)

/-- ITS FALSE NEIGHBOUR: 'it returns false'. Refute it at one input. -/
def symtabWritesWrong : ChangeSpec := { name := "symtabWrites", fn := fun _ => fun
  | [d1, d2] => { results := [.lit (.bool false)], args := [d1, d2] }
  | _ => none }
def SymtabWritesWrongFalsely : Prop := symtabWritesRow.holds Try.pinned (OpenSpec.ofChange symtabWritesWrong)

/-- 'gangwaylaw08.SymtabReads': WHATEVER THE INPUT: true; the input reads as it did. -/
def symtabReadsSpec : ChangeSpec := { name := "symtabReads", fn := fun _ => fun
  | [d1, d2, d3, d4] => { results := [.lit (.bool true)], args := [d1, d2, d3, d4] }
  | _ => none }
def symtabReadsRow : OpenClaim := { program := "ytejdnanhnkjaoaa", sum := "9a79141870d466b6ec4dcbb89e31f7ffba68432d5987e28e7a6398f2744a4474", func := "gangway/gangwaylaw08.SymtabReads", spec := "symtabReads", inPlace := ["internal/bytealg.IndexByteString"], unfollowed := true, recurses := true, plainKeys := false, apart := false }
def SymtabReadsSaid : Prop := symtabReadsRow.holds Try.pinned (OpenSpec.ofChange symtabReadsSpec)

/-- ITS FALSE NEIGHBOUR: 'it returns false'. Refute it at one input. -/
def symtabReadsWrong : ChangeSpec := { name := "symtabReads", fn := fun _ => fun
  | [d1, d2, d3, d4] => { results := [.lit (.bool false)], args := [d1, d2, d3, d4] }
  | _ => none }
def SymtabReadsWrongFalsely : Prop := symtabReadsRow.holds Try.pinned (OpenSpec.ofChange symtabReadsWrong)

/-- 'gangwaylaw08.SymtabBack': WHATEVER THE INPUT: true; the input reads as it did. -/
def symtabBackSpec : ChangeSpec := { name := "symtabBack", fn := fun _ => fun
  | [d1, d2] => { results := [.lit (.bool true)], args := [d1, d2] }
  | _ => none }
def symtabBackRow : OpenClaim := { program := "ytejdnanhnkjaoaa", sum := "9a79141870d466b6ec4dcbb89e31f7ffba68432d5987e28e7a6398f2744a4474", func := "gangway/gangwaylaw08.SymtabBack", spec := "symtabBack", inPlace := ["internal/bytealg.IndexByteString"], unfollowed := true, recurses := true, plainKeys := false, apart := false }
def SymtabBackSaid : Prop := symtabBackRow.holds Try.pinned (OpenSpec.ofChange symtabBackSpec)

/-- ITS FALSE NEIGHBOUR: 'it returns false'. Refute it at one input. -/
def symtabBackWrong : ChangeSpec := { name := "symtabBack", fn := fun _ => fun
  | [d1, d2] => { results := [.lit (.bool false)], args := [d1, d2] }
  | _ => none }
def SymtabBackWrongFalsely : Prop := symtabBackRow.holds Try.pinned (OpenSpec.ofChange symtabBackWrong)

/- THE SECOND FORM. 'bulk': how many values and letters a reading holds, each counted each time it is reached (what is shared counts as often as it is met; a slice's spare places count too). A statement '..UptoSaid' is the law's where the arguments, and the package variables that the reading takes, are together of bulk at most 1048576: NARROWER than '..Said'. Prove '..Said' where nothing that the law and all that it calls make is longer than what came in: it says more and counts as full. Else prove '..UptoSaid'. A law counts once. -/
mutual
def uptoBulk {H : Type} : DataW H → Nat
  | .lit (.string bytes) => bytes.length + 1
  | .lit _ => 1
  | .nil => 1
  | .ptr d => uptoBulk d + 1
  | .slice elems spare => uptoBulkAll elems + uptoBulkAll spare + 1
  | .agg parts => uptoBulkAll parts + 1
  | .iface _ d => uptoBulk d + 1
  | .map entries => uptoBulkEntries entries + 1
  | .held _ => 1
def uptoBulkAll {H : Type} : List (DataW H) → Nat
  | [] => 0
  | d :: r => uptoBulk d + uptoBulkAll r
def uptoBulkEntries {H : Type} : List (Lit × DataW H) → Nat
  | [] => 0
  | x :: r => uptoBulkEntry x + uptoBulkEntries r
def uptoBulkEntry {H : Type} : Lit × DataW H → Nat
  | (.string bytes, d) => bytes.length + uptoBulk d + 1
  | (_, d) => uptoBulk d + 1
 end
def uptoSmall : (H : Type) → List (DataW H) → Bool := fun _ ds => decide (uptoBulkAll ds ≤ 1048576)
def OpenSpec.upto (s : _root_.Go.ChangeSpec) : _root_.Go.OpenSpec := { _root_.Go.OpenSpec.ofChange s with cond := some uptoSmall }

/-- 'gangwaylaw08.SymtabHashes', WHERE WHAT IT READS IS OF BULK AT MOST 1048576: true; the input reads as it did. -/
def symtabHashesUptoRow : OpenClaim := { program := "ytejdnanhnkjaoaa", sum := "9a79141870d466b6ec4dcbb89e31f7ffba68432d5987e28e7a6398f2744a4474", func := "gangway/gangwaylaw08.SymtabHashes", spec := "symtabHashes", inPlace := ["internal/bytealg.IndexByteString"], plainKeys := false, apart := false, narrowed := true }
def SymtabHashesUptoSaid : Prop := symtabHashesUptoRow.holds Try.pinned (OpenSpec.upto symtabHashesSpec)

/-- 'gangwaylaw08.SymtabNames', WHERE WHAT IT READS IS OF BULK AT MOST 1048576: true; the input reads as it did. -/
def symtabNamesUptoRow : OpenClaim := { program := "ytejdnanhnkjaoaa", sum := "9a79141870d466b6ec4dcbb89e31f7ffba68432d5987e28e7a6398f2744a4474", func := "gangway/gangwaylaw08.SymtabNames", spec := "symtabNames", inPlace := ["internal/bytealg.IndexByteString"], plainKeys := false, apart := false, narrowed := true }
def SymtabNamesUptoSaid : Prop := symtabNamesUptoRow.holds Try.pinned (OpenSpec.upto symtabNamesSpec)

/-- 'gangwaylaw08.SymtabOnce', WHERE WHAT IT READS IS OF BULK AT MOST 1048576: true; the input reads as it did. -/
def symtabOnceUptoRow : OpenClaim := { program := "ytejdnanhnkjaoaa", sum := "9a79141870d466b6ec4dcbb89e31f7ffba68432d5987e28e7a6398f2744a4474", func := "gangway/gangwaylaw08.SymtabOnce", spec := "symtabOnce", inPlace := ["internal/bytealg.IndexByteString"], plainKeys := false, apart := false, narrowed := true }
def SymtabOnceUptoSaid : Prop := symtabOnceUptoRow.holds Try.pinned (OpenSpec.upto symtabOnceSpec)

/-- 'gangwaylaw08.SymtabWrites', WHERE WHAT IT READS IS OF BULK AT MOST 1048576: true; the input reads as it did. -/
def symtabWritesUptoRow : OpenClaim := { program := "ytejdnanhnkjaoaa", sum := "9a79141870d466b6ec4dcbb89e31f7ffba68432d5987e28e7a6398f2744a4474", func := "gangway/gangwaylaw08.SymtabWrites", spec := "symtabWrites", inPlace := ["internal/bytealg.IndexByteString"], unfollowed := true, recurses := true, plainKeys := false, apart := false, narrowed := true }
def SymtabWritesUptoSaid : Prop := symtabWritesUptoRow.holds Try.pinned (OpenSpec.upto symtabWritesSpec)

/-- 'gangwaylaw08.SymtabReads', WHERE WHAT IT READS IS OF BULK AT MOST 1048576: true; the input reads as it did. -/
def symtabReadsUptoRow : OpenClaim := { program := "ytejdnanhnkjaoaa", sum := "9a79141870d466b6ec4dcbb89e31f7ffba68432d5987e28e7a6398f2744a4474", func := "gangway/gangwaylaw08.SymtabReads", spec := "symtabReads", inPlace := ["internal/bytealg.IndexByteString"], unfollowed := true, recurses := true, plainKeys := false, apart := false, narrowed := true }
def SymtabReadsUptoSaid : Prop := symtabReadsUptoRow.holds Try.pinned (OpenSpec.upto symtabReadsSpec)

/-- 'gangwaylaw08.SymtabBack', WHERE WHAT IT READS IS OF BULK AT MOST 1048576: true; the input reads as it did. -/
def symtabBackUptoRow : OpenClaim := { program := "ytejdnanhnkjaoaa", sum := "9a79141870d466b6ec4dcbb89e31f7ffba68432d5987e28e7a6398f2744a4474", func := "gangway/gangwaylaw08.SymtabBack", spec := "symtabBack", inPlace := ["internal/bytealg.IndexByteString"], unfollowed := true, recurses := true, plainKeys := false, apart := false, narrowed := true }
def SymtabBackUptoSaid : Prop := symtabBackUptoRow.holds Try.pinned (OpenSpec.upto symtabBackSpec)

end Rows
end Go.Proofs.Ytejdnanhnkjaoaa
