/-
  No cell of these rows narrows 'for every input' (looked for: loops, veiled, ifaces, maps, wideKeys, modest, calm, conditions, laid).
  DERIVED. THE GIVEN ROWS OF THIS SEAT. 4 by the template 'for every input the law returns true; each argument reads behind the call as it read before'; 0 by the template 'total and deterministic' (their statements: YtibkcnlcmempgaaTotals.lean).
  GIVEN WITH THE SEED: the statements are not yours to turn. If you find one false, say at which input.
  Laid BY PROGRAM, IN A SANDBOX (cutbox-rows.mjs): the forced cells as the released guide's own fill.sh prints them over the translation 63670376a0e59f36… (all of the seat's roots in one cut). By AI agents, Wed Nov 11 2026. No macro, syntax, notation, axiom, sorry.
-/
import Derived.Test.YtibkcnlcmempgaaChecked
import GoSem.Claim
import GoSem.ClaimJoined
import GoSem.ClaimMapViews
import Derived.JoinedTies
import Derived.KernelRfl
namespace Go.Proofs.Ytibkcnlcmempgaa
/- THE CELL 'sum', in the pinned program and in every row, IS THE sha256 OF THE DUMP (.gsa) THAT YtibkcnlcmempgaaProg.lean LOADS. Nothing in Lean hashes anything: it is a label: what it is worth is what the hold of that sum in a sandbox is worth. -/
noncomputable def Try.pinned : Pinned := { name := "ytibkcnlcmempgaa", sum := "63670376a0e59f3627cc909bfa659565069796f5763c435c04827ab264cc0568", checked := Try.checked }
namespace Rows
def none {H : Type} : Left H := { results := [], args := [] }

/-- 'gangwaylaw18.ResolveJust': WHATEVER THE INPUT: true; the input reads as it did. -/
def resolveJustSpec : ChangeSpec := { name := "resolveJust", fn := fun _ => fun
  | [d] => { results := [.lit (.bool true)], args := [d] }
  | _ => none }
def resolveJustRow : OpenClaim := { program := "ytibkcnlcmempgaa", sum := "63670376a0e59f3627cc909bfa659565069796f5763c435c04827ab264cc0568", func := "gangway/gangwaylaw18.ResolveJust", spec := "resolveJust", inPlace := ["internal/bytealg.IndexByteString"], unfollowed := true, recurses := true, plainKeys := false, apart := false }
def ResolveJustSaid : Prop := resolveJustRow.holds Try.pinned (OpenSpec.ofChange resolveJustSpec)

/-- ITS FALSE NEIGHBOUR: 'it returns false'. Refute it at one input. -/
def resolveJustWrong : ChangeSpec := { name := "resolveJust", fn := fun _ => fun
  | [d] => { results := [.lit (.bool false)], args := [d] }
  | _ => none }
def ResolveJustWrongFalsely : Prop := resolveJustRow.holds Try.pinned (OpenSpec.ofChange resolveJustWrong)

/-- 'gangwaylaw18.ResolveOrder': WHATEVER THE INPUT: true; the input reads as it did. -/
def resolveOrderSpec : ChangeSpec := { name := "resolveOrder", fn := fun _ => fun
  | [d] => { results := [.lit (.bool true)], args := [d] }
  | _ => none }
def resolveOrderRow : OpenClaim := { program := "ytibkcnlcmempgaa", sum := "63670376a0e59f3627cc909bfa659565069796f5763c435c04827ab264cc0568", func := "gangway/gangwaylaw18.ResolveOrder", spec := "resolveOrder", inPlace := ["internal/bytealg.IndexByteString"], unfollowed := true, recurses := true, plainKeys := false, apart := false }
def ResolveOrderSaid : Prop := resolveOrderRow.holds Try.pinned (OpenSpec.ofChange resolveOrderSpec)

/-- ITS FALSE NEIGHBOUR: 'it returns false'. Refute it at one input. -/
def resolveOrderWrong : ChangeSpec := { name := "resolveOrder", fn := fun _ => fun
  | [d] => { results := [.lit (.bool false)], args := [d] }
  | _ => none }
def ResolveOrderWrongFalsely : Prop := resolveOrderRow.holds Try.pinned (OpenSpec.ofChange resolveOrderWrong)

/-- 'gangwaylaw18.ResolveMore': WHATEVER THE INPUT: true; the input reads as it did. -/
def resolveMoreSpec : ChangeSpec := { name := "resolveMore", fn := fun _ => fun
  | [d1, d2] => { results := [.lit (.bool true)], args := [d1, d2] }
  | _ => none }
def resolveMoreRow : OpenClaim := { program := "ytibkcnlcmempgaa", sum := "63670376a0e59f3627cc909bfa659565069796f5763c435c04827ab264cc0568", func := "gangway/gangwaylaw18.ResolveMore", spec := "resolveMore", inPlace := ["internal/bytealg.IndexByteString"], unfollowed := true, recurses := true, plainKeys := false, apart := false }
def ResolveMoreSaid : Prop := resolveMoreRow.holds Try.pinned (OpenSpec.ofChange resolveMoreSpec)

/-- ITS FALSE NEIGHBOUR: 'it returns false'. Refute it at one input. -/
def resolveMoreWrong : ChangeSpec := { name := "resolveMore", fn := fun _ => fun
  | [d1, d2] => { results := [.lit (.bool false)], args := [d1, d2] }
  | _ => none }
def ResolveMoreWrongFalsely : Prop := resolveMoreRow.holds Try.pinned (OpenSpec.ofChange resolveMoreWrong)

/-- 'gangwaylaw18.ResolveLooks': WHATEVER THE INPUT: true; the input reads as it did. -/
def resolveLooksSpec : ChangeSpec := { name := "resolveLooks", fn := fun _ => fun
  | [d1, d2, d3, d4] => { results := [.lit (.bool true)], args := [d1, d2, d3, d4] }
  | _ => none }
def resolveLooksRow : OpenClaim := { program := "ytibkcnlcmempgaa", sum := "63670376a0e59f3627cc909bfa659565069796f5763c435c04827ab264cc0568", func := "gangway/gangwaylaw18.ResolveLooks", spec := "resolveLooks", inPlace := ["internal/bytealg.IndexByteString"], unfollowed := true, recurses := true, plainKeys := false, apart := false }
def ResolveLooksSaid : Prop := resolveLooksRow.holds Try.pinned (OpenSpec.ofChange resolveLooksSpec)

/-- ITS FALSE NEIGHBOUR: 'it returns false'. Refute it at one input. -/
def resolveLooksWrong : ChangeSpec := { name := "resolveLooks", fn := fun _ => fun
  | [d1, d2, d3, d4] => { results := [.lit (.bool false)], args := [d1, d2, d3, d4] }
  | _ => none }
def ResolveLooksWrongFalsely : Prop := resolveLooksRow.holds Try.pinned (OpenSpec.ofChange resolveLooksWrong)

/- THE SECOND FORM. 'bulk': how many values and letters a reading holds, each counted each time it is reached (what is shared counts as often as it is met; a slice's spare places count too). A statement '..UptoSaid' is the law's where the arguments, and the package variables that the reading takes, are together of bulk at most 1048576: NARROWER than '..Said'. Prove '..Said' where nothing that the law and all that it calls make is longer than what came in: it says more and counts as full. Else prove '..UptoSaid'. A law counts once. -/
mutual
def uptoBulk {H : Type} : DataW H → Nat
  | .lit (.string bytes) => bytes.length + 1
  | .lit _ => 1
  | .nil => 1
  | .ptr d => uptoBulk d + 1
  | .slice elems spare => uptoBulkAll elems + uptoBulkAll spare + 1
  | .agg parts => uptoBulkAll parts + 1
  | .iface _ d => uptoBulk d + 1
  | .map entries => uptoBulkEntries entries + 1
  | .held _ => 1
def uptoBulkAll {H : Type} : List (DataW H) → Nat
  | [] => 0
  | d :: r => uptoBulk d + uptoBulkAll r
def uptoBulkEntries {H : Type} : List (Lit × DataW H) → Nat
  | [] => 0
  | x :: r => uptoBulkEntry x + uptoBulkEntries r
def uptoBulkEntry {H : Type} : Lit × DataW H → Nat
  | (.string bytes, d) => bytes.length + uptoBulk d + 1
  | (_, d) => uptoBulk d + 1
 end
def uptoSmall : (H : Type) → List (DataW H) → Bool := fun _ ds => decide (uptoBulkAll ds ≤ 1048576)
def OpenSpec.upto (s : _root_.Go.ChangeSpec) : _root_.Go.OpenSpec := { _root_.Go.OpenSpec.ofChange s with cond := some uptoSmall }

/-- 'gangwaylaw18.ResolveJust', WHERE WHAT IT READS IS OF BULK AT MOST 1048576: true; the input reads as it did. -/
def resolveJustUptoRow : OpenClaim := { program := "ytibkcnlcmempgaa", sum := "63670376a0e59f3627cc909bfa659565069796f5763c435c04827ab264cc0568", func := "gangway/gangwaylaw18.ResolveJust", spec := "resolveJust", inPlace := ["internal/bytealg.IndexByteString"], unfollowed := true, recurses := true, plainKeys := false, apart := false, narrowed := true }
def ResolveJustUptoSaid : Prop := resolveJustUptoRow.holds Try.pinned (OpenSpec.upto resolveJustSpec)

/-- 'gangwaylaw18.ResolveOrder', WHERE WHAT IT READS IS OF BULK AT MOST 1048576: true; the input reads as it did. -/
def resolveOrderUptoRow : OpenClaim := { program := "ytibkcnlcmempgaa", sum := "63670376a0e59f3627cc909bfa659565069796f5763c435c04827ab264cc0568", func := "gangway/gangwaylaw18.ResolveOrder", spec := "resolveOrder", inPlace := ["internal/bytealg.IndexByteString"], unfollowed := true, recurses := true, plainKeys := false, apart := false, narrowed := true }
def ResolveOrderUptoSaid : Prop := resolveOrderUptoRow.holds Try.pinned (OpenSpec.upto resolveOrderSpec)

/-- 'gangwaylaw18.ResolveMore', WHERE WHAT IT READS IS OF BULK AT MOST 1048576: true; the input reads as it did. -/
def resolveMoreUptoRow : OpenClaim := { program := "ytibkcnlcmempgaa", sum := "63670376a0e59f3627cc909bfa659565069796f5763c435c04827ab264cc0568", func := "gangway/gangwaylaw18.ResolveMore", spec := "resolveMore", inPlace := ["internal/bytealg.IndexByteString"], unfollowed := true, recurses := true, plainKeys := false, apart := false, narrowed := true }
def ResolveMoreUptoSaid : Prop := resolveMoreUptoRow.holds Try.pinned (OpenSpec.upto resolveMoreSpec)

/-- 'gangwaylaw18.ResolveLooks', WHERE WHAT IT READS IS OF BULK AT MOST 1048576: true; the input reads as it did. -/
def resolveLooksUptoRow : OpenClaim := { program := "ytibkcnlcmempgaa", sum := "63670376a0e59f3627cc909bfa659565069796f5763c435c04827ab264cc0568", func := "gangway/gangwaylaw18.ResolveLooks", spec := "resolveLooks", inPlace := ["internal/bytealg.IndexByteString"], unfollowed := true, recurses := true, plainKeys := false, apart := false, narrowed := true }
def ResolveLooksUptoSaid : Prop := resolveLooksUptoRow.holds Try.pinned (OpenSpec.upto resolveLooksSpec)

end Rows
end Go.Proofs.Ytibkcnlcmempgaa
