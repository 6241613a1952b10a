/- The one plain statement that is left of the law SymtabNames: names as a table, and back from any place (P8.1, P8.2, P8.6: every Strings, At, Hash and Gnu). Conditions: what comes in is together of bulk at most 1048576, as the statement says. Made by a driver of this session. -/
import Derived.Test.YtejdnanhnkjaoaaGf4
namespace Go.Proofs.Ytejdnanhnkjaoaa.Stmt
open Go.RowKit Go.Proofs.Ytejdnanhnkjaoaa.G Go.Proofs.YtejdnanhnkjaoaaW.PrintWords
set_option linter.unusedVariables false
def SymtabNames : Prop := ∀ (l0 : List ByteArray) (l1 : List Int) (a2 : Int), (l0.length * 16 ≤ 140737488351232 ∧ l0.length ≤ 9223372036854775807 ∧ ∀ y1 ∈ l0, y1.size ≤ 140737488351232) → (l1.length * 1 ≤ 140737488351232 ∧ l1.length ≤ 9223372036854775807 ∧ ∀ y1 ∈ l1, (Lit.int .u8 y1).wf = true) → ((Lit.int .i64 a2).wf = true) → (((l0.map (fun y => (y.size + 1))).sum + 1) + ((l1.map (fun y => 1)).sum + 1) + 1 ≤ 1048576) → ∃ k, G.gangwaylaw08_SymtabNames.f k l0 l1 a2 = some true
end Go.Proofs.Ytejdnanhnkjaoaa.Stmt
