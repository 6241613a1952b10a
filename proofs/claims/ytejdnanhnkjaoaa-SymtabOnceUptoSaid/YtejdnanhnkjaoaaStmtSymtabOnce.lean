/- The one plain statement that is left of the law SymtabOnce: each name stands in a table once, and is found where it is told (P8.8, without the document's table). Conditions: what comes in is together of bulk at most 1048576, as the statement says. Made by a driver of this session. -/
import Derived.Test.YtejdnanhnkjaoaaGf5
namespace Go.Proofs.Ytejdnanhnkjaoaa.Stmt
open Go.RowKit Go.Proofs.Ytejdnanhnkjaoaa.G Go.Proofs.YtejdnanhnkjaoaaW.PrintWords
set_option linter.unusedVariables false
def SymtabOnce : Prop := ∀ (l0 : List ByteArray), (l0.length * 16 ≤ 140737488351232 ∧ l0.length ≤ 9223372036854775807 ∧ ∀ y1 ∈ l0, y1.size ≤ 140737488351232) → (((l0.map (fun y => (y.size + 1))).sum + 1) ≤ 1048576) → ∃ k, G.gangwaylaw08_SymtabOnce.f k l0 = some true
end Go.Proofs.Ytejdnanhnkjaoaa.Stmt
