/- The one plain statement that is left of the law LebReads: numbers in groups, and texts, are read from any place of any bytes, or refused (P105, P106: every ReadUleb, ReadSleb and Text). Conditions: none beyond the row's own. Made by a driver of this session. -/
import Derived.Test.YtjcabmopajhggaaGf5
namespace Go.Proofs.Ytjcabmopajhggaa.Stmt
open Go.RowKit Go.Proofs.Ytjcabmopajhggaa.G Go.Proofs.YtjcabmopajhggaaW.PrintWords
set_option linter.unusedVariables false
def LebReads : Prop := ∀ (l0 : List Int) (a1 : Int), (l0.length * 1 ≤ 140737488351232 ∧ l0.length ≤ 9223372036854775807 ∧ ∀ y1 ∈ l0, (Lit.int .u8 y1).wf = true) → ((Lit.int .i64 a1).wf = true) → ∃ k, G.gangwaylaw01_LebReads.f k l0 a1 = some true
end Go.Proofs.Ytjcabmopajhggaa.Stmt
