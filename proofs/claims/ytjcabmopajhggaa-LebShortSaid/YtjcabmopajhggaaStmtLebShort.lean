/- The one plain statement that is left of the law LebShort: numbers in groups are as short as may be: with a byte less they end too early, and no shorter bytes are read as the same number (P109). Conditions: none beyond the row's own. Made by a driver of this session. -/
import Derived.Test.YtjcabmopajhggaaGf6
namespace Go.Proofs.Ytjcabmopajhggaa.Stmt
open Go.RowKit Go.Proofs.Ytjcabmopajhggaa.G Go.Proofs.YtjcabmopajhggaaW.PrintWords
set_option linter.unusedVariables false
def LebShort : Prop := ∀ (a0 : Int) (l1 : List Int), ((Lit.int .i64 a0).wf = true) → (l1.length * 1 ≤ 140737488351232 ∧ l1.length ≤ 9223372036854775807 ∧ ∀ y1 ∈ l1, (Lit.int .u8 y1).wf = true) → ∃ k, G.gangwaylaw01_LebShort.f k a0 l1 = some true
end Go.Proofs.Ytjcabmopajhggaa.Stmt
