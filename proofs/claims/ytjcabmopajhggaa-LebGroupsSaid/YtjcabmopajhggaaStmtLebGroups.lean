/- The one plain statement that is left of the law LebGroups: a number is written in groups of seven bits, as the document says (P104: every Uleb and Sleb). Conditions: none beyond the row's own. Made by a driver of this session. -/
import Derived.Test.YtjcabmopajhggaaGf3
namespace Go.Proofs.Ytjcabmopajhggaa.Stmt
open Go.RowKit Go.Proofs.Ytjcabmopajhggaa.G Go.Proofs.YtjcabmopajhggaaW.PrintWords
set_option linter.unusedVariables false
def LebGroups : Prop := ∀ (a0 : Int), ((Lit.int .i64 a0).wf = true) → ∃ k, G.gangwaylaw01_LebGroups.f k a0 = some true
end Go.Proofs.Ytjcabmopajhggaa.Stmt
