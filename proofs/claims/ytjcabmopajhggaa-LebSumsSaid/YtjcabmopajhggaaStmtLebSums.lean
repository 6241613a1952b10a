/- The one plain statement that is left of the law LebSums: aligned numbers, sums, and what fits (P107: every Align, Add and Fits). Conditions: none beyond the row's own. Made by a driver of this session. -/
import Derived.Test.YtjcabmopajhggaaGf9
namespace Go.Proofs.Ytjcabmopajhggaa.Stmt
open Go.RowKit Go.Proofs.Ytjcabmopajhggaa.G Go.Proofs.YtjcabmopajhggaaW.PrintWords
set_option linter.unusedVariables false
def LebSums : Prop := ∀ (a0 : Int) (a1 : Int) (a2 : Int) (a3 : Bool), ((Lit.int .i64 a0).wf = true) → ((Lit.int .i64 a1).wf = true) → ((Lit.int .i64 a2).wf = true) → ∃ k, G.gangwaylaw01_LebSums.f k a0 a1 a2 a3 = some true
end Go.Proofs.Ytjcabmopajhggaa.Stmt
