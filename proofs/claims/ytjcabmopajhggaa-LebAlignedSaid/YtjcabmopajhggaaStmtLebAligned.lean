/- The one plain statement that is left of the law LebAligned: an aligned number is a multiple, not below the number, and less than one multiple above it; aligned again it stays (P110). Conditions: none beyond the row's own. Made by a driver of this session. -/
import Derived.Test.YtjcabmopajhggaaGf8
namespace Go.Proofs.Ytjcabmopajhggaa.Stmt
open Go.RowKit Go.Proofs.Ytjcabmopajhggaa.G Go.Proofs.YtjcabmopajhggaaW.PrintWords
set_option linter.unusedVariables false
def LebAligned : Prop := ∀ (a0 : Int) (a1 : Int), ((Lit.int .i64 a0).wf = true) → ((Lit.int .i64 a1).wf = true) → ∃ k, G.gangwaylaw01_LebAligned.f k a0 a1 = some true
end Go.Proofs.Ytjcabmopajhggaa.Stmt
