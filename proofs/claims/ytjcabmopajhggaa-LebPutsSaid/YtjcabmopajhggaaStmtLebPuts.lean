/- The one plain statement that is left of the law LebPuts: a number is written in any size, and read from any bytes, as the document says (P102, P103: every Put and Get). Conditions: none beyond the row's own. Made by a driver of this session. -/
import Derived.Test.YtjcabmopajhggaaGf4
namespace Go.Proofs.Ytjcabmopajhggaa.Stmt
open Go.RowKit Go.Proofs.Ytjcabmopajhggaa.G Go.Proofs.YtjcabmopajhggaaW.PrintWords
set_option linter.unusedVariables false
def LebPuts : Prop := ∀ (a0 : Int) (a1 : Int) (l2 : List Int) (a3 : Int) (a4 : Bool), ((Lit.int .i64 a0).wf = true) → ((Lit.int .i64 a1).wf = true) → (l2.length * 1 ≤ 140737488351232 ∧ l2.length ≤ 9223372036854775807 ∧ ∀ y1 ∈ l2, (Lit.int .u8 y1).wf = true) → ((Lit.int .i64 a3).wf = true) → ∃ k, G.gangwaylaw01_LebPuts.f k a0 a1 l2 a3 a4 = some true
end Go.Proofs.Ytjcabmopajhggaa.Stmt
