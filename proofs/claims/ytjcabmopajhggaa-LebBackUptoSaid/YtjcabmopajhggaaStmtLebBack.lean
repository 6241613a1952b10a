/- The one plain statement that is left of the law LebBack: THE STAGE'S THEOREM: what is written is read as it was, with anything ahead and behind (P108). Conditions: what comes in is together of bulk at most 1048576, as the statement says. Made by a driver of this session. -/
import Derived.Test.YtjcabmopajhggaaGf7
namespace Go.Proofs.Ytjcabmopajhggaa.Stmt
open Go.RowKit Go.Proofs.Ytjcabmopajhggaa.G Go.Proofs.YtjcabmopajhggaaW.PrintWords
set_option linter.unusedVariables false
def LebBack : Prop := ∀ (a0 : Int) (a1 : Int) (l2 : List Int) (l3 : List Int), ((Lit.int .i64 a0).wf = true) → ((Lit.int .i64 a1).wf = true) → (l2.length * 1 ≤ 140737488351232 ∧ l2.length ≤ 9223372036854775807 ∧ ∀ y1 ∈ l2, (Lit.int .u8 y1).wf = true) → (l3.length * 1 ≤ 140737488351232 ∧ l3.length ≤ 9223372036854775807 ∧ ∀ y1 ∈ l3, (Lit.int .u8 y1).wf = true) → (1 + 1 + ((l2.map (fun y => 1)).sum + 1) + ((l3.map (fun y => 1)).sum + 1) ≤ 1048576) → ∃ k, G.gangwaylaw01_LebBack.f k a0 a1 l2 l3 = some true
end Go.Proofs.Ytjcabmopajhggaa.Stmt
