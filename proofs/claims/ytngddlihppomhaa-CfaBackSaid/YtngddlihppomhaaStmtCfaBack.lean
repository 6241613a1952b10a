/- The one plain statement that is left of the law CfaBack: THE STAGE'S THEOREM: a program that is written is read as it was (P1308). Conditions: none beyond the row's own. Made by a driver of this session. -/
import Derived.Test.YtngddlihppomhaaGf9
namespace Go.Proofs.Ytngddlihppomhaa.Stmt
open Go.RowKit Go.Proofs.Ytngddlihppomhaa.G Go.Proofs.YtngddlihppomhaaW.PrintWords
set_option linter.unusedVariables false
def wf41 (x : S41) : Prop := ((Lit.int .i64 x.f0).wf = true) ∧ ((Lit.int .i64 x.f1).wf = true) ∧ ((Lit.int .i64 x.f2).wf = true)
def wt41 (x : S41) : Nat := (1 + (1 + (1))) + 1
def CfaBack : Prop := ∀ (l0 : List (S41)), (l0.length * 24 ≤ 140737488351232 ∧ l0.length ≤ 9223372036854775807 ∧ ∀ y1 ∈ l0, wf41 y1) → ∃ k, G.gangwaylaw13_CfaBack.f k l0 = some true
end Go.Proofs.Ytngddlihppomhaa.Stmt
