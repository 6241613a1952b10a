/- The one plain statement that is left of the law CfaTogether: a program with more ops behind it has the rows of the first ones, but for the last row, at its beginning (P1311). Conditions: what comes in is together of bulk at most 1048576, as the statement says. Made by a driver of this session. -/
import Derived.Test.YtngddlihppomhaaGf5
namespace Go.Proofs.Ytngddlihppomhaa.Stmt
open Go.RowKit Go.Proofs.Ytngddlihppomhaa.G Go.Proofs.YtngddlihppomhaaW.PrintWords
set_option linter.unusedVariables false
def wf41 (x : S41) : Prop := ((Lit.int .i64 x.f0).wf = true) ∧ ((Lit.int .i64 x.f1).wf = true) ∧ ((Lit.int .i64 x.f2).wf = true)
def wt41 (x : S41) : Nat := (1 + (1 + (1))) + 1
def CfaTogether : Prop := ∀ (l0 : List (S41)) (l1 : List (S41)) (l2 : List (S41)) (a3 : Int), (l0.length * 24 ≤ 140737488351232 ∧ l0.length ≤ 9223372036854775807 ∧ ∀ y1 ∈ l0, wf41 y1) → (l1.length * 24 ≤ 140737488351232 ∧ l1.length ≤ 9223372036854775807 ∧ ∀ y1 ∈ l1, wf41 y1) → (l2.length * 24 ≤ 140737488351232 ∧ l2.length ≤ 9223372036854775807 ∧ ∀ y1 ∈ l2, wf41 y1) → ((Lit.int .i64 a3).wf = true) → (((l0.map wt41).sum + 1) + ((l1.map wt41).sum + 1) + ((l2.map wt41).sum + 1) + 1 ≤ 1048576) → G.gangwaylaw13_CfaTogether.f l0 l1 l2 a3 = some true
end Go.Proofs.Ytngddlihppomhaa.Stmt
