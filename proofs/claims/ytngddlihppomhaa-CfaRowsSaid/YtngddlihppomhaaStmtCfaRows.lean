/- The one plain statement that is left of the law CfaRows: any program's table: the rules from place to place (P1302, P1303: every Check, Rows and Find). Conditions: none beyond the row's own. Made by a driver of this session. -/
import Derived.Test.YtngddlihppomhaaGf6
namespace Go.Proofs.Ytngddlihppomhaa.Stmt
open Go.RowKit Go.Proofs.Ytngddlihppomhaa.G Go.Proofs.YtngddlihppomhaaW.PrintWords
set_option linter.unusedVariables false
def wf41 (x : S41) : Prop := ((Lit.int .i64 x.f0).wf = true) ∧ ((Lit.int .i64 x.f1).wf = true) ∧ ((Lit.int .i64 x.f2).wf = true)
def wt41 (x : S41) : Nat := (1 + (1 + (1))) + 1
def CfaRows : Prop := ∀ (l0 : List (S41)) (l1 : List (S41)) (a2 : Int) (a3 : Int), (l0.length * 24 ≤ 140737488351232 ∧ l0.length ≤ 9223372036854775807 ∧ ∀ y1 ∈ l0, wf41 y1) → (l1.length * 24 ≤ 140737488351232 ∧ l1.length ≤ 9223372036854775807 ∧ ∀ y1 ∈ l1, wf41 y1) → ((Lit.int .i64 a2).wf = true) → ((Lit.int .i64 a3).wf = true) → G.gangwaylaw13_CfaRows.f l0 l1 a2 a3 = some true
end Go.Proofs.Ytngddlihppomhaa.Stmt
