/- CfaRows: the plain statement: where the lists are no longer than the form lets them be, the answer is true. -/
import Derived.Test.YtngddlihppomhaaStmtCfaRows
namespace Go.Proofs.Ytngddlihppomhaa.Pure
open Go.RowKit Go.Proofs.Ytngddlihppomhaa.G Go.Proofs.Ytngddlihppomhaa.Stmt Go.Proofs.YtngddlihppomhaaW.PrintWords Go.Proofs.YtngddlihppomhaaW.PrintLast Go.Proofs.YtngddlihppomhaaW.PrintMore
theorem CfaRows : Stmt.CfaRows := by
  intro l0 l1 a2 a3 h0 h1
  intros
  unfold gangwaylaw13_CfaRows.f
  rw [if_pos ⟨h0.1, h1.1⟩]
end Go.Proofs.Ytngddlihppomhaa.Pure
