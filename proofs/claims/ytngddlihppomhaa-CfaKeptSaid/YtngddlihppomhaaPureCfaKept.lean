/- CfaKept: the plain statement: where the lists are no longer than the form lets them be, the answer is true. -/
import Derived.Test.YtngddlihppomhaaStmtCfaKept
namespace Go.Proofs.Ytngddlihppomhaa.Pure
open Go.RowKit Go.Proofs.Ytngddlihppomhaa.G Go.Proofs.Ytngddlihppomhaa.Stmt Go.Proofs.YtngddlihppomhaaW.PrintWords Go.Proofs.YtngddlihppomhaaW.PrintLast Go.Proofs.YtngddlihppomhaaW.PrintMore
theorem CfaKept : Stmt.CfaKept := by
  intro l0 l1 a2 h0 h1
  intros
  unfold gangwaylaw13_CfaKept.f
  rw [if_pos ⟨h0.1, h1.1⟩]
end Go.Proofs.Ytngddlihppomhaa.Pure
