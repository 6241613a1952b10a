/- CfaWrites: the plain statement: the program's bytes are the reference's. -/
import Derived.Test.YtngddlihppomhaaStmtCfaWrites
import Derived.Test.YtngddlihppomhaaCfaBytes
namespace Go.Proofs.Ytngddlihppomhaa.Pure
open Go.RowKit Go.Proofs.Ytngddlihppomhaa.G Go.Proofs.Ytngddlihppomhaa.Stmt Go.Proofs.YtngddlihppomhaaW.PrintWords Go.Proofs.YtngddlihppomhaaW.PrintLast Go.Proofs.YtngddlihppomhaaW.PrintMore Go.Proofs.Ytngddlihppomhaa.Cfa Go.Proofs.Ytngddlihppomhaa.CfaB
theorem CfaWrites : Stmt.CfaWrites := by
  intro l0 h0
  refine ⟨l0.length + 100, ?_⟩
  have e : gangwaylaw13_Ops.f (l0.length + 100) l0 = some (conv l0) := ops_l0 l0 (by omega) l0.length (l0.length + 100) 0 (by omega) (by omega) (by omega)
  unfold gangwaylaw13_CfaWrites.f
  rw [e, Option.bind_some, write_f (conv l0) _ (by rw [conv_length]; omega), Option.bind_some, rwrite_f l0 _ (by omega), Option.bind_some, if_pos rfl]
  unfold gangwaylaw13_num.f gangwaylaw13_knows.f
  rw [Option.bind_some, if_pos rfl, same_f l0 (by omega) _ (by omega), Option.bind_some, if_pos rfl]
  rfl
end Go.Proofs.Ytngddlihppomhaa.Pure
