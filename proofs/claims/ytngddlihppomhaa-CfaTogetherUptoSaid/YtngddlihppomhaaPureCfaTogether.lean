/- CfaTogether: the plain statement: where what comes in is together no greater than the form lets it be, the answer is true. -/
import Derived.Test.YtngddlihppomhaaStmtCfaTogether
namespace Go.Proofs.Ytngddlihppomhaa.Pure
open Go.RowKit Go.Proofs.Ytngddlihppomhaa.G Go.Proofs.Ytngddlihppomhaa.Stmt Go.Proofs.YtngddlihppomhaaW.PrintWords Go.Proofs.YtngddlihppomhaaW.PrintLast Go.Proofs.YtngddlihppomhaaW.PrintMore
theorem wt_len : ∀ l : List S41, l.length ≤ (l.map wt41).sum
  | [] => Nat.le_refl _
  | x :: l => by
    have h := wt_len l
    have h1 : 1 ≤ wt41 x := by unfold wt41; omega
    simp only [List.map_cons, List.sum_cons, List.length_cons]
    omega
theorem CfaTogether : Stmt.CfaTogether := by
  intro l0 l1 l2 a3 h0 h1 h2 h3 hb
  have e0 := wt_len l0
  have e1 := wt_len l1
  have e2 := wt_len l2
  unfold gangwaylaw13_CfaTogether.f
  rw [if_pos (by omega)]
end Go.Proofs.Ytngddlihppomhaa.Pure
