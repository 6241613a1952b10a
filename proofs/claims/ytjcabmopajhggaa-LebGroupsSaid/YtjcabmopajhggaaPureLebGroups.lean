/- The plain law of LebGroups: the program's groups of seven bits are the reference's, for every number. -/
import Derived.Test.YtjcabmopajhggaaStmtLebGroups
import Derived.Test.YtjcabmopajhggaaLebNum
namespace Go.Proofs.Ytjcabmopajhggaa.Pure
open Go.RowKit Go.Proofs.Ytjcabmopajhggaa.G Go.Proofs.Ytjcabmopajhggaa.Stmt Go.Proofs.YtjcabmopajhggaaW.PrintWords Go.Proofs.YtjcabmopajhggaaW.PrintLast Go.Proofs.YtjcabmopajhggaaW.PrintMore Go.Proofs.Ytjcabmopajhggaa.Bit Go.Proofs.Ytjcabmopajhggaa.Leb
theorem knows_true : gangwaylaw01_knows.f 20 = some true := by decide +kernel
theorem LebGroups : Stmt.LebGroups := by
  intro a0 h
  obtain ⟨h0, h1⟩ := wf_i64 h
  refine ⟨20, ?_⟩
  unfold gangwaylaw01_LebGroups.f
  rw [uleb_f a0 20 (by omega), ruleb_f a0 20 (by omega), sleb_f a0 h0 h1 20 (by omega), rsleb_f a0 h0 h1 20 (by omega), knows_true]
  simp
end Go.Proofs.Ytjcabmopajhggaa.Pure
