/- The plain law of SymtabWrites: the program's symbols as bytes are the reference's. -/
import Derived.Test.YtejdnanhnkjaoaaStmtSymtabWrites
import Derived.Test.YtejdnanhnkjaoaaSymWriteL
import Derived.Test.YtejdnanhnkjaoaaLive
namespace Go.Proofs.Ytejdnanhnkjaoaa.Pure
set_option linter.unusedVariables false
set_option linter.unusedSimpArgs false
open Go.RowKit Go.Proofs.Ytejdnanhnkjaoaa.G Go.Proofs.Ytejdnanhnkjaoaa.Stmt Go.Proofs.YtejdnanhnkjaoaaW.PrintWords Go.Proofs.YtejdnanhnkjaoaaW.PrintLast Go.Proofs.YtejdnanhnkjaoaaW.PrintMore Go.Proofs.Ytejdnanhnkjaoaa.Bit Go.Proofs.Ytejdnanhnkjaoaa.Sym Go.Proofs.Ytejdnanhnkjaoaa.SymW
theorem SymtabWrites : Stmt.SymtabWrites := by
  intro l0 l1 h0 h1
  obtain ⟨r, hr, k1, hk1⟩ := write_same l0 l1 h0.1 h1.1
  obtain ⟨k2, hk2⟩ := rcheck_f l0 l1 h0.1 h1.1
  refine ⟨k1 + k2 + l0.length + 1, ?_⟩
  unfold gangwaylaw08_SymtabWrites.f
  rw [Option.bind_some, if_pos (by simp; omega), Option.bind_some, List.nil_append]
  rw [show symtab_Write.f l0 l1 = some r from hr, Option.bind_some, rounds_to (g := fun k => gangwayref08_Write.f k l0 l1) (gangwayref08_Write.mono l0 l1) (show k1 ≤ k1 + k2 + l0.length + 1 by omega) hk1, Option.bind_some, show symtab_Check.f l0 l1 = some (symCheck l0 l1) from rfl, Option.bind_some]
  unfold gangwaylaw08_num.f
  rw [Option.bind_some, rounds_to (g := fun k => gangwayref08_Check.f k l0 l1) (gangwayref08_Check.mono l0 l1) (show k2 ≤ k1 + k2 + l0.length + 1 by omega) hk2, Option.bind_some, if_pos rfl, if_pos rfl, if_pos rfl, if_pos rfl, Option.bind_some, if_pos rfl, symbols_f l0 (by omega) _ (by omega), Option.bind_some, if_pos rfl, live_true]
  rfl
end Go.Proofs.Ytejdnanhnkjaoaa.Pure
