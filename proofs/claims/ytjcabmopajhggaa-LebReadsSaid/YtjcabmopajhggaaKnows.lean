/- The law package's own check of known answers ('knows') answers true. -/
import Derived.Test.YtjcabmopajhggaaGf14
namespace Go.Proofs.Ytjcabmopajhggaa.Leb
set_option linter.unusedVariables false
set_option linter.unusedSimpArgs false
open Go.RowKit Go.Proofs.Ytjcabmopajhggaa.G Go.Proofs.YtjcabmopajhggaaW.PrintWords
theorem knows_k (k : Nat) (hk : 20 ≤ k) : gangwaylaw01_knows.f k = some true :=
  at_rounds (g := gangwaylaw01_knows.f) (fun k => gangwaylaw01_knows.mono k) (k := 20) hk (by decide +kernel)
end Go.Proofs.Ytjcabmopajhggaa.Leb
