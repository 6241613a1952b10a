/- The package is alive: live() answers true. -/
import Derived.Test.YtejdnanhnkjaoaaGf11
namespace Go.Proofs.Ytejdnanhnkjaoaa.Sym
open Go.RowKit Go.Proofs.Ytejdnanhnkjaoaa.G Go.Proofs.YtejdnanhnkjaoaaW.PrintWords Go.Proofs.YtejdnanhnkjaoaaW.PrintLast Go.Proofs.YtejdnanhnkjaoaaW.PrintMore
theorem live_true : gangwaylaw08_live.f = some true := by decide +kernel
end Go.Proofs.Ytejdnanhnkjaoaa.Sym
