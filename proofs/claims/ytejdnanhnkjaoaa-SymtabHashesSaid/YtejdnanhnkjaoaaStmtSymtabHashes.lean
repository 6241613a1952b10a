/- The one plain statement that is left of the law SymtabHashes: a hash has 28 bits; the other one goes on from the name without its last byte (P8.10, without the document's hashes). Conditions: none beyond the row's own. Made by a driver of this session. -/
import Derived.Test.YtejdnanhnkjaoaaGf3
namespace Go.Proofs.Ytejdnanhnkjaoaa.Stmt
open Go.RowKit Go.Proofs.Ytejdnanhnkjaoaa.G Go.Proofs.YtejdnanhnkjaoaaW.PrintWords
set_option linter.unusedVariables false
def SymtabHashes : Prop := ∀ (a0 : ByteArray) (a1 : Int), (a0.size ≤ 140737488351232) → ((Lit.int .u8 a1).wf = true) → G.gangwaylaw08_SymtabHashes.f a0 a1 = some true
end Go.Proofs.Ytejdnanhnkjaoaa.Stmt
