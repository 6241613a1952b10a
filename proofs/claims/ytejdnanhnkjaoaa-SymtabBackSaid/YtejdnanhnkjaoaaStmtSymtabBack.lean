/- The one plain statement that is left of the law SymtabBack: THE STAGE'S THEOREM: what was written is read again, Local symbols first, and written the same (P8.7, P8.9, without the document's table). Conditions: none beyond the row's own. Made by a driver of this session. -/
import Derived.Test.YtejdnanhnkjaoaaGf8
namespace Go.Proofs.Ytejdnanhnkjaoaa.Stmt
open Go.RowKit Go.Proofs.Ytejdnanhnkjaoaa.G Go.Proofs.YtejdnanhnkjaoaaW.PrintWords
set_option linter.unusedVariables false
def wf58 (x : S58) : Prop := (x.f0.size ≤ 140737488351232) ∧ (x.f1.size ≤ 140737488351232) ∧ ((Lit.int .i64 x.f2).wf = true) ∧ ((Lit.int .i64 x.f3).wf = true) ∧ ((Lit.int .i64 x.f4).wf = true) ∧ ((Lit.int .i64 x.f5).wf = true)
def wt58 (x : S58) : Nat := ((x.f0.size + 1) + ((x.f1.size + 1) + (1 + (1 + (1 + (1)))))) + 1
def SymtabBack : Prop := ∀ (l0 : List (S58)) (l1 : List ByteArray), (l0.length * 64 ≤ 140737488351232 ∧ l0.length ≤ 9223372036854775807 ∧ ∀ y1 ∈ l0, wf58 y1) → (l1.length * 16 ≤ 140737488351232 ∧ l1.length ≤ 9223372036854775807 ∧ ∀ y1 ∈ l1, y1.size ≤ 140737488351232) → ∃ k, G.gangwaylaw08_SymtabBack.f k l0 l1 = some true
end Go.Proofs.Ytejdnanhnkjaoaa.Stmt
