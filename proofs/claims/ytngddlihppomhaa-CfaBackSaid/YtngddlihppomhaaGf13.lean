/- Each theorem here says what a call of one Go function returns, and what it leaves of the memory, for the arguments that its hypotheses name. Printed by a driver of this session over the kit's printer; what stands behind GIVENBYHAND is this session's own text. -/
import Derived.Test.YtngddlihppomhaaG0
import Derived.Test.YtngddlihppomhaaCfaKnows
namespace Go.Proofs.Ytngddlihppomhaa.G
open Go.RowKit Go.Proofs.YtngddlihppomhaaW.PrintWords Go.Proofs.YtngddlihppomhaaW.PrintLast Go.Proofs.YtngddlihppomhaaW.PrintMore
attribute [local go_sem] max2_int min2_int max_two min_two max_three min_three max_four min_four   -- for this text's walks alone
set_option linter.unusedVariables false
set_option linter.unusedSimpArgs false

/-! ### gangwaylaw13_knows: function 13 -/
-- GIVENBYHAND Derived.Test.@N@CfaKnows
def gangwaylaw13_knows.f : Option Bool := some true
theorem gangwaylaw13_knows.calls (r : Bool) (w : World) (h : gangwaylaw13_knows.f = some r) :
    Calls Try.prog 13 #[] w fun e w' => e = .returned (.bool r) ∧ Below w.heap.size w w' := by
  obtain rfl := Option.some.inj h
  exact Cfa.knows_calls w


end Go.Proofs.Ytngddlihppomhaa.G
