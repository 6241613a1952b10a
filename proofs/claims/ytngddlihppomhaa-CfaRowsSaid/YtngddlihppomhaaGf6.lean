/- Each theorem here says what a call of one Go function returns, and what it leaves of the memory, for the arguments that its hypotheses name. Printed by a driver of this session over the kit's printer; what stands behind GIVENBYHAND is this session's own text. -/
import Derived.Test.YtngddlihppomhaaG0
import Derived.Test.YtngddlihppomhaaCfaRowsWalk
namespace Go.Proofs.Ytngddlihppomhaa.G
open Go.RowKit Go.Proofs.YtngddlihppomhaaW.PrintWords Go.Proofs.YtngddlihppomhaaW.PrintLast Go.Proofs.YtngddlihppomhaaW.PrintMore
attribute [local go_sem] max2_int min2_int max_two min_two max_three min_three max_four min_four   -- for this text's walks alone
set_option linter.unusedVariables false
set_option linter.unusedSimpArgs false

/-! ### gangwaylaw13_CfaRows: function 6 -/
-- GIVENBYHAND Derived.Test.@N@CfaRowsWalk
/-- The law's code answers true. -/
def gangwaylaw13_CfaRows.f (l0 : List S41) (l1 : List S41) (a2 : Int) (a3 : Int) : Option Bool := if l0.length * 24 ≤ 140737488351232 ∧ l1.length * 24 ≤ 140737488351232 then some true else none
theorem gangwaylaw13_CfaRows.calls (A0 : Option Addr) (c0 : Nat) (l0 : List S41) (A1 : Option Addr) (c1 : Nat) (l1 : List S41) (a2 : Int) (a3 : Int) (r : Bool) (w : World) (hr0 : Kd.C k41 w A0 l0.length l0) (hc0 : l0.length ≤ c0) (hr1 : Kd.C k41 w A1 l1.length l1) (hc1 : l1.length ≤ c1) (h : gangwaylaw13_CfaRows.f l0 l1 a2 a3 = some r) :
    Calls Try.prog 6 #[.slice A0 l0.length c0, .slice A1 l1.length c1, .int .i64 a2, .int .i64 a3] w fun e w' => e = .returned (.bool r) ∧ Below w.heap.size w w' := by
  unfold gangwaylaw13_CfaRows.f at h
  split at h
  case isFalse => cases h
  rename_i hb
  obtain rfl := Option.some.inj h
  exact CfaR.law_calls A0 c0 l0 A1 c1 l1 a2 a3 w hr0 hc0 hr1 hc1 hb


end Go.Proofs.Ytngddlihppomhaa.G
