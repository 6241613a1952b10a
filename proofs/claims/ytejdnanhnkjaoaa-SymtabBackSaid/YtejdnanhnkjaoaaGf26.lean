/- Each theorem here says what a call of one Go function returns, and what it leaves of the memory, for the arguments that its hypotheses name. Printed by a driver of this session over the kit's printer; what stands behind GIVENBYHAND is this session's own text. -/
import Derived.Test.YtejdnanhnkjaoaaG0
import Derived.Test.YtejdnanhnkjaoaaSymReadF
namespace Go.Proofs.Ytejdnanhnkjaoaa.G
open Go.RowKit Go.Proofs.YtejdnanhnkjaoaaW.PrintWords Go.Proofs.YtejdnanhnkjaoaaW.PrintLast Go.Proofs.YtejdnanhnkjaoaaW.PrintMore
attribute [local go_sem] max2_int min2_int max_two min_two max_three min_three max_four min_four   -- for this text's walks alone
set_option linter.unusedVariables false
set_option linter.unusedSimpArgs false

/-! ### symtab_Read: function 26 -/
-- GIVENBYHAND Derived.Test.@N@SymReadF
def symtab_Read.f (l0 l1 : List Int) (a2 : Int) (l3 : List ByteArray) : Option (List S58 × Int) := SymR.readF l0 l1 a2 l3
theorem symtab_Read.calls (A0 : Option Addr) (c0 : Nat) (l0 : List Int) (A1 : Option Addr) (c1 : Nat) (l1 : List Int) (a2 : Int) (A3 : Option Addr) (c3 : Nat) (l3 : List ByteArray) (r1 : List S58) (r2 : Int) (w : World) (hr0 : Kd.C (Kd.int .u8) w A0 l0.length l0) (hc0 : l0.length ≤ c0) (hr1 : Kd.C (Kd.int .u8) w A1 l1.length l1) (hc1 : l1.length ≤ c1) (hr3 : Kd.C Kd.string w A3 l3.length l3) (hc3 : l3.length ≤ c3) (h : symtab_Read.f l0 l1 a2 l3 = some (r1, r2)) :
    Calls Try.prog 26 #[.slice A0 l0.length c0, .slice A1 l1.length c1, .int .i64 a2, .slice A3 l3.length c3] w fun e w' => ∃ v0_ : Value, e = .returned (.tuple #[v0_, .int .i64 r2]) ∧ Kd.R k58 58 w' w.heap.size (fun _ => True) v0_ r1 ∧ Below w.heap.size w w' := SymR.readF_calls A0 c0 l0 A1 c1 l1 a2 A3 c3 l3 r1 r2 w hr0 hc0 hr1 hc1 hr3 hc3 h


end Go.Proofs.Ytejdnanhnkjaoaa.G
