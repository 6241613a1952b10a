/- Each theorem here says what a call of one Go function returns, and what it leaves of the memory, for the arguments that its hypotheses name. Printed by a driver of this session over the kit's printer; what stands behind GIVENBYHAND is this session's own text. -/
import Derived.Test.YtejdnanhnkjaoaaG0
import Derived.Test.YtejdnanhnkjaoaaSymWrite
namespace Go.Proofs.Ytejdnanhnkjaoaa.G
open Go.RowKit Go.Proofs.YtejdnanhnkjaoaaW.PrintWords Go.Proofs.YtejdnanhnkjaoaaW.PrintLast Go.Proofs.YtejdnanhnkjaoaaW.PrintMore
attribute [local go_sem] max2_int min2_int max_two min_two max_three min_three max_four min_four   -- for this text's walks alone
set_option linter.unusedVariables false
set_option linter.unusedSimpArgs false

/-! ### symtab_Write: function 21 -/
-- GIVENBYHAND Derived.Test.@N@SymWrite
def symtab_Write.f (l0 : List S58) (l1 : List ByteArray) : Option (List Int × List Int × Int × Int) := SymW.writeF l0 l1
theorem symtab_Write.calls (A0 : Option Addr) (c0 : Nat) (l0 : List S58) (A1 : Option Addr) (c1 : Nat) (l1 : List ByteArray) (r1 : List Int) (r2 : List Int) (r3 : Int) (r4 : Int) (w : World) (hr0 : Kd.C k58 w A0 l0.length l0) (hc0 : l0.length ≤ c0) (hr1 : Kd.C Kd.string w A1 l1.length l1) (hc1 : l1.length ≤ c1) (h : symtab_Write.f l0 l1 = some (r1, r2, r3, r4)) :
    Calls Try.prog 21 #[.slice A0 l0.length c0, .slice A1 l1.length c1] w fun e w' => ∃ v0_ v1_ : Value, e = .returned (.tuple #[v0_, v1_, .int .i64 r3, .int .i64 r4]) ∧ Kd.R (Kd.int .u8) 5 w' w.heap.size (fun k_ => some k_ ≠ (v1_ : Value).ownBlock) v0_ r1 ∧ Kd.R (Kd.int .u8) 5 w' w.heap.size (fun k_ => some k_ ≠ (v0_ : Value).ownBlock) v1_ r2 ∧ Below w.heap.size w w' := SymW.write_calls A0 c0 l0 A1 c1 l1 r1 r2 r3 r4 w hr0 hc0 hr1 hc1 h


end Go.Proofs.Ytejdnanhnkjaoaa.G
