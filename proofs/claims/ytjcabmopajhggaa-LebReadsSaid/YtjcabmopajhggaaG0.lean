/- Each theorem here says what a call of one Go function returns, and what it leaves of the memory, for the arguments that its hypotheses name. Printed by a driver of this session over the kit's printer; what stands behind GIVENBYHAND is this session's own text. -/
import Derived.Test.YtjcabmopajhggaaProg
import Derived.Below
import Derived.Deep.Draws
import Derived.Deep.AppendLies
import Derived.Maps.AppendAt
import Derived.OwnWalk
import Derived.Laws.BytesArg
import Derived.Laws.MakeOwn
import Derived.Laws.OwnMore
import Derived.Deep.OwnRows
import Derived.Tactics
import Derived.Lib.ConvBytes
import Derived.Laws.Slices
import Derived.WalkKit
import Derived.KernelRfl
import Derived.RowKit3
import Derived.Deep.LoopGhost
import Derived.Deep.QuietTactic
import Derived.BigQuiet
import Derived.WideLaws
import Derived.Deep.DeepCutAuto
import Derived.Deep.CutBlock
import Derived.Deep.RegionHeld3
import Derived.Laws.Rows
import Derived.Lib.AppendStr
import Derived.ArgAppend
import Derived.Laws.IdiomCopy
import Derived.OrdersHeld
import Derived.Laws.BitsLemmas
import Derived.RowKit
import Derived.Test.YtjcabmopajhggaaWWords
import Derived.Test.YtjcabmopajhggaaWLast
import Derived.Test.YtjcabmopajhggaaWTab
import Derived.Test.YtjcabmopajhggaaWFour
import Derived.Test.YtjcabmopajhggaaWQPut
import Derived.Test.YtjcabmopajhggaaWApart
import Derived.Test.YtjcabmopajhggaaWArr
import Derived.Test.YtjcabmopajhggaaWZeros
import Derived.Test.YtjcabmopajhggaaWFoot
import Derived.Test.YtjcabmopajhggaaWKept
import Derived.Test.YtjcabmopajhggaaWShare
import Derived.Test.YtjcabmopajhggaaWN
import Derived.Test.YtjcabmopajhggaaWFootNe
import Derived.Test.YtjcabmopajhggaaWAt
import Derived.Test.YtjcabmopajhggaaWEqStruct
import Derived.Test.YtjcabmopajhggaaWRepsOne
import Derived.Test.YtjcabmopajhggaaWInv
import Derived.Test.YtjcabmopajhggaaWInvWords
import Derived.Test.YtjcabmopajhggaaWGuard
import Derived.Test.YtjcabmopajhggaaWNEv
import Derived.Test.YtjcabmopajhggaaWMore
namespace Go.Proofs.Ytjcabmopajhggaa.G
open Go.RowKit Go.Proofs.YtjcabmopajhggaaW.PrintWords Go.Proofs.YtjcabmopajhggaaW.PrintLast Go.Proofs.YtjcabmopajhggaaW.PrintMore
attribute [local go_sem] max2_int min2_int max_two min_two max_three min_three max_four min_four   -- for this text's walks alone
set_option linter.unusedVariables false
set_option linter.unusedSimpArgs false



def errW : Option Int → Value
  | none => .nilIface
  | some c => .iface 0 (.int .i64 c)
theorem errW_none : errW none = .nilIface := rfl
theorem errW_some (c : Int) : errW (some c) = .iface 0 (.int .i64 c) := rfl

theorem info3 : (Try.prog.info? 3).map (fun i => (i.zero, i.size, i.bytes)) = some (some (.int .i64 0), 1, 8) := by kernel_rfl
theorem info5 : (Try.prog.info? 5).map (fun i => (i.zero, i.size, i.bytes)) = some (some (.int .u8 0), 1, 1) := by kernel_rfl
-- the values' own types

end Go.Proofs.Ytjcabmopajhggaa.G
