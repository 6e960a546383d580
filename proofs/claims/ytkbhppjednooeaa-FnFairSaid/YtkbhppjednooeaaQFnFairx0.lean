-- MADE BY qprint.py, a program of this claim's session, over the kit's print: own text.
import Derived.Test.YtkbhppjednooeaaProg
import Derived.Below
import Derived.Deep.Draws
import Derived.Deep.AppendLies
import Derived.Maps.AppendAt
import Derived.OwnWalk
import Derived.Laws.BytesArg
import Derived.Laws.MakeOwn
import Derived.Laws.OwnMore
import Derived.Deep.OwnRows
import Derived.Tactics
import Derived.Lib.ConvBytes
import Derived.Laws.Slices
import Derived.WalkKit
import Derived.KernelRfl
import Derived.RowKit3
import Derived.Deep.LoopGhost
import Derived.Deep.QuietTactic
import Derived.BigQuiet
import Derived.WideLaws
import Derived.Deep.DeepCutAuto
import Derived.Deep.CutBlock
import Derived.Deep.RegionHeld3
import Derived.Laws.Rows
import Derived.Lib.AppendStr
import Derived.ArgAppend
import Derived.Laws.IdiomCopy
import Derived.OrdersHeld
import Derived.Laws.BitsLemmas
import Derived.RowKit
import Derived.Test.YtkbhppjednooeaaWWords
import Derived.Test.YtkbhppjednooeaaWLast
import Derived.Test.YtkbhppjednooeaaWTab
import Derived.Test.YtkbhppjednooeaaWFour
import Derived.Test.YtkbhppjednooeaaWQPut
import Derived.Test.YtkbhppjednooeaaWApart
import Derived.Test.YtkbhppjednooeaaWArr
import Derived.Test.YtkbhppjednooeaaWZeros
import Derived.Test.YtkbhppjednooeaaWFoot
import Derived.Test.YtkbhppjednooeaaWKept
import Derived.Test.YtkbhppjednooeaaWShare
import Derived.Test.YtkbhppjednooeaaWN
import Derived.Test.YtkbhppjednooeaaWFootNe
import Derived.Test.YtkbhppjednooeaaWAt
import Derived.Test.YtkbhppjednooeaaWEqStruct
import Derived.Test.YtkbhppjednooeaaWRepsOne
import Derived.Test.YtkbhppjednooeaaWInv
import Derived.Test.YtkbhppjednooeaaWInvWords
import Derived.Test.YtkbhppjednooeaaWGuard
import Derived.Test.YtkbhppjednooeaaWNEv
import Derived.Test.YtkbhppjednooeaaWMore
namespace Go.Proofs.Ytkbhppjednooeaa.QFnFair
open Go.RowKit Go.Proofs.YtkbhppjednooeaaW.PrintWords Go.Proofs.YtkbhppjednooeaaW.PrintLast Go.Proofs.YtkbhppjednooeaaW.PrintMore
attribute [local go_sem] max2_int min2_int max_two min_two max_three min_three max_four min_four   -- for this text's walks alone
set_option linter.unusedVariables false
set_option linter.unusedSimpArgs false



def errW : Option Int → Value
  | none => .nilIface
  | some c => .iface 0 (.int .i64 c)
theorem errW_none : errW none = .nilIface := rfl
theorem errW_some (c : Int) : errW (some c) = .iface 0 (.int .i64 c) := rfl

theorem info3 : (Try.prog.info? 3).map (fun i => (i.zero, i.size, i.bytes)) = some (some (.int .i64 0), 1, 8) := by kernel_rfl
-- the values' own types

end Go.Proofs.Ytkbhppjednooeaa.QFnFair
