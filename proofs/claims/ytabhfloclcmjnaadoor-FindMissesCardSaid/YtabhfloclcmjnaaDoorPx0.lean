/- Printed by a program of this session (wip/xprint) over the kit's print: functions of the seat and what they come to, with their proofs. Conditions: as typed. -/
import Derived.Test.YtabhfloclcmjnaaDoorProg
import Derived.Below
import Derived.Deep.Draws
import Derived.Deep.AppendLies
import Derived.Maps.AppendAt
import Derived.OwnWalk
import Derived.Laws.BytesArg
import Derived.Laws.MakeOwn
import Derived.Laws.OwnMore
import Derived.Deep.OwnRows
import Derived.Tactics
import Derived.Lib.ConvBytes
import Derived.Laws.Slices
import Derived.WalkKit
import Derived.KernelRfl
import Derived.RowKit3
import Derived.Deep.LoopGhost
import Derived.Deep.QuietTactic
import Derived.BigQuiet
import Derived.WideLaws
import Derived.Deep.DeepCutAuto
import Derived.Deep.CutBlock
import Derived.Deep.RegionHeld3
import Derived.Laws.Rows
import Derived.Lib.AppendStr
import Derived.ArgAppend
import Derived.Laws.IdiomCopy
import Derived.OrdersHeld
import Derived.Laws.BitsLemmas
import Derived.RowKit
import Derived.Test.YtabhfloclcmjnaaDoorExt
import Derived.Test.YtabhfloclcmjnaaDoorWWords
import Derived.Test.YtabhfloclcmjnaaDoorWLast
import Derived.Test.YtabhfloclcmjnaaDoorWTab
import Derived.Test.YtabhfloclcmjnaaDoorWFour
import Derived.Test.YtabhfloclcmjnaaDoorWQPut
import Derived.Test.YtabhfloclcmjnaaDoorWApart
import Derived.Test.YtabhfloclcmjnaaDoorWArr
import Derived.Test.YtabhfloclcmjnaaDoorWZeros
import Derived.Test.YtabhfloclcmjnaaDoorWFoot
import Derived.Test.YtabhfloclcmjnaaDoorWKept
import Derived.Test.YtabhfloclcmjnaaDoorWShare
import Derived.Test.YtabhfloclcmjnaaDoorWN
import Derived.Test.YtabhfloclcmjnaaDoorWFootNe
import Derived.Test.YtabhfloclcmjnaaDoorWAt
import Derived.Test.YtabhfloclcmjnaaDoorWEqStruct
import Derived.Test.YtabhfloclcmjnaaDoorWRepsOne
import Derived.Test.YtabhfloclcmjnaaDoorWInv
import Derived.Test.YtabhfloclcmjnaaDoorWInvWords
import Derived.Test.YtabhfloclcmjnaaDoorWGuard
import Derived.Test.YtabhfloclcmjnaaDoorWNEv
import Derived.Test.YtabhfloclcmjnaaDoorWMore
namespace Go.Proofs.YtabhfloclcmjnaaDoor.P
open Go.RowKit Go.Proofs.YtabhfloclcmjnaaDoor.X Go.Proofs.YtabhfloclcmjnaaDoorW.PrintWords Go.Proofs.YtabhfloclcmjnaaDoorW.PrintLast Go.Proofs.YtabhfloclcmjnaaDoorW.PrintMore
attribute [local go_sem] max2_int min2_int max_two min_two max_three min_three max_four min_four   -- for this text's walks alone
set_option linter.unusedVariables false
set_option linter.unusedSimpArgs false



def errW : Option Int → Value
  | none => .nilIface
  | some c => .iface 0 (.int .i64 c)
theorem errW_none : errW none = .nilIface := rfl
theorem errW_some (c : Int) : errW (some c) = .iface 0 (.int .i64 c) := rfl

theorem info3 : (Tryd.prog.info? 3).map (fun i => (i.zero, i.size, i.bytes)) = some (some (.int .i64 0), 1, 8) := by kernel_rfl
theorem info5 : (Tryd.prog.info? 5).map (fun i => (i.zero, i.size, i.bytes)) = some (some (.int .u8 0), 1, 1) := by kernel_rfl
theorem info21 : (Tryd.prog.info? 21).map (fun i => (i.zero, i.size, i.bytes)) = some (some (.int .i32 0), 1, 4) := by kernel_rfl
-- the values' own types

end Go.Proofs.YtabhfloclcmjnaaDoor.P
