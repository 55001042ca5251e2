/- Printed by a program of this session (wip/xprint) over the kit's print: functions of the seat and what they come to, with their proofs. Conditions: as typed. -/
import Derived.Test.YteceigbiemohnaaDoorProg
import Derived.Below
import Derived.Deep.Draws
import Derived.Deep.AppendLies
import Derived.Maps.AppendAt
import Derived.OwnWalk
import Derived.Laws.BytesArg
import Derived.Laws.MakeOwn
import Derived.Laws.OwnMore
import Derived.Deep.OwnRows
import Derived.Tactics
import Derived.Lib.ConvBytes
import Derived.Laws.Slices
import Derived.WalkKit
import Derived.KernelRfl
import Derived.RowKit3
import Derived.Deep.LoopGhost
import Derived.Deep.QuietTactic
import Derived.BigQuiet
import Derived.WideLaws
import Derived.Deep.DeepCutAuto
import Derived.Deep.CutBlock
import Derived.Deep.RegionHeld3
import Derived.Laws.Rows
import Derived.Lib.AppendStr
import Derived.ArgAppend
import Derived.Laws.IdiomCopy
import Derived.OrdersHeld
import Derived.Laws.BitsLemmas
import Derived.RowKit
import Derived.Test.YteceigbiemohnaaDoorCut
import Derived.Test.YteceigbiemohnaaDoorExt
import Derived.Test.YteceigbiemohnaaDoorSplit
import Derived.Test.YteceigbiemohnaaDoorJoin
import Derived.Test.YteceigbiemohnaaDoorWWords
import Derived.Test.YteceigbiemohnaaDoorWLast
import Derived.Test.YteceigbiemohnaaDoorWTab
import Derived.Test.YteceigbiemohnaaDoorWFour
import Derived.Test.YteceigbiemohnaaDoorWQPut
import Derived.Test.YteceigbiemohnaaDoorWApart
import Derived.Test.YteceigbiemohnaaDoorWArr
import Derived.Test.YteceigbiemohnaaDoorWZeros
import Derived.Test.YteceigbiemohnaaDoorWFoot
import Derived.Test.YteceigbiemohnaaDoorWKept
import Derived.Test.YteceigbiemohnaaDoorWShare
import Derived.Test.YteceigbiemohnaaDoorWN
import Derived.Test.YteceigbiemohnaaDoorWFootNe
import Derived.Test.YteceigbiemohnaaDoorWAt
import Derived.Test.YteceigbiemohnaaDoorWEqStruct
import Derived.Test.YteceigbiemohnaaDoorWRepsOne
import Derived.Test.YteceigbiemohnaaDoorWInv
import Derived.Test.YteceigbiemohnaaDoorWInvWords
import Derived.Test.YteceigbiemohnaaDoorWGuard
import Derived.Test.YteceigbiemohnaaDoorWNEv
import Derived.Test.YteceigbiemohnaaDoorWMore
namespace Go.Proofs.YteceigbiemohnaaDoor.P
open Go.RowKit Go.Proofs.YteceigbiemohnaaDoor.X Go.Proofs.YteceigbiemohnaaDoorW.PrintWords Go.Proofs.YteceigbiemohnaaDoorW.PrintLast Go.Proofs.YteceigbiemohnaaDoorW.PrintMore
attribute [local go_sem] max2_int min2_int max_two min_two max_three min_three max_four min_four   -- for this text's walks alone
set_option linter.unusedVariables false
set_option linter.unusedSimpArgs false



def errW : Option Int → Value
  | none => .nilIface
  | some c => .iface 0 (.int .i64 c)
theorem errW_none : errW none = .nilIface := rfl
theorem errW_some (c : Int) : errW (some c) = .iface 0 (.int .i64 c) := rfl

theorem info5 : (Tryd.prog.info? 5).map (fun i => (i.zero, i.size, i.bytes)) = some (some (.int .u8 0), 1, 1) := by kernel_rfl
theorem info21 : (Tryd.prog.info? 21).map (fun i => (i.zero, i.size, i.bytes)) = some (some (.int .i32 0), 1, 4) := by kernel_rfl
-- the values' own types

end Go.Proofs.YteceigbiemohnaaDoor.P
