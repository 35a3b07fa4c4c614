import Derived.Test.YtlceokefdihdkaaGreatDoorProg
import Derived.Below
import Derived.Deep.Draws
import Derived.Deep.AppendLies
import Derived.Maps.AppendAt
import Derived.OwnWalk
import Derived.Laws.BytesArg
import Derived.Laws.MakeOwn
import Derived.Laws.OwnMore
import Derived.Deep.OwnRows
import Derived.Tactics
import Derived.Lib.ConvBytes
import Derived.Laws.Slices
import Derived.WalkKit
import Derived.KernelRfl
import Derived.RowKit3
import Derived.Deep.LoopGhost
import Derived.Deep.QuietTactic
import Derived.BigQuiet
import Derived.WideLaws
import Derived.Deep.DeepCutAuto
import Derived.Deep.CutBlock
import Derived.Deep.RegionHeld3
import Derived.Laws.Rows
import Derived.Lib.AppendStr
import Derived.ArgAppend
import Derived.Laws.IdiomCopy
import Derived.OrdersHeld
import Derived.Laws.BitsLemmas
import Derived.RowKit
import Derived.Test.YtlceokefdihdkaaGreatDoorGok
import Derived.Test.YtlceokefdihdkaaGreatDoorWWords
import Derived.Test.YtlceokefdihdkaaGreatDoorWLast
import Derived.Test.YtlceokefdihdkaaGreatDoorWTab
import Derived.Test.YtlceokefdihdkaaGreatDoorWFour
import Derived.Test.YtlceokefdihdkaaGreatDoorWQPut
import Derived.Test.YtlceokefdihdkaaGreatDoorWApart
import Derived.Test.YtlceokefdihdkaaGreatDoorWArr
import Derived.Test.YtlceokefdihdkaaGreatDoorWZeros
import Derived.Test.YtlceokefdihdkaaGreatDoorWFoot
import Derived.Test.YtlceokefdihdkaaGreatDoorWKept
import Derived.Test.YtlceokefdihdkaaGreatDoorWShare
import Derived.Test.YtlceokefdihdkaaGreatDoorWN
import Derived.Test.YtlceokefdihdkaaGreatDoorWFootNe
import Derived.Test.YtlceokefdihdkaaGreatDoorWAt
import Derived.Test.YtlceokefdihdkaaGreatDoorWEqStruct
import Derived.Test.YtlceokefdihdkaaGreatDoorWRepsOne
import Derived.Test.YtlceokefdihdkaaGreatDoorWInv
import Derived.Test.YtlceokefdihdkaaGreatDoorWInvWords
import Derived.Test.YtlceokefdihdkaaGreatDoorWGuard
import Derived.Test.YtlceokefdihdkaaGreatDoorWNEv
import Derived.Test.YtlceokefdihdkaaGreatDoorWMore
namespace Go.Proofs.YtlceokefdihdkaaGreatDoor.Y
open Go.RowKit Go.Proofs.YtlceokefdihdkaaGreatDoorW.PrintWords Go.Proofs.YtlceokefdihdkaaGreatDoorW.PrintLast Go.Proofs.YtlceokefdihdkaaGreatDoorW.PrintMore
attribute [local go_sem] max2_int min2_int max_two min_two max_three min_three max_four min_four
set_option linter.unusedVariables false
set_option linter.unusedSimpArgs false
def errW : Option Int → Value
  | none => .nilIface
  | some c => .iface 0 (.int .i64 c)
theorem errW_none : errW none = .nilIface := rfl
theorem errW_some (c : Int) : errW (some c) = .iface 0 (.int .i64 c) := rfl
theorem info81 : (Tryz.prog.info? 81).map (fun i => (i.zero, i.size, i.bytes)) = some (some (.int .u32 0), 1, 4) := by kernel_rfl
end Go.Proofs.YtlceokefdihdkaaGreatDoor.Y
