/- Of the texts that the proof of driftnet's law needs: P0. -/
import Derived.Test.YtkjdpojbmkpkgaaGreatDoorProg
import Derived.Below
import Derived.Deep.Draws
import Derived.Deep.AppendLies
import Derived.Maps.AppendAt
import Derived.OwnWalk
import Derived.Laws.BytesArg
import Derived.Laws.MakeOwn
import Derived.Laws.OwnMore
import Derived.Deep.OwnRows
import Derived.Tactics
import Derived.Lib.ConvBytes
import Derived.Laws.Slices
import Derived.WalkKit
import Derived.KernelRfl
import Derived.RowKit3
import Derived.Deep.LoopGhost
import Derived.Deep.QuietTactic
import Derived.BigQuiet
import Derived.WideLaws
import Derived.Deep.DeepCutAuto
import Derived.Deep.CutBlock
import Derived.Deep.RegionHeld3
import Derived.Laws.Rows
import Derived.Lib.AppendStr
import Derived.ArgAppend
import Derived.Laws.IdiomCopy
import Derived.OrdersHeld
import Derived.Laws.BitsLemmas
import Derived.RowKit
import Derived.Test.YtkjdpojbmkpkgaaGreatDoorQuM
import Derived.Test.YtkjdpojbmkpkgaaGreatDoorQuMW
import Derived.Test.YtkjdpojbmkpkgaaGreatDoorQuMS
import Derived.Test.YtkjdpojbmkpkgaaGreatDoorQuWWords
import Derived.Test.YtkjdpojbmkpkgaaGreatDoorQuWLast
import Derived.Test.YtkjdpojbmkpkgaaGreatDoorQuWTab
import Derived.Test.YtkjdpojbmkpkgaaGreatDoorQuWApart
import Derived.Test.YtkjdpojbmkpkgaaGreatDoorQuWFoot
import Derived.Test.YtkjdpojbmkpkgaaGreatDoorQuWKept
import Derived.Test.YtkjdpojbmkpkgaaGreatDoorQuWShare
import Derived.Laws.StructEq
import Derived.Test.YtkjdpojbmkpkgaaGreatDoorQuWRepsOne
import Derived.Test.YtkjdpojbmkpkgaaGreatDoorQuWGuard
import Derived.Test.YtkjdpojbmkpkgaaGreatDoorQuWMore
namespace Go.Proofs.YtkjdpojbmkpkgaaGreatDoor.P
open Go.RowKit Go.Proofs.YtkjdpojbmkpkgaaGreatDoor.M Go.Proofs.YtkjdpojbmkpkgaaGreatDoor.MW Go.Proofs.YtkjdpojbmkpkgaaGreatDoor.MS Go.Proofs.YtkjdpojbmkpkgaaGreatDoorW.PrintWords Go.Proofs.YtkjdpojbmkpkgaaGreatDoorW.PrintLast Go.Proofs.YtkjdpojbmkpkgaaGreatDoorW.PrintMore
attribute [local go_sem] max2_int min2_int max_two min_two max_three min_three max_four min_four
set_option linter.unusedVariables false
set_option linter.unusedSimpArgs false
def errW : Option Int → Value
 | none => .nilIface
 | some c => .iface 0 (.int .i64 c)
theorem z15 : errW none = .nilIface := rfl
theorem z16 (c : Int) : errW (some c) = .iface 0 (.int .i64 c) := rfl
theorem info5 : (Tryz.prog.info? 5).map (fun i => (i.zero, i.size, i.bytes)) = some (some (.int .u8 0), 1, 1) := by kernel_rfl
theorem info30 : (Tryz.prog.info? 30).map (fun i => (i.zero, i.size, i.bytes)) = some (some (.int .u32 0), 1, 4) := by kernel_rfl
end Go.Proofs.YtkjdpojbmkpkgaaGreatDoor.P
