/- Of the texts that the proof of driftnet's law needs: P0. -/
import Derived.Test.YtkjdpojbmkpkgaaDoorProg
import Derived.Below
import Derived.Deep.Draws
import Derived.Deep.AppendLies
import Derived.Maps.AppendAt
import Derived.OwnWalk
import Derived.Laws.BytesArg
import Derived.Laws.MakeOwn
import Derived.Laws.OwnMore
import Derived.Deep.OwnRows
import Derived.Tactics
import Derived.Lib.ConvBytes
import Derived.Laws.Slices
import Derived.WalkKit
import Derived.KernelRfl
import Derived.RowKit3
import Derived.Deep.LoopGhost
import Derived.Deep.QuietTactic
import Derived.BigQuiet
import Derived.WideLaws
import Derived.Deep.DeepCutAuto
import Derived.Deep.CutBlock
import Derived.Deep.RegionHeld3
import Derived.Laws.Rows
import Derived.Lib.AppendStr
import Derived.ArgAppend
import Derived.Laws.IdiomCopy
import Derived.OrdersHeld
import Derived.Laws.BitsLemmas
import Derived.RowKit
import Derived.Test.YtkjdpojbmkpkgaaDoorQbM
import Derived.Test.YtkjdpojbmkpkgaaDoorQbMW
import Derived.Test.YtkjdpojbmkpkgaaDoorQbMS
import Derived.Test.YtkjdpojbmkpkgaaDoorQbWWords
import Derived.Test.YtkjdpojbmkpkgaaDoorQbWLast
import Derived.Test.YtkjdpojbmkpkgaaDoorQbWTab
import Derived.Test.YtkjdpojbmkpkgaaDoorQbWApart
import Derived.Test.YtkjdpojbmkpkgaaDoorQbWFoot
import Derived.Test.YtkjdpojbmkpkgaaDoorQbWKept
import Derived.Test.YtkjdpojbmkpkgaaDoorQbWShare
import Derived.Laws.StructEq
import Derived.Test.YtkjdpojbmkpkgaaDoorQbWRepsOne
import Derived.Test.YtkjdpojbmkpkgaaDoorQbWMore
-- By program (mp.py over the kit's print, with functions of this session's own).
namespace Go.Proofs.YtkjdpojbmkpkgaaDoor.P
open Go.RowKit Go.Proofs.YtkjdpojbmkpkgaaDoor.M Go.Proofs.YtkjdpojbmkpkgaaDoor.MW Go.Proofs.YtkjdpojbmkpkgaaDoor.MS Go.Proofs.YtkjdpojbmkpkgaaDoorW.PrintWords Go.Proofs.YtkjdpojbmkpkgaaDoorW.PrintLast Go.Proofs.YtkjdpojbmkpkgaaDoorW.PrintMore
attribute [local go_sem] max2_int min2_int max_two min_two max_three min_three max_four min_four
set_option linter.unusedVariables false
set_option linter.unusedSimpArgs false



def errW : Option Int → Value
  | none => .nilIface
  | some c => .iface 0 (.int .i64 c)
theorem errW_none : errW none = .nilIface := rfl
theorem errW_some (c : Int) : errW (some c) = .iface 0 (.int .i64 c) := rfl

theorem info5 : (Tryd.prog.info? 5).map (fun i => (i.zero, i.size, i.bytes)) = some (some (.int .u8 0), 1, 1) := by kernel_rfl
theorem info49 : (Tryd.prog.info? 49).map (fun i => (i.zero, i.size, i.bytes)) = some (some (.int .u32 0), 1, 4) := by kernel_rfl
-- the values' own types
end Go.Proofs.YtkjdpojbmkpkgaaDoor.P
