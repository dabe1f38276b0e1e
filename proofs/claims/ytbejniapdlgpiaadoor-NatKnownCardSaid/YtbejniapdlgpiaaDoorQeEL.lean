/- Of the laws of nat: NatBack holds in plain numbers. -/
import Derived.Test.YtbejniapdlgpiaaDoorQeEK
namespace Go.Proofs.YtbejniapdlgpiaaDoor.E
open Go.RowKit Go.Proofs.YtbejniapdlgpiaaDoorW.PrintWords Go.Proofs.YtbejniapdlgpiaaDoorW.PrintLast Go.Proofs.YtbejniapdlgpiaaDoorW.PrintMore Go.Proofs.YtbejniapdlgpiaaDoor.M Go.Proofs.YtbejniapdlgpiaaDoor.P

theorem readS_num {s : List UInt8} (h : numeral s = true) (hl : s.length ≤ 600) : readS s = (limbs (nv s), 0) := by
  unfold readS; rw [if_neg (by omega), if_pos h]
end Go.Proofs.YtbejniapdlgpiaaDoor.E
