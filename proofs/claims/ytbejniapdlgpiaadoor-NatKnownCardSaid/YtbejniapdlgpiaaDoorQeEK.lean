/- Of the laws of nat: NatTexts holds in plain numbers. -/
import Derived.Test.YtbejniapdlgpiaaDoorQeEJ
namespace Go.Proofs.YtbejniapdlgpiaaDoor.E
open Go.RowKit Go.Proofs.YtbejniapdlgpiaaDoorW.PrintWords Go.Proofs.YtbejniapdlgpiaaDoorW.PrintLast Go.Proofs.YtbejniapdlgpiaaDoorW.PrintMore Go.Proofs.YtbejniapdlgpiaaDoor.M Go.Proofs.YtbejniapdlgpiaaDoor.P

theorem lt_zero (j : Nat) : Lt j 0 := Nat.pow_pos (by decide)
end Go.Proofs.YtbejniapdlgpiaaDoor.E
