/- Of the laws of nat: NatTexts holds in plain numbers. -/
import Derived.Test.YtbejniapdlgpiaaDoorQiEJ
namespace Go.Proofs.YtbejniapdlgpiaaDoor.E
open Go.RowKit Go.Proofs.YtbejniapdlgpiaaDoorW.PrintWords Go.Proofs.YtbejniapdlgpiaaDoorW.PrintLast Go.Proofs.YtbejniapdlgpiaaDoorW.PrintMore Go.Proofs.YtbejniapdlgpiaaDoor.M Go.Proofs.YtbejniapdlgpiaaDoor.P

theorem Eq_s {n : Nat} (hn : Lt 1000 n) : Ev (fun k => driftnetref01_Eq.f k (limbs n) (limbs n)) true := Eq_t hn rfl
end Go.Proofs.YtbejniapdlgpiaaDoor.E
