/- Of the laws of nat: NatTexts holds in plain numbers. -/
import Derived.Test.YtbejniapdlgpiaaDoorQfEJ
namespace Go.Proofs.YtbejniapdlgpiaaDoor.E
open Go.RowKit Go.Proofs.YtbejniapdlgpiaaDoorW.PrintWords Go.Proofs.YtbejniapdlgpiaaDoorW.PrintLast Go.Proofs.YtbejniapdlgpiaaDoorW.PrintMore Go.Proofs.YtbejniapdlgpiaaDoor.M Go.Proofs.YtbejniapdlgpiaaDoor.P

theorem lt_zero (j : Nat) : Lt j 0 := Nat.pow_pos (by decide)
theorem Eq_s {n : Nat} (hn : Lt 1000 n) : Ev (fun k => driftnetref01_Eq.f k (limbs n) (limbs n)) true := Eq_t hn rfl
theorem mn_le (a b : Int) : mn a b ≤ a ∧ mn a b ≤ b := by unfold mn; split <;> omega
theorem mn_nn {a b : Int} (ha : 0 ≤ a) (hb : 0 ≤ b) : 0 ≤ mn a b := by unfold mn; split <;> omega
end Go.Proofs.YtbejniapdlgpiaaDoor.E
