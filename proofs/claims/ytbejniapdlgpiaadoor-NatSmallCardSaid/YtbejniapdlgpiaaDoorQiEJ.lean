/- Of the laws of nat: NatLaws and NatOrder hold in plain numbers. -/
import Derived.Test.YtbejniapdlgpiaaDoorQiEI
namespace Go.Proofs.YtbejniapdlgpiaaDoor.E
open Go.RowKit Go.Proofs.YtbejniapdlgpiaaDoorW.PrintWords Go.Proofs.YtbejniapdlgpiaaDoorW.PrintLast Go.Proofs.YtbejniapdlgpiaaDoorW.PrintMore Go.Proofs.YtbejniapdlgpiaaDoor.M Go.Proofs.YtbejniapdlgpiaaDoor.P

theorem Ev.some {α : Type} {g : Nat → Option α} {r : α} (h : Ev g r) : ∃ k, g k = .some r := by
  obtain ⟨d, hd⟩ := h
  exact ⟨d, hd d (Nat.le_refl _)⟩
end Go.Proofs.YtbejniapdlgpiaaDoor.E
