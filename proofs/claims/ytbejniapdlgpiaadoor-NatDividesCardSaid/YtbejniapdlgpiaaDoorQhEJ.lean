/- Of the laws of nat: NatLaws and NatOrder hold in plain numbers. -/
import Derived.Test.YtbejniapdlgpiaaDoorQhEI
namespace Go.Proofs.YtbejniapdlgpiaaDoor.E
open Go.RowKit Go.Proofs.YtbejniapdlgpiaaDoorW.PrintWords Go.Proofs.YtbejniapdlgpiaaDoorW.PrintLast Go.Proofs.YtbejniapdlgpiaaDoorW.PrintMore Go.Proofs.YtbejniapdlgpiaaDoor.M Go.Proofs.YtbejniapdlgpiaaDoor.P

theorem okL_wf {l : List Int} (h : ∀ x ∈ l, (Lit.int .u32 x).wf = true) : okL l := fun x hx => by
  have := h x hx
  have h2 := this
  simp [Lit.wf] at h2
  exact ⟨h2.1, Int.lt_of_le_of_lt h2.2 (by decide)⟩
theorem Ev.some {α : Type} {g : Nat → Option α} {r : α} (h : Ev g r) : ∃ k, g k = .some r := by
  obtain ⟨d, hd⟩ := h
  exact ⟨d, hd d (Nat.le_refl _)⟩
end Go.Proofs.YtbejniapdlgpiaaDoor.E
