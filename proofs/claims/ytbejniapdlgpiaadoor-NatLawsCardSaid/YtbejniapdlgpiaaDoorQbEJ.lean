/- Of the laws of nat: NatLaws and NatOrder hold in plain numbers. -/
import Derived.Test.YtbejniapdlgpiaaDoorQbEI
namespace Go.Proofs.YtbejniapdlgpiaaDoor.E
open Go.RowKit Go.Proofs.YtbejniapdlgpiaaDoorW.PrintWords Go.Proofs.YtbejniapdlgpiaaDoorW.PrintLast Go.Proofs.YtbejniapdlgpiaaDoorW.PrintMore Go.Proofs.YtbejniapdlgpiaaDoor.M Go.Proofs.YtbejniapdlgpiaaDoor.P

theorem okL_wf {l : List Int} (h : ∀ x ∈ l, (Lit.int .u32 x).wf = true) : okL l := fun x hx => by
  have := h x hx
  have h2 := this
  simp [Lit.wf] at h2
  exact ⟨h2.1, Int.lt_of_le_of_lt h2.2 (by decide)⟩
theorem Ev.some {α : Type} {g : Nat → Option α} {r : α} (h : Ev g r) : ∃ k, g k = .some r := by
  obtain ⟨d, hd⟩ := h
  exact ⟨d, hd d (Nat.le_refl _)⟩
theorem near_l {l : List Int} (h4 : l.length * 4 ≤ 140737488351232) (hw : ∀ x ∈ l, (Lit.int .u32 x).wf = true) : ∃ n, Lt 16 n ∧ Ev (fun k => driftnetlaw01_near.f k l) (limbs n) := near_ev (okL_wf hw) (by omega)
theorem NatLaws_pure : driftnetlaw01_NatLaws.Pure := by
  intro l0 l1 l2 _ h0 w0 _ h1 w1 _ h2 w2
  obtain ⟨x, hx, ex⟩ := near_l h0 w0
  obtain ⟨y, hy, ey⟩ := near_l h1 w1
  obtain ⟨z, hz, ez⟩ := near_l h2 w2
  have hx' : Lt 64 x := hx.up (by decide)
  have hy' : Lt 64 y := hy.up (by decide)
  have hz' : Lt 64 z := hz.up (by decide)
  have hxy : Lt 17 (x + y) := hx.add hy (by decide)
  have hyz : Lt 17 (y + z) := hy.add hz (by decide)
  have pxy : Lt 32 (x * y) := hx.mul hy (by decide)
  have pxz : Lt 32 (x * z) := hx.mul hz (by decide)
  have pyz : Lt 32 (y * z) := hy.mul hz (by decide)
  refine Ev.some ?_
  unfold driftnetlaw01_NatLaws.f
  refine Ev.bind works_ev ?_
  simp only [if_true]
  refine Ev.bind ex (Ev.bind ey (Ev.bind ez ?_))
  refine Ev.bind (Add_l hx' hy') ?_
  refine Ev.bind (Add_l hy' hx') ?_
  refine Ev.bind (Add_l (hxy.up (by decide)) hz') ?_
  refine Ev.bind (Add_l hy' hz') ?_
  refine Ev.bind (Add_l hx' (hyz.up (by decide))) ?_
  refine Ev.bind (Sub_l (hxy.up (by decide)) hy' (Nat.le_add_left _ _)) ?_
  simp only [if_true]
  refine Ev.bind (Mul_l hx' hy') ?_
  refine Ev.bind (Mul_l hy' hx') ?_
  refine Ev.bind (Mul_l hx' (hyz.up (by decide))) ?_
  refine Ev.bind (Mul_l hx' hz') ?_
  refine Ev.bind (Add_l (pxy.up (by decide)) (pxz.up (by decide))) ?_
  refine Ev.bind (Mul_l (pxy.up (by decide)) hz') ?_
  refine Ev.bind (Mul_l hy' hz') ?_
  refine Ev.bind (Mul_l hx' (pyz.up (by decide))) ?_
  simp only [if_true]
  refine Ev.bind (Eq_t (hxy.up (by decide)) (Nat.add_comm _ _)) ?_
  simp only [if_true]
  refine Ev.bind (Eq_t ((hxy.add (hz.up (by decide)) (j := 18) (by decide)).up (by decide)) (Nat.add_assoc _ _ _)) ?_
  simp only [if_true]
  refine Ev.bind (Eq_t ((hx.le (Nat.le_of_eq (Nat.add_sub_cancel ..))).up (by decide)) (Nat.add_sub_cancel ..)) ?_
  simp only [if_true]
  refine Ev.bind (Eq_t (pxy.up (by decide)) (Nat.mul_comm _ _)) ?_
  simp only [if_true]
  refine Ev.bind (Eq_t ((hx.mul hyz (l := 33) (by decide)).up (by decide)) (Nat.mul_add _ _ _)) ?_
  simp only [if_true]
  refine Ev.bind (Eq_t ((pxy.mul hz (l := 48) (by decide)).up (by decide)) (Nat.mul_assoc _ _ _)) ?_
  exact Ev.const rfl

end Go.Proofs.YtbejniapdlgpiaaDoor.E
