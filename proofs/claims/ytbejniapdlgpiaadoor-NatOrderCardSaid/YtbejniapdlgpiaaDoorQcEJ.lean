/- Of the laws of nat: NatLaws and NatOrder hold in plain numbers. -/
import Derived.Test.YtbejniapdlgpiaaDoorQcEI
namespace Go.Proofs.YtbejniapdlgpiaaDoor.E
open Go.RowKit Go.Proofs.YtbejniapdlgpiaaDoorW.PrintWords Go.Proofs.YtbejniapdlgpiaaDoorW.PrintLast Go.Proofs.YtbejniapdlgpiaaDoorW.PrintMore Go.Proofs.YtbejniapdlgpiaaDoor.M Go.Proofs.YtbejniapdlgpiaaDoor.P

theorem okL_wf {l : List Int} (h : ∀ x ∈ l, (Lit.int .u32 x).wf = true) : okL l := fun x hx => by
  have := h x hx
  have h2 := this
  simp [Lit.wf] at h2
  exact ⟨h2.1, Int.lt_of_le_of_lt h2.2 (by decide)⟩
theorem Ev.some {α : Type} {g : Nat → Option α} {r : α} (h : Ev g r) : ∃ k, g k = .some r := by
  obtain ⟨d, hd⟩ := h
  exact ⟨d, hd d (Nat.le_refl _)⟩
theorem near_l {l : List Int} (h4 : l.length * 4 ≤ 140737488351232) (hw : ∀ x ∈ l, (Lit.int .u32 x).wf = true) : ∃ n, Lt 16 n ∧ Ev (fun k => driftnetlaw01_near.f k l) (limbs n) := near_ev (okL_wf hw) (by omega)
theorem cmp_lt {m n : Nat} (h : m < n) : cmpI m n = -1 := by unfold cmpI; rw [if_pos h]
theorem cmp_eq (m : Nat) : cmpI m m = 0 := by unfold cmpI; rw [if_neg (Nat.lt_irrefl _), if_neg (Nat.lt_irrefl _)]
theorem cmp_gt {m n : Nat} (h : n < m) : cmpI m n = 1 := by unfold cmpI; rw [if_neg (by omega), if_pos h]
theorem wneg : wrap64 (- -1) = 1 ∧ wrap64 (-0) = 0 ∧ wrap64 (-1) = -1 := by unfold wrap64; simp
theorem order_j0 {x y : Nat} {c e w : Int} {p q r s : Nat} (hx : Lt 64 x) (hy : Lt 64 y) (hc : c = cmpI x y) (he : (e == 0) = decide (c ≥ 0)) (hp : Lt 64 p) (hq : Lt 64 q) (hr : Lt 64 r) (hs : Lt 64 s)
    (h1 : cmpI p q = c) (h2 : cmpI r s = w) : Ev (fun k => driftnetlaw01_NatOrder.j0 k (limbs x) (limbs y) c e (limbs p) (limbs q) (limbs r) (limbs s) w) true := by
  refine Ev.steps (f := fun k => (nat_Cmp.f k (limbs y) (limbs x)).bind fun t692 => if t692 = (wrap64 (-c)) then ((driftnetref01_Eq.f k (limbs x) (limbs y)).bind fun t693 => (if ((c == 0) == t693) = true then (if ((e == 0) == (decide (c ≥ 0))) = true then ((nat_Cmp.f k (limbs p) (limbs q)).bind fun t694 => (if t694 = c then ((nat_Cmp.f k (limbs r) (limbs s)).bind fun t695 => (some (t695 == w))) else (none))) else (some false)) else (none))) else (none)) (fun k => by simp only [driftnetlaw01_NatOrder.j0]) ?_
  refine Ev.bind (Cmp_l hy hx) ?_
  have e1 : cmpI y x = wrap64 (-c) := by
    rcases Nat.lt_trichotomy x y with h | h | h
    · rw [hc, cmp_lt h, cmp_gt h]; exact wneg.1.symm
    · subst h; rw [hc, cmp_eq]; exact wneg.2.1.symm
    · rw [hc, cmp_gt h, cmp_lt h]; exact wneg.2.2.symm
  simp only [if_pos e1]
  refine Ev.bind (Eq_l (hx.up (by decide)) (hy.up (by decide))) ?_
  have e2 : ((c == 0) == decide (x = y)) = true := by
    rcases Nat.lt_trichotomy x y with h | h | h
    · rw [hc, cmp_lt h, decide_eq_false (by omega)]; rfl
    · subst h; rw [hc, cmp_eq, decide_eq_true rfl]; rfl
    · rw [hc, cmp_gt h, decide_eq_false (by omega)]; rfl
  have e3 : ((e == 0) == (decide (c ≥ 0))) = true := by rw [he]; simp
  simp only [if_pos e2, if_pos e3]
  refine Ev.bind (Cmp_l hp hq) ?_
  simp only [if_pos h1]
  refine Ev.bind (Cmp_l hr hs) ?_
  exact Ev.const (by rw [h2]; simp)
theorem cmp_add (x y z : Nat) : cmpI (x + z) (y + z) = cmpI x y := by
  rcases Nat.lt_trichotomy x y with h | h | h
  · rw [cmp_lt h, cmp_lt (Nat.add_lt_add_right h z)]
  · rw [h, cmp_eq, cmp_eq]
  · rw [cmp_gt h, cmp_gt (Nat.add_lt_add_right h z)]
theorem cmp_mul (x y z : Nat) (hz : z ≠ 0) : cmpI (x * z) (y * z) = cmpI x y := by
  rcases Nat.lt_trichotomy x y with h | h | h
  · rw [cmp_lt h, cmp_lt (Nat.mul_lt_mul_of_pos_right h (Nat.pos_of_ne_zero hz))]
  · rw [h, cmp_eq, cmp_eq]
  · rw [cmp_gt h, cmp_gt (Nat.mul_lt_mul_of_pos_right h (Nat.pos_of_ne_zero hz))]
theorem sub_code {x y : Nat} (hx : Lt 64 x) (hy : Lt 64 y) : ∃ d : List Int × Int, Ev (fun k => nat_Sub.f k (limbs x) (limbs y)) d ∧ (d.2 == 0) = decide (cmpI x y ≥ 0) := by
  by_cases h : x < y
  · exact ⟨_, Sub_l9 hx hy h, by rw [cmp_lt h]; rfl⟩
  · refine ⟨_, Sub_l hx hy (by omega), ?_⟩
    by_cases h2 : x = y
    · subst h2; rw [cmp_eq]; rfl
    · rw [cmp_gt (by omega)]; rfl
theorem NatOrder_pure : driftnetlaw01_NatOrder.Pure := by
  intro l0 l1 l2 _ h0 w0 _ h1 w1 _ h2 w2
  obtain ⟨x, hx, ex⟩ := near_l h0 w0
  obtain ⟨y, hy, ey⟩ := near_l h1 w1
  obtain ⟨z, hz, ez⟩ := near_l h2 w2
  have hx' : Lt 64 x := hx.up (by decide)
  have hy' : Lt 64 y := hy.up (by decide)
  have hz' : Lt 64 z := hz.up (by decide)
  have hxz : Lt 64 (x + z) := hx.add hz (by decide)
  have hyz : Lt 64 (y + z) := hy.add hz (by decide)
  have pxz : Lt 64 (x * z) := hx.mul hz (by decide)
  have pyz : Lt 64 (y * z) := hy.mul hz (by decide)
  obtain ⟨d, ed, hd⟩ := sub_code hx' hy'
  refine Ev.some ?_
  unfold driftnetlaw01_NatOrder.f
  refine Ev.bind works_ev ?_
  simp only [if_true]
  refine Ev.bind ex (Ev.bind ey (Ev.bind ez ?_))
  refine Ev.bind (Cmp_l hx' hy') (Ev.bind ed ?_)
  refine Ev.bind (Add_l hx' hz') (Ev.bind (Add_l hy' hz') (Ev.bind (Mul_l hx' hz') (Ev.bind (Mul_l hy' hz') ?_)))
  simp only [if_true]
  by_cases h : z = 0
  · subst h
    simp only [limbs_zero, List.length_nil, Int.natCast_zero, if_true, Nat.mul_zero]
    have := order_j0 (e := d.2) (w := 0) (p := x + 0) (q := y + 0) (r := 0) (s := 0) hx' hy' rfl hd hxz hyz pxz pyz (cmp_add x y 0) (cmp_eq 0)
    simpa only [limbs_zero] using this
  · have hn : ¬ (((limbs z).length : Int) = 0) := by
      have : limbs z ≠ [] := fun e => h (limbs_eq_nil.1 e)
      have := List.length_pos_iff.2 this
      omega
    simp only [if_neg hn]
    exact order_j0 hx' hy' rfl hd hxz hyz pxz pyz (cmp_add x y z) (cmp_mul x y z h)

end Go.Proofs.YtbejniapdlgpiaaDoor.E
