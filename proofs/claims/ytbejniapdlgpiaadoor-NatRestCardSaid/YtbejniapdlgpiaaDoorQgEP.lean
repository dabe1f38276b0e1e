/- Of the laws of nat: NatRest, NatDivides and NatSmall hold in plain numbers. -/
import Derived.Test.YtbejniapdlgpiaaDoorQgEJ
namespace Go.Proofs.YtbejniapdlgpiaaDoor.E
open Go.RowKit Go.Proofs.YtbejniapdlgpiaaDoorW.PrintWords Go.Proofs.YtbejniapdlgpiaaDoorW.PrintLast Go.Proofs.YtbejniapdlgpiaaDoorW.PrintMore Go.Proofs.YtbejniapdlgpiaaDoor.M Go.Proofs.YtbejniapdlgpiaaDoor.P

theorem NatRest_pure : driftnetlaw01_NatRest.Pure := by
  intro l0 l1 _ h0 w0 _ h1 w1
  obtain ⟨x, hx, ex⟩ := near_l h0 w0
  obtain ⟨y, hy, ey⟩ := near_l h1 w1
  have hx' : Lt 64 x := hx.up (by decide)
  have hy' : Lt 64 y := hy.up (by decide)
  refine Ev.some ?_
  unfold driftnetlaw01_NatRest.f
  refine Ev.bind works_ev ?_
  simp only [if_true]
  refine Ev.bind ex (Ev.bind ey ?_)
  by_cases h : y = 0
  · subst h
    simp only [limbs_zero, List.length_nil, Int.natCast_zero, if_true]
    have e := Gcd_l hx' hy'
    rw [limbs_zero] at e
    refine Ev.bind e ?_
    simp only [if_true]
    exact Ev.bind (Eq_t ((hx.le (Nat.le_of_eq (Nat.gcd_zero_right x))).up (by decide)) (Nat.gcd_zero_right x)) (Ev.const rfl)
  · have hpos : 0 < y := Nat.pos_of_ne_zero h
    have hn : ∀ {n : Nat}, n ≠ 0 → ¬ (((limbs n).length : Int) = 0) := fun {n} h => by
      have : limbs n ≠ [] := fun e => h (limbs_eq_nil.1 e)
      have := List.length_pos_iff.2 this
      omega
    have hg0 : Nat.gcd x y ≠ 0 := fun e => h (Nat.eq_zero_of_gcd_eq_zero_right e)
    have hgx : Nat.gcd x y ∣ x := Nat.gcd_dvd_left x y
    have hgy : Nat.gcd x y ∣ y := Nat.gcd_dvd_right x y
    have hg : Lt 64 (Nat.gcd x y) := hy'.le (Nat.le_of_dvd hpos hgy)
    have hq : Lt 16 (x / y) := hx.le (Nat.div_le_self _ _)
    have hr : Lt 16 (x % y) := hx.le (Nat.mod_le _ _)
    have hsum : x / y * y + x % y = x := Nat.div_add_mod' x y
    simp only [if_neg (hn h)]
    refine Ev.bind (Div_l hx' hy' h) ?_
    refine Ev.bind (Mul_l (hq.up (by decide)) hy') ?_
    refine Ev.bind (Add_l (hx'.le (by omega)) (hr.up (by decide))) ?_
    refine Ev.bind (Gcd_l hx' hy') ?_
    simp only [if_true]
    refine Ev.bind (Eq_t ((hx.le (Nat.le_of_eq hsum)).up (by decide)) hsum) ?_
    simp only [if_true]
    refine Ev.bind (Cmp_l (hr.up (by decide)) hy') ?_
    simp only [if_pos (cmp_lt (Nat.mod_lt x hpos)), if_neg (hn hg0)]
    refine Ev.bind (Div_l hx' hg hg0) (Ev.bind (Div_l hy' hg hg0) ?_)
    have hxg : Lt 64 (x / Nat.gcd x y) := hx'.le (Nat.div_le_self _ _)
    have hyg : Lt 64 (y / Nat.gcd x y) := hy'.le (Nat.div_le_self _ _)
    refine Ev.bind (Gcd_l hxg hyg) ?_
    have e1 : Nat.gcd (x / Nat.gcd x y) (y / Nat.gcd x y) = 1 := by
      rw [Nat.gcd_div hgx hgy, Nat.div_self (Nat.pos_of_ne_zero hg0)]
    simp only [if_true, Nat.mod_eq_zero_of_dvd hgx, Nat.mod_eq_zero_of_dvd hgy, limbs_zero, List.length_nil, Int.natCast_zero, e1]
    rw [canB_cons1 (x := 1) (by decide) (by decide)]
    exact Ev.bind (same_l (lt_lit (by decide) (by decide)) rfl) (Ev.const rfl)
end Go.Proofs.YtbejniapdlgpiaaDoor.E
