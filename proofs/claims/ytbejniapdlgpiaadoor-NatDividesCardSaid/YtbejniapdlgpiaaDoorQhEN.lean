/- Of the laws of nat: NatReckons holds in plain numbers. -/
import Derived.Test.YtbejniapdlgpiaaDoorQhEK
namespace Go.Proofs.YtbejniapdlgpiaaDoor.E
open Go.RowKit Go.Proofs.YtbejniapdlgpiaaDoorW.PrintWords Go.Proofs.YtbejniapdlgpiaaDoorW.PrintLast Go.Proofs.YtbejniapdlgpiaaDoorW.PrintMore Go.Proofs.YtbejniapdlgpiaaDoor.M Go.Proofs.YtbejniapdlgpiaaDoor.P

theorem divS_form {a b : List Int} (ha : okL a) (hb : okL b) : ∃ q r e, Lt 1000 q ∧ Lt 1000 r ∧ divS a b = (limbs q, limbs r, e) := by
  unfold divS
  by_cases h : chk2 a b = 0
  · obtain ⟨⟨h1, _⟩, _⟩ := chk2_zero ha hb h
    have hv : Lt 1000 (val a) := Lt.up (i := 64) (val_lt_of_length ha h1) (by decide)
    by_cases h2 : b = []
    · exact ⟨0, 0, 21, lt_zero _, lt_zero _, by rw [if_pos h, if_pos h2, limbs_zero]⟩
    · exact ⟨_, _, 0, hv.le (Nat.div_le_self _ _), hv.le (Nat.mod_le _ _), by rw [if_pos h, if_neg h2]⟩
  · exact ⟨0, 0, _, lt_zero _, lt_zero _, by rw [if_neg h, limbs_zero]⟩
theorem gcdS_form {a b : List Int} (ha : okL a) (hb : okL b) : ∃ q e, Lt 1000 q ∧ gcdS a b = (limbs q, e) := by
  unfold gcdS
  by_cases h : chk2 a b = 0
  · obtain ⟨⟨h1, c1⟩, ⟨h2, c2⟩⟩ := chk2_zero ha hb h
    have hv : Lt 1000 (val a) := Lt.up (i := 64) (val_lt_of_length ha h1) (by decide)
    have hw : Lt 1000 (val b) := Lt.up (i := 64) (val_lt_of_length hb h2) (by decide)
    refine ⟨_, 0, ?_, by rw [if_pos h]⟩
    by_cases h0 : val a = 0
    · rw [h0, Nat.gcd_zero_left]; exact hw
    · exact hv.le (Nat.le_of_dvd (Nat.pos_of_ne_zero h0) (Nat.gcd_dvd_left _ _))
  · exact ⟨0, _, lt_zero _, by rw [if_neg h, limbs_zero]⟩
theorem same_s (a : List Int) (h : a.length < 4611686018427387904) : Ev (fun k => driftnetlaw01_same.f k a a) true := by
  have e := same_ev (a := a) (b := a) h
  rwa [decide_eq_true rfl] at e
end Go.Proofs.YtbejniapdlgpiaaDoor.E
