/- Of the laws of nat: NatRest, NatDivides and NatSmall hold in plain numbers. -/
import Derived.Test.YtbejniapdlgpiaaDoorQhEK
import Derived.Test.YtbejniapdlgpiaaDoorQhEN
namespace Go.Proofs.YtbejniapdlgpiaaDoor.E
open Go.RowKit Go.Proofs.YtbejniapdlgpiaaDoorW.PrintWords Go.Proofs.YtbejniapdlgpiaaDoorW.PrintLast Go.Proofs.YtbejniapdlgpiaaDoorW.PrintMore Go.Proofs.YtbejniapdlgpiaaDoor.M Go.Proofs.YtbejniapdlgpiaaDoor.P

theorem divides_l1 {a b : List Int} (ha : a.length ≤ 12) (hb : b.length ≤ 12) : ∀ (d : Nat) (x : List Int) (i : Nat), x.length ≤ 1000 → x.length - i = d → i ≤ x.length → Ev (fun k => driftnetlaw01_NatDivides.l1 k a b a b x (i : Int)) true := by
  intro d
  induction d with
  | zero =>
    intro x i hx hd hi
    refine Ev.steps (f := fun k => (driftnetlaw01_same.f k a a).bind fun t434 => (if t434 = true then ((driftnetlaw01_same.f k b b).bind fun t435 => (if t435 = true then ((driftnetlaw01_works.f k).bind fun t436 => (some t436)) else (some false))) else (some false))) (fun k => by simp only [driftnetlaw01_NatDivides.l1]; rw [if_neg (by omega)]) ?_
    refine Ev.bind (same_s a (by omega)) ?_
    simp only [if_true]
    refine Ev.bind (same_s b (by omega)) ?_
    simp only [if_true]
    exact Ev.bind works_ev (Ev.const rfl)
  | succ d ih =>
    intro x i hx hd hi
    refine Ev.steps (f := fun k => driftnetlaw01_NatDivides.l1 k a b a b (x.set i 0) ((i + 1 : Nat) : Int)) (fun k => by
      simp only [driftnetlaw01_NatDivides.l1]; rw [if_pos (by omega), if_pos (by omega), w64 (by omega) (by omega)]; rfl) ?_
    exact ih _ _ (by rw [List.length_set]; exact hx) (by rw [List.length_set]; omega) (by rw [List.length_set]; omega)
theorem divides_l0 {a b g : List Int} (ha : a.length ≤ 12) (hb : b.length ≤ 12) (hg : g.length ≤ 1000) : ∀ (d : Nat) (x : List Int) (i : Nat), x.length ≤ 1000 → x.length - i = d → i ≤ x.length → Ev (fun k => driftnetlaw01_NatDivides.l0 k a b a b x g (i : Int)) true := by
  intro d
  induction d with
  | zero =>
    intro x i hx hd hi
    refine Ev.steps (f := fun k => driftnetlaw01_NatDivides.l1 k a b a b g ((0 : Nat) : Int)) (fun k => by simp only [driftnetlaw01_NatDivides.l0]; rw [if_neg (by omega)]; rfl) ?_
    exact divides_l1 ha hb _ g 0 hg rfl (by omega)
  | succ d ih =>
    intro x i hx hd hi
    refine Ev.steps (f := fun k => driftnetlaw01_NatDivides.l0 k a b a b (x.set i 0) g ((i + 1 : Nat) : Int)) (fun k => by
      simp only [driftnetlaw01_NatDivides.l0]; rw [if_pos (by omega), if_pos (by omega), w64 (by omega) (by omega)]; rfl) ?_
    exact ih _ _ (by rw [List.length_set]; exact hx) (by rw [List.length_set]; omega) (by rw [List.length_set]; omega)
theorem NatDivides_pure : driftnetlaw01_NatDivides.Pure := by
  intro l0 l1 _ h0 w0 _ h1 w1
  have ok0 := okL_wf w0
  have ok1 := okL_wf w1
  refine Ev.some ?_
  have hbig : Ev (fun k => driftnetlaw01_NatDivides.j0 k l0 l1 true) true := by
    refine Ev.steps (f := fun k => (nat_Div.f k l0 ([] : List Int)).bind fun bt391 => ((driftnetref01_Check.f l0).bind fun t398 => (if t398 = 0 then (if bt391.2.2 = 21 then ((driftnetlaw01_works.f k).bind fun t399 => (some t399)) else (some false)) else (if bt391.2.2 = t398 then ((driftnetlaw01_works.f k).bind fun t400 => (some t400)) else (some false))))) (fun k => by simp only [driftnetlaw01_NatDivides.j0]; rfl) ?_
    refine Ev.bind (Div_ev ok0 okL_nil) ?_
    rw [check']
    simp only [Option.bind_some]
    by_cases h : chk l0 = 0
    · have e : chk2 l0 [] = 0 := by unfold chk2; rw [if_pos h]; rfl
      have e2 : (divS l0 []).2.2 = 21 := by unfold divS; rw [if_pos e, if_pos rfl]
      simp only [if_pos h, if_pos e2]
      exact Ev.bind works_ev (Ev.const rfl)
    · have e : chk2 l0 [] = chk l0 := by unfold chk2; rw [if_neg h]
      have e2 : (divS l0 []).2.2 = chk l0 := by unfold divS; rw [e, if_neg h]
      simp only [if_neg h, if_pos e2]
      exact Ev.bind works_ev (Ev.const rfl)
  unfold driftnetlaw01_NatDivides.f
  by_cases hl0 : l0.length > 12
  · exact Ev.congr (fun k => by rw [if_pos (by omega)]) hbig
  · by_cases hl1 : l1.length > 12
    · exact Ev.congr (fun k => by rw [if_neg (by omega), decide_eq_true (by omega)]) hbig
    · refine Ev.congr (f := fun k => driftnetlaw01_NatDivides.j0 k l0 l1 false) (fun k => by rw [if_neg (by omega), decide_eq_false (by omega)]) ?_
      obtain ⟨q, r, e, hq, hr, hd⟩ := divS_form ok0 ok1
      obtain ⟨g, ge, hg, hgd⟩ := gcdS_form ok0 ok1
      have ed := rDiv_ev ok0 ok1
      have eg := Gcd_ev ok0 ok1
      have eg2 := rGcd_ev ok0 ok1
      have df := Div_ev ok0 ok1
      rw [hd] at ed df
      rw [hgd] at eg eg2
      refine Ev.steps (f := fun k => (nat_Div.f k l0 l1).bind fun bt414 => ((driftnetref01_Div.f k l0 l1).bind fun bt421 => ((nat_Gcd.f k l0 l1).bind fun bt428 => ((driftnetref01_Gcd.f k l0 l1).bind fun bt432 => ((driftnetref01_Eq.f k bt414.1 bt421.1).bind fun t436 => (if t436 = true then ((driftnetref01_Eq.f k bt414.2.1 bt421.2.1).bind fun t437 => (if t437 = true then (if bt414.2.2 = bt421.2.2 then ((driftnetref01_Eq.f k bt428.1 bt432.1).bind fun t438 => (if t438 = true then (driftnetlaw01_NatDivides.j1 k l0 l1 l0 l1 bt414.2.1 bt428.1 (bt428.2 != bt432.2)) else (driftnetlaw01_NatDivides.j1 k l0 l1 l0 l1 bt414.2.1 bt428.1 true))) else (driftnetlaw01_NatDivides.j1 k l0 l1 l0 l1 bt414.2.1 bt428.1 true)) else (driftnetlaw01_NatDivides.j1 k l0 l1 l0 l1 bt414.2.1 bt428.1 true))) else (driftnetlaw01_NatDivides.j1 k l0 l1 l0 l1 bt414.2.1 bt428.1 true))))))) (fun k => by
        simp only [driftnetlaw01_NatDivides.j0, Bool.false_eq_true, if_false]
        rw [copy_f (by omega), copy_f (by omega)]
        simp only [Option.bind_some]) ?_
      refine Ev.bind df (Ev.bind ed (Ev.bind eg (Ev.bind eg2 ?_)))
      simp only []
      refine Ev.bind (Eq_s hq) ?_
      simp only [if_true]
      refine Ev.bind (Eq_s hr) ?_
      simp only [if_true]
      refine Ev.bind (Eq_s hg) ?_
      simp only [if_true]
      refine Ev.steps (f := fun k => driftnetlaw01_NatDivides.l0 k l0 l1 l0 l1 (limbs r) (limbs g) ((0 : Nat) : Int)) (fun k => by simp only [driftnetlaw01_NatDivides.j1]; simp) ?_
      exact divides_l0 (by omega) (by omega) (len_l hg) _ (limbs r) 0 (len_l hr) rfl (by omega)

end Go.Proofs.YtbejniapdlgpiaaDoor.E
