/- Of the laws of nat: NatReckons holds in plain numbers. -/
import Derived.Test.YtbejniapdlgpiaaDoorQfEK
namespace Go.Proofs.YtbejniapdlgpiaaDoor.E
open Go.RowKit Go.Proofs.YtbejniapdlgpiaaDoorW.PrintWords Go.Proofs.YtbejniapdlgpiaaDoorW.PrintLast Go.Proofs.YtbejniapdlgpiaaDoorW.PrintMore Go.Proofs.YtbejniapdlgpiaaDoor.M Go.Proofs.YtbejniapdlgpiaaDoor.P

theorem same_s (a : List Int) (h : a.length < 4611686018427387904) : Ev (fun k => driftnetlaw01_same.f k a a) true := by
  have e := same_ev (a := a) (b := a) h
  rwa [decide_eq_true rfl] at e
theorem addS_form {a b : List Int} (ha : okL a) (hb : okL b) : ∃ q e, Lt 1000 q ∧ addS a b = (limbs q, e) := by
  unfold addS
  by_cases h : chk2 a b = 0
  · obtain ⟨⟨h1, _⟩, ⟨h2, _⟩⟩ := chk2_zero ha hb h
    exact ⟨_, 0, (Lt.add (i := 64) (j := 65) (val_lt_of_length ha h1) (val_lt_of_length hb h2) (by decide)).up (by decide), by rw [if_pos h]⟩
  · exact ⟨0, _, lt_zero _, by rw [if_neg h, limbs_zero]⟩
theorem mulS_form {a b : List Int} (ha : okL a) (hb : okL b) : ∃ q e, Lt 1000 q ∧ mulS a b = (limbs q, e) := by
  unfold mulS
  by_cases h : chk2 a b = 0
  · obtain ⟨⟨h1, _⟩, ⟨h2, _⟩⟩ := chk2_zero ha hb h
    exact ⟨_, 0, (Lt.mul (i := 64) (j := 64) (l := 128) (val_lt_of_length ha h1) (val_lt_of_length hb h2) (by decide)).up (by decide), by rw [if_pos h]⟩
  · exact ⟨0, _, lt_zero _, by rw [if_neg h, limbs_zero]⟩
theorem subS_form {a b : List Int} (ha : okL a) (hb : okL b) : ∃ q e, Lt 1000 q ∧ subS a b = (limbs q, e) := by
  unfold subS
  by_cases h : chk2 a b = 0
  · obtain ⟨⟨h1, _⟩, _⟩ := chk2_zero ha hb h
    have hv : Lt 1000 (val a) := Lt.up (i := 64) (val_lt_of_length ha h1) (by decide)
    by_cases h2 : val a < val b
    · exact ⟨0, 9, lt_zero _, by rw [if_pos h, if_pos h2, limbs_zero]⟩
    · exact ⟨_, 0, hv.le (Nat.sub_le _ _), by rw [if_pos h, if_neg h2]⟩
  · exact ⟨0, _, lt_zero _, by rw [if_neg h, limbs_zero]⟩
theorem reckons_l2 {a b : List Int} (ha : a.length ≤ 80) (hb : b.length ≤ 80) : ∀ (d : Nat) (x : List Int) (i : Nat), x.length ≤ 1000 → x.length - i = d → i ≤ x.length → Ev (fun k => driftnetlaw01_NatReckons.l2 k a b a b x (i : Int)) true := by
  intro d
  induction d with
  | zero =>
    intro x i hx hd hi
    refine Ev.steps (f := fun k => (driftnetlaw01_same.f k a a).bind fun t434 => (if t434 = true then ((driftnetlaw01_same.f k b b).bind fun t435 => (if t435 = true then ((driftnetlaw01_works.f k).bind fun t436 => (some t436)) else none)) else none)) (fun k => by simp only [driftnetlaw01_NatReckons.l2]; rw [if_neg (by omega)]) ?_
    refine Ev.bind (same_s a (by omega)) ?_
    simp only [if_true]
    refine Ev.bind (same_s b (by omega)) ?_
    simp only [if_true]
    exact Ev.bind works_ev (Ev.const rfl)
  | succ d ih =>
    intro x i hx hd hi
    refine Ev.steps (f := fun k => driftnetlaw01_NatReckons.l2 k a b a b (x.set i 0) ((i + 1 : Nat) : Int)) (fun k => by
      simp only [driftnetlaw01_NatReckons.l2]; rw [if_pos (by omega), if_pos (by omega), w64 (by omega) (by omega)]; rfl) ?_
    exact ih _ _ (by rw [List.length_set]; exact hx) (by rw [List.length_set]; omega) (by rw [List.length_set]; omega)
theorem reckons_l1 {a b g : List Int} (ha : a.length ≤ 80) (hb : b.length ≤ 80) (hg : g.length ≤ 1000) : ∀ (d : Nat) (x : List Int) (i : Nat), x.length ≤ 1000 → x.length - i = d → i ≤ x.length → Ev (fun k => driftnetlaw01_NatReckons.l1 k a b a b x g (i : Int)) true := by
  intro d
  induction d with
  | zero =>
    intro x i hx hd hi
    refine Ev.steps (f := fun k => driftnetlaw01_NatReckons.l2 k a b a b g ((0 : Nat) : Int)) (fun k => by simp only [driftnetlaw01_NatReckons.l1]; rw [if_neg (by omega)]; rfl) ?_
    exact reckons_l2 ha hb _ g 0 hg rfl (by omega)
  | succ d ih =>
    intro x i hx hd hi
    refine Ev.steps (f := fun k => driftnetlaw01_NatReckons.l1 k a b a b (x.set i 0) g ((i + 1 : Nat) : Int)) (fun k => by
      simp only [driftnetlaw01_NatReckons.l1]; rw [if_pos (by omega), if_pos (by omega), w64 (by omega) (by omega)]; rfl) ?_
    exact ih _ _ (by rw [List.length_set]; exact hx) (by rw [List.length_set]; omega) (by rw [List.length_set]; omega)
theorem reckons_l0 {a b g2 g : List Int} (ha : a.length ≤ 80) (hb : b.length ≤ 80) (hg2 : g2.length ≤ 1000) (hg : g.length ≤ 1000) : ∀ (d : Nat) (x : List Int) (i : Nat), x.length ≤ 1000 → x.length - i = d → i ≤ x.length → Ev (fun k => driftnetlaw01_NatReckons.l0 k a b a b x g2 g (i : Int)) true := by
  intro d
  induction d with
  | zero =>
    intro x i hx hd hi
    refine Ev.steps (f := fun k => driftnetlaw01_NatReckons.l1 k a b a b g2 g ((0 : Nat) : Int)) (fun k => by simp only [driftnetlaw01_NatReckons.l0]; rw [if_neg (by omega)]; rfl) ?_
    exact reckons_l1 ha hb hg _ g2 0 hg2 rfl (by omega)
  | succ d ih =>
    intro x i hx hd hi
    refine Ev.steps (f := fun k => driftnetlaw01_NatReckons.l0 k a b a b (x.set i 0) g2 g ((i + 1 : Nat) : Int)) (fun k => by
      simp only [driftnetlaw01_NatReckons.l0]; rw [if_pos (by omega), if_pos (by omega), w64 (by omega) (by omega)]; rfl) ?_
    exact ih _ _ (by rw [List.length_set]; exact hx) (by rw [List.length_set]; omega) (by rw [List.length_set]; omega)
theorem u64_wf {a : Int} (h : (Lit.int .u64 a).wf = true) : 0 ≤ a ∧ a < 18446744073709551616 := by
  have h2 := h
  simp [Lit.wf] at h2
  exact ⟨h2.1, Int.lt_of_le_of_lt h2.2 (by decide)⟩
theorem NatReckons_pure : driftnetlaw01_NatReckons.Pure := by
  intro l0 l1 a2 _ h0 w0 _ h1 w1 w2
  obtain ⟨A, hA⟩ : ∃ L, L = l0.take (mn (l0.length : Int) 80).toNat := ⟨_, rfl⟩
  obtain ⟨B, hB⟩ : ∃ L, L = l1.take (mn (l1.length : Int) 80).toNat := ⟨_, rfl⟩
  have okA : okL A := by rw [hA]; exact okL_take (okL_wf w0) _
  have okB : okL B := by rw [hB]; exact okL_take (okL_wf w1) _
  have lA : A.length ≤ 80 := by rw [hA, List.length_take]; have := (mn_le (l0.length : Int) 80).2; omega
  have lB : B.length ≤ 80 := by rw [hB, List.length_take]; have := (mn_le (l1.length : Int) 80).2; omega
  obtain ⟨u0, u1⟩ := u64_wf w2
  obtain ⟨p, pe, hp, fp⟩ := addS_form okA okB
  obtain ⟨s, se, hs, fs⟩ := subS_form okA okB
  obtain ⟨m, me, hm, fm⟩ := mulS_form okA okB
  have e1 := Add_ev okA okB
  have e2 := rAdd_ev okA okB
  have e3 := Sub_ev okA okB
  have e4 := rSub_ev okA okB
  have e5 := Mul_ev okA okB
  have e6 := rMul_ev okA okB
  rw [fp] at e1 e2
  rw [fs] at e3 e4
  rw [fm] at e5 e6
  refine Ev.some ?_
  unfold driftnetlaw01_NatReckons.f
  have c1 : 0 ≤ mn (l0.length : Int) 80 := mn_nn (by omega) (by decide)
  have c2 : mn (l0.length : Int) 80 ≤ (l0.length : Int) := (mn_le _ _).1
  have c3 : 0 ≤ mn (l1.length : Int) 80 := mn_nn (by omega) (by decide)
  have c4 : mn (l1.length : Int) 80 ≤ (l1.length : Int) := (mn_le _ _).1
  have f1 := copy_f (l := A) (by omega)
  have f2 := copy_f (l := B) (by omega)
  simp only [if_pos c1, if_pos c2, if_pos c3, if_pos c4, ← hA, ← hB, f1, f2, Option.bind_some]
  refine Ev.bind (Small_ev okA) (Ev.bind (rSmall_ev okA) (Ev.bind e1 (Ev.bind e2 (Ev.bind e3 (Ev.bind e4 (Ev.bind e5 (Ev.bind e6 (Ev.bind (of_ev u0 u1) (Ev.bind (rof_ev u0 u1) ?_)))))))))
  refine Ev.bind (Eq_s (lt_lit (by omega) (by decide))) ?_
  rw [check, check']
  simp only [if_true, bne_self_eq_false, Bool.false_eq_true, if_false, Option.bind_some]
  refine Ev.bind (Cmp_ev okA okB) (Ev.bind (rCmp_ev okA okB) ?_)
  simp only [if_true]
  refine Ev.bind (Eq_s hp) ?_
  simp only [if_true]
  refine Ev.bind (Eq_s hs) ?_
  simp only [if_true]
  refine Ev.bind (Eq_s hm) ?_
  simp only [if_true]
  exact reckons_l0 lA lB (len_l hs) (len_l hm) _ (limbs p) 0 (len_l hp) rfl (by omega)

end Go.Proofs.YtbejniapdlgpiaaDoor.E
