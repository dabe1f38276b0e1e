/- The long division, the greatest divisor; and what each function of the layer answers. -/
import Derived.Test.YtbejniapdlgpiaaDoorQiEO
namespace Go.Proofs.YtbejniapdlgpiaaDoor.E
open Go.RowKit Go.Proofs.YtbejniapdlgpiaaDoorW.PrintWords Go.Proofs.YtbejniapdlgpiaaDoorW.PrintLast Go.Proofs.YtbejniapdlgpiaaDoorW.PrintMore Go.Proofs.YtbejniapdlgpiaaDoor.M Go.Proofs.YtbejniapdlgpiaaDoor.P

theorem Ev.steps {α : Type} {g f : Nat → Option α} {r : α} (h : ∀ k, g (k + 1) = f k) (k : Ev f r) : Ev g r := Ev.step h k

theorem gcd_step (m n : Nat) : Nat.gcd n (m % n) = Nat.gcd m n := by rw [Nat.gcd_comm m n, Nat.gcd_comm n (m % n), ← Nat.gcd_rec]
theorem mod_length {a b : List Int} (hb : okL b) (h0 : val b ≠ 0) : (limbs (val a % val b)).length ≤ b.length :=
  limbs_length_le (Nat.lt_trans (Nat.mod_lt _ (by omega)) (val_lt hb))
theorem cmpI_neg {m n : Nat} : cmpI m n < 0 ↔ m < n := by
  unfold cmpI
  by_cases h : m < n
  · simp [h]
  · by_cases h2 : n < m <;> simp [h, h2]
theorem gcd_run : ∀ (n : Nat) (x y : List Int), val y = n → canB x → canB y → x.length < 999999 → y.length < 999999 → Ev (fun k => nat_Gcd.l0 k x y) (limbs (Nat.gcd (val x) (val y)), 0) := by
  intro n
  induction n using Nat.strongRecOn with
  | _ n ih =>
    intro x y hn hx hy hlx hly
    by_cases h0 : y = []
    · subst h0
      refine Ev.steps (f := fun _ => some (x, 0)) (fun k => by simp only [nat_Gcd.l0]; rw [if_neg (by simp)]) (Ev.const ?_)
      rw [val_nil, Nat.gcd_zero_right, hx.2]
    · have hy0 : val y ≠ 0 := fun e => h0 ((canB_val_zero hy).1 e)
      have hp := List.length_pos_iff.2 h0
      refine Ev.steps (f := fun k => (nat_divide.f k x y).bind fun t => nat_Gcd.l0 k y t.2) (fun k => by simp only [nat_Gcd.l0]; rw [if_pos (by omega)]) ?_
      refine Ev.bind (divide_ev hx hy h0 hlx hly) ?_
      have hlt := Nat.mod_lt (val x) (show val y > 0 by omega)
      have := ih (val x % val y) (by omega) y (limbs (val x % val y)) (val_limbs _) hy (canB_limbs _) hly (Nat.lt_of_le_of_lt (mod_length hy.1 hy0) hly)
      rw [val_limbs, gcd_step] at this
      exact this

theorem chk2_zero {a b : List Int} (ha : okL a) (hb : okL b) (h : chk2 a b = 0) : (a.length ≤ 64 ∧ canB a) ∧ (b.length ≤ 64 ∧ canB b) := by
  unfold chk2 at h
  by_cases h1 : chk a = 0
  · rw [if_pos h1] at h; exact ⟨(chk_zero ha).1 h1, (chk_zero hb).1 h⟩
  · rw [if_neg h1] at h; exact absurd h h1
theorem chk2_of {a b : List Int} (ha : canB a) (hb : canB b) (hna : a.length ≤ 64) (hnb : b.length ≤ 64) : chk2 a b = 0 := by
  unfold chk2
  rw [if_pos ((chk_zero ha.1).2 ⟨hna, ha⟩)]
  exact (chk_zero hb.1).2 ⟨hnb, hb⟩
def addS (a b : List Int) : List Int × Int := if chk2 a b = 0 then (limbs (val a + val b), 0) else ([], chk2 a b)
def subS (a b : List Int) : List Int × Int := if chk2 a b = 0 then (if val a < val b then ([], 9) else (limbs (val a - val b), 0)) else ([], chk2 a b)
def mulS (a b : List Int) : List Int × Int := if chk2 a b = 0 then (limbs (val a * val b), 0) else ([], chk2 a b)
def divS (a b : List Int) : List Int × List Int × Int := if chk2 a b = 0 then (if b = [] then ([], [], 21) else (limbs (val a / val b), limbs (val a % val b), 0)) else ([], [], chk2 a b)
def gcdS (a b : List Int) : List Int × Int := if chk2 a b = 0 then (limbs (Nat.gcd (val a) (val b)), 0) else ([], chk2 a b)
def cmpS (a b : List Int) : Int := if chk2 a b = 0 then cmpI (val a) (val b) else 0
theorem ev_ite {α : Type} {c : Prop} [Decidable c] {f g : Nat → Option α} {x y : α} (h1 : c → Ev f x) (h2 : ¬ c → Ev g y) : Ev (fun k => if c then f k else g k) (if c then x else y) := by
  by_cases h : c
  · simp only [if_pos h]; exact h1 h
  · simp only [if_neg h]; exact h2 h

theorem Add_ev {a b : List Int} (ha : okL a) (hb : okL b) : Ev (fun k => nat_Add.f k a b) (addS a b) := by
  refine Ev.congr (f := fun k => if chk2 a b = 0 then (nat_plus.f k a b).bind fun t => some (t, 0) else some ([], chk2 a b)) (fun k => by unfold nat_Add.f; rw [both]; rfl) ?_
  refine ev_ite (fun h => ?_) (fun _ => Ev.const rfl)
  obtain ⟨h1, h2⟩ := chk2_zero ha hb h
  exact Ev.bind (plus_ev ha hb (by omega) (by omega)) (Ev.const rfl)
theorem Mul_ev {a b : List Int} (ha : okL a) (hb : okL b) : Ev (fun k => nat_Mul.f k a b) (mulS a b) := by
  refine Ev.congr (f := fun k => if chk2 a b = 0 then (nat_times.f k a b).bind fun t => some (t, 0) else some ([], chk2 a b)) (fun k => by unfold nat_Mul.f; rw [both]; rfl) ?_
  refine ev_ite (fun h => ?_) (fun _ => Ev.const rfl)
  obtain ⟨h1, h2⟩ := chk2_zero ha hb h
  exact Ev.bind (times_ev ha hb (by omega) (by omega)) (Ev.const rfl)
theorem Sub_ev {a b : List Int} (ha : okL a) (hb : okL b) : Ev (fun k => nat_Sub.f k a b) (subS a b) := by
  refine Ev.congr (f := fun k => if chk2 a b = 0 then (nat_compare.f k a b).bind fun t => if t < 0 then some ([], 9) else (nat_minus.f k a b).bind fun t => some (t, 0) else some ([], chk2 a b)) (fun k => by unfold nat_Sub.f; rw [both]; rfl) ?_
  refine ev_ite (fun h => ?_) (fun _ => Ev.const rfl)
  obtain ⟨h1, h2⟩ := chk2_zero ha hb h
  refine Ev.bind (compare_ev h1.2 h2.2 (by omega) (by omega)) ?_
  simp only [cmpI_neg]
  exact ev_ite (fun _ => Ev.const rfl) (fun h3 => Ev.bind (minus_ev ha hb (by omega) (by omega)) (Ev.const rfl))
theorem Cmp_ev {a b : List Int} (ha : okL a) (hb : okL b) : Ev (fun k => nat_Cmp.f k a b) (cmpS a b) := by
  refine Ev.congr (f := fun k => if chk2 a b = 0 then (nat_compare.f k a b).bind fun t => some t else some 0) (fun k => by unfold nat_Cmp.f; rw [both]; rfl) ?_
  refine ev_ite (fun h => ?_) (fun _ => Ev.const rfl)
  obtain ⟨h1, h2⟩ := chk2_zero ha hb h
  exact Ev.bind (compare_ev h1.2 h2.2 (by omega) (by omega)) (Ev.const rfl)
theorem Div_ev {a b : List Int} (ha : okL a) (hb : okL b) : Ev (fun k => nat_Div.f k a b) (divS a b) := by
  refine Ev.congr (f := fun k => if chk2 a b = 0 then (if b = [] then some ([], [], 21) else (nat_divide.f k a b).bind fun t => some (t.1, t.2, 0)) else some ([], [], chk2 a b)) (fun k => by
    unfold nat_Div.f; rw [both]; simp only [Option.bind_some]
    by_cases h0 : b = []
    · subst h0; rfl
    · have := List.length_pos_iff.2 h0
      rw [if_neg (show ¬ ((b.length : Int) = 0) by omega), if_neg h0]) ?_
  refine ev_ite (fun h => ?_) (fun _ => Ev.const rfl)
  obtain ⟨h1, h2⟩ := chk2_zero ha hb h
  exact ev_ite (fun _ => Ev.const rfl) (fun h0 => Ev.bind (divide_ev h1.2 h2.2 h0 (by omega) (by omega)) (Ev.const rfl))
theorem Gcd_ev {a b : List Int} (ha : okL a) (hb : okL b) : Ev (fun k => nat_Gcd.f k a b) (gcdS a b) := by
  by_cases h : chk2 a b = 0
  · obtain ⟨h1, h2⟩ := chk2_zero ha hb h
    have e1 : slices_Clone_uint32_uint32.f a = some a := by unfold slices_Clone_uint32_uint32.f; rw [if_pos (by omega)]
    have e2 : slices_Clone_uint32_uint32.f b = some b := by unfold slices_Clone_uint32_uint32.f; rw [if_pos (by omega)]
    refine Ev.congr (f := fun k => nat_Gcd.l0 k a b) (fun k => by unfold nat_Gcd.f; rw [both, e1, e2]; simp only [Option.bind_some]; rw [if_pos h]) ?_
    have := gcd_run _ a b rfl h1.2 h2.2 (by omega) (by omega)
    unfold gcdS; rw [if_pos h]; exact this
  · refine Ev.congr (f := fun k => some ([], chk2 a b)) (fun k => by unfold nat_Gcd.f; rw [both]; simp only [Option.bind_some]; rw [if_neg h]) ?_
    unfold gcdS; rw [if_neg h]; exact Ev.const rfl
end Go.Proofs.YtbejniapdlgpiaaDoor.E
