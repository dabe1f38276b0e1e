/- The long division, the greatest divisor; and what each function of the layer answers. -/
import Derived.Test.YtbejniapdlgpiaaDoorQhEO
namespace Go.Proofs.YtbejniapdlgpiaaDoor.E
open Go.RowKit Go.Proofs.YtbejniapdlgpiaaDoorW.PrintWords Go.Proofs.YtbejniapdlgpiaaDoorW.PrintLast Go.Proofs.YtbejniapdlgpiaaDoorW.PrintMore Go.Proofs.YtbejniapdlgpiaaDoor.M Go.Proofs.YtbejniapdlgpiaaDoor.P

theorem Ev.steps {α : Type} {g f : Nat → Option α} {r : α} (h : ∀ k, g (k + 1) = f k) (k : Ev f r) : Ev g r := Ev.step h k

theorem or_bit {x s : Nat} (hx : x % 2 ^ (s + 1) = 0) (hx2 : x < 4294967296) (hs : s < 32) : Go.bits .or .u32 (x : Int) (shl .u32 1 (s : Int)) = ((x + 2 ^ s : Nat) : Int) ∧ x + 2 ^ s < 4294967296 := by
  have h1 : 2 ^ s < 2 ^ (s + 1) := Nat.pow_lt_pow_right (by omega) (by omega)
  have h2 : 2 ^ s < 2 ^ 32 := Nat.pow_lt_pow_right (by omega) hs
  have e : shl .u32 1 (s : Int) = ((2 ^ s : Nat) : Int) := by
    unfold shl
    have e1 : (1 : Int) * 2 ^ min ((s : Int)).toNat (IntKind.u32.bits) = ((2 ^ s : Nat) : Int) := by
      simp [IntKind.bits, Nat.min_eq_left (show s ≤ 32 by omega)]
    rw [e1, IntKind.wrap_u32]; omega
  have hor := or_low (o := 2 ^ s) (x := x) (s := s + 1) h1 (by omega) hx hx2
  refine ⟨?_, ?_⟩
  · rw [e, Nat.add_comm, ← hor]
    rw [(bits_nat .u32 32 (by decide) (fun n h0 h => by rw [IntKind.wrap_u32]; omega) x (2 ^ s) hx2 h2).2, (bits_nat .u32 32 (by decide) (fun n h0 h => by rw [IntKind.wrap_u32]; omega) (2 ^ s) x h2 hx2).2, Nat.or_comm]
  · have hB : 4294967296 = 2 ^ (s + 1) * 2 ^ (31 - s) := by rw [← Nat.pow_add, show s + 1 + (31 - s) = 32 by omega]
    obtain ⟨z, rfl⟩ : ∃ z, x = 2 ^ (s + 1) * z := ⟨x / 2 ^ (s + 1), by have := Nat.div_add_mod x (2 ^ (s + 1)); omega⟩
    rw [hB] at hx2
    have hz := Nat.lt_of_mul_lt_mul_left hx2
    have : 2 ^ (s + 1) * (z + 1) ≤ 2 ^ (s + 1) * 2 ^ (31 - s) := Nat.mul_le_mul_left _ hz
    rw [← hB, Nat.mul_add] at this
    omega
theorem low_zero {q : List Int} (hq : okL q) {j s z : Nat} (hj : j < q.length) (hs : s < 32) (h : val q = 2 ^ (32 * j + s + 1) * z) {x : Nat} (hx : q.getD j 0 = (x : Int)) : x % 2 ^ (s + 1) = 0 := by
  have h1 := val_take_drop q j (by omega)
  have h2 := val_drop_succ q j hj
  have h3 := val_lt (okL_take hq j)
  rw [List.length_take, Nat.min_eq_left (by omega)] at h3
  rw [hx] at h2
  simp only [Int.toNat_natCast] at h2
  have e : 2 ^ (32 * j + s + 1) = 4294967296 ^ j * 2 ^ (s + 1) := by rw [base_pow, ← Nat.pow_add, Nat.add_assoc]
  rw [h1, e, Nat.mul_assoc] at h
  have hB : 4294967296 = 2 ^ (s + 1) * 2 ^ (31 - s) := by rw [← Nat.pow_add, show s + 1 + (31 - s) = 32 by omega]
  have hp : 0 < 4294967296 ^ j := Nat.pow_pos (by omega)
  have h4 : val (q.drop j) = 2 ^ (s + 1) * z := by
    have a1 : (val (q.take j) + 4294967296 ^ j * val (q.drop j)) / 4294967296 ^ j = val (q.drop j) := by
      rw [Nat.add_mul_div_left _ _ hp, Nat.div_eq_of_lt h3, Nat.zero_add]
    rw [h, Nat.mul_div_cancel_left _ hp] at a1
    exact a1.symm
  have h5 : (x + 4294967296 * val (q.drop (j + 1))) % 2 ^ (s + 1) = 0 := by rw [← h2, h4, Nat.mul_mod_right]
  rw [hB, Nat.mul_assoc, Nat.add_mul_mod_self_left] at h5
  exact h5
/-- What holds in the long division, bit m and above being done. -/
structure DivAt (a b q r : List Int) (m : Nat) : Prop where
  ok : okL q
  len : q.length = a.length
  can : canB r
  v : val a = val q * val b + val r
  lt : val r < val b * 2 ^ m
  dv : ∃ z, val q = 2 ^ m * z
theorem DivAt.down {a b q r : List Int} {m : Nat} (h : DivAt a b q r (m + 1)) (hr : val r < val b * 2 ^ m) : DivAt a b q r m := by
  obtain ⟨z, hz⟩ := h.dv
  exact ⟨h.ok, h.len, h.can, h.v, hr, 2 * z, by rw [hz, Nat.pow_succ, Nat.mul_assoc]⟩
theorem DivAt.take {a b q r : List Int} {m : Nat} (h : DivAt a b q r (m + 1)) (hm : m < 32 * a.length) (hr : val b * 2 ^ m ≤ val r) {x : Nat} (hx : q.getD (m / 32) 0 = (x : Int)) :
    x % 2 ^ (m % 32 + 1) = 0 ∧ DivAt a b (q.set (m / 32) ((x + 2 ^ (m % 32) : Nat) : Int)) (limbs (val r - val b * 2 ^ m)) m := by
  obtain ⟨z, hz⟩ := h.dv
  have hlen := h.len
  have hs : m % 32 < 32 := Nat.mod_lt _ (by omega)
  have hj : m / 32 < q.length := by omega
  have e : 32 * (m / 32) + m % 32 + 1 = m + 1 := by omega
  have h0 := low_zero h.ok hj hs (z := z) (by rw [e]; exact hz) hx
  have hx2 : x < 4294967296 := by have := okL_get h.ok (m / 32); omega
  have hb := or_bit h0 hx2 hs
  have hv := val_set hj ((x + 2 ^ (m % 32) : Nat) : Int)
  rw [hx] at hv
  simp only [Int.toNat_natCast] at hv
  have e2 : 2 ^ (m % 32) * 4294967296 ^ (m / 32) = 2 ^ m := by rw [base_pow, ← Nat.pow_add]; congr 1; omega
  rw [Nat.add_mul, e2] at hv
  have hV : val (q.set (m / 32) ((x + 2 ^ (m % 32) : Nat) : Int)) = val q + 2 ^ m := by omega
  refine ⟨h0, okL_set h.ok _ (limb_nat hb.2), by rw [List.length_set]; exact h.len, canB_limbs _, ?_, ?_, ?_⟩
  · rw [hV, val_limbs, h.v, Nat.add_mul, Nat.mul_comm (2 ^ m)]; omega
  · rw [val_limbs]
    have := h.lt
    rw [Nat.pow_succ, ← Nat.mul_assoc] at this
    omega
  · exact ⟨2 * z + 1, by rw [hV, hz, Nat.pow_succ, Nat.mul_add, Nat.mul_assoc, Nat.mul_one]⟩
theorem rdiv_run (a b : List Int) (ha : canB a) (hb : canB b) (hna : a.length < 1000000) (hnb : b.length < 1000000) : ∀ (m : Nat), m ≤ 32 * a.length → ∀ (q r : List Int), DivAt a b q r m →
    Ev (fun k => driftnetref01_div.l0 k b q r ((m : Int) - 1)) (limbs (val a / val b), limbs (val a % val b)) := by
  intro m
  induction m with
  | zero =>
    intro _ q r h
    have hlt : val r < val b := by have := h.lt; simpa using this
    have hq : val a / val b = val q := by
      rw [h.v, Nat.mul_comm, Nat.mul_add_div (by omega), Nat.div_eq_of_lt hlt, Nat.add_zero]
    have hr : val a % val b = val r := by
      rw [h.v, Nat.mul_comm, Nat.mul_add_mod, Nat.mod_eq_of_lt hlt]
    refine Ev.steps (f := fun k => (driftnetref01_trim.f k q).bind fun t => some (t, r)) (fun k => by simp only [driftnetref01_div.l0]; rw [if_neg (by omega)]) ?_
    refine Ev.bind (rtrim_ev h.ok (by rw [h.len]; omega)) (Ev.const ?_)
    rw [hq, hr, h.can.2]
  | succ m ih =>
    intro hm q r h
    have hlen := h.len
    have hs : m % 32 < 32 := Nat.mod_lt _ (by omega)
    have hra : r.length ≤ a.length := length_le_of_val h.can (Nat.lt_of_le_of_lt (by rw [h.v]; omega) (val_lt ha.1))
    have hdl : (limbs (val b * 2 ^ m)).length ≤ b.length + a.length := by
      refine limbs_length_le ?_
      have h1 := val_lt hb.1
      have h2 : 2 ^ m ≤ 4294967296 ^ a.length := by rw [base_pow]; exact Nat.pow_le_pow_right (by omega) (by omega)
      rw [Nat.pow_add]
      exact Nat.mul_lt_mul_of_lt_of_le h1 h2 (Nat.pow_pos (by omega))
    obtain ⟨x, hx, hx2⟩ := nat_of_ok h.ok (m / 32)
    have et : Int.tmod (m : Int) 32 = ((m % 32 : Nat) : Int) := rfl
    have eq : Int.tdiv (m : Int) 32 = ((m / 32 : Nat) : Int) := rfl
    refine Ev.steps (f := fun k => (driftnetref01_times.f k b (m : Int)).bind fun d => (driftnetref01_cmp.f k r d).bind fun c => if c ≥ 0 then (driftnetref01_sub.f k r d).bind fun s => driftnetref01_div.l0 k b (q.set (m / 32) (Go.bits .or .u32 (x : Int) (shl .u32 1 ((m % 32 : Nat) : Int)))) s ((m : Int) - 1) else driftnetref01_div.l0 k b q r ((m : Int) - 1)) (fun k => ?_) ?_
    · simp only [driftnetref01_div.l0]
      rw [show ((m + 1 : Nat) : Int) - 1 = (m : Int) by omega, if_pos (by omega), et, eq, w64 (n := ((m / 32 : Nat) : Int)) (by omega) (by omega), w64 (n := (m : Int) - 1) (by omega) (by omega), rd_nat, hx]
      have c1 : (0 : Int) ≤ ((m / 32 : Nat) : Int) := by omega
      have c2 : ((m / 32 : Nat) : Int) < (q.length : Int) := by omega
      have c3 : (0 : Int) ≤ ((m % 32 : Nat) : Int) := by omega
      simp only [if_pos c1, if_pos c2, if_pos c3, Int.toNat_natCast]
    · refine Ev.bind (rtimes_ev hb.1 m (by omega)) ?_
      refine Ev.bind (rcmp_ev h.can (canB_limbs _) (by omega) (by omega)) ?_
      rw [val_limbs]
      by_cases hc : val b * 2 ^ m ≤ val r
      · have hcmp : cmpI (val r) (val b * 2 ^ m) ≥ 0 := by unfold cmpI; rw [if_neg (by omega)]; split <;> omega
        obtain ⟨h0, hd⟩ := h.take (by omega) hc hx
        simp only [if_pos hcmp]
        have hsub := rsub_ev (a := r) (b := limbs (val b * 2 ^ m)) h.can.1 (okL_limbs _) (by omega) (by rw [val_limbs]; exact hc)
        rw [val_limbs] at hsub
        refine Ev.bind hsub ?_
        rw [(or_bit h0 hx2 hs).1]
        exact ih (by omega) _ _ hd
      · have hcmp : ¬ cmpI (val r) (val b * 2 ^ m) ≥ 0 := by unfold cmpI; rw [if_pos (by omega)]; omega
        simp only [if_neg hcmp]
        exact ih (by omega) _ _ (h.down (by omega))
theorem rdiv_ev {a b : List Int} (ha : canB a) (hb : canB b) (h0 : b ≠ []) (hna : a.length < 1000000) (hnb : b.length < 1000000) : Ev (fun k => driftnetref01_div.f k a b) (limbs (val a / val b), limbs (val a % val b)) := by
  have hb0 : val b ≠ 0 := fun e => h0 ((canB_val_zero hb).1 e)
  have hta := rtrim_ev ha.1 (by omega)
  have htb := rtrim_ev hb.1 (by omega)
  rw [ha.2] at hta
  rw [hb.2] at htb
  obtain ⟨nb, hb1, hb2, hb3, hb4, hbe⟩ := rbits_ev hb h0 (by omega)
  have hz : okL (List.replicate a.length 0) ∧ val (List.replicate a.length (0 : Int)) = 0 := ⟨okL_replicate _, val_zeros _⟩
  refine Ev.congr (f := fun k => (driftnetref01_trim.f k a).bind fun t => (driftnetref01_trim.f k b).bind fun u => (driftnetref01_bits.f k t).bind fun n => (driftnetref01_bits.f k u).bind fun m => driftnetref01_div.l0 k u (List.replicate a.length 0) t (wrap64 (n - m))) (fun k => ?_) ?_
  · unfold driftnetref01_div.f
    rw [if_pos (by omega), if_pos (by omega)]
    rfl
  refine Ev.bind hta (Ev.bind htb ?_)
  by_cases ha0 : a = []
  · subst ha0
    refine Ev.bind (a := 0) (Ev.const rfl) (Ev.bind hbe ?_)
    rw [w64 (by omega) (by omega)]
    have hrun := rdiv_run [] b canB_nil hb (by simp) hnb 0 (by omega) [] [] ⟨okL_nil, rfl, canB_nil, by simp [val], by simp [val]; omega, 0, rfl⟩
    refine Ev.steps (f := fun k => (driftnetref01_trim.f k (List.replicate ([] : List Int).length 0)).bind fun t => some (t, [])) (fun k => by simp only [driftnetref01_div.l0]; rw [if_neg (by omega)]) ?_
    refine Ev.bind (rtrim_ev (l := []) okL_nil (by simp)) (Ev.const ?_)
    simp [val, limbs_zero]
  · obtain ⟨na, ha1, ha2, ha3, ha4, hae⟩ := rbits_ev ha ha0 (by omega)
    refine Ev.bind hae (Ev.bind hbe ?_)
    rw [w64 (by omega) (by omega)]
    by_cases hlt : na < nb
    · have hab : val a < val b := Nat.lt_of_lt_of_le ha4 (Nat.le_trans (Nat.pow_le_pow_right (by omega) (by omega)) hb3)
      refine Ev.steps (f := fun k => (driftnetref01_trim.f k (List.replicate a.length 0)).bind fun t => some (t, a)) (fun k => by simp only [driftnetref01_div.l0]; rw [if_neg (by omega)]) ?_
      refine Ev.bind (rtrim_ev hz.1 (by simp; omega)) (Ev.const ?_)
      rw [hz.2, Nat.div_eq_of_lt hab, Nat.mod_eq_of_lt hab, ha.2]
    · have hrun := rdiv_run a b ha hb hna hnb (na - nb + 1) (by omega) (List.replicate a.length 0) a ⟨hz.1, by simp, ha, by rw [hz.2]; omega, ?_, 0, by rw [hz.2]; rfl⟩
      · rw [show ((na - nb + 1 : Nat) : Int) - 1 = (na : Int) - (nb : Int) by omega] at hrun
        exact hrun
      · refine Nat.lt_of_lt_of_le ha4 ?_
        rw [show na = (nb - 1) + (na - nb + 1) by omega, Nat.pow_add, show nb - 1 + (na - nb + 1) - nb + 1 = na - nb + 1 by omega]
        exact Nat.mul_le_mul_right _ hb3
theorem gcd_step (m n : Nat) : Nat.gcd n (m % n) = Nat.gcd m n := by rw [Nat.gcd_comm m n, Nat.gcd_comm n (m % n), ← Nat.gcd_rec]
theorem mod_length {a b : List Int} (hb : okL b) (h0 : val b ≠ 0) : (limbs (val a % val b)).length ≤ b.length :=
  limbs_length_le (Nat.lt_trans (Nat.mod_lt _ (by omega)) (val_lt hb))
theorem rgcd_run : ∀ (n : Nat) (x y : List Int), val y = n → canB x → canB y → x.length < 1000000 → y.length < 1000000 → Ev (fun k => driftnetref01_Gcd.l0 k x y) (limbs (Nat.gcd (val x) (val y)), 0) := by
  intro n
  induction n using Nat.strongRecOn with
  | _ n ih =>
    intro x y hn hx hy hlx hly
    by_cases h0 : y = []
    · subst h0
      refine Ev.steps (f := fun _ => some (x, 0)) (fun k => by simp only [driftnetref01_Gcd.l0]; rw [if_neg (by simp)]) (Ev.const ?_)
      rw [val_nil, Nat.gcd_zero_right, hx.2]
    · have hy0 : val y ≠ 0 := fun e => h0 ((canB_val_zero hy).1 e)
      have hp := List.length_pos_iff.2 h0
      refine Ev.steps (f := fun k => (driftnetref01_div.f k x y).bind fun t => driftnetref01_Gcd.l0 k y t.2) (fun k => by simp only [driftnetref01_Gcd.l0]; rw [if_pos (by omega)]) ?_
      refine Ev.bind (rdiv_ev hx hy h0 hlx hly) ?_
      have hlt := Nat.mod_lt (val x) (show val y > 0 by omega)
      have := ih (val x % val y) (by omega) y (limbs (val x % val y)) (val_limbs _) hy (canB_limbs _) hly (Nat.lt_of_le_of_lt (mod_length hy.1 hy0) hly)
      rw [val_limbs, gcd_step] at this
      exact this
theorem cmpI_neg {m n : Nat} : cmpI m n < 0 ↔ m < n := by
  unfold cmpI
  by_cases h : m < n
  · simp [h]
  · by_cases h2 : n < m <;> simp [h, h2]
theorem gcd_run : ∀ (n : Nat) (x y : List Int), val y = n → canB x → canB y → x.length < 999999 → y.length < 999999 → Ev (fun k => nat_Gcd.l0 k x y) (limbs (Nat.gcd (val x) (val y)), 0) := by
  intro n
  induction n using Nat.strongRecOn with
  | _ n ih =>
    intro x y hn hx hy hlx hly
    by_cases h0 : y = []
    · subst h0
      refine Ev.steps (f := fun _ => some (x, 0)) (fun k => by simp only [nat_Gcd.l0]; rw [if_neg (by simp)]) (Ev.const ?_)
      rw [val_nil, Nat.gcd_zero_right, hx.2]
    · have hy0 : val y ≠ 0 := fun e => h0 ((canB_val_zero hy).1 e)
      have hp := List.length_pos_iff.2 h0
      refine Ev.steps (f := fun k => (nat_divide.f k x y).bind fun t => nat_Gcd.l0 k y t.2) (fun k => by simp only [nat_Gcd.l0]; rw [if_pos (by omega)]) ?_
      refine Ev.bind (divide_ev hx hy h0 hlx hly) ?_
      have hlt := Nat.mod_lt (val x) (show val y > 0 by omega)
      have := ih (val x % val y) (by omega) y (limbs (val x % val y)) (val_limbs _) hy (canB_limbs _) hly (Nat.lt_of_le_of_lt (mod_length hy.1 hy0) hly)
      rw [val_limbs, gcd_step] at this
      exact this

theorem chk2_zero {a b : List Int} (ha : okL a) (hb : okL b) (h : chk2 a b = 0) : (a.length ≤ 64 ∧ canB a) ∧ (b.length ≤ 64 ∧ canB b) := by
  unfold chk2 at h
  by_cases h1 : chk a = 0
  · rw [if_pos h1] at h; exact ⟨(chk_zero ha).1 h1, (chk_zero hb).1 h⟩
  · rw [if_neg h1] at h; exact absurd h h1
theorem chk2_of {a b : List Int} (ha : canB a) (hb : canB b) (hna : a.length ≤ 64) (hnb : b.length ≤ 64) : chk2 a b = 0 := by
  unfold chk2
  rw [if_pos ((chk_zero ha.1).2 ⟨hna, ha⟩)]
  exact (chk_zero hb.1).2 ⟨hnb, hb⟩
def subS (a b : List Int) : List Int × Int := if chk2 a b = 0 then (if val a < val b then ([], 9) else (limbs (val a - val b), 0)) else ([], chk2 a b)
def divS (a b : List Int) : List Int × List Int × Int := if chk2 a b = 0 then (if b = [] then ([], [], 21) else (limbs (val a / val b), limbs (val a % val b), 0)) else ([], [], chk2 a b)
def gcdS (a b : List Int) : List Int × Int := if chk2 a b = 0 then (limbs (Nat.gcd (val a) (val b)), 0) else ([], chk2 a b)
theorem ev_ite {α : Type} {c : Prop} [Decidable c] {f g : Nat → Option α} {x y : α} (h1 : c → Ev f x) (h2 : ¬ c → Ev g y) : Ev (fun k => if c then f k else g k) (if c then x else y) := by
  by_cases h : c
  · simp only [if_pos h]; exact h1 h
  · simp only [if_neg h]; exact h2 h

theorem Sub_ev {a b : List Int} (ha : okL a) (hb : okL b) : Ev (fun k => nat_Sub.f k a b) (subS a b) := by
  refine Ev.congr (f := fun k => if chk2 a b = 0 then (nat_compare.f k a b).bind fun t => if t < 0 then some ([], 9) else (nat_minus.f k a b).bind fun t => some (t, 0) else some ([], chk2 a b)) (fun k => by unfold nat_Sub.f; rw [both]; rfl) ?_
  refine ev_ite (fun h => ?_) (fun _ => Ev.const rfl)
  obtain ⟨h1, h2⟩ := chk2_zero ha hb h
  refine Ev.bind (compare_ev h1.2 h2.2 (by omega) (by omega)) ?_
  simp only [cmpI_neg]
  exact ev_ite (fun _ => Ev.const rfl) (fun h3 => Ev.bind (minus_ev ha hb (by omega) (by omega)) (Ev.const rfl))
theorem Div_ev {a b : List Int} (ha : okL a) (hb : okL b) : Ev (fun k => nat_Div.f k a b) (divS a b) := by
  refine Ev.congr (f := fun k => if chk2 a b = 0 then (if b = [] then some ([], [], 21) else (nat_divide.f k a b).bind fun t => some (t.1, t.2, 0)) else some ([], [], chk2 a b)) (fun k => by
    unfold nat_Div.f; rw [both]; simp only [Option.bind_some]
    by_cases h0 : b = []
    · subst h0; rfl
    · have := List.length_pos_iff.2 h0
      rw [if_neg (show ¬ ((b.length : Int) = 0) by omega), if_neg h0]) ?_
  refine ev_ite (fun h => ?_) (fun _ => Ev.const rfl)
  obtain ⟨h1, h2⟩ := chk2_zero ha hb h
  exact ev_ite (fun _ => Ev.const rfl) (fun h0 => Ev.bind (divide_ev h1.2 h2.2 h0 (by omega) (by omega)) (Ev.const rfl))
theorem rDiv_ev {a b : List Int} (ha : okL a) (hb : okL b) : Ev (fun k => driftnetref01_Div.f k a b) (divS a b) := by
  refine Ev.congr (f := fun k => if chk2 a b = 0 then (if b = [] then some ([], [], 21) else (driftnetref01_div.f k a b).bind fun t => some (t.1, t.2, 0)) else some ([], [], chk2 a b)) (fun k => by
    unfold driftnetref01_Div.f; rw [two]; simp only [Option.bind_some]
    by_cases h0 : b = []
    · subst h0; rfl
    · have := List.length_pos_iff.2 h0
      rw [if_neg (show ¬ ((b.length : Int) = 0) by omega), if_neg h0]) ?_
  refine ev_ite (fun h => ?_) (fun _ => Ev.const rfl)
  obtain ⟨h1, h2⟩ := chk2_zero ha hb h
  exact ev_ite (fun _ => Ev.const rfl) (fun h0 => Ev.bind (rdiv_ev h1.2 h2.2 h0 (by omega) (by omega)) (Ev.const rfl))
theorem Gcd_ev {a b : List Int} (ha : okL a) (hb : okL b) : Ev (fun k => nat_Gcd.f k a b) (gcdS a b) := by
  by_cases h : chk2 a b = 0
  · obtain ⟨h1, h2⟩ := chk2_zero ha hb h
    have e1 : slices_Clone_uint32_uint32.f a = some a := by unfold slices_Clone_uint32_uint32.f; rw [if_pos (by omega)]
    have e2 : slices_Clone_uint32_uint32.f b = some b := by unfold slices_Clone_uint32_uint32.f; rw [if_pos (by omega)]
    refine Ev.congr (f := fun k => nat_Gcd.l0 k a b) (fun k => by unfold nat_Gcd.f; rw [both, e1, e2]; simp only [Option.bind_some]; rw [if_pos h]) ?_
    have := gcd_run _ a b rfl h1.2 h2.2 (by omega) (by omega)
    unfold gcdS; rw [if_pos h]; exact this
  · refine Ev.congr (f := fun k => some ([], chk2 a b)) (fun k => by unfold nat_Gcd.f; rw [both]; simp only [Option.bind_some]; rw [if_neg h]) ?_
    unfold gcdS; rw [if_neg h]; exact Ev.const rfl
theorem rGcd_ev {a b : List Int} (ha : okL a) (hb : okL b) : Ev (fun k => driftnetref01_Gcd.f k a b) (gcdS a b) := by
  refine Ev.congr (f := fun k => if chk2 a b = 0 then (driftnetref01_trim.f k a).bind fun t => (driftnetref01_trim.f k b).bind fun u => driftnetref01_Gcd.l0 k t u else some ([], chk2 a b)) (fun k => by unfold driftnetref01_Gcd.f; rw [two]; rfl) ?_
  refine ev_ite (fun h => ?_) (fun _ => Ev.const rfl)
  obtain ⟨h1, h2⟩ := chk2_zero ha hb h
  have hta := rtrim_ev ha (by omega)
  have htb := rtrim_ev hb (by omega)
  rw [h1.2.2] at hta
  rw [h2.2.2] at htb
  exact Ev.bind hta (Ev.bind htb (rgcd_run _ a b rfl h1.2 h2.2 (by omega) (by omega)))
end Go.Proofs.YtbejniapdlgpiaaDoor.E
