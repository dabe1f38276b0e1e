/- The long division of the program, digit by digit: what its loops come to in plain numbers. -/
import Derived.Test.YtbejniapdlgpiaaDoorQiED
namespace Go.Proofs.YtbejniapdlgpiaaDoor.E
open Go.RowKit Go.Proofs.YtbejniapdlgpiaaDoorW.PrintWords Go.Proofs.YtbejniapdlgpiaaDoorW.PrintLast Go.Proofs.YtbejniapdlgpiaaDoorW.PrintMore Go.Proofs.YtbejniapdlgpiaaDoor.M Go.Proofs.YtbejniapdlgpiaaDoor.P

theorem clone_f {a : List Int} (h : a.length < 35184372088832) : slices_Clone_uint32_uint32.f a = some a := by unfold slices_Clone_uint32_uint32.f; rw [if_pos h]
theorem cmpI_pos {m n : Nat} : cmpI m n ≤ 0 ↔ m ≤ n := by
  unfold cmpI
  by_cases h : m < n
  · simp [h]; omega
  · by_cases h2 : n < m <;> simp [h, h2] <;> omega

theorem l1_ev {by_ part : List Int} (hb : canB by_) (hp : okL part) (hlb : by_.length < 1000000) (hlp : part.length < 1000000) (h0 : 0 < val by_) (hd : val part / val by_ < 4294967296) :
    ∀ (d g : Nat), g = val part / val by_ + d → g < 4294967296 → Ev (fun k => nat_divide.l1 k by_ part g) (val part / val by_, limbs (val part - val part / val by_ * val by_)) := by
  intro d
  induction d with
  | zero =>
    intro g hg hgl
    rw [Nat.add_zero] at hg
    have hle : g * val by_ ≤ val part := by rw [hg]; exact Nat.div_mul_le_self _ _
    have hstep : ∀ nx : Nat → Option (Nat × List Int), Ev (fun k => nat_divide.step k by_ part g (nx k)) (g, limbs (val part - g * val by_)) := by
      intro nx
      unfold nat_divide.step
      refine Ev.bind (of_ev (n := (g : Int)) (by omega) (by omega)) ?_
      refine Ev.bind (times_ev (okL_limbs _) hb.1 (Nat.lt_of_le_of_lt (limbs_length_le (m := 1) (by simpa using hgl)) (by omega)) (by omega)) ?_
      simp only [clone_f (show part.length < 35184372088832 by omega), Option.bind_some]
      refine Ev.bind (trim_ev hp (by omega)) ?_
      have hv : val (limbs (g : Int).toNat) = g := by rw [val_limbs]; rfl
      rw [hv]
      refine Ev.bind (compare_ev (canB_limbs _) (canB_limbs _) (Nat.lt_of_le_of_lt (limbs_length_le (m := by_.length + 1) ?_) (by omega)) (Nat.lt_of_le_of_lt (limbs_length_le (val_lt hp)) (by omega))) ?_
      · rw [Nat.pow_succ, Nat.mul_comm]
        exact Nat.mul_lt_mul_of_lt_of_le (val_lt hb.1) (Nat.le_of_lt hgl) (by omega)
      · rw [val_limbs, val_limbs]
        simp only [if_pos (cmpI_pos.2 hle)]
        refine Ev.bind (minus_ev hp (okL_limbs _) (by omega) (by rw [val_limbs]; exact hle)) ?_
        rw [val_limbs]
        have hl : (limbs (val part - g * val by_)).length ≤ part.length := limbs_length_le (Nat.lt_of_le_of_lt (Nat.sub_le _ _) (val_lt hp))
        rw [if_pos hl]
        exact Ev.const rfl
    rw [← hg]
    cases g with
    | zero => exact hstep (fun _ => none)
    | succ g => exact hstep (fun k => nat_divide.l1 k by_ part g)
  | succ d ih =>
    intro g hg hgl
    obtain ⟨g, rfl⟩ : ∃ g', g = g' + 1 := ⟨val part / val by_ + d, hg⟩
    have hgt : val part < (g + 1) * val by_ := by
      have h1 := Nat.lt_mul_div_succ (val part) h0
      have h2 : val by_ * (val part / val by_ + 1) ≤ (g + 1) * val by_ := by rw [Nat.mul_comm]; exact Nat.mul_le_mul_right _ (by rw [hg]; exact Nat.add_le_add_left (by omega) _)
      omega
    show Ev (fun k => nat_divide.step k by_ part (g + 1) (nat_divide.l1 k by_ part g)) _
    unfold nat_divide.step
    refine Ev.bind (of_ev (n := ((g + 1 : Nat) : Int)) (by omega) (by omega)) ?_
    refine Ev.bind (times_ev (okL_limbs _) hb.1 (Nat.lt_of_le_of_lt (limbs_length_le (m := 1) (by simpa using hgl)) (by omega)) (by omega)) ?_
    simp only [clone_f (show part.length < 35184372088832 by omega), Option.bind_some]
    refine Ev.bind (trim_ev hp (by omega)) ?_
    have hv : val (limbs ((g + 1 : Nat) : Int).toNat) = g + 1 := by rw [val_limbs]; rfl
    rw [hv]
    refine Ev.bind (compare_ev (canB_limbs _) (canB_limbs _) (Nat.lt_of_le_of_lt (limbs_length_le (m := by_.length + 1) ?_) (by omega)) (Nat.lt_of_le_of_lt (limbs_length_le (val_lt hp)) (by omega))) ?_
    · rw [Nat.pow_succ, Nat.mul_comm]
      exact Nat.mul_lt_mul_of_lt_of_le (val_lt hb.1) (Nat.le_of_lt hgl) (by omega)
    · rw [val_limbs, val_limbs]
      simp only [if_neg (fun h => absurd (cmpI_pos.1 h) (by omega) : ¬ cmpI ((g + 1) * val by_) (val part) ≤ 0)]
      exact ih g (by have : g + 1 = (val part / val by_ + d) + 1 := hg
                     exact Nat.succ.inj this) (by omega)

/-- What holds in the division, digits i and above being done: V is what is divided. -/
structure KnuthAt (V B n : Nat) (i : Nat) (left q : List Int) : Prop where
  okl : okL left
  okq : okL q
  v : V = val left + val q * B
  lt : val left < B * 4294967296 ^ i
  z : ∀ j, j < i → q.getD j 0 = 0
  i_le : i ≤ q.length
  len : left.length = q.length + n

theorem lt_bitLen : ∀ (x : Nat), x < 18446744073709551616 → x < 2 ^ Lib.bitLen x := by
  intro x
  induction x using Nat.strongRecOn with
  | _ x ih =>
    intro hx
    by_cases h : x = 0
    · subst h; exact Nat.two_pow_pos _
    · have := ih (x / 2) (by omega) (by omega)
      rw [Lib.bitLen_half x h hx, Nat.add_comm, Nat.pow_succ]
      omega
theorem mul_pow_le {x p P y : Nat} (h : x < P) (hp : P * p = 4294967296) (hy : y ≤ x) : (y + 1) * p ≤ 4294967296 := by
  rw [← hp]; exact Nat.mul_le_mul_right _ (by omega)
/-- How far up the divisor goes. -/
theorem lead {x : Nat} (h0 : 0 < x) (hx : x < 4294967296) : ∃ s : Nat, s < 32 ∧ bits_LeadingZeros32.f (x : Int) = some (s : Int) ∧ (x + 1) * 2 ^ s ≤ 4294967296 := by
  have h1 := lt_bitLen x (by omega)
  have h2 := Lib.bitLen_le x 32 (by omega) (by simpa using hx)
  have h3 : 1 ≤ Lib.bitLen x := by
    rcases Nat.eq_zero_or_pos (Lib.bitLen x) with h | h
    · rw [h] at h1; omega
    · exact h
  refine ⟨32 - Lib.bitLen x, by omega, ?_, mul_pow_le h1 (by rw [← Nat.pow_add, show Lib.bitLen x + (32 - Lib.bitLen x) = 32 by omega]) (Nat.le_refl _)⟩
  unfold bits_LeadingZeros32.f
  rw [if_pos (by omega), Int.toNat_natCast]
  congr 1
  omega

theorem shifted_run (a : List Int) (ha : okL a) (s : Nat) (hs : s < 32) (hn : a.length < 1099511627776) : ∀ (d i : Nat), a.length - i = d → i ≤ a.length → ∀ (out : List Int), UpAt a 0 s i out → out.length = a.length + 1 →
    ∃ r, okL r ∧ r.length = a.length + 1 ∧ val r = val a * 2 ^ s ∧ ∀ k, d < k → nat_shifted.l0 k (s : Int) out a (a.length : Int) (i : Int) = some r := by
  intro d
  induction d with
  | zero =>
    intro i hd hi out h hl
    obtain rfl : i = a.length := by omega
    refine ⟨out, h.ok, hl, by rw [h.v, List.take_length, Nat.pow_zero, Nat.mul_one], fun k hk => ?_⟩
    obtain ⟨k, rfl⟩ : ∃ m, k = m + 1 := ⟨k - 1, by omega⟩
    simp only [nat_shifted.l0]
    rw [if_neg (by omega)]
  | succ d ih =>
    intro i hd hi out h hl
    have c1 : (i : Int) < (a.length : Int) := by omega
    have c2 : (0 : Int) ≤ (i : Int) := by omega
    have c3 : (0 : Int) ≤ (s : Int) := by omega
    have c4 : (i : Int) < (out.length : Int) := by omega
    have c5 : (0 : Int) ≤ ((i + 1 : Nat) : Int) := by omega
    have c6 : ((i + 1 : Nat) : Int) < (out.length : Int) := by omega
    have ew : wrap64 ((i : Int) + 1) = ((i + 1 : Nat) : Int) := (w64 (by omega) (by omega)).trans (by omega)
    obtain ⟨x, hx, hx2⟩ := nat_of_ok ha i
    obtain ⟨o, ho, _⟩ := nat_of_ok h.ok (i + 0)
    obtain ⟨h3, h2, h1, ho2, hs2⟩ := h.step hs (by omega) hx hx2 ho
    have hB2 : 2 ^ s ≤ 2 ^ 31 := Nat.pow_le_pow_right (by omega) (by omega)
    have hlo : (x * 2 ^ s) % 4294967296 < 4294967296 := Nat.mod_lt _ (by omega)
    have hor := or_low ho2 (by omega) h1 hlo
    have hhi : (x * 2 ^ s) / 4294967296 < 4294967296 := Nat.lt_trans h2 (by omega)
    obtain ⟨r, hr1, hr2, hr3, hr4⟩ := ih (i + 1) (by omega) (by omega) _ hs2 (by simp only [List.length_set]; exact hl)
    refine ⟨r, hr1, hr2, hr3, fun k hk => ?_⟩
    obtain ⟨k, rfl⟩ : ∃ m, k = m + 1 := ⟨k - 1, by omega⟩
    simp only [nat_shifted.l0]
    rw [ew, if_pos c1, if_pos c2, if_pos c1, if_pos c3, if_pos c4, if_pos c5, if_pos c6, rd_nat, rd_nat, hx, shl64 hx2 hs, show out.getD i 0 = (o : Int) from ho, show (((x * 2 ^ s : Nat) : Int)) % 4294967296 = (((x * 2 ^ s) % 4294967296 : Nat) : Int) from rfl, hor,
      show (((x * 2 ^ s : Nat) : Int)) / 4294967296 = (((x * 2 ^ s) / 4294967296 : Nat) : Int) from rfl, nat_emod hhi, Int.toNat_natCast, Int.toNat_natCast]
    exact hr4 k (by omega)
theorem shifted_ev {a : List Int} (ha : okL a) {s : Nat} (hs : s < 32) (hn : a.length < 1000000) : ∃ r, okL r ∧ r.length = a.length + 1 ∧ val r = val a * 2 ^ s ∧ Ev (fun k => nat_shifted.f k a (s : Int)) r := by
  obtain ⟨r, h1, h2, h3, h4⟩ := shifted_run a ha s hs (by omega) a.length 0 (by omega) (by omega) (List.replicate (a.length + 1) 0) ⟨okL_replicate _, by rw [getD_zeros]; exact_mod_cast Nat.two_pow_pos s, fun j _ => getD_zeros _ _, by simp [val_zeros, val]⟩ (by simp)
  refine ⟨r, h1, h2, h3, Ev.mk a.length fun k hk => ?_⟩
  unfold nat_shifted.f
  have ew : wrap64 ((a.length : Int) + 1) = ((a.length + 1 : Nat) : Int) := by rw [w64 (by omega) (by omega)]; omega
  rw [ew, if_pos (by omega), if_pos (by omega), Int.toNat_natCast]
  exact h4 k hk

theorem top_eq {x y : Nat} (hx : x < 4294967296) (hy : y < 4294967296) : nat_divide.topOf (x : Int) (y : Int) = ((x * 4294967296 + y : Nat) : Int) := by
  unfold nat_divide.topOf
  rw [u64n (by omega), u64n (by omega), show (x : Int) * 4294967296 = ((x * 4294967296 : Nat) : Int) by omega, u64n (by omega),
    (bits_nat .u64 64 (by decide) (fun n h0 h => u64w h0 (by omega)) (x * 4294967296) y (by omega) (by omega)).2]
  have hy' : y < 2 ^ 32 := hy
  rw [show x * 4294967296 = 2 ^ 32 * x by omega, ← Nat.two_pow_add_eq_or_of_lt hy']
theorem mn_nat (q : Nat) : mn (q : Int) 4294967295 = ((min q 4294967295 : Nat) : Int) := by
  unfold mn
  by_cases h : (4294967295 : Int) < (q : Int)
  · rw [if_pos h, Nat.min_eq_right (by omega)]; omega
  · rw [if_neg h, Nat.min_eq_left (by omega)]
theorem guess_eq {x y z : Nat} (hx : x < 4294967296) (hy : y < 4294967296) (hz : z < 4294967296) : nat_divide.guessOf (x : Int) (y : Int) (z : Int) = ((min ((x * 4294967296 + y) / z) 4294967295 : Nat) : Int) := by
  unfold nat_divide.guessOf
  rw [top_eq hx hy, u64n (by omega), show Int.tdiv ((x * 4294967296 + y : Nat) : Int) (z : Int) = (((x * 4294967296 + y) / z : Nat) : Int) from rfl, u64n (Nat.lt_of_le_of_lt (Nat.div_le_self _ _) (by omega))]
  exact mn_nat _

theorem val_split3 (l : List Int) (i m : Nat) (h : i + m ≤ l.length) : val l = val (l.take i) + 4294967296 ^ i * (val ((l.take (i + m)).drop i) + 4294967296 ^ m * val (l.drop (i + m))) := by
  rw [val_take_drop l i (by omega), val_take_drop (l.drop i) m (by rw [List.length_drop]; omega), List.drop_drop]
  congr 4
  rw [List.drop_take, Nat.add_sub_cancel_left]
theorem lay_val {lf r : List Int} {n i : Nat} (hl : i + n + 1 ≤ lf.length) (hr : r.length ≤ n + 1) : val (nat_divide.lay lf r n i) = val (lf.take i) + 4294967296 ^ i * (val r + 4294967296 ^ (n + 1) * val (lf.drop (i + n + 1))) := by
  unfold nat_divide.lay
  rw [List.append_assoc, val_append, List.length_take, Nat.min_eq_left (by omega), val_append, val_append, val_zeros, List.length_append, List.length_replicate, Nat.add_sub_cancel' hr, Nat.mul_zero, Nat.add_zero]
theorem okL_lay {lf r : List Int} (h : okL lf) (hr : okL r) (n i : Nat) : okL (nat_divide.lay lf r n i) :=
  okL_append.2 ⟨okL_append.2 ⟨okL_take h _, okL_append.2 ⟨hr, okL_replicate _⟩⟩, okL_drop h _⟩

/-- The digit that is guessed is none too small. -/
theorem guess_ge {P B n x y z Plo Blo : Nat} (hP : P = Plo + 4294967296 ^ n * (y + 4294967296 * x)) (hPlo : Plo < 4294967296 ^ n) (hB : B = Blo + 4294967296 ^ n * z) (hz : 0 < z) (hd : P / B < 4294967296) : P / B ≤ min ((x * 4294967296 + y) / z) 4294967295 := by
  refine Nat.le_min.2 ⟨?_, by omega⟩
  rw [Nat.le_div_iff_mul_le hz]
  have h1 : P / B * B ≤ P := Nat.div_mul_le_self _ _
  have h2 : 4294967296 ^ n * (P / B * z) ≤ P / B * B := by
    rw [hB, Nat.mul_add, Nat.mul_left_comm]
    exact Nat.le_add_left _ _
  have h3 : P < 4294967296 ^ n * (x * 4294967296 + y + 1) := by
    rw [hP, Nat.mul_add (4294967296 ^ n) (x * 4294967296 + y) 1, Nat.mul_one, show y + 4294967296 * x = x * 4294967296 + y by omega]
    omega
  have h4 := Nat.lt_of_mul_lt_mul_left (Nat.lt_of_le_of_lt (Nat.le_trans h2 h1) h3)
  omega

/-- One digit: what holds one digit on. -/
theorem KnuthAt.step {V B n i : Nat} {left q : List Int} (h : KnuthAt V B n (i + 1) left q) (hB : B < 4294967296 ^ n) (hB0 : 0 < B) {P : Nat} (hP : P = val ((left.take (i + (n + 1))).drop i)) :
    P / B < 4294967296 ∧ KnuthAt V B n i (nat_divide.lay left (limbs (P - P / B * B)) n i) (q.set i ((P / B : Nat) : Int)) := by
  have hlen : i + (n + 1) ≤ left.length := by have := h.len; have := h.i_le; omega
  have hs := val_split3 left i (n + 1) hlen
  have hlo := val_lt (okL_take h.okl i)
  rw [List.length_take, Nat.min_eq_left (by omega)] at hlo
  have hlt := h.lt
  rw [Nat.pow_succ] at hlt
  have hp : 0 < 4294967296 ^ i := Nat.pow_pos (by omega)
  rw [← hP] at hs
  have hmid : P + 4294967296 ^ (n + 1) * val (left.drop (i + (n + 1))) < B * 4294967296 := by
    refine Nat.lt_of_mul_lt_mul_left (a := 4294967296 ^ i) ?_
    rw [show 4294967296 ^ i * (B * 4294967296) = B * (4294967296 ^ i * 4294967296) by rw [Nat.mul_left_comm]]
    omega
  have hz : val (left.drop (i + (n + 1))) = 0 := by
    rcases Nat.eq_zero_or_pos (val (left.drop (i + (n + 1)))) with h0 | h0
    · exact h0
    · have h1 : 4294967296 ^ (n + 1) * 1 ≤ 4294967296 ^ (n + 1) * val (left.drop (i + (n + 1))) := Nat.mul_le_mul_left _ h0
      rw [Nat.pow_succ] at h1
      rw [Nat.pow_succ] at hmid
      omega
  rw [hz, Nat.mul_zero, Nat.add_zero] at hmid hs
  have hd : P / B < 4294967296 := by rw [Nat.div_lt_iff_lt_mul hB0, Nat.mul_comm]; exact hmid
  have hdm := Nat.div_add_mod P B
  have hmod := Nat.mod_lt P hB0
  have hrest : P - P / B * B = P % B := by rw [Nat.mul_comm]; omega
  have hrl : (limbs (P % B)).length ≤ n + 1 := Nat.le_succ_of_le (limbs_length_le (Nat.lt_trans hmod hB))
  have hv := lay_val (lf := left) (r := limbs (P % B)) (n := n) (i := i) (by omega) hrl
  rw [show i + n + 1 = i + (n + 1) from rfl, hz, Nat.mul_zero, Nat.add_zero, val_limbs] at hv
  have hqi : i < q.length := by have := h.i_le; omega
  have hq := set_val hqi (h.z i (by omega)) (P / B)
  refine ⟨hd, okL_lay h.okl (by rw [hrest]; exact okL_limbs _) _ _, okL_set h.okq _ (limb_nat hd), ?_, ?_, ?_, ?_, ?_⟩
  · rw [hrest, hv, hq, h.v, hs, Nat.add_mul]
    have e1 : P / B * 4294967296 ^ i * B = 4294967296 ^ i * (B * (P / B)) := by rw [Nat.mul_comm (P / B), Nat.mul_assoc, Nat.mul_comm (P / B)]
    have e2 : 4294967296 ^ i * P = 4294967296 ^ i * (B * (P / B)) + 4294967296 ^ i * (P % B) := by rw [← Nat.mul_add, hdm]
    rw [e1, e2]
    omega
  · rw [hrest, hv]
    have e1 : 4294967296 ^ i * (P % B + 1) ≤ 4294967296 ^ i * B := Nat.mul_le_mul_left _ hmod
    rw [Nat.mul_add, Nat.mul_one] at e1
    rw [Nat.mul_comm B]
    omega
  · intro j hj
    rw [getD_set_ne _ (by omega)]
    exact h.z j (by omega)
  · rw [List.length_set]; have := h.i_le; omega
  · rw [nat_divide.lay_length _ _ _ _ (by omega) (by rw [hrest]; exact hrl), List.length_set]
    exact h.len
theorem l0_ev {V B n : Nat} {by_ : List Int} (hb : canB by_) (hB : val by_ = B) (hn : by_.length = n) (h0 : 0 < n) (hn2 : n < 999999) : ∀ (i : Nat) (left q : List Int), left.length < 2000000 → KnuthAt V B n i left q →
    ∃ left' q', KnuthAt V B n 0 left' q' ∧ q'.length = q.length ∧ Ev (fun k => nat_divide.l0 k by_ i left q) (left', q') := by
  have hBlt : B < 4294967296 ^ n := by rw [← hB, ← hn]; exact val_lt hb.1
  have hB0 : 0 < B := by
    have := (canB_val_zero hb).1
    rcases Nat.eq_zero_or_pos B with h | h
    · rw [hB] at this; rw [this h] at hn; simp at hn; omega
    · exact h
  intro i
  induction i with
  | zero => intro left q _ h; exact ⟨left, q, h, rfl, Ev.const rfl⟩
  | succ i ih =>
    intro left q hl h
    obtain ⟨hd, hs⟩ := h.step hBlt hB0 rfl
    have hlen : i + (n + 1) ≤ left.length := by have := h.len; have := h.i_le; omega
    have hiq : i < q.length := by have := h.i_le; omega
    have hrl : (limbs (val ((left.take (i + (n + 1))).drop i) - val ((left.take (i + (n + 1))).drop i) / B * B)).length ≤ n + 1 := by
      refine Nat.le_succ_of_le (limbs_length_le (Nat.lt_of_le_of_lt ?_ (Nat.lt_trans (Nat.mod_lt (val ((left.take (i + (n + 1))).drop i)) hB0) hBlt)))
      have e := Nat.div_add_mod (val ((left.take (i + (n + 1))).drop i)) B
      rw [Nat.mul_comm] at e
      exact Nat.sub_le_iff_le_add'.2 (Nat.le_of_eq e.symm)
    obtain ⟨left', q', hk, hql, he⟩ := ih _ _ (by rw [nat_divide.lay_length _ _ _ _ (by omega) hrl]; exact hl) hs
    · refine ⟨left', q', hk, by rw [hql, List.length_set], ?_⟩
      obtain ⟨P, hP⟩ : ∃ P, P = val ((left.take (i + (n + 1))).drop i) := ⟨_, rfl⟩
      rw [← hP] at hd he
      obtain ⟨x, hx, hx2⟩ := nat_of_ok h.okl (i + n)
      obtain ⟨y, hy, hy2⟩ := nat_of_ok h.okl (i + n - 1)
      obtain ⟨z, hz, hz2⟩ := nat_of_ok hb.1 (n - 1)
      have hbne : by_ ≠ [] := by rintro rfl; simp at hn; omega
      have hz0 : 0 < z := by
        have h1 := canB_last hb
        rw [last_rd hbne, hn, hz] at h1
        rcases Nat.eq_zero_or_pos z with h2 | h2
        · rw [h2] at h1; exact absurd rfl h1
        · exact h2
      have hpo : okL ((left.take (i + (n + 1))).drop i) := okL_drop (okL_take h.okl _) _
      have hpl : ((left.take (i + (n + 1))).drop i).length = n + 1 := by rw [List.length_drop, List.length_take]; omega
      have hpg : ∀ j, j < n + 1 → ((left.take (i + (n + 1))).drop i).getD j 0 = left.getD (i + j) 0 := by
        intro j hj
        simp only [List.getD_eq_getElem?_getD, List.getElem?_drop, List.getElem?_take]
        rw [if_pos (by omega)]
      have hPs : P = val (((left.take (i + (n + 1))).drop i).take (n - 1)) + 4294967296 ^ (n - 1) * (y + 4294967296 * x) := by
        have h1 := val_take_drop ((left.take (i + (n + 1))).drop i) (n - 1) (by omega)
        have h2 := val_drop_succ ((left.take (i + (n + 1))).drop i) (n - 1) (by omega)
        have h3 := val_drop_succ ((left.take (i + (n + 1))).drop i) (n - 1 + 1) (by omega)
        rw [List.drop_of_length_le (i := n - 1 + 1 + 1) (by omega), val_nil, hpg _ (by omega), show i + (n - 1 + 1) = i + n by omega, hx, Int.toNat_natCast] at h3
        rw [hpg _ (by omega), show i + (n - 1) = i + n - 1 by omega, hy, Int.toNat_natCast, h3] at h2
        rw [hP, h1, h2]
        simp only [Nat.mul_zero, Nat.add_zero]
      have hPlo := val_lt (okL_take hpo (n - 1))
      rw [List.length_take, Nat.min_eq_left (by omega)] at hPlo
      have hBs : B = val (by_.take (n - 1)) + 4294967296 ^ (n - 1) * z := by
        have h1 := val_take_drop by_ (n - 1) (by omega)
        have h2 := val_drop_succ by_ (n - 1) (by omega)
        rw [List.drop_of_length_le (i := n - 1 + 1) (by omega), val_nil, hz, Int.toNat_natCast] at h2
        rw [← hB, h1, h2]
        simp only [Nat.mul_zero, Nat.add_zero]
      have hge := guess_ge hPs hPlo hBs hz0 hd
      have hg : nat_divide.guessOf (rd left ((i + by_.length : Nat) : Int)) (rd left ((i + by_.length - 1 : Nat) : Int)) (rd by_ ((by_.length - 1 : Nat) : Int)) = ((min ((x * 4294967296 + y) / z) 4294967295 : Nat) : Int) := by
        rw [hn, rd_nat, rd_nat, rd_nat, hx, hy, hz, guess_eq hx2 hy2 hz2]
      have hcond : i + by_.length < left.length ∧ i < q.length ∧ IntKind.u64.wrap (rd by_ ((by_.length - 1 : Nat) : Int)) ≠ 0 ∧ 0 ≤ nat_divide.guessOf (rd left ((i + by_.length : Nat) : Int)) (rd left ((i + by_.length - 1 : Nat) : Int)) (rd by_ ((by_.length - 1 : Nat) : Int)) := by
        refine ⟨by omega, hiq, ?_, by rw [hg]; exact Int.natCast_nonneg _⟩
        rw [hn, rd_nat, hz, u64n (q := z) (by omega)]
        omega
      obtain ⟨D, hD⟩ : ∃ D, min ((x * 4294967296 + y) / z) 4294967295 = P / B + D := ⟨_, (Nat.add_sub_cancel' hge).symm⟩
      have hgl : min ((x * 4294967296 + y) / z) 4294967295 < 4294967296 := Nat.lt_of_le_of_lt (Nat.min_le_right _ _) (by omega)
      refine Ev.congr (f := fun k => (nat_divide.l1 k by_ ((left.take (i + (n + 1))).drop i) (P / B + D)).bind fun t => nat_divide.l0 k by_ i (nat_divide.lay left t.2 n i) (q.set i ((t.1 : Int) % 4294967296))) (fun k => ?_) ?_
      · show (if _ then _ else _) = _
        rw [if_pos hcond, hg, Int.toNat_natCast, hD, hn]
        rfl
      · rw [hD] at hgl
        have hl1 := l1_ev hb hpo (by omega) (by omega) (by rw [hB]; exact hB0) (by rw [hB, ← hP]; exact hd) D (P / B + D) (by rw [hB, ← hP]) hgl
        rw [hB, ← hP] at hl1
        refine Ev.bind hl1 ?_
        show Ev (fun k => nat_divide.l0 k by_ i (nat_divide.lay left (limbs (P - P / B * B)) n i) (q.set i (((P / B : Nat) : Int) % 4294967296))) (left', q')
        rw [nat_emod hd]
        exact he

theorem shr64 {T s : Nat} (hs : s < 32) : shr .u64 (T : Int) (s : Int) = ((T / 2 ^ s : Nat) : Int) := by
  unfold shr
  rw [show min ((s : Int)).toNat (IntKind.u64.bits) = s from Nat.min_eq_left (by simp [IntKind.bits]; omega)]
  have : (2 : Int) ^ s = ((2 ^ s : Nat) : Int) := by norm_cast
  rw [this, Int.natCast_ediv]
theorem restAt_eq {left : List Int} (h : okL left) {s : Nat} (hs : s < 32) (i : Nat) : nat_divide.restAt left (s : Int) i = ((((left.getD (i + 1) 0).toNat * 4294967296 + (left.getD i 0).toNat) / 2 ^ s % 4294967296 : Nat) : Int) := by
  obtain ⟨x, hx, hx2⟩ := nat_of_ok h (i + 1)
  obtain ⟨y, hy, hy2⟩ := nat_of_ok h i
  unfold nat_divide.restAt
  rw [rd_nat, rd_nat, hx, hy, top_eq hx2 hy2, shr64 hs, Int.toNat_natCast, Int.toNat_natCast]
  rfl
theorem shift_limb {y x R s : Nat} (hy : y < 4294967296) (hs : s < 32) : (y + 4294967296 * (x + 4294967296 * R)) / 2 ^ s = (x * 4294967296 + y) / 2 ^ s % 4294967296 + 4294967296 * ((x + 4294967296 * R) / 2 ^ s) := by
  have hp := Nat.two_pow_pos s
  have hB : 4294967296 = 2 ^ s * 2 ^ (32 - s) := by rw [← Nat.pow_add, show s + (32 - s) = 32 by omega]
  obtain ⟨Y, hY⟩ : ∃ Y, Y = x + 4294967296 * R := ⟨_, rfl⟩
  have e1 : (y + 4294967296 * Y) / 2 ^ s = y / 2 ^ s + 2 ^ (32 - s) * Y := by
    rw [show 4294967296 * Y = 2 ^ s * (2 ^ (32 - s) * Y) by rw [← Nat.mul_assoc, ← hB], Nat.add_mul_div_left _ _ hp]
  have e2 : (x * 4294967296 + y) / 2 ^ s = y / 2 ^ s + 2 ^ (32 - s) * x := by
    rw [Nat.add_comm, show x * 4294967296 = 2 ^ s * (2 ^ (32 - s) * x) by rw [← Nat.mul_assoc, ← hB, Nat.mul_comm], Nat.add_mul_div_left _ _ hp]
  have hylt : y / 2 ^ s < 2 ^ (32 - s) := by rw [Nat.div_lt_iff_lt_mul hp, Nat.mul_comm, ← hB]; exact hy
  rw [← hY, e1, e2]
  have hm := Nat.div_add_mod Y (2 ^ s)
  have hmx : x % 2 ^ s = Y % 2 ^ s := by
    rw [hY, show 4294967296 * R = 2 ^ s * (2 ^ (32 - s) * R) by rw [← Nat.mul_assoc, ← hB], Nat.add_mul_mod_self_left]
  have hdx := Nat.div_add_mod x (2 ^ s)
  have e3 : 2 ^ (32 - s) * x = 4294967296 * (x / 2 ^ s) + 2 ^ (32 - s) * (x % 2 ^ s) := by
    conv => lhs; rw [← hdx]
    rw [Nat.mul_add, ← Nat.mul_assoc, Nat.mul_comm (2 ^ (32 - s)), ← hB]
  have e4 : 2 ^ (32 - s) * Y = 4294967296 * (Y / 2 ^ s) + 2 ^ (32 - s) * (Y % 2 ^ s) := by
    conv => lhs; rw [← hm]
    rw [Nat.mul_add, ← Nat.mul_assoc, Nat.mul_comm (2 ^ (32 - s)), ← hB]
  have e5 : y / 2 ^ s + 2 ^ (32 - s) * (x % 2 ^ s) < 4294967296 := by
    have h1 := Nat.mod_lt x hp
    have h2 : 2 ^ (32 - s) * (x % 2 ^ s + 1) ≤ 2 ^ (32 - s) * 2 ^ s := Nat.mul_le_mul_left _ h1
    rw [Nat.mul_add, Nat.mul_one, Nat.mul_comm (2 ^ (32 - s)) (2 ^ s), ← hB] at h2
    omega
  have e6 : (y / 2 ^ s + 2 ^ (32 - s) * x) % 4294967296 = y / 2 ^ s + 2 ^ (32 - s) * (x % 2 ^ s) := by
    rw [e3, show y / 2 ^ s + (4294967296 * (x / 2 ^ s) + 2 ^ (32 - s) * (x % 2 ^ s)) = (y / 2 ^ s + 2 ^ (32 - s) * (x % 2 ^ s)) + 4294967296 * (x / 2 ^ s) by omega, Nat.add_mul_mod_self_left, Nat.mod_eq_of_lt e5]
  rw [e6, e4, hmx]
  omega
theorem okL_toNat {l : List Int} (h : okL l) (i : Nat) : (l.getD i 0).toNat < 4294967296 := by have := okL_get h i; omega
theorem rest_val {left : List Int} (h : okL left) {s : Nat} (hs : s < 32) : ∀ (m i : Nat), i + m < left.length → val (left.drop (i + m)) = 0 →
    val ((List.range m).map fun j => nat_divide.restAt left (s : Int) (i + j)) = val (left.drop i) / 2 ^ s := by
  intro m
  induction m with
  | zero => intro i hl hz; rw [Nat.add_zero] at hz; rw [hz]; simp [val]
  | succ m ih =>
    intro i hl hz
    have := ih (i + 1) (by omega) (by rw [show i + 1 + m = i + (m + 1) by omega]; exact hz)
    rw [List.range_succ_eq_map, List.map_cons, List.map_map, val_cons, Nat.add_zero, restAt_eq h hs, Int.toNat_natCast]
    have e : ((fun j => nat_divide.restAt left (s : Int) (i + j)) ∘ Nat.succ) = fun j => nat_divide.restAt left (s : Int) (i + 1 + j) := by
      funext j
      show nat_divide.restAt left (s : Int) (i + (j + 1)) = _
      rw [show i + (j + 1) = i + 1 + j by omega]
    rw [e, this, val_drop_succ left i (by omega), val_drop_succ left (i + 1) (by omega)]
    exact (shift_limb (okL_toNat h i) hs).symm
theorem okL_rest {left : List Int} (h : okL left) {s : Nat} (hs : s < 32) (n : Nat) : okL (nat_divide.restOf left (s : Int) n) := by
  intro x hx
  unfold nat_divide.restOf at hx
  obtain ⟨i, _, rfl⟩ := List.mem_map.1 hx
  rw [restAt_eq h hs]
  exact limb_nat (Nat.mod_lt _ (by omega))

theorem divide_big {a b : List Int} (ha : canB a) (hb : canB b) (h0 : b ≠ []) (hna : a.length < 999999) (hnb : b.length < 999999) (hbl : 0 < b.length) (hv0 : val b ≠ 0) (hba : b.length ≤ a.length) (h1 : ¬ b.length = 1) :
    Ev (fun k => if 0 < b.length ∧ a.length < 1000000 then (bits_LeadingZeros32.f (rd b ((b.length - 1 : Nat) : Int))).bind fun up => (nat_shifted.f k a up).bind fun left => (nat_shifted.f k b up).bind fun s => (nat_trim.f k s).bind fun by_ =>
    (if 0 < by_.length ∧ by_.length ≤ a.length ∧ left.length = a.length + 1 ∧ 0 ≤ up then (nat_divide.l0 k by_ (a.length - by_.length + 1) left (List.replicate (a.length - by_.length + 1) 0)).bind fun t => (nat_trim.f k t.2).bind fun q => (nat_trim.f k (nat_divide.restOf t.1 up by_.length)).bind fun r => some (q, r) else none) else none) (limbs (val a / val b), limbs (val a % val b)) := by
  have c2 : 0 < b.length ∧ a.length < 1000000 := ⟨hbl, by omega⟩
  simp only [if_pos c2]
  obtain ⟨x, hx, hx2⟩ := nat_of_ok hb.1 (b.length - 1)
  have hx0 : 0 < x := by
    have h2 := canB_last hb
    rw [last_rd h0, hx] at h2
    rcases Nat.eq_zero_or_pos x with h3 | h3
    · rw [h3] at h2; exact absurd rfl h2
    · exact h3
  obtain ⟨s, hs, hlead, htop⟩ := lead hx0 hx2
  refine Ev.bind (g := fun _ => bits_LeadingZeros32.f (rd b ((b.length - 1 : Nat) : Int))) (Ev.const (by rw [rd_nat, hx]; exact hlead)) ?_
  obtain ⟨left, hlo, hll, hlv, hle⟩ := shifted_ev ha.1 hs (by omega)
  obtain ⟨sb, hso, hsl, hsv, hse⟩ := shifted_ev hb.1 hs (by omega)
  refine Ev.bind hle (Ev.bind hse (Ev.bind (trim_ev hso (by omega)) ?_))
  rw [hsv]
  have hbv : val b * 2 ^ s < 4294967296 ^ b.length := by
    have h2 := val_take_drop b (b.length - 1) (by omega)
    have h3 := val_drop_succ b (b.length - 1) (by omega)
    rw [List.drop_of_length_le (i := b.length - 1 + 1) (by omega), val_nil, hx, Int.toNat_natCast] at h3
    simp only [Nat.mul_zero, Nat.add_zero] at h3
    have h4 := val_lt (okL_take hb.1 (b.length - 1))
    rw [List.length_take, Nat.min_eq_left (by omega)] at h4
    have h5 : val b < 4294967296 ^ (b.length - 1) * (x + 1) := by rw [h2, h3, Nat.mul_add, Nat.mul_one]; omega
    have h6 : val b * 2 ^ s < 4294967296 ^ (b.length - 1) * (x + 1) * 2 ^ s := Nat.mul_lt_mul_of_pos_right h5 (Nat.two_pow_pos s)
    have h7 : 4294967296 ^ (b.length - 1) * (x + 1) * 2 ^ s ≤ 4294967296 ^ (b.length - 1) * 4294967296 := by rw [Nat.mul_assoc]; exact Nat.mul_le_mul_left _ htop
    rw [← Nat.pow_succ, show (b.length - 1).succ = b.length by omega] at h7
    exact Nat.lt_of_lt_of_le h6 h7
  obtain ⟨by_, hby⟩ : ∃ by_, by_ = limbs (val b * 2 ^ s) := ⟨_, rfl⟩
  rw [← hby]
  have hcb : canB by_ := by rw [hby]; exact canB_limbs _
  have hvb : val by_ = val b * 2 ^ s := by rw [hby, val_limbs]
  have hB0 : 0 < val b * 2 ^ s := Nat.mul_pos (by omega) (Nat.two_pow_pos s)
  have hn : by_.length ≤ b.length := by rw [hby]; exact limbs_length_le hbv
  have hn0 : 0 < by_.length := by
    rcases Nat.eq_zero_or_pos by_.length with h2 | h2
    · rw [List.eq_nil_of_length_eq_zero h2] at hvb; rw [val_nil] at hvb; omega
    · exact h2
  have c3 : 0 < by_.length ∧ by_.length ≤ a.length ∧ left.length = a.length + 1 ∧ (0 : Int) ≤ (s : Int) := ⟨hn0, by omega, hll, by omega⟩
  simp only [if_pos c3]
  obtain ⟨m, hm⟩ : ∃ m, m = a.length - by_.length + 1 := ⟨_, rfl⟩
  rw [← hm]
  have hk : KnuthAt (val a * 2 ^ s) (val b * 2 ^ s) by_.length m left (List.replicate m 0) := by
    refine ⟨hlo, okL_replicate _, by rw [hlv, val_zeros, Nat.zero_mul, Nat.add_zero], ?_, fun j _ => getD_zeros _ _, by rw [List.length_replicate]; exact Nat.le_refl _, by rw [List.length_replicate]; omega⟩
    rw [hlv]
    have h2 := val_lt ha.1
    have h3 := val_ge_of_length hb (m := by_.length - 1) (by omega)
    have h4 : 4294967296 ^ (by_.length - 1) * 4294967296 ^ m ≤ val b * 4294967296 ^ m := Nat.mul_le_mul_right _ h3
    rw [← Nat.pow_add, show by_.length - 1 + m = a.length by omega] at h4
    rw [Nat.mul_right_comm]
    exact Nat.mul_lt_mul_of_pos_right (Nat.lt_of_lt_of_le h2 h4) (Nat.two_pow_pos s)
  obtain ⟨left', q', hk', hql, he⟩ := l0_ev hcb hvb rfl hn0 (by omega) m left _ (by omega) hk
  refine Ev.bind he ?_
  have hlt := hk'.lt
  rw [Nat.pow_zero, Nat.mul_one] at hlt
  have hv := hk'.v
  have hq : val q' = val a / val b := by
    have h2 : (val a * 2 ^ s) / (val b * 2 ^ s) = val q' := by
      rw [hv, Nat.add_mul_div_right _ _ hB0, Nat.div_eq_of_lt hlt, Nat.zero_add]
    rw [← h2, Nat.mul_div_mul_right _ _ (Nat.two_pow_pos s)]
  have hr : val left' = val a % val b * 2 ^ s := by
    have h2 : (val a * 2 ^ s) % (val b * 2 ^ s) = val left' := by
      rw [hv, Nat.add_mul_mod_self_right, Nat.mod_eq_of_lt hlt]
    rw [← h2, Nat.mul_mod_mul_right]
  rw [List.length_replicate] at hql
  have hl' := hk'.len
  have hz : val (left'.drop (0 + by_.length)) = 0 := by
    rw [Nat.zero_add]
    have h2 := val_take_drop left' by_.length (by omega)
    have h3 : val left' < 4294967296 ^ by_.length := Nat.lt_trans hlt (by rw [← hvb]; exact val_lt hcb.1)
    rcases Nat.eq_zero_or_pos (val (left'.drop by_.length)) with h4 | h4
    · exact h4
    · have h5 : 4294967296 ^ by_.length * 1 ≤ 4294967296 ^ by_.length * val (left'.drop by_.length) := Nat.mul_le_mul_left _ h4
      omega
  have hrv := rest_val hk'.okl hs by_.length 0 (by omega) hz
  simp only [Nat.zero_add, List.drop_zero] at hrv
  have hrv2 : val (nat_divide.restOf left' (s : Int) by_.length) = val a % val b := by
    show val ((List.range by_.length).map (nat_divide.restAt left' (s : Int))) = _
    refine hrv.trans ?_
    rw [hr, Nat.mul_div_cancel _ (Nat.two_pow_pos s)]
  have hrl : (nat_divide.restOf left' (s : Int) by_.length).length = by_.length := by unfold nat_divide.restOf; rw [List.length_map, List.length_range]
  have t1 := trim_ev hk'.okq (by omega)
  have t2 := trim_ev (okL_rest hk'.okl hs by_.length) (by omega)
  rw [hq] at t1
  rw [hrv2] at t2
  exact Ev.bind t1 (Ev.bind t2 (Ev.const rfl))
/-- The program's division, of any number and any but nought. -/
theorem divide_ev {a b : List Int} (ha : canB a) (hb : canB b) (h0 : b ≠ []) (hna : a.length < 999999) (hnb : b.length < 999999) : Ev (fun k => nat_divide.f k a b) (limbs (val a / val b), limbs (val a % val b)) := by
  have hbl := List.length_pos_iff.2 h0
  have hv0 : val b ≠ 0 := fun e => h0 ((canB_val_zero hb).1 e)
  unfold nat_divide.f
  have e1 : slices_Clone_uint32_uint32.f a = some a := clone_f (by omega)
  by_cases h : val a < val b
  · have hc : cmpI (val a) (val b) < 0 := by unfold cmpI; rw [if_pos h]; decide
    refine Ev.bind (compare_ev ha hb (by omega) (by omega)) ?_
    simp only [if_pos hc, e1, Option.bind_some]
    rw [Nat.div_eq_of_lt h, Nat.mod_eq_of_lt h, limbs_zero, ha.2]
    exact Ev.const rfl
  · have hba : b.length ≤ a.length := by
      rcases Nat.lt_or_ge a.length b.length with h1 | h1
      · exact absurd (canB_length_lt ha hb h1) h
      · exact h1
    have hc : ¬ cmpI (val a) (val b) < 0 := by unfold cmpI; rw [if_neg h]; split <;> decide
    refine Ev.bind (compare_ev ha hb (by omega) (by omega)) ?_
    by_cases h1 : b.length = 1
    · obtain ⟨x, rfl⟩ := List.length_eq_one_iff.1 h1
      have hx := hb.1 x (by simp)
      have hv : val [x] = x.toNat := by simp [val]
      have e1 : (([x] : List Int).length : Int) = 1 := rfl
      have e3 : 0 < (([x] : List Int).length : Int) := by rw [e1]; decide
      have e2 : rd [x] 0 = ((val [x] : Nat) : Int) := by
        have : rd [x] 0 = x := rfl
        rw [this, hv]; omega
      simp only [if_neg hc, if_pos e1, if_pos e3, e2]
      have hlt : val [x] < 4294967296 := by rw [hv]; omega
      refine Ev.bind (short_ev ha.1 (by omega) (d := val [x]) (by omega) hlt) ?_
      have hm : val a % val [x] < 4294967296 := Nat.lt_trans (Nat.mod_lt _ (by omega)) hlt
      have ew : IntKind.u64.wrap ((val a % val [x] : Nat) : Int) = ((val a % val [x] : Nat) : Int) := u64n (by omega)
      rw [ew]
      exact Ev.bind (of_ev (by omega) (by omega)) (Ev.const rfl)
    · have c1 : ¬ (b.length : Int) = 1 := by omega
      simp only [if_neg hc, if_neg c1]
      exact divide_big ha hb h0 hna hnb hbl hv0 hba h1
end Go.Proofs.YtbejniapdlgpiaaDoor.E
