/- What the printed functions on limbs come to: sums, differences, products. -/
import Derived.Test.YtbejniapdlgpiaaDoorQiEA
namespace Go.Proofs.YtbejniapdlgpiaaDoor.E
open Go.RowKit Go.Proofs.YtbejniapdlgpiaaDoorW.PrintWords Go.Proofs.YtbejniapdlgpiaaDoorW.PrintLast Go.Proofs.YtbejniapdlgpiaaDoorW.PrintMore Go.Proofs.YtbejniapdlgpiaaDoor.M Go.Proofs.YtbejniapdlgpiaaDoor.P

theorem set_val {l : List Int} {i : Nat} (hi : i < l.length) (h0 : l.getD i 0 = 0) (v : Nat) : val (l.set i (v : Int)) = val l + v * 4294967296 ^ i := by
  have := val_set hi (v : Int)
  rw [h0] at this
  simpa using this
theorem getD_set_ne {l : List Int} {i j : Nat} (v : Int) (h : i ≠ j) : (l.set i v).getD j 0 = l.getD j 0 := by
  simp [List.getD_eq_getElem?_getD, List.getElem?_set_ne h]
theorem getD_zeros (n j : Nat) : (List.replicate n (0 : Int)).getD j 0 = 0 := by
  by_cases h : j < n
  · rw [getD_lt (by simpa using h)]; simp
  · rw [getD_ge (by simpa using h)]
theorem nat_of_ok {l : List Int} (h : okL l) (i : Nat) : ∃ x : Nat, l.getD i 0 = (x : Int) ∧ x < 4294967296 := by
  have := okL_get h i
  exact ⟨(l.getD i 0).toNat, by omega, by omega⟩

theorem add32 {x y c : Nat} (hx : x < 4294967296) (hy : y < 4294967296) (hc : c ≤ 1) : bits_Add32.f (x : Int) (y : Int) (c : Int) = some ((((x + y + c) % 4294967296 : Nat) : Int), (((x + y + c) / 4294967296 : Nat) : Int)) := by
  unfold bits_Add32.f
  rw [u64w (n := (x : Int)) (by omega) (by omega), u64w (n := (y : Int)) (by omega) (by omega), u64w (n := (c : Int)) (by omega) (by omega), u64w (n := (x : Int) + y) (by omega) (by omega), u64w (by omega) (by omega)]
  congr 2 <;> omega

/-- One limb's step of a sum that is written from below. -/
theorem step_sum {A B O x y c s P : Nat} (hs : s = x + y + c) (h : O + c * P = A + B) : (O + s % 4294967296 * P) + s / 4294967296 * (P * 4294967296) = (A + x * P) + (B + y * P) := by
  have e1 : s / 4294967296 * (P * 4294967296) = s / 4294967296 * 4294967296 * P := by rw [Nat.mul_assoc, Nat.mul_comm P]
  have e2 : s % 4294967296 * P + s / 4294967296 * 4294967296 * P = s * P := by
    rw [← Nat.add_mul]; congr 1; omega
  have e3 : s * P = x * P + y * P + c * P := by rw [hs, Nat.add_mul, Nat.add_mul]
  rw [e1]; omega

theorem plus_run (a b : List Int) (ha : okL a) (hb : okL b) (hn : a.length < 1099511627776) (hab : b.length ≤ a.length) : ∀ (d i : Nat), a.length - i = d → i ≤ a.length → ∀ (out : List Int) (c : Nat), okL out → out.length = a.length + 1 → c ≤ 1 →
    (∀ j, i ≤ j → out.getD j 0 = 0) → val out + c * 4294967296 ^ i = val (a.take i) + val (b.take i) → ∀ k, d + a.length + 5 < k →
    nat_plus.l0 k a b out (c : Int) (a.length : Int) (i : Int) = some (limbs (val a + val b)) := by
  intro d
  induction d with
  | zero =>
    intro i hd hi out c ho hl hc hz hv k hk
    obtain ⟨k, rfl⟩ : ∃ m, k = m + 1 := ⟨k - 1, by omega⟩
    obtain rfl : i = a.length := by omega
    simp only [nat_plus.l0]
    rw [if_neg (by omega), if_pos (by omega), if_pos (by omega), show ((a.length : Int)).toNat = a.length by omega]
    have ht := trim_run _ (out.set a.length (c : Int)) rfl (okL_set ho _ (by omega)) (by rw [List.length_set]; omega) k (by rw [List.length_set]; omega)
    rw [nat_trim.f, ht, set_val (by omega) (hz _ (Nat.le_refl _)), hv, List.take_of_length_le (Nat.le_refl _), List.take_of_length_le hab]
    rfl
  | succ d ih =>
    intro i hd hi out c ho hl hc hz hv k hk
    obtain ⟨k, rfl⟩ : ∃ m, k = m + 1 := ⟨k - 1, by omega⟩
    obtain ⟨x, hx, hx2⟩ := nat_of_ok ha i
    obtain ⟨y, hy, hy2⟩ := nat_of_ok hb i
    have next : nat_plus.l0 k a b (out.set i (((x + y + c) % 4294967296 : Nat) : Int)) (((x + y + c) / 4294967296 : Nat) : Int) (a.length : Int) ((i + 1 : Nat) : Int) = some (limbs (val a + val b)) := by
      have hil : i < out.length := by omega
      have ho2 : okL (out.set i (((x + y + c) % 4294967296 : Nat) : Int)) := okL_set ho i ⟨by omega, by omega⟩
      have hc2 : (x + y + c) / 4294967296 ≤ 1 := by omega
      have hd2 : a.length - (i + 1) = d := by omega
      have hi2 : i + 1 ≤ a.length := by omega
      have hk2 : d + a.length + 5 < k := by omega
      have hz2 : ∀ j, i + 1 ≤ j → (out.set i (((x + y + c) % 4294967296 : Nat) : Int)).getD j 0 = 0 := fun j hj => by rw [getD_set_ne _ (by omega)]; exact hz j (by omega)
      have hv2 : val (out.set i (((x + y + c) % 4294967296 : Nat) : Int)) + (x + y + c) / 4294967296 * 4294967296 ^ (i + 1) = val (a.take (i + 1)) + val (b.take (i + 1)) := by
        rw [set_val hil (hz _ (Nat.le_refl _)), val_take_succ, val_take_succ, hx, hy, Nat.pow_succ]
        simp only [Int.toNat_natCast]
        rw [step_sum (A := val (a.take i)) (B := val (b.take i)) (O := val out) (x := x) (y := y) (c := c) (s := x + y + c) (P := 4294967296 ^ i) rfl hv]
      exact ih (i + 1) hd2 hi2 (out.set i (((x + y + c) % 4294967296 : Nat) : Int)) ((x + y + c) / 4294967296) ho2 (by rw [List.length_set]; exact hl) hc2 hz2 hv2 k hk2
    simp only [nat_plus.l0]
    rw [if_pos (by omega), w64 (n := (i : Int) + 1) (by omega) (by omega), show (i : Int) + 1 = ((i + 1 : Nat) : Int) by omega]
    by_cases hb2 : i < b.length
    · rw [if_pos (by omega), if_pos (by omega), if_pos (by omega), rd_nat, rd_nat, hx, hy, add32 hx2 hy2 hc]
      simp only [Option.bind_some]
      rw [if_pos (by omega)]
      exact next
    · have : y = 0 := by rw [getD_ge (by omega)] at hy; omega
      subst this
      rw [if_neg (by omega), if_pos (by omega), if_pos (by omega), rd_nat, hx, show (0 : Int) = ((0 : Nat) : Int) from rfl, add32 (y := 0) hx2 (by omega) hc]
      simp only [Option.bind_some]
      rw [if_pos (by omega)]
      exact next
theorem plus_j0 (a b : List Int) (ha : okL a) (hb : okL b) (hn : a.length < 1099511627776) (hab : b.length ≤ a.length) (k : Nat) (hk : 2 * a.length + 6 < k) : nat_plus.j0 k a b = some (limbs (val a + val b)) := by
  obtain ⟨k, rfl⟩ : ∃ m, k = m + 1 := ⟨k - 1, by omega⟩
  simp only [nat_plus.j0]
  rw [w64 (by omega) (by omega), if_pos (by omega), if_pos (by omega), show ((a.length : Int) + 1).toNat = a.length + 1 by omega]
  exact plus_run a b ha hb hn hab a.length 0 (by omega) (by omega) _ 0 (okL_replicate _) (by simp) (by omega) (fun j _ => getD_zeros _ _) (by simp [val_zeros, val]) k (by omega)
theorem plus_ev {a b : List Int} (ha : okL a) (hb : okL b) (hna : a.length < 1099511627776) (hnb : b.length < 1099511627776) : Ev (fun k => nat_plus.f k a b) (limbs (val a + val b)) := by
  refine Ev.mk (2 * a.length + 2 * b.length + 6) fun k hk => ?_
  unfold nat_plus.f
  by_cases h : a.length < b.length
  · rw [if_pos (by omega), plus_j0 b a hb ha hnb (by omega) k (by omega), Nat.add_comm]
  · rw [if_neg (by omega), plus_j0 a b ha hb hna (by omega) k (by omega)]

theorem sub32 {x y c : Nat} (hx : x < 4294967296) (hy : y < 4294967296) (hc : c ≤ 1) : bits_Sub32.f (x : Int) (y : Int) (c : Int) = some (((x + 4294967296 * (if x < y + c then 1 else 0) - (y + c) : Nat) : Int), ((if x < y + c then 1 else 0 : Nat) : Int)) := by
  unfold bits_Sub32.f
  rw [if_pos (by omega)]
  by_cases h : x < y + c
  · rw [if_pos (by omega), if_pos h]
    have e : ((x : Int) - y - c) % 4294967296 = ((x + 4294967296 * 1 - (y + c) : Nat) : Int) := by omega
    rw [e]; rfl
  · rw [if_neg (by omega), if_neg h]
    have e : ((x : Int) - y - c) % 4294967296 = ((x + 4294967296 * 0 - (y + c) : Nat) : Int) := by omega
    rw [e]; rfl
theorem step_diff {A B O x y c s t P : Nat} (hs : s + (y + c) = x + 4294967296 * t) (h : O + B = A + c * P) : (O + s * P) + (B + y * P) = (A + x * P) + t * (P * 4294967296) := by
  have e1 : t * (P * 4294967296) = 4294967296 * t * P := by rw [Nat.mul_comm 4294967296 t, Nat.mul_assoc, Nat.mul_comm P]
  have e2 : s * P + (y * P + c * P) = x * P + 4294967296 * t * P := by rw [← Nat.add_mul, ← Nat.add_mul, ← Nat.add_mul, hs]
  rw [e1]; omega
theorem minus_run (a b : List Int) (ha : okL a) (hb : okL b) (hn : a.length < 1099511627776) (hab : val b ≤ val a) : ∀ (d i : Nat), a.length - i = d → i ≤ a.length → ∀ (out : List Int) (c : Nat), okL out → out.length = a.length → c ≤ 1 →
    (∀ j, i ≤ j → out.getD j 0 = 0) → val out + val (b.take i) = val (a.take i) + c * 4294967296 ^ i → ∀ k, d + a.length + 5 < k →
    nat_minus.l0 k a b out (c : Int) (a.length : Int) (i : Int) = some (limbs (val a - val b)) := by
  intro d
  induction d with
  | zero =>
    intro i hd hi out c ho hl hc hz hv k hk
    obtain ⟨k, rfl⟩ : ∃ m, k = m + 1 := ⟨k - 1, by omega⟩
    obtain rfl : i = a.length := by omega
    simp only [nat_minus.l0]
    rw [if_neg (by omega)]
    have ht := trim_run _ out rfl ho (by omega) k (by omega)
    have h1 := val_lt ho
    rw [hl] at h1
    rw [List.take_of_length_le (Nat.le_refl _)] at hv
    have h2 : b.length ≤ a.length ∨ a.length < b.length := by omega
    have h3 : val out = val a - val b := by
      have h4 : val b = val (b.take a.length) + 4294967296 ^ a.length * val (b.drop a.length) := by
        by_cases h5 : a.length ≤ b.length
        · exact val_take_drop b a.length h5
        · rw [List.take_of_length_le (by omega), List.drop_eq_nil_of_le (by omega)]; simp [val]
      have h6 := val_lt ha
      have h7 : val (b.drop a.length) = 0 := by
        by_cases h8 : val (b.drop a.length) = 0
        · exact h8
        · have : 4294967296 ^ a.length * 1 ≤ 4294967296 ^ a.length * val (b.drop a.length) := Nat.mul_le_mul_left _ (by omega)
          omega
      rw [h7] at h4
      have h9 : c = 0 := by
        by_cases h10 : c = 0
        · exact h10
        · obtain rfl : c = 1 := by omega
          omega
      subst h9
      omega
    rw [nat_trim.f, ht, h3]
    rfl
  | succ d ih =>
    intro i hd hi out c ho hl hc hz hv k hk
    obtain ⟨k, rfl⟩ : ∃ m, k = m + 1 := ⟨k - 1, by omega⟩
    obtain ⟨x, hx, hx2⟩ := nat_of_ok ha i
    obtain ⟨y, hy, hy2⟩ := nat_of_ok hb i
    have hs : (x + 4294967296 * (if x < y + c then 1 else 0) - (y + c)) < 4294967296 ∧ (x + 4294967296 * (if x < y + c then 1 else 0) - (y + c)) + (y + c) = x + 4294967296 * (if x < y + c then 1 else 0) := by split <;> omega
    have ht : (if x < y + c then 1 else 0 : Nat) ≤ 1 := by split <;> omega
    have hsub := sub32 hx2 hy2 hc
    revert hs ht hsub
    generalize (x + 4294967296 * (if x < y + c then 1 else 0) - (y + c)) = s
    generalize (if x < y + c then 1 else 0 : Nat) = t
    intro hs ht hsub
    have next : nat_minus.l0 k a b (out.set i (s : Int)) (t : Int) (a.length : Int) ((i + 1 : Nat) : Int) = some (limbs (val a - val b)) := by
      have hil : i < out.length := by omega
      have ho2 : okL (out.set i (s : Int)) := okL_set ho i ⟨by omega, by omega⟩
      have hd2 : a.length - (i + 1) = d := by omega
      have hi2 : i + 1 ≤ a.length := by omega
      have hk2 : d + a.length + 5 < k := by omega
      have hz2 : ∀ j, i + 1 ≤ j → (out.set i (s : Int)).getD j 0 = 0 := fun j hj => by rw [getD_set_ne _ (by omega)]; exact hz j (by omega)
      have hv2 : val (out.set i (s : Int)) + val (b.take (i + 1)) = val (a.take (i + 1)) + t * 4294967296 ^ (i + 1) := by
        rw [set_val hil (hz _ (Nat.le_refl _)), val_take_succ, val_take_succ, hx, hy, Nat.pow_succ]
        simp only [Int.toNat_natCast]
        rw [step_diff (A := val (a.take i)) (B := val (b.take i)) (O := val out) (x := x) (y := y) (c := c) (s := s) (t := t) (P := 4294967296 ^ i) hs.2 hv]
      exact ih (i + 1) hd2 hi2 (out.set i (s : Int)) t ho2 (by rw [List.length_set]; exact hl) ht hz2 hv2 k hk2
    simp only [nat_minus.l0]
    rw [if_pos (by omega), w64 (n := (i : Int) + 1) (by omega) (by omega), show (i : Int) + 1 = ((i + 1 : Nat) : Int) by omega]
    by_cases hb2 : i < b.length
    · rw [if_pos (by omega), if_pos (by omega), if_pos (by omega), rd_nat, rd_nat, hx, hy, hsub]
      simp only [Option.bind_some]
      rw [if_pos (by omega)]
      exact next
    · have : y = 0 := by rw [getD_ge (by omega)] at hy; omega
      subst this
      rw [if_neg (by omega), if_pos (by omega), if_pos (by omega), rd_nat, hx, show (0 : Int) = ((0 : Nat) : Int) from rfl, hsub]
      simp only [Option.bind_some]
      rw [if_pos (by omega)]
      exact next
theorem minus_ev {a b : List Int} (ha : okL a) (hb : okL b) (hna : a.length < 1099511627776) (hab : val b ≤ val a) : Ev (fun k => nat_minus.f k a b) (limbs (val a - val b)) := by
  refine Ev.mk (2 * a.length + 6) fun k hk => ?_
  unfold nat_minus.f
  rw [if_pos (by omega), if_pos (by omega), show ((a.length : Int)).toNat = a.length by omega]
  exact minus_run a b ha hb hna hab a.length 0 (by omega) (by omega) _ 0 (okL_replicate _) (by simp) (by omega) (fun j _ => getD_zeros _ _) (by simp [val_zeros, val]) k (by omega)

/-- One limb's step of a product: at place p of out, over is carried. -/
theorem mul_bound {x y o t : Nat} (hx : x < 4294967296) (hy : y < 4294967296) (ho : o < 4294967296) (ht : t < 4294967296) : t + (o + x * y) < 18446744073709551616 := by
  have : x * y ≤ 4294967295 * 4294967295 := Nat.mul_le_mul (by omega) (by omega)
  omega
theorem step_mul {O V o t s xy P : Nat} (hs : s = t + (o + xy)) (hO : V + o * P = O + s % 4294967296 * P) : V + s / 4294967296 * (P * 4294967296) = O + t * P + xy * P := by
  have e1 : s / 4294967296 * (P * 4294967296) = s / 4294967296 * 4294967296 * P := by rw [Nat.mul_assoc, Nat.mul_comm P]
  have e2 : s % 4294967296 * P + s / 4294967296 * 4294967296 * P = s * P := by rw [← Nat.add_mul]; congr 1; omega
  have e3 : s * P = t * P + (o * P + xy * P) := by rw [hs, Nat.add_mul, Nat.add_mul]
  rw [e1]; omega
theorem mul_step_eq {x y o t : Nat} (hx : x < 4294967296) (hy : y < 4294967296) (ho : o < 4294967296) (ht : t < 4294967296) :
    IntKind.u64.wrap ((t : Int) + IntKind.u64.wrap (IntKind.u64.wrap (o : Int) + IntKind.u64.wrap (IntKind.u64.wrap (x : Int) * IntKind.u64.wrap (y : Int)))) = ((t + (o + x * y) : Nat) : Int) := by
  have hb := mul_bound hx hy ho ht
  rw [u64w (n := (x : Int)) (by omega) (by omega), u64w (n := (y : Int)) (by omega) (by omega), u64w (n := (o : Int)) (by omega) (by omega)]
  have e : (x : Int) * y = ((x * y : Nat) : Int) := by simp
  rw [e, u64w (n := ((x * y : Nat) : Int)) (by omega) (by omega), u64w (n := (o : Int) + ((x * y : Nat) : Int)) (by omega) (by omega), u64w (by omega) (by omega)]
  omega
/-- What holds of the rows of a product on the way: out at limb x of a (place i), n limbs of b done. -/
structure MulAt (b : List Int) (i m x V0 : Nat) (out : List Int) (t : Nat) : Prop where
  ok : okL out
  lt : t < 4294967296
  v : val out + t * 4294967296 ^ (i + m) = V0 + x * val (b.take m) * 4294967296 ^ i
theorem MulAt.step {b out : List Int} {i m x V0 t : Nat} (hb : okL b) (hx : x < 4294967296) (h : MulAt b i m x V0 out t) (hp : i + m < out.length) {y o : Nat} (hy : b.getD m 0 = y) (ho : out.getD (i + m) 0 = o) :
    MulAt b i (m + 1) x V0 (out.set (i + m) (((t + (o + x * y)) % 4294967296 : Nat) : Int)) ((t + (o + x * y)) / 4294967296) := by
  have hy2 : y < 4294967296 := by have := okL_get hb m; omega
  have ho2 : o < 4294967296 := by have := okL_get h.ok (i + m); omega
  have hbd := mul_bound hx hy2 ho2 h.lt
  refine ⟨okL_set h.ok _ ⟨by omega, by omega⟩, by omega, ?_⟩
  have hv := val_set hp (((t + (o + x * y)) % 4294967296 : Nat) : Int)
  rw [ho] at hv
  simp only [Int.toNat_natCast] at hv
  have := step_mul (O := val out) (V := val (out.set (i + m) (((t + (o + x * y)) % 4294967296 : Nat) : Int))) (o := o) (t := t) (xy := x * y) (P := 4294967296 ^ (i + m)) rfl hv
  have ep : 4294967296 ^ (i + (m + 1)) = 4294967296 ^ (i + m) * 4294967296 := by rw [← Nat.pow_succ]; rfl
  rw [ep, this, h.v, val_take_succ, hy, Nat.mul_add, Nat.add_mul, Nat.pow_add]
  simp only [Int.toNat_natCast]
  have e : x * (y * 4294967296 ^ m) * 4294967296 ^ i = x * y * (4294967296 ^ i * 4294967296 ^ m) := by
    rw [← Nat.mul_assoc x y, Nat.mul_assoc (x * y), Nat.mul_comm (4294967296 ^ m)]
  rw [e, Nat.add_assoc]
theorem times_l1 (a b : List Int) (hb : okL b) (hnb : b.length < 1099511627776) (i x : Nat) (hx : x < 4294967296) (hi : i < 1099511627776) (V0 : Nat) (r : List Int) (x17 : List Int) (x18 : Int)
    (K : Nat) (hnext : ∀ (out : List Int) (t : Nat), MulAt b i b.length x V0 out t → out.length = a.length + b.length → (∀ j, i + b.length ≤ j → out.getD j 0 = 0) → ∀ k, K < k → nat_times.l0 k b (out.set (i + b.length) (t : Int)) x17 x18 ((i + 1 : Nat) : Int) = some r) (hia : i < a.length) :
    ∀ (d m : Nat), b.length - m = d → m ≤ b.length → ∀ (out : List Int) (t : Nat), MulAt b i m x V0 out t → out.length = a.length + b.length → (∀ j, i + b.length ≤ j → out.getD j 0 = 0) → ∀ k, d + K + 1 < k →
    nat_times.l1 k b out (i : Int) (x : Int) (t : Int) x17 x18 (i : Int) b (b.length : Int) (m : Int) = some r := by
  intro d
  induction d with
  | zero =>
    intro m hd hm out t h hl hz k hk
    obtain ⟨k, rfl⟩ : ∃ m, k = m + 1 := ⟨k - 1, by omega⟩
    obtain rfl : m = b.length := by omega
    have ht := h.lt
    simp only [nat_times.l1]
    rw [if_neg (by omega), w64 (n := (i : Int) + b.length) (by omega) (by omega), if_pos (by omega), if_pos (by omega), w64 (n := (i : Int) + 1) (by omega) (by omega), show (((i : Int) + b.length)).toNat = i + b.length by omega, show ((t : Int)) % 4294967296 = (t : Int) by omega, show (i : Int) + 1 = ((i + 1 : Nat) : Int) by omega]
    exact hnext out t h hl hz k (by omega)
  | succ d ih =>
    intro m hd hm out t h hl hz k hk
    obtain ⟨k, rfl⟩ : ∃ m, k = m + 1 := ⟨k - 1, by omega⟩
    obtain ⟨y, hy, hy2⟩ := nat_of_ok hb m
    obtain ⟨o, ho, ho2⟩ := nat_of_ok h.ok (i + m)
    have hbd := mul_bound hx hy2 ho2 h.lt
    simp only [nat_times.l1]
    rw [if_pos (by omega), if_pos (by omega), if_pos (by omega), w64 (n := (i : Int) + (m : Int)) (by omega) (by omega), show (i : Int) + (m : Int) = ((i + m : Nat) : Int) by omega, if_pos (by omega), if_pos (by omega), rd_nat, rd_nat, ho, hy, mul_step_eq hx hy2 ho2 h.lt, w64 (n := (m : Int) + 1) (by omega) (by omega)]
    have := ih (m + 1) (by omega) (by omega) (out.set (i + m) (((t + (o + x * y)) % 4294967296 : Nat) : Int)) ((t + (o + x * y)) / 4294967296) (h.step hb hx (by omega) hy ho) (by rw [List.length_set]; exact hl) (fun j hj => by rw [getD_set_ne _ (by omega)]; exact hz j hj) k (by omega)
    simpa [show (((i : Int) + (m : Int))).toNat = i + m by omega] using this
theorem times_l0 (a b : List Int) (ha : okL a) (hb : okL b) (hna : a.length < 1099511627776) (hnb : b.length < 1099511627776) : ∀ (d i : Nat), a.length - i = d → i ≤ a.length → ∀ (out : List Int), okL out → out.length = a.length + b.length →
    (∀ j, i + b.length ≤ j → out.getD j 0 = 0) → val out = val (a.take i) * val b → ∀ k, d * (b.length + 3) + (a.length + b.length) + 3 < k →
    nat_times.l0 k b out a (a.length : Int) (i : Int) = some (limbs (val a * val b)) := by
  intro d
  induction d with
  | zero =>
    intro i hd hi out ho hl hz hv k hk
    obtain ⟨k, rfl⟩ : ∃ m, k = m + 1 := ⟨k - 1, by omega⟩
    obtain rfl : i = a.length := by omega
    simp only [nat_times.l0]
    rw [if_neg (by omega), nat_trim.f, trim_run _ out rfl ho (by omega) k (by omega), hv, List.take_of_length_le (Nat.le_refl _)]
    rfl
  | succ d ih =>
    intro i hd hi out ho hl hz hv k hk
    obtain ⟨k, rfl⟩ : ∃ m, k = m + 1 := ⟨k - 1, by omega⟩
    obtain ⟨x, hx, hx2⟩ := nat_of_ok ha i
    have hk2 : d * (b.length + 3) + (b.length + 3) + (a.length + b.length) + 3 < k + 1 := by rw [Nat.succ_mul] at hk; omega
    simp only [nat_times.l0]
    rw [if_pos (by omega), if_pos (by omega), if_pos (by omega), rd_nat, hx]
    refine times_l1 a b hb hnb i x hx2 (by omega) (val out) _ a (a.length : Int) (d * (b.length + 3) + (a.length + b.length) + 3) ?_ (by omega) b.length 0 (by omega) (by omega) out 0 ⟨ho, by omega, by simp [val]⟩ hl hz k (by omega)
    intro out2 t h hl2 hz2 k2 hk2
    have ho2 : okL (out2.set (i + b.length) (t : Int)) := okL_set h.ok _ ⟨by omega, by have := h.lt; omega⟩
    refine ih (i + 1) (by omega) (by omega) (out2.set (i + b.length) (t : Int)) ho2 (by rw [List.length_set]; exact hl2) (fun j hj => by rw [getD_set_ne _ (by omega)]; exact hz2 j (by omega)) ?_ k2 hk2
    rw [set_val (by omega) (hz2 _ (Nat.le_refl _)), h.v, List.take_of_length_le (Nat.le_refl _), hv, val_take_succ, hx, Nat.add_mul]
    simp only [Int.toNat_natCast]
    congr 1
    rw [Nat.mul_assoc, Nat.mul_assoc, Nat.mul_comm (val b)]
theorem times_ev {a b : List Int} (ha : okL a) (hb : okL b) (hna : a.length < 1099511627776) (hnb : b.length < 1099511627776) : Ev (fun k => nat_times.f k a b) (limbs (val a * val b)) := by
  refine Ev.mk (a.length * (b.length + 3) + (a.length + b.length) + 3) fun k hk => ?_
  unfold nat_times.f
  rw [w64 (by omega) (by omega), if_pos (by omega), if_pos (by omega), show ((a.length : Int) + b.length).toNat = a.length + b.length by omega]
  exact times_l0 a b ha hb hna hnb a.length 0 (by omega) (by omega) _ (okL_replicate _) (by simp) (fun j _ => getD_zeros _ _) (by simp [val_zeros, val]) k hk
end Go.Proofs.YtbejniapdlgpiaaDoor.E
