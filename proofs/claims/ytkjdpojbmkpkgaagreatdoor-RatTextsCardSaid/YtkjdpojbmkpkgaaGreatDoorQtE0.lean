/- What the printed functions on limbs come to: Check, trim, Of, compare, plus, minus, times and their kin, as plain numbers. -/
import Derived.Test.YtkjdpojbmkpkgaaGreatDoorQtP0
import Derived.Test.YtkjdpojbmkpkgaaGreatDoorQtP4
import Derived.Test.YtkjdpojbmkpkgaaGreatDoorQtP8
import Derived.Test.YtkjdpojbmkpkgaaGreatDoorQtMD
namespace Go.Proofs.YtkjdpojbmkpkgaaGreatDoor.E
open Go.RowKit Go.Proofs.YtkjdpojbmkpkgaaGreatDoorW.PrintWords Go.Proofs.YtkjdpojbmkpkgaaGreatDoorW.PrintLast Go.Proofs.YtkjdpojbmkpkgaaGreatDoorW.PrintMore Go.Proofs.YtkjdpojbmkpkgaaGreatDoor.M Go.Proofs.YtkjdpojbmkpkgaaGreatDoor.P
theorem w64 {n : Int} (h : -9223372036854775808 ≤ n) (h' : n ≤ 9223372036854775807) : wrap64 n = n := by unfold wrap64; omega
theorem u64w {n : Int} (h : 0 ≤ n) (h' : n < 18446744073709551616) : IntKind.u64.wrap n = n := by
  simp only [IntKind.wrap, IntKind.bits, IntKind.signed]
  simp
  omega
theorem rd_nat (l : List Int) (i : Nat) : rd l (i : Int) = l.getD i 0 := rfl
theorem rd_at (l : List Int) {i : Int} {j : Nat} (h : i = j) : rd l i = l.getD j 0 := by subst h; rfl
theorem Ev.mk {α : Type} {g : Nat → Option α} {r : α} (d : Nat) (h : ∀ k, d < k → g k = some r) : Ev g r := ⟨d + 1, fun k hk => h k (by omega)⟩
theorem Ev.const {α : Type} {o : Option α} {r : α} (h : o = some r) : Ev (fun _ => o) r := ⟨0, fun _ _ => h⟩
theorem last_rd {l : List Int} (h : l ≠ []) : l.getLast? = some (l.getD (l.length - 1) 0) := by
  rw [List.getLast?_eq_getElem?, List.getD_eq_getElem?_getD, List.getElem?_eq_getElem (by have := List.length_pos_iff.2 h; omega)]; rfl
theorem check (l : List Int) : nat_Check.f l = some (chk l) := by
  unfold nat_Check.f chk
  by_cases h : l.length > 64
  · rw [if_pos (by omega), if_pos h]
  · rw [if_neg (by omega), if_neg h]
    by_cases h0 : l = []
    · subst h0; simp
    · have hp := List.length_pos_iff.2 h0
      rw [if_pos (by omega), w64 (by omega) (by omega), if_pos (by omega), if_pos (by omega), rd_at l (j := l.length - 1) (by omega), last_rd h0]
      by_cases h1 : l.getD (l.length - 1) 0 = 0
      · rw [if_pos h1, h1]; rfl
      · rw [if_neg h1, if_neg (by simpa using h1)]
theorem check' (l : List Int) : driftnetref01_Check.f l = some (chk l) := check l
def chk2 (a b : List Int) : Int := if chk a = 0 then chk b else chk a
theorem both (a b : List Int) : nat_both.f a b = some (chk2 a b) := by
  unfold nat_both.f chk2
  rw [check, check]
  simp only [Option.bind_some]
  split <;> rfl
theorem two (a b : List Int) : driftnetref01_two.f a b = some (chk2 a b) := both a b
theorem trim_run : ∀ (n : Nat) (l : List Int), l.length = n → okL l → n < 4611686018427387904 → ∀ k, n < k → nat_trim.l0 k l = some (limbs (val l)) := by
  intro n
  induction n with
  | zero =>
    intro l hl _ _ k hk
    obtain ⟨k, rfl⟩ : ∃ m, k = m + 1 := ⟨k - 1, by omega⟩
    obtain rfl := List.eq_nil_of_length_eq_zero hl
    simp [nat_trim.l0, val, limbs_zero]
  | succ n ih =>
    intro l hl ho hn k hk
    obtain ⟨k, rfl⟩ : ∃ m, k = m + 1 := ⟨k - 1, by omega⟩
    have hne : l ≠ [] := by rintro rfl; simp at hl
    have hw : wrap64 ((l.length : Int) - 1) = (n : Int) := by rw [w64 (by omega) (by omega)]; omega
    simp only [nat_trim.l0]
    rw [if_pos (by omega), hw, if_pos (by omega), if_pos (by omega), rd_nat]
    have hl2 : l.getLast? = some (l.getD n 0) := by rw [last_rd hne, hl]; rfl
    by_cases h : l.getD n 0 = 0
    · rw [if_pos h, if_pos (by omega), ih _ (by rw [List.length_take]; omega) (okL_take ho _) (by omega) _ (by omega)]
      have hv := val_take_succ l n
      rw [List.take_of_length_le (by omega), h] at hv
      simp at hv
      simp [hv]
    · rw [if_neg h]
      have := canB_of_last ho (by rw [hl2]; simpa using h)
      rw [this.2]
theorem trim_ev {l : List Int} (ho : okL l) (hn : l.length < 4611686018427387904) : Ev (fun k => nat_trim.f k l) (limbs (val l)) :=
  Ev.mk l.length fun k hk => trim_run l.length l rfl ho hn k hk
theorem rtrim_run (l : List Int) (ho : okL l) (hn : l.length < 35184372088832) : ∀ (n : Nat), n ≤ l.length → ∀ k, n < k → driftnetref01_trim.l0 k l (n : Int) = some (limbs (val (l.take n))) := by
  intro n
  induction n with
  | zero =>
    intro _ k hk
    obtain ⟨k, rfl⟩ : ∃ m, k = m + 1 := ⟨k - 1, by omega⟩
    simp [driftnetref01_trim.l0, val, limbs_zero]
  | succ n ih =>
    intro hle k hk
    obtain ⟨k, rfl⟩ : ∃ m, k = m + 1 := ⟨k - 1, by omega⟩
    have hw : wrap64 (((n + 1 : Nat) : Int) - 1) = (n : Int) := by rw [w64 (by omega) (by omega)]; omega
    simp only [driftnetref01_trim.l0]
    rw [if_pos (by omega), hw, if_pos (by omega), if_pos (by omega), rd_nat]
    by_cases h : l.getD n 0 = 0
    · rw [if_pos h, ih (by omega) _ (by omega), val_take_succ, h]; simp
    · have hlen : (l.take (n + 1)).length = n + 1 := by rw [List.length_take]; omega
      rw [if_neg h, if_pos (by omega), if_pos (by omega)]
      rw [show (((n + 1 : Nat) : Int)).toNat = n + 1 by omega, if_pos (by rw [hlen]; simp; omega), List.nil_append]
      have hl2 : (l.take (n + 1)).getLast? = some (l.getD n 0) := by
        rw [last_rd (by intro h0; rw [h0] at hlen; simp at hlen), hlen]
        congr 1
        simp [List.getD_eq_getElem?_getD]
      have := canB_of_last (okL_take ho (n + 1)) (by rw [hl2]; simpa using h)
      rw [this.2]
theorem rtrim_ev {l : List Int} (ho : okL l) (hn : l.length < 35184372088832) : Ev (fun k => driftnetref01_trim.f k l) (limbs (val l)) :=
  Ev.mk l.length fun k hk => by
    have := rtrim_run l ho hn l.length (Nat.le_refl _) k hk
    rw [List.take_length] at this
    exact this
theorem of_val (n : Nat) (h : n < 18446744073709551616) : okL [((n : Int)) % 4294967296, ((n : Int) / 4294967296) % 4294967296] ∧ val [((n : Int)) % 4294967296, ((n : Int) / 4294967296) % 4294967296] = n := by
  refine ⟨fun x hx => ?_, ?_⟩
  · simp at hx; rcases hx with rfl | rfl <;> omega
  · simp only [val]; omega
theorem of_ev {n : Int} (h0 : 0 ≤ n) (h : n < 18446744073709551616) : Ev (fun k => nat_Of.f k n) (limbs n.toNat) := by
  obtain ⟨m, rfl⟩ := Int.eq_ofNat_of_zero_le h0
  have hv := of_val m (by omega)
  have := trim_ev hv.1 (by simp)
  rw [hv.2] at this
  exact Ev.bind this (Ev.now _)
theorem rof_ev {n : Int} (h0 : 0 ≤ n) (h : n < 18446744073709551616) : Ev (fun k => driftnetref01_Of.f k n) (limbs n.toNat) := by
  obtain ⟨m, rfl⟩ := Int.eq_ofNat_of_zero_le h0
  have hv := of_val m (by omega)
  have := rtrim_ev hv.1 (by simp)
  rw [hv.2] at this
  exact Ev.bind this (Ev.now _)
theorem cmp_top {a b : List Int} (ha : okL a) (hb : okL b) {n : Nat} (h : val (a.drop (n + 1)) = val (b.drop (n + 1))) (hna : n < a.length) (hnb : n < b.length) (hx : a.getD n 0 < b.getD n 0) : val a < val b := by
  have h1 := val_take_drop a n (by omega)
  have h2 := val_take_drop b n (by omega)
  have h3 := val_drop_succ a n hna
  have h4 := val_drop_succ b n hnb
  have h5 := val_lt (okL_take ha n)
  have h6 := okL_get ha n
  have h7 := okL_get hb n
  rw [List.length_take, Nat.min_eq_left (by omega)] at h5
  have h8 : val (a.drop n) + 1 ≤ val (b.drop n) := by rw [h3, h4, h]; omega
  have h9 := Nat.mul_le_mul_left (4294967296 ^ n) h8
  rw [Nat.mul_add] at h9
  omega
theorem compare_run (a b : List Int) (ha : okL a) (hb : okL b) (hl : a.length = b.length) (hn : a.length < 4611686018427387904) : ∀ (n : Nat), n ≤ a.length → val (a.drop n) = val (b.drop n) → ∀ k, n < k →
    nat_compare.l0 k a b (a.length : Int) (((a.length - n : Nat)) : Int) = some (cmpI (val a) (val b)) := by
  intro n
  induction n with
  | zero =>
    intro _ he k hk
    obtain ⟨k, rfl⟩ : ∃ m, k = m + 1 := ⟨k - 1, by omega⟩
    simp only [nat_compare.l0]
    rw [if_neg (by omega)]
    simp at he
    simp [cmpI, he]
  | succ n ih =>
    intro hle he k hk
    obtain ⟨k, rfl⟩ : ∃ m, k = m + 1 := ⟨k - 1, by omega⟩
    have e1 : wrap64 (wrap64 ((a.length : Int) - 1) - ((a.length - (n + 1) : Nat) : Int)) = (n : Int) := by
      rw [w64 (n := (a.length : Int) - 1) (by omega) (by omega), w64 (by omega) (by omega)]; omega
    have e2 : wrap64 (wrap64 ((b.length : Int) - 1) - ((a.length - (n + 1) : Nat) : Int)) = (n : Int) := by
      rw [w64 (n := (b.length : Int) - 1) (by omega) (by omega), w64 (by omega) (by omega)]; omega
    have e3 : wrap64 (((a.length - (n + 1) : Nat) : Int) + 1) = ((a.length - n : Nat) : Int) := by
      rw [w64 (by omega) (by omega)]; omega
    simp only [nat_compare.l0]
    rw [if_pos (by omega), e1, if_pos (by omega), if_pos (by omega), e2, if_pos (by omega), if_pos (by omega), rd_nat, rd_nat]
    by_cases h : a.getD n 0 = b.getD n 0
    · rw [if_pos h, e3]
      exact ih (by omega) (by rw [val_drop_succ a n (by omega), val_drop_succ b n (by omega), he, h]) k (by omega)
    · rw [if_neg h]
      by_cases h2 : a.getD n 0 < b.getD n 0
      · have := cmp_top ha hb he (by omega) (by omega) h2
        rw [if_pos h2, cmpI, if_pos this]
      · have := cmp_top hb ha he.symm (by omega) (by omega) (show b.getD n 0 < a.getD n 0 by omega)
        rw [if_neg h2, cmpI, if_neg (by omega), if_pos this]
theorem compare_ev {a b : List Int} (ha : canB a) (hb : canB b) (hna : a.length < 4611686018427387904) (hnb : b.length < 4611686018427387904) : Ev (fun k => nat_compare.f k a b) (cmpI (val a) (val b)) := by
  refine Ev.mk a.length fun k hk => ?_
  unfold nat_compare.f
  by_cases hl : a.length = b.length
  · rw [if_pos (by omega)]
    have := compare_run a b ha.1 hb.1 hl hna a.length (Nat.le_refl _) (by rw [List.drop_length, hl, List.drop_length]) k hk
    simpa using this
  · rw [if_neg (by omega), w64 (n := (a.length : Int) - b.length) (by omega) (by omega), w64 (by omega) (by omega)]
    by_cases h : a.length < b.length
    · have := canB_length_lt ha hb h
      have e : mn (mx ((a.length : Int) - b.length + 1) 0) 1 = 0 := by unfold mn mx; split <;> split <;> omega
      rw [e, cmpI, if_pos this]; rfl
    · have := canB_length_lt hb ha (by omega)
      have e : mn (mx ((a.length : Int) - b.length + 1) 0) 1 = 1 := by unfold mn mx; split <;> split <;> omega
      rw [e, cmpI, if_neg (by omega), if_pos this]; rfl
theorem rcmp_run (a b : List Int) (ha : okL a) (hb : okL b) (hl : a.length = b.length) (hn : a.length < 4611686018427387904) : ∀ (n : Nat), n ≤ a.length → val (a.drop n) = val (b.drop n) → ∀ k, n < k →
    driftnetref01_cmp.l0 k a b ((n : Int) - 1) = some (cmpI (val a) (val b)) := by
  intro n
  induction n with
  | zero =>
    intro _ he k hk
    obtain ⟨k, rfl⟩ : ∃ m, k = m + 1 := ⟨k - 1, by omega⟩
    simp only [driftnetref01_cmp.l0]
    rw [if_neg (by omega)]
    simp at he
    simp [cmpI, he]
  | succ n ih =>
    intro hle he k hk
    obtain ⟨k, rfl⟩ : ∃ m, k = m + 1 := ⟨k - 1, by omega⟩
    have e1 : ((n + 1 : Nat) : Int) - 1 = (n : Int) := by omega
    have e3 : wrap64 ((n : Int) - 1) = (n : Int) - 1 := w64 (by omega) (by omega)
    simp only [driftnetref01_cmp.l0]
    rw [e1, if_pos (by omega), if_pos (by omega), if_pos (by omega), if_pos (by omega), rd_nat, rd_nat]
    by_cases h2 : a.getD n 0 < b.getD n 0
    · have := cmp_top ha hb he (by omega) (by omega) h2
      rw [if_pos h2, cmpI, if_pos this]
    · rw [if_neg h2]
      by_cases h3 : a.getD n 0 > b.getD n 0
      · have := cmp_top hb ha he.symm (by omega) (by omega) h3
        rw [if_pos h3, cmpI, if_neg (by omega), if_pos this]
      · rw [if_neg h3, e3]
        exact ih (by omega) (by rw [val_drop_succ a n (by omega), val_drop_succ b n (by omega), he]; omega) k (by omega)
theorem rcmp_ev {a b : List Int} (ha : canB a) (hb : canB b) (hna : a.length < 4611686018427387904) (_hnb : b.length < 4611686018427387904) : Ev (fun k => driftnetref01_cmp.f k a b) (cmpI (val a) (val b)) := by
  refine Ev.mk a.length fun k hk => ?_
  unfold driftnetref01_cmp.f
  by_cases hl : a.length = b.length
  · rw [if_pos (by omega), w64 (by omega) (by omega)]
    exact rcmp_run a b ha.1 hb.1 hl hna a.length (Nat.le_refl _) (by rw [List.drop_length, hl, List.drop_length]) k hk
  · rw [if_neg (by omega)]
    by_cases h : a.length < b.length
    · have := canB_length_lt ha hb h
      rw [if_pos (by omega), cmpI, if_pos this]
    · have := canB_length_lt hb ha (by omega)
      rw [if_neg (by omega), cmpI, if_neg (by omega), if_pos this]
theorem set_val {l : List Int} {i : Nat} (hi : i < l.length) (h0 : l.getD i 0 = 0) (v : Nat) : val (l.set i (v : Int)) = val l + v * 4294967296 ^ i := by
  have := val_set hi (v : Int)
  rw [h0] at this
  simpa using this
theorem getD_set_ne {l : List Int} {i j : Nat} (v : Int) (h : i ≠ j) : (l.set i v).getD j 0 = l.getD j 0 := by
  simp [List.getD_eq_getElem?_getD, List.getElem?_set_ne h]
theorem getD_zeros (n j : Nat) : (List.replicate n (0 : Int)).getD j 0 = 0 := by
  by_cases h : j < n
  · rw [getD_lt (by simpa using h)]; simp
  · rw [getD_ge (by simpa using h)]
theorem nat_of_ok {l : List Int} (h : okL l) (i : Nat) : ∃ x : Nat, l.getD i 0 = (x : Int) ∧ x < 4294967296 := by
  have := okL_get h i
  exact ⟨(l.getD i 0).toNat, by omega, by omega⟩
theorem add32 {x y c : Nat} (hx : x < 4294967296) (hy : y < 4294967296) (hc : c ≤ 1) : bits_Add32.f (x : Int) (y : Int) (c : Int) = some ((((x + y + c) % 4294967296 : Nat) : Int), (((x + y + c) / 4294967296 : Nat) : Int)) := by
  unfold bits_Add32.f
  rw [u64w (n := (x : Int)) (by omega) (by omega), u64w (n := (y : Int)) (by omega) (by omega), u64w (n := (c : Int)) (by omega) (by omega), u64w (n := (x : Int) + y) (by omega) (by omega), u64w (by omega) (by omega)]
  congr 2 <;> omega
theorem step_sum {A B O x y c s P : Nat} (hs : s = x + y + c) (h : O + c * P = A + B) : (O + s % 4294967296 * P) + s / 4294967296 * (P * 4294967296) = (A + x * P) + (B + y * P) := by
  have e1 : s / 4294967296 * (P * 4294967296) = s / 4294967296 * 4294967296 * P := by rw [Nat.mul_assoc, Nat.mul_comm P]
  have e2 : s % 4294967296 * P + s / 4294967296 * 4294967296 * P = s * P := by
    rw [← Nat.add_mul]; congr 1; omega
  have e3 : s * P = x * P + y * P + c * P := by rw [hs, Nat.add_mul, Nat.add_mul]
  rw [e1]; omega
theorem plus_run (a b : List Int) (ha : okL a) (hb : okL b) (hn : a.length < 1099511627776) (hab : b.length ≤ a.length) : ∀ (d i : Nat), a.length - i = d → i ≤ a.length → ∀ (out : List Int) (c : Nat), okL out → out.length = a.length + 1 → c ≤ 1 →
    (∀ j, i ≤ j → out.getD j 0 = 0) → val out + c * 4294967296 ^ i = val (a.take i) + val (b.take i) → ∀ k, d + a.length + 5 < k →
    nat_plus.l0 k a b out (c : Int) (a.length : Int) (i : Int) = some (limbs (val a + val b)) := by
  intro d
  induction d with
  | zero =>
    intro i hd hi out c ho hl hc hz hv k hk
    obtain ⟨k, rfl⟩ : ∃ m, k = m + 1 := ⟨k - 1, by omega⟩
    obtain rfl : i = a.length := by omega
    simp only [nat_plus.l0]
    rw [if_neg (by omega), if_pos (by omega), if_pos (by omega), show ((a.length : Int)).toNat = a.length by omega]
    have ht := trim_run _ (out.set a.length (c : Int)) rfl (okL_set ho _ (by omega)) (by rw [List.length_set]; omega) k (by rw [List.length_set]; omega)
    rw [nat_trim.f, ht, set_val (by omega) (hz _ (Nat.le_refl _)), hv, List.take_of_length_le (Nat.le_refl _), List.take_of_length_le hab]
    rfl
  | succ d ih =>
    intro i hd hi out c ho hl hc hz hv k hk
    obtain ⟨k, rfl⟩ : ∃ m, k = m + 1 := ⟨k - 1, by omega⟩
    obtain ⟨x, hx, hx2⟩ := nat_of_ok ha i
    obtain ⟨y, hy, hy2⟩ := nat_of_ok hb i
    have next : nat_plus.l0 k a b (out.set i (((x + y + c) % 4294967296 : Nat) : Int)) (((x + y + c) / 4294967296 : Nat) : Int) (a.length : Int) ((i + 1 : Nat) : Int) = some (limbs (val a + val b)) := by
      have hil : i < out.length := by omega
      have ho2 : okL (out.set i (((x + y + c) % 4294967296 : Nat) : Int)) := okL_set ho i ⟨by omega, by omega⟩
      have hc2 : (x + y + c) / 4294967296 ≤ 1 := by omega
      have hd2 : a.length - (i + 1) = d := by omega
      have hi2 : i + 1 ≤ a.length := by omega
      have hk2 : d + a.length + 5 < k := by omega
      have hz2 : ∀ j, i + 1 ≤ j → (out.set i (((x + y + c) % 4294967296 : Nat) : Int)).getD j 0 = 0 := fun j hj => by rw [getD_set_ne _ (by omega)]; exact hz j (by omega)
      have hv2 : val (out.set i (((x + y + c) % 4294967296 : Nat) : Int)) + (x + y + c) / 4294967296 * 4294967296 ^ (i + 1) = val (a.take (i + 1)) + val (b.take (i + 1)) := by
        rw [set_val hil (hz _ (Nat.le_refl _)), val_take_succ, val_take_succ, hx, hy, Nat.pow_succ]
        simp only [Int.toNat_natCast]
        rw [step_sum (A := val (a.take i)) (B := val (b.take i)) (O := val out) (x := x) (y := y) (c := c) (s := x + y + c) (P := 4294967296 ^ i) rfl hv]
      exact ih (i + 1) hd2 hi2 (out.set i (((x + y + c) % 4294967296 : Nat) : Int)) ((x + y + c) / 4294967296) ho2 (by rw [List.length_set]; exact hl) hc2 hz2 hv2 k hk2
    simp only [nat_plus.l0]
    rw [if_pos (by omega), w64 (n := (i : Int) + 1) (by omega) (by omega), show (i : Int) + 1 = ((i + 1 : Nat) : Int) by omega]
    by_cases hb2 : i < b.length
    · rw [if_pos (by omega), if_pos (by omega), if_pos (by omega), rd_nat, rd_nat, hx, hy, add32 hx2 hy2 hc]
      simp only [Option.bind_some]
      rw [if_pos (by omega)]
      exact next
    · have : y = 0 := by rw [getD_ge (by omega)] at hy; omega
      subst this
      rw [if_neg (by omega), if_pos (by omega), if_pos (by omega), rd_nat, hx, show (0 : Int) = ((0 : Nat) : Int) from rfl, add32 (y := 0) hx2 (by omega) hc]
      simp only [Option.bind_some]
      rw [if_pos (by omega)]
      exact next
theorem plus_j0 (a b : List Int) (ha : okL a) (hb : okL b) (hn : a.length < 1099511627776) (hab : b.length ≤ a.length) (k : Nat) (hk : 2 * a.length + 6 < k) : nat_plus.j0 k a b = some (limbs (val a + val b)) := by
  obtain ⟨k, rfl⟩ : ∃ m, k = m + 1 := ⟨k - 1, by omega⟩
  simp only [nat_plus.j0]
  rw [w64 (by omega) (by omega), if_pos (by omega), if_pos (by omega), show ((a.length : Int) + 1).toNat = a.length + 1 by omega]
  exact plus_run a b ha hb hn hab a.length 0 (by omega) (by omega) _ 0 (okL_replicate _) (by simp) (by omega) (fun j _ => getD_zeros _ _) (by simp [val_zeros, val]) k (by omega)
theorem plus_ev {a b : List Int} (ha : okL a) (hb : okL b) (hna : a.length < 1099511627776) (hnb : b.length < 1099511627776) : Ev (fun k => nat_plus.f k a b) (limbs (val a + val b)) := by
  refine Ev.mk (2 * a.length + 2 * b.length + 6) fun k hk => ?_
  unfold nat_plus.f
  by_cases h : a.length < b.length
  · rw [if_pos (by omega), plus_j0 b a hb ha hnb (by omega) k (by omega), Nat.add_comm]
  · rw [if_neg (by omega), plus_j0 a b ha hb hna (by omega) k (by omega)]
theorem sub32 {x y c : Nat} (hx : x < 4294967296) (hy : y < 4294967296) (hc : c ≤ 1) : bits_Sub32.f (x : Int) (y : Int) (c : Int) = some (((x + 4294967296 * (if x < y + c then 1 else 0) - (y + c) : Nat) : Int), ((if x < y + c then 1 else 0 : Nat) : Int)) := by
  unfold bits_Sub32.f
  rw [if_pos (by omega)]
  by_cases h : x < y + c
  · rw [if_pos (by omega), if_pos h]
    have e : ((x : Int) - y - c) % 4294967296 = ((x + 4294967296 * 1 - (y + c) : Nat) : Int) := by omega
    rw [e]; rfl
  · rw [if_neg (by omega), if_neg h]
    have e : ((x : Int) - y - c) % 4294967296 = ((x + 4294967296 * 0 - (y + c) : Nat) : Int) := by omega
    rw [e]; rfl
theorem step_diff {A B O x y c s t P : Nat} (hs : s + (y + c) = x + 4294967296 * t) (h : O + B = A + c * P) : (O + s * P) + (B + y * P) = (A + x * P) + t * (P * 4294967296) := by
  have e1 : t * (P * 4294967296) = 4294967296 * t * P := by rw [Nat.mul_comm 4294967296 t, Nat.mul_assoc, Nat.mul_comm P]
  have e2 : s * P + (y * P + c * P) = x * P + 4294967296 * t * P := by rw [← Nat.add_mul, ← Nat.add_mul, ← Nat.add_mul, hs]
  rw [e1]; omega
theorem minus_run (a b : List Int) (ha : okL a) (hb : okL b) (hn : a.length < 1099511627776) (hab : val b ≤ val a) : ∀ (d i : Nat), a.length - i = d → i ≤ a.length → ∀ (out : List Int) (c : Nat), okL out → out.length = a.length → c ≤ 1 →
    (∀ j, i ≤ j → out.getD j 0 = 0) → val out + val (b.take i) = val (a.take i) + c * 4294967296 ^ i → ∀ k, d + a.length + 5 < k →
    nat_minus.l0 k a b out (c : Int) (a.length : Int) (i : Int) = some (limbs (val a - val b)) := by
  intro d
  induction d with
  | zero =>
    intro i hd hi out c ho hl hc hz hv k hk
    obtain ⟨k, rfl⟩ : ∃ m, k = m + 1 := ⟨k - 1, by omega⟩
    obtain rfl : i = a.length := by omega
    simp only [nat_minus.l0]
    rw [if_neg (by omega)]
    have ht := trim_run _ out rfl ho (by omega) k (by omega)
    have h1 := val_lt ho
    rw [hl] at h1
    rw [List.take_of_length_le (Nat.le_refl _)] at hv
    have h2 : b.length ≤ a.length ∨ a.length < b.length := by omega
    have h3 : val out = val a - val b := by
      have h4 : val b = val (b.take a.length) + 4294967296 ^ a.length * val (b.drop a.length) := by
        by_cases h5 : a.length ≤ b.length
        · exact val_take_drop b a.length h5
        · rw [List.take_of_length_le (by omega), List.drop_eq_nil_of_le (by omega)]; simp [val]
      have h6 := val_lt ha
      have h7 : val (b.drop a.length) = 0 := by
        by_cases h8 : val (b.drop a.length) = 0
        · exact h8
        · have : 4294967296 ^ a.length * 1 ≤ 4294967296 ^ a.length * val (b.drop a.length) := Nat.mul_le_mul_left _ (by omega)
          omega
      rw [h7] at h4
      have h9 : c = 0 := by
        by_cases h10 : c = 0
        · exact h10
        · obtain rfl : c = 1 := by omega
          omega
      subst h9
      omega
    rw [nat_trim.f, ht, h3]
    rfl
  | succ d ih =>
    intro i hd hi out c ho hl hc hz hv k hk
    obtain ⟨k, rfl⟩ : ∃ m, k = m + 1 := ⟨k - 1, by omega⟩
    obtain ⟨x, hx, hx2⟩ := nat_of_ok ha i
    obtain ⟨y, hy, hy2⟩ := nat_of_ok hb i
    have hs : (x + 4294967296 * (if x < y + c then 1 else 0) - (y + c)) < 4294967296 ∧ (x + 4294967296 * (if x < y + c then 1 else 0) - (y + c)) + (y + c) = x + 4294967296 * (if x < y + c then 1 else 0) := by split <;> omega
    have ht : (if x < y + c then 1 else 0 : Nat) ≤ 1 := by split <;> omega
    have hsub := sub32 hx2 hy2 hc
    revert hs ht hsub
    generalize (x + 4294967296 * (if x < y + c then 1 else 0) - (y + c)) = s
    generalize (if x < y + c then 1 else 0 : Nat) = t
    intro hs ht hsub
    have next : nat_minus.l0 k a b (out.set i (s : Int)) (t : Int) (a.length : Int) ((i + 1 : Nat) : Int) = some (limbs (val a - val b)) := by
      have hil : i < out.length := by omega
      have ho2 : okL (out.set i (s : Int)) := okL_set ho i ⟨by omega, by omega⟩
      have hd2 : a.length - (i + 1) = d := by omega
      have hi2 : i + 1 ≤ a.length := by omega
      have hk2 : d + a.length + 5 < k := by omega
      have hz2 : ∀ j, i + 1 ≤ j → (out.set i (s : Int)).getD j 0 = 0 := fun j hj => by rw [getD_set_ne _ (by omega)]; exact hz j (by omega)
      have hv2 : val (out.set i (s : Int)) + val (b.take (i + 1)) = val (a.take (i + 1)) + t * 4294967296 ^ (i + 1) := by
        rw [set_val hil (hz _ (Nat.le_refl _)), val_take_succ, val_take_succ, hx, hy, Nat.pow_succ]
        simp only [Int.toNat_natCast]
        rw [step_diff (A := val (a.take i)) (B := val (b.take i)) (O := val out) (x := x) (y := y) (c := c) (s := s) (t := t) (P := 4294967296 ^ i) hs.2 hv]
      exact ih (i + 1) hd2 hi2 (out.set i (s : Int)) t ho2 (by rw [List.length_set]; exact hl) ht hz2 hv2 k hk2
    simp only [nat_minus.l0]
    rw [if_pos (by omega), w64 (n := (i : Int) + 1) (by omega) (by omega), show (i : Int) + 1 = ((i + 1 : Nat) : Int) by omega]
    by_cases hb2 : i < b.length
    · rw [if_pos (by omega), if_pos (by omega), if_pos (by omega), rd_nat, rd_nat, hx, hy, hsub]
      simp only [Option.bind_some]
      rw [if_pos (by omega)]
      exact next
    · have : y = 0 := by rw [getD_ge (by omega)] at hy; omega
      subst this
      rw [if_neg (by omega), if_pos (by omega), if_pos (by omega), rd_nat, hx, show (0 : Int) = ((0 : Nat) : Int) from rfl, hsub]
      simp only [Option.bind_some]
      rw [if_pos (by omega)]
      exact next
theorem minus_ev {a b : List Int} (ha : okL a) (hb : okL b) (hna : a.length < 1099511627776) (hab : val b ≤ val a) : Ev (fun k => nat_minus.f k a b) (limbs (val a - val b)) := by
  refine Ev.mk (2 * a.length + 6) fun k hk => ?_
  unfold nat_minus.f
  rw [if_pos (by omega), if_pos (by omega), show ((a.length : Int)).toNat = a.length by omega]
  exact minus_run a b ha hb hna hab a.length 0 (by omega) (by omega) _ 0 (okL_replicate _) (by simp) (by omega) (fun j _ => getD_zeros _ _) (by simp [val_zeros, val]) k (by omega)
theorem mul_bound {x y o t : Nat} (hx : x < 4294967296) (hy : y < 4294967296) (ho : o < 4294967296) (ht : t < 4294967296) : t + (o + x * y) < 18446744073709551616 := by
  have : x * y ≤ 4294967295 * 4294967295 := Nat.mul_le_mul (by omega) (by omega)
  omega
theorem step_mul {O V o t s xy P : Nat} (hs : s = t + (o + xy)) (hO : V + o * P = O + s % 4294967296 * P) : V + s / 4294967296 * (P * 4294967296) = O + t * P + xy * P := by
  have e1 : s / 4294967296 * (P * 4294967296) = s / 4294967296 * 4294967296 * P := by rw [Nat.mul_assoc, Nat.mul_comm P]
  have e2 : s % 4294967296 * P + s / 4294967296 * 4294967296 * P = s * P := by rw [← Nat.add_mul]; congr 1; omega
  have e3 : s * P = t * P + (o * P + xy * P) := by rw [hs, Nat.add_mul, Nat.add_mul]
  rw [e1]; omega
theorem mul_step_eq {x y o t : Nat} (hx : x < 4294967296) (hy : y < 4294967296) (ho : o < 4294967296) (ht : t < 4294967296) :
    IntKind.u64.wrap ((t : Int) + IntKind.u64.wrap (IntKind.u64.wrap (o : Int) + IntKind.u64.wrap (IntKind.u64.wrap (x : Int) * IntKind.u64.wrap (y : Int)))) = ((t + (o + x * y) : Nat) : Int) := by
  have hb := mul_bound hx hy ho ht
  rw [u64w (n := (x : Int)) (by omega) (by omega), u64w (n := (y : Int)) (by omega) (by omega), u64w (n := (o : Int)) (by omega) (by omega)]
  have e : (x : Int) * y = ((x * y : Nat) : Int) := by simp
  rw [e, u64w (n := ((x * y : Nat) : Int)) (by omega) (by omega), u64w (n := (o : Int) + ((x * y : Nat) : Int)) (by omega) (by omega), u64w (by omega) (by omega)]
  omega
theorem mul_step_eq' {x y o t : Nat} (hx : x < 4294967296) (hy : y < 4294967296) (ho : o < 4294967296) (ht : t < 4294967296) :
    IntKind.u64.wrap (IntKind.u64.wrap ((t : Int) + IntKind.u64.wrap (o : Int)) + IntKind.u64.wrap (IntKind.u64.wrap (x : Int) * IntKind.u64.wrap (y : Int))) = ((t + (o + x * y) : Nat) : Int) := by
  have hb := mul_bound hx hy ho ht
  rw [u64w (n := (x : Int)) (by omega) (by omega), u64w (n := (y : Int)) (by omega) (by omega), u64w (n := (o : Int)) (by omega) (by omega)]
  have e : (x : Int) * y = ((x * y : Nat) : Int) := by simp
  rw [e, u64w (n := ((x * y : Nat) : Int)) (by omega) (by omega), u64w (n := (t : Int) + (o : Int)) (by omega) (by omega), u64w (by omega) (by omega)]
  omega
structure MulAt (b : List Int) (i m x V0 : Nat) (out : List Int) (t : Nat) : Prop where
  ok : okL out
  lt : t < 4294967296
  v : val out + t * 4294967296 ^ (i + m) = V0 + x * val (b.take m) * 4294967296 ^ i
theorem MulAt.step {b out : List Int} {i m x V0 t : Nat} (hb : okL b) (hx : x < 4294967296) (h : MulAt b i m x V0 out t) (hp : i + m < out.length) {y o : Nat} (hy : b.getD m 0 = y) (ho : out.getD (i + m) 0 = o) :
    MulAt b i (m + 1) x V0 (out.set (i + m) (((t + (o + x * y)) % 4294967296 : Nat) : Int)) ((t + (o + x * y)) / 4294967296) := by
  have hy2 : y < 4294967296 := by have := okL_get hb m; omega
  have ho2 : o < 4294967296 := by have := okL_get h.ok (i + m); omega
  have hbd := mul_bound hx hy2 ho2 h.lt
  refine ⟨okL_set h.ok _ ⟨by omega, by omega⟩, by omega, ?_⟩
  have hv := val_set hp (((t + (o + x * y)) % 4294967296 : Nat) : Int)
  rw [ho] at hv
  simp only [Int.toNat_natCast] at hv
  have := step_mul (O := val out) (V := val (out.set (i + m) (((t + (o + x * y)) % 4294967296 : Nat) : Int))) (o := o) (t := t) (xy := x * y) (P := 4294967296 ^ (i + m)) rfl hv
  have ep : 4294967296 ^ (i + (m + 1)) = 4294967296 ^ (i + m) * 4294967296 := by rw [← Nat.pow_succ]; rfl
  rw [ep, this, h.v, val_take_succ, hy, Nat.mul_add, Nat.add_mul, Nat.pow_add]
  simp only [Int.toNat_natCast]
  have e : x * (y * 4294967296 ^ m) * 4294967296 ^ i = x * y * (4294967296 ^ i * 4294967296 ^ m) := by
    rw [← Nat.mul_assoc x y, Nat.mul_assoc (x * y), Nat.mul_comm (4294967296 ^ m)]
  rw [e, Nat.add_assoc]
theorem times_l1 (a b : List Int) (hb : okL b) (hnb : b.length < 1099511627776) (i x : Nat) (hx : x < 4294967296) (hi : i < 1099511627776) (V0 : Nat) (r : List Int) (x17 : List Int) (x18 : Int)
    (K : Nat) (hnext : ∀ (out : List Int) (t : Nat), MulAt b i b.length x V0 out t → out.length = a.length + b.length → (∀ j, i + b.length ≤ j → out.getD j 0 = 0) → ∀ k, K < k → nat_times.l0 k b (out.set (i + b.length) (t : Int)) x17 x18 ((i + 1 : Nat) : Int) = some r) (hia : i < a.length) :
    ∀ (d m : Nat), b.length - m = d → m ≤ b.length → ∀ (out : List Int) (t : Nat), MulAt b i m x V0 out t → out.length = a.length + b.length → (∀ j, i + b.length ≤ j → out.getD j 0 = 0) → ∀ k, d + K + 1 < k →
    nat_times.l1 k b out (i : Int) (x : Int) (t : Int) x17 x18 (i : Int) b (b.length : Int) (m : Int) = some r := by
  intro d
  induction d with
  | zero =>
    intro m hd hm out t h hl hz k hk
    obtain ⟨k, rfl⟩ : ∃ m, k = m + 1 := ⟨k - 1, by omega⟩
    obtain rfl : m = b.length := by omega
    have ht := h.lt
    simp only [nat_times.l1]
    rw [if_neg (by omega), w64 (n := (i : Int) + b.length) (by omega) (by omega), if_pos (by omega), if_pos (by omega), w64 (n := (i : Int) + 1) (by omega) (by omega), show (((i : Int) + b.length)).toNat = i + b.length by omega, show ((t : Int)) % 4294967296 = (t : Int) by omega, show (i : Int) + 1 = ((i + 1 : Nat) : Int) by omega]
    exact hnext out t h hl hz k (by omega)
  | succ d ih =>
    intro m hd hm out t h hl hz k hk
    obtain ⟨k, rfl⟩ : ∃ m, k = m + 1 := ⟨k - 1, by omega⟩
    obtain ⟨y, hy, hy2⟩ := nat_of_ok hb m
    obtain ⟨o, ho, ho2⟩ := nat_of_ok h.ok (i + m)
    have hbd := mul_bound hx hy2 ho2 h.lt
    simp only [nat_times.l1]
    rw [if_pos (by omega), if_pos (by omega), if_pos (by omega), w64 (n := (i : Int) + (m : Int)) (by omega) (by omega), show (i : Int) + (m : Int) = ((i + m : Nat) : Int) by omega, if_pos (by omega), if_pos (by omega), rd_nat, rd_nat, ho, hy, mul_step_eq hx hy2 ho2 h.lt, w64 (n := (m : Int) + 1) (by omega) (by omega)]
    have := ih (m + 1) (by omega) (by omega) (out.set (i + m) (((t + (o + x * y)) % 4294967296 : Nat) : Int)) ((t + (o + x * y)) / 4294967296) (h.step hb hx (by omega) hy ho) (by rw [List.length_set]; exact hl) (fun j hj => by rw [getD_set_ne _ (by omega)]; exact hz j hj) k (by omega)
    simpa [show (((i : Int) + (m : Int))).toNat = i + m by omega] using this
theorem times_l0 (a b : List Int) (ha : okL a) (hb : okL b) (hna : a.length < 1099511627776) (hnb : b.length < 1099511627776) : ∀ (d i : Nat), a.length - i = d → i ≤ a.length → ∀ (out : List Int), okL out → out.length = a.length + b.length →
    (∀ j, i + b.length ≤ j → out.getD j 0 = 0) → val out = val (a.take i) * val b → ∀ k, d * (b.length + 3) + (a.length + b.length) + 3 < k →
    nat_times.l0 k b out a (a.length : Int) (i : Int) = some (limbs (val a * val b)) := by
  intro d
  induction d with
  | zero =>
    intro i hd hi out ho hl hz hv k hk
    obtain ⟨k, rfl⟩ : ∃ m, k = m + 1 := ⟨k - 1, by omega⟩
    obtain rfl : i = a.length := by omega
    simp only [nat_times.l0]
    rw [if_neg (by omega), nat_trim.f, trim_run _ out rfl ho (by omega) k (by omega), hv, List.take_of_length_le (Nat.le_refl _)]
    rfl
  | succ d ih =>
    intro i hd hi out ho hl hz hv k hk
    obtain ⟨k, rfl⟩ : ∃ m, k = m + 1 := ⟨k - 1, by omega⟩
    obtain ⟨x, hx, hx2⟩ := nat_of_ok ha i
    have hk2 : d * (b.length + 3) + (b.length + 3) + (a.length + b.length) + 3 < k + 1 := by rw [Nat.succ_mul] at hk; omega
    simp only [nat_times.l0]
    rw [if_pos (by omega), if_pos (by omega), if_pos (by omega), rd_nat, hx]
    refine times_l1 a b hb hnb i x hx2 (by omega) (val out) _ a (a.length : Int) (d * (b.length + 3) + (a.length + b.length) + 3) ?_ (by omega) b.length 0 (by omega) (by omega) out 0 ⟨ho, by omega, by simp [val]⟩ hl hz k (by omega)
    intro out2 t h hl2 hz2 k2 hk2
    have ho2 : okL (out2.set (i + b.length) (t : Int)) := okL_set h.ok _ ⟨by omega, by have := h.lt; omega⟩
    refine ih (i + 1) (by omega) (by omega) (out2.set (i + b.length) (t : Int)) ho2 (by rw [List.length_set]; exact hl2) (fun j hj => by rw [getD_set_ne _ (by omega)]; exact hz2 j (by omega)) ?_ k2 hk2
    rw [set_val (by omega) (hz2 _ (Nat.le_refl _)), h.v, List.take_of_length_le (Nat.le_refl _), hv, val_take_succ, hx, Nat.add_mul]
    simp only [Int.toNat_natCast]
    congr 1
    rw [Nat.mul_assoc, Nat.mul_assoc, Nat.mul_comm (val b)]
theorem times_ev {a b : List Int} (ha : okL a) (hb : okL b) (hna : a.length < 1099511627776) (hnb : b.length < 1099511627776) : Ev (fun k => nat_times.f k a b) (limbs (val a * val b)) := by
  refine Ev.mk (a.length * (b.length + 3) + (a.length + b.length) + 3) fun k hk => ?_
  unfold nat_times.f
  rw [w64 (by omega) (by omega), if_pos (by omega), if_pos (by omega), show ((a.length : Int) + b.length).toNat = a.length + b.length by omega]
  exact times_l0 a b ha hb hna hnb a.length 0 (by omega) (by omega) _ (okL_replicate _) (by simp) (fun j _ => getD_zeros _ _) (by simp [val_zeros, val]) k hk
theorem radd_end (a b out : List Int) (ho : okL out) (n : Nat) (hl : out.length = n) (hna : a.length ≤ n) (hnb : b.length ≤ n) (hv : val out + 0 * 4294967296 ^ n = val (a.take n) + val (b.take n)) (hn : n < 2199023255552) (k : Nat) (hk : n < k) :
    (driftnetref01_trim.f k out).bind (fun t => some t) = some (limbs (val a + val b)) := by
  have := rtrim_run out ho (by omega) out.length (Nat.le_refl _) k (by omega)
  rw [List.take_length] at this
  rw [driftnetref01_trim.f, this]
  rw [List.take_of_length_le hna, List.take_of_length_le hnb] at hv
  simp at hv
  rw [hv]; rfl
theorem radd_run (a b : List Int) (ha : okL a) (hb : okL b) (n : Nat) (hna : a.length ≤ n) (hnb : b.length ≤ n) (hmax : n = a.length ∨ n = b.length) (hn : n < 1099511627776) : ∀ (d i : Nat), n + 1 - i = d → i ≤ n + 1 → ∀ (out : List Int) (c : Nat), okL out → out.length = i → c ≤ 1 →
    (i = n + 1 → c = 0) → val out + c * 4294967296 ^ i = val (a.take i) + val (b.take i) → ∀ k, 2 * d + n + 5 < k →
    driftnetref01_add.l0 k a b out (c : Int) (i : Int) = some (limbs (val a + val b)) := by
  intro d
  induction d with
  | zero =>
    intro i hd hi out c ho hl hc hend hv k hk
    obtain rfl : i = n + 1 := by omega
    obtain rfl : c = 0 := hend rfl
    obtain ⟨k, rfl⟩ : ∃ m, k = m + 2 := ⟨k - 2, by omega⟩
    simp only [driftnetref01_add.l0, driftnetref01_add.j1]
    rw [if_neg (by omega), if_neg (by omega), if_neg (by simp)]
    exact radd_end a b out ho (n + 1) hl (by omega) (by omega) hv (by omega) k (by omega)
  | succ d ih =>
    intro i hd hi out c ho hl hc hend hv k hk
    obtain ⟨k, rfl⟩ : ∃ m, k = m + 2 := ⟨k - 2, by omega⟩
    obtain ⟨x, hx, hx2⟩ := nat_of_ok ha i
    obtain ⟨y, hy, hy2⟩ := nat_of_ok hb i
    by_cases hgo : i < n ∨ c = 1
    · have next : driftnetref01_add.l0 k a b (out ++ [(((x + y + c) % 4294967296 : Nat) : Int)]) (((x + y + c) / 4294967296 : Nat) : Int) ((i + 1 : Nat) : Int) = some (limbs (val a + val b)) := by
        have ho2 : okL (out ++ [(((x + y + c) % 4294967296 : Nat) : Int)]) := okL_append.2 ⟨ho, fun z hz => by simp at hz; omega⟩
        have hc2 : (x + y + c) / 4294967296 ≤ 1 := by omega
        have hd2 : n + 1 - (i + 1) = d := by omega
        have hi2 : i + 1 ≤ n + 1 := by omega
        have hk2 : 2 * d + n + 5 < k := by omega
        have hend2 : i + 1 = n + 1 → (x + y + c) / 4294967296 = 0 := by
          intro h
          have h1 : x = 0 := by rw [getD_ge (by omega)] at hx; omega
          have h2 : y = 0 := by rw [getD_ge (by omega)] at hy; omega
          omega
        have hv2 : val (out ++ [(((x + y + c) % 4294967296 : Nat) : Int)]) + (x + y + c) / 4294967296 * 4294967296 ^ (i + 1) = val (a.take (i + 1)) + val (b.take (i + 1)) := by
          rw [val_snoc, hl, val_take_succ, val_take_succ, hx, hy, Nat.pow_succ, Nat.mul_comm (4294967296 ^ i) ((((x + y + c) % 4294967296 : Nat) : Int)).toNat]
          simp only [Int.toNat_natCast]
          rw [step_sum (A := val (a.take i)) (B := val (b.take i)) (O := val out) (x := x) (y := y) (c := c) (s := x + y + c) (P := 4294967296 ^ i) rfl hv]
        exact ih (i + 1) hd2 hi2 _ _ ho2 (by rw [List.length_append, hl]; rfl) hc2 hend2 hv2 k hk2
      simp only [driftnetref01_add.l0, driftnetref01_add.j1]
      by_cases h1 : i < a.length
      · by_cases h2 : i < b.length
        · rw [if_pos (by omega), if_pos trivial, if_pos (by omega), if_pos (by omega), if_pos (by omega), if_pos (by omega), rd_nat, rd_nat, hx, hy, u64w (n := (x : Int)) (by omega) (by omega), u64w (n := (y : Int)) (by omega) (by omega), u64w (n := (c : Int) + x) (by omega) (by omega), u64w (n := (c : Int) + x + y) (by omega) (by omega), w64 (n := (i : Int) + 1) (by omega) (by omega), show ((c : Int) + x + y) % 4294967296 = (((x + y + c) % 4294967296 : Nat) : Int) by omega, show ((c : Int) + x + y) / 4294967296 = (((x + y + c) / 4294967296 : Nat) : Int) by omega, show (i : Int) + 1 = ((i + 1 : Nat) : Int) by omega]
          exact next
        · have : y = 0 := by rw [getD_ge (by omega)] at hy; omega
          subst this
          rw [if_pos (by omega), if_pos trivial, if_pos (by omega), if_pos (by omega), if_neg (by omega), if_pos (by omega), rd_nat, hx, u64w (n := (x : Int)) (by omega) (by omega), u64w (n := (c : Int) + x) (by omega) (by omega), w64 (n := (i : Int) + 1) (by omega) (by omega), show ((c : Int) + x) % 4294967296 = (((x + 0 + c) % 4294967296 : Nat) : Int) by omega, show ((c : Int) + x) / 4294967296 = (((x + 0 + c) / 4294967296 : Nat) : Int) by omega, show (i : Int) + 1 = ((i + 1 : Nat) : Int) by omega]
          exact next
      · have h0 : x = 0 := by rw [getD_ge (by omega)] at hx; omega
        subst h0
        by_cases h2 : i < b.length
        · rw [if_neg (by omega), if_pos (by omega), if_pos trivial, if_neg (by omega), if_pos (by omega), if_pos (by omega), if_pos (by omega), rd_nat, hy, u64w (n := (y : Int)) (by omega) (by omega), u64w (n := (c : Int) + y) (by omega) (by omega), w64 (n := (i : Int) + 1) (by omega) (by omega), show ((c : Int) + y) % 4294967296 = (((0 + y + c) % 4294967296 : Nat) : Int) by omega, show ((c : Int) + y) / 4294967296 = (((0 + y + c) / 4294967296 : Nat) : Int) by omega, show (i : Int) + 1 = ((i + 1 : Nat) : Int) by omega]
          exact next
        · have : y = 0 := by rw [getD_ge (by omega)] at hy; omega
          subst this
          rw [if_neg (by omega), if_neg (by omega), if_pos (by simp; omega), if_neg (by omega), if_neg (by omega), if_pos (by omega), w64 (n := (i : Int) + 1) (by omega) (by omega), show ((c : Int)) % 4294967296 = (((0 + 0 + c) % 4294967296 : Nat) : Int) by omega, show ((c : Int)) / 4294967296 = (((0 + 0 + c) / 4294967296 : Nat) : Int) by omega, show (i : Int) + 1 = ((i + 1 : Nat) : Int) by omega]
          exact next
    · obtain rfl : i = n := by omega
      obtain rfl : c = 0 := by omega
      simp only [driftnetref01_add.l0, driftnetref01_add.j1]
      rw [if_neg (by omega), if_neg (by omega), if_neg (by simp)]
      exact radd_end a b out ho i hl (by omega) (by omega) hv (by omega) k (by omega)
theorem radd_ev {a b : List Int} (ha : okL a) (hb : okL b) (hna : a.length < 1099511627776) (hnb : b.length < 1099511627776) : Ev (fun k => driftnetref01_add.f k a b) (limbs (val a + val b)) := by
  refine Ev.mk (2 * (max a.length b.length + 1) + max a.length b.length + 5) fun k hk => ?_
  exact radd_run a b ha hb (max a.length b.length) (by omega) (by omega) (by omega) (by omega) (max a.length b.length + 1) 0 (by omega) (by omega) [] 0 okL_nil rfl (by omega) (by omega) (by simp [val]) k hk
theorem diff_end {a b out : List Int} {c : Nat} (ha : okL a) (ho : okL out) (hl : out.length = a.length) (hab : val b ≤ val a) (hc : c ≤ 1) (hv : val out + val (b.take a.length) = val a + c * 4294967296 ^ a.length) : val out = val a - val b := by
  have h1 := val_lt ho
  rw [hl] at h1
  have h4 : val b = val (b.take a.length) + 4294967296 ^ a.length * val (b.drop a.length) := by
    by_cases h5 : a.length ≤ b.length
    · exact val_take_drop b a.length h5
    · rw [List.take_of_length_le (by omega), List.drop_eq_nil_of_le (by omega)]; simp [val]
  have h6 := val_lt ha
  have h7 : val (b.drop a.length) = 0 := by
    by_cases h8 : val (b.drop a.length) = 0
    · exact h8
    · have : 4294967296 ^ a.length * 1 ≤ 4294967296 ^ a.length * val (b.drop a.length) := Nat.mul_le_mul_left _ (by omega)
      omega
  rw [h7] at h4
  have h9 : c = 0 := by
    by_cases h10 : c = 0
    · exact h10
    · obtain rfl : c = 1 := by omega
      omega
  subst h9
  omega
theorem take_set_succ {l : List Int} {i : Nat} (hi : i < l.length) (v : Nat) : val ((l.set i (v : Int)).take (i + 1)) = val (l.take i) + v * 4294967296 ^ i := by
  rw [val_take_succ, List.take_set_of_le (Nat.le_refl i), getD_lt (by rw [List.length_set]; exact hi)]
  simp
theorem rsub_run (a b : List Int) (ha : okL a) (hb : okL b) (hn : a.length < 1099511627776) (hab : val b ≤ val a) : ∀ (d i : Nat), a.length - i = d → i ≤ a.length → ∀ (out : List Int) (c : Nat), okL out → out.length = a.length → c ≤ 1 →
    val (out.take i) + val (b.take i) = val (a.take i) + c * 4294967296 ^ i → ∀ k, d + a.length + 5 < k →
    driftnetref01_sub.l0 k a b out (c : Int) (i : Int) = some (limbs (val a - val b)) := by
  intro d
  induction d with
  | zero =>
    intro i hd hi out c ho hl hc hv k hk
    obtain ⟨k, rfl⟩ : ∃ m, k = m + 1 := ⟨k - 1, by omega⟩
    obtain rfl : i = a.length := by omega
    simp only [driftnetref01_sub.l0]
    rw [if_neg (by omega)]
    have ht := rtrim_run out ho (by omega) out.length (Nat.le_refl _) k (by omega)
    rw [List.take_length] at ht
    rw [List.take_of_length_le (l := out) (by omega), List.take_of_length_le (l := a) (Nat.le_refl _)] at hv
    rw [driftnetref01_trim.f, ht, diff_end ha ho hl hab hc hv]
    rfl
  | succ d ih =>
    intro i hd hi out c ho hl hc hv k hk
    obtain ⟨k, rfl⟩ : ∃ m, k = m + 1 := ⟨k - 1, by omega⟩
    obtain ⟨x, hx, hx2⟩ := nat_of_ok ha i
    obtain ⟨y, hy, hy2⟩ := nat_of_ok hb i
    have next : ∀ s t : Nat, s < 4294967296 → t ≤ 1 → s + (y + c) = x + 4294967296 * t → driftnetref01_sub.l0 k a b (out.set i (s : Int)) (t : Int) ((i + 1 : Nat) : Int) = some (limbs (val a - val b)) := by
      intro s t hs1 ht hs
      have hil : i < out.length := by omega
      have ho2 : okL (out.set i (s : Int)) := okL_set ho i ⟨by omega, by omega⟩
      have hd2 : a.length - (i + 1) = d := by omega
      have hi2 : i + 1 ≤ a.length := by omega
      have hk2 : d + a.length + 5 < k := by omega
      have hv2 : val ((out.set i (s : Int)).take (i + 1)) + val (b.take (i + 1)) = val (a.take (i + 1)) + t * 4294967296 ^ (i + 1) := by
        rw [take_set_succ hil, val_take_succ, val_take_succ, hx, hy, Nat.pow_succ]
        simp only [Int.toNat_natCast]
        rw [step_diff (A := val (a.take i)) (B := val (b.take i)) (O := val (out.take i)) (x := x) (y := y) (c := c) (s := s) (t := t) (P := 4294967296 ^ i) hs hv]
      exact ih (i + 1) hd2 hi2 (out.set i (s : Int)) t ho2 (by rw [List.length_set]; exact hl) ht hv2 k hk2
    have n1 := next (x + 4294967296 - (y + c)) 1
    have n0 := next (x - (y + c)) 0
    simp only [driftnetref01_sub.l0]
    rw [if_pos (by omega), if_pos (by omega), w64 (n := (i : Int) + 1) (by omega) (by omega), show (i : Int) + 1 = ((i + 1 : Nat) : Int) by omega]
    by_cases hb2 : i < b.length
    · rw [if_pos (by omega), rd_nat, rd_nat, hx, hy, w64 (n := (x : Int)) (by omega) (by omega), w64 (n := (y : Int)) (by omega) (by omega), w64 (n := (x : Int) - c) (by omega) (by omega), w64 (n := (x : Int) - c - y) (by omega) (by omega)]
      by_cases h : x < y + c
      · rw [if_pos (by omega), if_pos (by omega), w64 (n := (x : Int) - c - y + 4294967296) (by omega) (by omega), show ((x : Int) - c - y + 4294967296) % 4294967296 = ((x + 4294967296 - (y + c) : Nat) : Int) by omega]
        exact n1 (by omega) (by omega) (by omega)
      · rw [if_neg (by omega), if_pos (by omega), show ((x : Int) - c - y) % 4294967296 = ((x - (y + c) : Nat) : Int) by omega]
        exact n0 (by omega) (by omega) (by omega)
    · have : y = 0 := by rw [getD_ge (by omega)] at hy; omega
      subst this
      rw [if_neg (by omega), rd_nat, hx, w64 (n := (x : Int)) (by omega) (by omega), w64 (n := (x : Int) - c) (by omega) (by omega)]
      by_cases h : x < 0 + c
      · rw [if_pos (by omega), if_pos (by omega), w64 (n := (x : Int) - c + 4294967296) (by omega) (by omega), show ((x : Int) - c + 4294967296) % 4294967296 = ((x + 4294967296 - (0 + c) : Nat) : Int) by omega]
        exact n1 (by omega) (by omega) (by omega)
      · rw [if_neg (by omega), if_pos (by omega), show ((x : Int) - c) % 4294967296 = ((x - (0 + c) : Nat) : Int) by omega]
        exact n0 (by omega) (by omega) (by omega)
theorem rsub_ev {a b : List Int} (ha : okL a) (hb : okL b) (hna : a.length < 1099511627776) (hab : val b ≤ val a) : Ev (fun k => driftnetref01_sub.f k a b) (limbs (val a - val b)) := by
  refine Ev.mk (2 * a.length + 6) fun k hk => ?_
  unfold driftnetref01_sub.f
  rw [if_pos (by simp; omega), List.nil_append]
  exact rsub_run a b ha hb hna hab a.length 0 (by omega) (by omega) a 0 ha rfl (by omega) (by simp [val]) k (by omega)
theorem rmul_l1 (a b : List Int) (hb : okL b) (hnb : b.length < 1099511627776) (i x : Nat) (hx : x < 4294967296) (hxa : a.getD i 0 = (x : Int)) (hi : i < 1099511627776) (V0 : Nat) (r : List Int)
    (K : Nat) (hnext : ∀ (out : List Int) (t : Nat), MulAt b i b.length x V0 out t → out.length = a.length + b.length → (∀ j, i + b.length ≤ j → out.getD j 0 = 0) → ∀ k, K < k → driftnetref01_mul.l0 k a b (out.set (i + b.length) (t : Int)) ((i + 1 : Nat) : Int) = some r) (hia : i < a.length) :
    ∀ (d m : Nat), b.length - m = d → m ≤ b.length → ∀ (out : List Int) (t : Nat), MulAt b i m x V0 out t → out.length = a.length + b.length → (∀ j, i + b.length ≤ j → out.getD j 0 = 0) → ∀ k, d + K + 1 < k →
    driftnetref01_mul.l1 k a b out (i : Int) (t : Int) (m : Int) = some r := by
  intro d
  induction d with
  | zero =>
    intro m hd hm out t h hl hz k hk
    obtain ⟨k, rfl⟩ : ∃ m, k = m + 1 := ⟨k - 1, by omega⟩
    obtain rfl : m = b.length := by omega
    have ht := h.lt
    simp only [driftnetref01_mul.l1]
    rw [if_neg (by omega), w64 (n := (i : Int) + b.length) (by omega) (by omega), if_pos (by omega), if_pos (by omega), w64 (n := (i : Int) + 1) (by omega) (by omega), show (((i : Int) + b.length)).toNat = i + b.length by omega, show ((t : Int)) % 4294967296 = (t : Int) by omega, show (i : Int) + 1 = ((i + 1 : Nat) : Int) by omega]
    exact hnext out t h hl hz k (by omega)
  | succ d ih =>
    intro m hd hm out t h hl hz k hk
    obtain ⟨k, rfl⟩ : ∃ m, k = m + 1 := ⟨k - 1, by omega⟩
    obtain ⟨y, hy, hy2⟩ := nat_of_ok hb m
    obtain ⟨o, ho, ho2⟩ := nat_of_ok h.ok (i + m)
    simp only [driftnetref01_mul.l1]
    rw [if_pos (by omega), w64 (n := (i : Int) + (m : Int)) (by omega) (by omega), show (i : Int) + (m : Int) = ((i + m : Nat) : Int) by omega, if_pos (by omega), if_pos (by omega), if_pos (by omega), if_pos (by omega), if_pos (by omega), rd_nat, rd_nat, rd_nat, ho, hy, hxa, mul_step_eq' hx hy2 ho2 h.lt, w64 (n := (m : Int) + 1) (by omega) (by omega)]
    have := ih (m + 1) (by omega) (by omega) (out.set (i + m) (((t + (o + x * y)) % 4294967296 : Nat) : Int)) ((t + (o + x * y)) / 4294967296) (h.step hb hx (by omega) hy ho) (by rw [List.length_set]; exact hl) (fun j hj => by rw [getD_set_ne _ (by omega)]; exact hz j hj) k (by omega)
    simpa [show ((i : Int) + (m : Int)).toNat = i + m by omega] using this
theorem rmul_l0 (a b : List Int) (ha : okL a) (hb : okL b) (hna : a.length < 1099511627776) (hnb : b.length < 1099511627776) : ∀ (d i : Nat), a.length - i = d → i ≤ a.length → ∀ (out : List Int), okL out → out.length = a.length + b.length →
    (∀ j, i + b.length ≤ j → out.getD j 0 = 0) → val out = val (a.take i) * val b → ∀ k, d * (b.length + 3) + (a.length + b.length) + 3 < k →
    driftnetref01_mul.l0 k a b out (i : Int) = some (limbs (val a * val b)) := by
  intro d
  induction d with
  | zero =>
    intro i hd hi out ho hl hz hv k hk
    obtain ⟨k, rfl⟩ : ∃ m, k = m + 1 := ⟨k - 1, by omega⟩
    obtain rfl : i = a.length := by omega
    simp only [driftnetref01_mul.l0]
    have ht := rtrim_run out ho (by omega) out.length (Nat.le_refl _) k (by omega)
    rw [List.take_length] at ht
    rw [if_neg (by omega), driftnetref01_trim.f, ht, hv, List.take_of_length_le (Nat.le_refl _)]
    rfl
  | succ d ih =>
    intro i hd hi out ho hl hz hv k hk
    obtain ⟨k, rfl⟩ : ∃ m, k = m + 1 := ⟨k - 1, by omega⟩
    obtain ⟨x, hx, hx2⟩ := nat_of_ok ha i
    have hk2 : d * (b.length + 3) + (b.length + 3) + (a.length + b.length) + 3 < k + 1 := by rw [Nat.succ_mul] at hk; omega
    simp only [driftnetref01_mul.l0]
    rw [if_pos (by omega)]
    refine rmul_l1 a b hb hnb i x hx2 hx (by omega) (val out) _ (d * (b.length + 3) + (a.length + b.length) + 3) ?_ (by omega) b.length 0 (by omega) (by omega) out 0 ⟨ho, by omega, by simp [val]⟩ hl hz k (by omega)
    intro out2 t h hl2 hz2 k2 hk2
    have ho2 : okL (out2.set (i + b.length) (t : Int)) := okL_set h.ok _ ⟨by omega, by have := h.lt; omega⟩
    refine ih (i + 1) (by omega) (by omega) (out2.set (i + b.length) (t : Int)) ho2 (by rw [List.length_set]; exact hl2) (fun j hj => by rw [getD_set_ne _ (by omega)]; exact hz2 j (by omega)) ?_ k2 hk2
    rw [set_val (by omega) (hz2 _ (Nat.le_refl _)), h.v, List.take_of_length_le (Nat.le_refl _), hv, val_take_succ, hx, Nat.add_mul]
    simp only [Int.toNat_natCast]
    congr 1
    rw [Nat.mul_assoc, Nat.mul_assoc, Nat.mul_comm (val b)]
theorem rmul_ev {a b : List Int} (ha : okL a) (hb : okL b) (hna : a.length < 1099511627776) (hnb : b.length < 1099511627776) : Ev (fun k => driftnetref01_mul.f k a b) (limbs (val a * val b)) := by
  refine Ev.mk (a.length * (b.length + 3) + (a.length + b.length) + 3) fun k hk => ?_
  unfold driftnetref01_mul.f
  rw [w64 (by omega) (by omega), if_pos (by omega), if_pos (by omega), show ((a.length : Int) + b.length).toNat = a.length + b.length by omega]
  exact rmul_l0 a b ha hb hna hnb a.length 0 (by omega) (by omega) _ (okL_replicate _) (by simp) (fun j _ => getD_zeros _ _) (by simp [val_zeros, val]) k hk
theorem nat_emod {q : Nat} (h : q < 4294967296) : (q : Int) % 4294967296 = q := by omega
theorem u64n {q : Nat} (h : q < 18446744073709551616) : IntKind.u64.wrap (q : Int) = q := u64w (by omega) (by omega)
theorem limb_nat {q : Nat} (h : q < 4294967296) : 0 ≤ (q : Int) ∧ (q : Int) < 4294967296 := by omega
structure ShortAt (a : List Int) (by' i : Nat) (out : List Int) (r : Nat) : Prop where
  ok : okL out
  lt : r < by'
  z : ∀ j, j < i → out.getD j 0 = 0
  v : val (a.drop i) * 4294967296 ^ i = by' * val out + r * 4294967296 ^ i
theorem ShortAt.step {a out : List Int} {d i r x : Nat} (h : ShortAt a d (i + 1) out r) (hd : d < 4294967297) (hi : i < a.length) (hl : out.length = a.length) (hx : a.getD i 0 = (x : Int)) (hx2 : x < 4294967296) :
    ShortAt a d i (out.set i (((r * 4294967296 + x) / d : Nat) : Int)) ((r * 4294967296 + x) % d) := by
  have hr := h.lt
  have hq : (r * 4294967296 + x) / d < 4294967296 := by
    rw [Nat.div_lt_iff_lt_mul (by omega)]
    have : (r + 1) * 4294967296 ≤ d * 4294967296 := Nat.mul_le_mul_right _ (by omega)
    omega
  refine ⟨okL_set h.ok _ (limb_nat hq), Nat.mod_lt _ (by omega), fun j hj => by rw [getD_set_ne _ (by omega)]; exact h.z j (by omega), ?_⟩
  have h1 := h.v
  have hio : i < out.length := by omega
  have hz := h.z i (by omega)
  rw [set_val hio hz, val_drop_succ a i hi, hx]
  simp only [Int.toNat_natCast]
  have e0 := Nat.div_add_mod (r * 4294967296 + x) d
  clear hq hio hz hx hx2 hl hr h
  revert h1 e0
  generalize (r * 4294967296 + x) / d = q
  generalize (r * 4294967296 + x) % d = s
  intro h1 e0
  rw [Nat.pow_succ] at h1
  have e1 : (x + 4294967296 * val (a.drop (i + 1))) * 4294967296 ^ i = x * 4294967296 ^ i + val (a.drop (i + 1)) * (4294967296 ^ i * 4294967296) := by
    rw [Nat.add_mul, Nat.mul_comm 4294967296 (val _), Nat.mul_assoc, Nat.mul_comm 4294967296 (4294967296 ^ i)]
  have e2 : r * (4294967296 ^ i * 4294967296) + x * 4294967296 ^ i = (d * q + s) * 4294967296 ^ i := by
    rw [e0, Nat.add_mul, Nat.mul_assoc r, Nat.mul_comm 4294967296 (4294967296 ^ i)]
  rw [e1, h1, Nat.mul_add]
  rw [Nat.add_mul, Nat.mul_assoc d q] at e2
  rw [Nat.add_left_comm, Nat.add_comm (x * _) (r * _), e2, ← Nat.add_assoc]
theorem ShortAt.done {a out : List Int} {d r : Nat} (h : ShortAt a d 0 out r) : val out = val a / d ∧ r = val a % d := by
  have hv := h.v
  simp at hv
  have hr := h.lt
  have h1 : val a / d = val out := by
    rw [hv, Nat.mul_add_div (by omega), Nat.div_eq_of_lt hr]; rfl
  have h2 : val a % d = r := by
    rw [hv, Nat.mul_add_mod, Nat.mod_eq_of_lt hr]
  exact ⟨h1.symm, h2.symm⟩
theorem ShortAt.start (a : List Int) {d : Nat} (hd : 0 < d) : ShortAt a d a.length (List.replicate a.length 0) 0 :=
  ⟨okL_replicate _, hd, fun j _ => getD_zeros _ _, by simp [val_zeros, val]⟩
theorem div32 {r x d : Nat} (hr : r < d) (hx : x < 4294967296) (hd : d < 4294967296) : bits_Div32.f (r : Int) (x : Int) (d : Int) = some ((((r * 4294967296 + x) / d : Nat) : Int), (((r * 4294967296 + x) % d : Nat) : Int)) := by
  unfold bits_Div32.f
  rw [if_pos (by omega)]
  congr 2
theorem short_run (a : List Int) (ha : okL a) (hn : a.length < 1099511627776) (d : Nat) (hd : d < 4294967296) : ∀ (i : Nat), i ≤ a.length → ∀ (out : List Int) (r : Nat), ShortAt a d i out r → out.length = a.length → ∀ k, i + a.length + 3 < k →
    nat_short.l0 k a (d : Int) out (r : Int) ((i : Int) - 1) = some (limbs (val a / d), ((val a % d : Nat) : Int)) := by
  intro i
  induction i with
  | zero =>
    intro _ out r h hl k hk
    obtain ⟨k, rfl⟩ : ∃ m, k = m + 1 := ⟨k - 1, by omega⟩
    simp only [nat_short.l0]
    rw [if_neg (by omega), nat_trim.f, trim_run _ out rfl h.ok (by omega) k (by omega), h.done.1, ← h.done.2]
    rfl
  | succ i ih =>
    intro hi out r h hl k hk
    obtain ⟨k, rfl⟩ : ∃ m, k = m + 1 := ⟨k - 1, by omega⟩
    obtain ⟨x, hx, hx2⟩ := nat_of_ok ha i
    have hs := h.step (by omega) (by omega) hl hx hx2
    have hr := h.lt
    simp only [nat_short.l0]
    rw [show ((i + 1 : Nat) : Int) - 1 = (i : Int) by omega, if_pos (by omega), if_pos (by omega), if_pos (by omega), rd_nat, hx, div32 hr hx2 hd]
    simp only [Option.bind_some]
    rw [if_pos (by omega), w64 (n := (i : Int) - 1) (by omega) (by omega)]
    exact ih (by omega) _ _ hs (by rw [List.length_set]; exact hl) k (by omega)
theorem short_ev {a : List Int} (ha : okL a) (hn : a.length < 1099511627776) {d : Nat} (h0 : 0 < d) (hd : d < 4294967296) : Ev (fun k => nat_short.f k a (d : Int)) (limbs (val a / d), ((val a % d : Nat) : Int)) := by
  refine Ev.mk (2 * a.length + 3) fun k hk => ?_
  unfold nat_short.f
  rw [if_pos (by omega), if_pos (by omega), show ((a.length : Int)).toNat = a.length by omega, w64 (n := (a.length : Int) - 1) (by omega) (by omega)]
  exact short_run a ha hn d hd a.length (Nat.le_refl _) _ 0 (ShortAt.start a h0) (by simp) k (by omega)
theorem rsmall_run (a : List Int) (ha : okL a) (hn : a.length < 1099511627776) (d : Nat) (hd : d < 4294967297) : ∀ (i : Nat), i ≤ a.length → ∀ (out : List Int) (r : Nat), ShortAt a d i out r → out.length = a.length → ∀ k, i + a.length + 3 < k →
    driftnetref01_small.l0 k a (d : Int) out (r : Int) ((i : Int) - 1) = some (limbs (val a / d), ((val a % d : Nat) : Int)) := by
  intro i
  induction i with
  | zero =>
    intro _ out r h hl k hk
    obtain ⟨k, rfl⟩ : ∃ m, k = m + 1 := ⟨k - 1, by omega⟩
    simp only [driftnetref01_small.l0]
    have ht := rtrim_run out h.ok (by omega) out.length (Nat.le_refl _) k (by omega)
    rw [List.take_length] at ht
    rw [if_neg (by omega), driftnetref01_trim.f, ht, h.done.1, ← h.done.2]
    rfl
  | succ i ih =>
    intro hi out r h hl k hk
    obtain ⟨k, rfl⟩ : ∃ m, k = m + 1 := ⟨k - 1, by omega⟩
    obtain ⟨x, hx, hx2⟩ := nat_of_ok ha i
    have hs := h.step hd (by omega) hl hx hx2
    have hr := h.lt
    have hq : (r * 4294967296 + x) / d < 4294967296 := by
      rw [Nat.div_lt_iff_lt_mul (by omega)]
      have : (r + 1) * 4294967296 ≤ d * 4294967296 := Nat.mul_le_mul_right _ (by omega)
      omega
    have e1 : Int.tdiv ((r : Int) * 4294967296 + x) d = (((r * 4294967296 + x) / d : Nat) : Int) := by
      rw [show (r : Int) * 4294967296 + x = ((r * 4294967296 + x : Nat) : Int) by omega]; rfl
    have e2 : Int.tmod ((r : Int) * 4294967296 + x) d = (((r * 4294967296 + x) % d : Nat) : Int) := by
      rw [show (r : Int) * 4294967296 + x = ((r * 4294967296 + x : Nat) : Int) by omega]; rfl
    simp only [driftnetref01_small.l0]
    rw [show ((i + 1 : Nat) : Int) - 1 = (i : Int) by omega, if_pos (by omega), if_pos (by omega), if_pos (by omega), if_neg (by omega), if_pos (by omega), rd_nat, hx, u64w (n := (r : Int) * 4294967296) (by omega) (by omega), u64w (n := (x : Int)) (by omega) (by omega), u64w (n := (r : Int) * 4294967296 + x) (by omega) (by omega), e1, e2, u64n (Nat.lt_trans hq (by omega)), nat_emod hq, w64 (n := (i : Int) - 1) (by omega) (by omega)]
    exact ih (by omega) _ _ hs (by rw [List.length_set]; exact hl) k (by omega)
theorem rsmall_ev {a : List Int} (ha : okL a) (hn : a.length < 1099511627776) {d : Nat} (h0 : 0 < d) (hd : d < 4294967297) : Ev (fun k => driftnetref01_small.f k a (d : Int)) (limbs (val a / d), ((val a % d : Nat) : Int)) := by
  refine Ev.mk (2 * a.length + 3) fun k hk => ?_
  unfold driftnetref01_small.f
  rw [if_pos (by omega), if_pos (by omega), show ((a.length : Int)).toNat = a.length by omega, w64 (n := (a.length : Int) - 1) (by omega) (by omega)]
  exact rsmall_run a ha hn d hd a.length (Nat.le_refl _) _ 0 (ShortAt.start a h0) (by simp) k (by omega)
theorem base_pow (m : Nat) : 4294967296 ^ m = 2 ^ (32 * m) := by
  rw [Nat.pow_mul]
theorem shr32 {x s : Nat} (hs : s ≤ 32) : shr .u32 (x : Int) (s : Int) = ((x / 2 ^ s : Nat) : Int) := by
  unfold shr
  simp [IntKind.bits, Nat.min_eq_left hs]
theorem rbits_run (l : List Int) (n : Nat) (hn : l.length = n + 1) (hn2 : n < 1099511627776) (x : Nat) (hx : l.getD n 0 = (x : Int)) (hx0 : 0 < x) : ∀ (s : Nat), s ≤ 31 → x < 2 ^ (s + 1) → ∀ k, s < k →
    ∃ t, t ≤ 31 ∧ 2 ^ t ≤ x ∧ x < 2 ^ (t + 1) ∧ driftnetref01_bits.l0 k l (((32 * n + s + 1 : Nat)) : Int) = some (((32 * n + t + 1 : Nat)) : Int) := by
  intro s
  induction s with
  | zero =>
    intro _ hlt k hk
    obtain ⟨k, rfl⟩ : ∃ m, k = m + 1 := ⟨k - 1, by omega⟩
    refine ⟨0, by omega, by omega, hlt, ?_⟩
    simp only [driftnetref01_bits.l0]
    rw [w64 (n := (l.length : Int) - 1) (by omega) (by omega), if_pos (by omega), if_pos (by omega), w64 (n := ((32 * n + 0 + 1 : Nat) : Int) - 1) (by omega) (by omega), w64 (n := 32 * ((l.length : Int) - 1)) (by omega) (by omega), w64 (n := ((32 * n + 0 + 1 : Nat) : Int) - 1 - 32 * ((l.length : Int) - 1)) (by omega) (by omega), if_pos (by omega), rd_at l (j := n) (by omega), hx,
      show ((32 * n + 0 + 1 : Nat) : Int) - 1 - 32 * ((l.length : Int) - 1) = ((0 : Nat) : Int) by omega, shr32 (by omega), if_neg (by simp; omega)]
  | succ s ih =>
    intro hs hlt k hk
    obtain ⟨k, rfl⟩ : ∃ m, k = m + 1 := ⟨k - 1, by omega⟩
    have unf : driftnetref01_bits.l0 (k + 1) l (((32 * n + (s + 1) + 1 : Nat)) : Int) = if (((x / 2 ^ (s + 1) : Nat)) : Int) = 0 then driftnetref01_bits.l0 k l (((32 * n + s + 1 : Nat)) : Int) else some (((32 * n + (s + 1) + 1 : Nat)) : Int) := by
      simp only [driftnetref01_bits.l0]
      rw [w64 (n := (l.length : Int) - 1) (by omega) (by omega), if_pos (by omega), if_pos (by omega), w64 (n := ((32 * n + (s + 1) + 1 : Nat) : Int) - 1) (by omega) (by omega), w64 (n := 32 * ((l.length : Int) - 1)) (by omega) (by omega), w64 (n := ((32 * n + (s + 1) + 1 : Nat) : Int) - 1 - 32 * ((l.length : Int) - 1)) (by omega) (by omega), if_pos (by omega), rd_at l (j := n) (by omega), hx,
        show ((32 * n + (s + 1) + 1 : Nat) : Int) - 1 - 32 * ((l.length : Int) - 1) = ((s + 1 : Nat) : Int) by omega, shr32 (by omega), show ((32 * n + (s + 1) + 1 : Nat) : Int) - 1 = ((32 * n + s + 1 : Nat) : Int) by omega]
    by_cases h : x < 2 ^ (s + 1)
    · obtain ⟨t, h1, h2, h3, h4⟩ := ih (by omega) h k (by omega)
      exact ⟨t, h1, h2, h3, by rw [unf, if_pos (by rw [Nat.div_eq_of_lt h]; rfl), h4]⟩
    · have hp : 0 < x / 2 ^ (s + 1) := Nat.div_pos (by omega) (Nat.two_pow_pos _)
      exact ⟨s + 1, hs, by omega, hlt, by rw [unf, if_neg (by omega)]⟩
theorem rbits_ev {l : List Int} (h : canB l) (h0 : l ≠ []) (hl : l.length < 1099511627776) : ∃ n : Nat, 1 ≤ n ∧ n ≤ 32 * l.length ∧ 2 ^ (n - 1) ≤ val l ∧ val l < 2 ^ n ∧ Ev (fun k => driftnetref01_bits.f k l) (n : Int) := by
  obtain ⟨m, hm⟩ : ∃ m, l.length = m + 1 := ⟨l.length - 1, by have := List.length_pos_iff.2 h0; omega⟩
  obtain ⟨x, hx, hx2⟩ := nat_of_ok h.1 m
  have hx0 : 0 < x := by
    have := canB_last h
    rw [last_rd h0, hm] at this
    simp only [Nat.add_sub_cancel, hx] at this
    rcases Nat.eq_zero_or_pos x with e | e
    · subst e; exact absurd rfl this
    · exact e
  have hrun := rbits_run l m hm (by omega) x hx hx0 31 (by omega) hx2
  obtain ⟨t, h1, h2, h3, _⟩ := hrun 32 (by omega)
  have hv : val l = val (l.take m) + 2 ^ (32 * m) * x := by
    have e1 := val_take_succ l m
    rw [← hm, List.take_length, hx] at e1
    rw [e1, ← base_pow, Nat.mul_comm]; rfl
  have hlt : val (l.take m) < 2 ^ (32 * m) := by
    have := val_lt (okL_take h.1 m)
    rw [List.length_take, Nat.min_eq_left (by omega), base_pow] at this
    exact this
  refine ⟨32 * m + t + 1, by omega, by omega, ?_, ?_, ⟨32, fun k hk => ?_⟩⟩
  · rw [Nat.add_sub_cancel, Nat.pow_add, hv]
    exact Nat.le_trans (Nat.mul_le_mul_left _ h2) (by omega)
  · rw [Nat.add_assoc, Nat.pow_add, hv]
    have : 2 ^ (32 * m) * (x + 1) ≤ 2 ^ (32 * m) * 2 ^ (t + 1) := Nat.mul_le_mul_left _ h3
    rw [Nat.mul_add] at this
    omega
  · obtain ⟨t', h1', h2', h3', h4'⟩ := hrun k (by omega)
    have : t' = t := by
      have a1 : t' < t + 1 := (Nat.pow_lt_pow_iff_right (a := 2) (by omega)).1 (Nat.lt_of_le_of_lt h2' h3)
      have a2 : t < t' + 1 := (Nat.pow_lt_pow_iff_right (a := 2) (by omega)).1 (Nat.lt_of_le_of_lt h2 h3')
      omega
    subst this
    show driftnetref01_bits.f k l = _
    unfold driftnetref01_bits.f
    rw [if_neg (by omega), w64 (n := 32 * (l.length : Int)) (by omega) (by omega), show 32 * (l.length : Int) = ((32 * m + 31 + 1 : Nat) : Int) by omega, h4']
theorem or_low {o x s : Nat} (ho : o < 2 ^ s) (hs : s ≤ 32) (hx : x % 2 ^ s = 0) (hx2 : x < 4294967296) : Go.bits .or .u32 (o : Int) (x : Int) = ((o + x : Nat) : Int) := by
  have h1 : o < 2 ^ 32 := Nat.lt_of_lt_of_le ho (Nat.pow_le_pow_right (by omega) hs)
  rw [(bits_nat .u32 32 (by decide) (fun n h0 h => by rw [IntKind.wrap_u32]; omega) o x h1 hx2).2, Nat.or_comm]
  have hq : x = 2 ^ s * (x / 2 ^ s) := by have := Nat.div_add_mod x (2 ^ s); omega
  rw [hq, ← Nat.two_pow_add_eq_or_of_lt ho, Nat.add_comm]
theorem shl64 {x s : Nat} (hx : x < 4294967296) (hs : s < 32) : shl .u64 (IntKind.u64.wrap (x : Int)) (s : Int) = ((x * 2 ^ s : Nat) : Int) := by
  have hb : x * 2 ^ s < 4294967296 * 2 ^ 32 := Nat.mul_lt_mul_of_lt_of_le hx (Nat.pow_le_pow_right (by omega) (by omega)) (Nat.two_pow_pos _)
  rw [u64n (by omega)]
  unfold shl
  have e : (x : Int) * 2 ^ min ((s : Int)).toNat (IntKind.u64.bits) = ((x * 2 ^ s : Nat) : Int) := by
    simp [IntKind.bits, Nat.min_eq_left (show s ≤ 64 by omega)]
  rw [e, u64n (by omega)]
structure UpAt (a : List Int) (q s i : Nat) (out : List Int) : Prop where
  ok : okL out
  top : out.getD (i + q) 0 < 2 ^ s
  z : ∀ j, i + q < j → out.getD j 0 = 0
  v : val out = val (a.take i) * 2 ^ s * 4294967296 ^ q
theorem UpAt.step {a out : List Int} {q s i x o : Nat} (h : UpAt a q s i out) (hs : s < 32) (hl : i + q + 1 < out.length) (hx : a.getD i 0 = (x : Int)) (hx2 : x < 4294967296) (ho : out.getD (i + q) 0 = (o : Int)) :
    o + (x * 2 ^ s) % 4294967296 < 4294967296 ∧ (x * 2 ^ s) / 4294967296 < 2 ^ s ∧ ((x * 2 ^ s) % 4294967296) % 2 ^ s = 0 ∧ o < 2 ^ s ∧
    UpAt a q s (i + 1) ((out.set (i + q) ((o + (x * 2 ^ s) % 4294967296 : Nat) : Int)).set (i + q + 1) (((x * 2 ^ s) / 4294967296 : Nat) : Int)) := by
  have ho2 : o < 2 ^ s := by have := h.top; rw [ho] at this; exact_mod_cast this
  have hB : 4294967296 = 2 ^ s * 2 ^ (32 - s) := by rw [← Nat.pow_add, show s + (32 - s) = 32 by omega]
  have hpos := Nat.two_pow_pos s
  have h1 : ((x * 2 ^ s) % 4294967296) % 2 ^ s = 0 := by
    rw [hB, Nat.mod_mul_right_mod, Nat.mul_mod_left]
  have h2 : (x * 2 ^ s) / 4294967296 < 2 ^ s := by
    rw [Nat.div_lt_iff_lt_mul (by omega), Nat.mul_comm (2 ^ s)]
    exact Nat.mul_lt_mul_of_pos_right hx2 hpos
  have h3 : o + (x * 2 ^ s) % 4294967296 < 4294967296 := by
    have hm : (x * 2 ^ s) % 4294967296 < 4294967296 := Nat.mod_lt _ (by omega)
    generalize (x * 2 ^ s) % 4294967296 = y at h1 hm
    obtain ⟨z, rfl⟩ : ∃ z, y = 2 ^ s * z := ⟨y / 2 ^ s, by have := Nat.div_add_mod y (2 ^ s); omega⟩
    rw [hB] at hm
    have hz := Nat.lt_of_mul_lt_mul_left hm
    have : 2 ^ s * (z + 1) ≤ 2 ^ s * 2 ^ (32 - s) := Nat.mul_le_mul_left _ hz
    rw [← hB, Nat.mul_add] at this
    omega
  have hB2 : 2 ^ s ≤ 2 ^ 31 := Nat.pow_le_pow_right (by omega) (by omega)
  refine ⟨h3, h2, h1, ho2, okL_set (okL_set h.ok _ (limb_nat h3)) _ (limb_nat (Nat.lt_trans h2 (by omega))), ?_, fun j hj => ?_, ?_⟩
  · rw [show i + 1 + q = i + q + 1 by omega, getD_lt (by simp only [List.length_set]; exact hl)]
    simp only [List.getElem_set_self]
    exact_mod_cast h2
  · rw [getD_set_ne _ (by omega), getD_set_ne _ (by omega)]; exact h.z j (by omega)
  · have hz : (out.set (i + q) ((o + (x * 2 ^ s) % 4294967296 : Nat) : Int)).getD (i + q + 1) 0 = 0 := by rw [getD_set_ne _ (by omega)]; exact h.z _ (by omega)
    rw [set_val (by simp only [List.length_set]; exact hl) hz]
    have hv := val_set (l := out) (p := i + q) (by omega) ((o + (x * 2 ^ s) % 4294967296 : Nat) : Int)
    rw [ho, h.v] at hv
    simp only [Int.toNat_natCast] at hv
    rw [Nat.add_mul] at hv
    rw [val_take_succ, hx, Nat.pow_succ]
    simp only [Int.toNat_natCast]
    have e0 := Nat.div_add_mod (x * 2 ^ s) 4294967296
    clear h1 h2 h3 hz hB hB2 ho ho2 hx hx2 h hl
    revert hv e0
    generalize (x * 2 ^ s) % 4294967296 = lo
    generalize (x * 2 ^ s) / 4294967296 = hi
    generalize val (out.set _ _) = V
    intro hv e0
    have e1 : hi * (4294967296 ^ (i + q) * 4294967296) = 4294967296 * hi * 4294967296 ^ (i + q) := by rw [Nat.mul_comm 4294967296 hi, Nat.mul_assoc, Nat.mul_comm (4294967296 ^ (i + q))]
    have e2 : V = val (a.take i) * 2 ^ s * 4294967296 ^ q + lo * 4294967296 ^ (i + q) := by
      have := hv
      rw [Nat.add_comm (o * _), ← Nat.add_assoc] at this
      exact Nat.add_right_cancel this
    have e3 : (val (a.take i) + x * 4294967296 ^ i) * 2 ^ s * 4294967296 ^ q = val (a.take i) * 2 ^ s * 4294967296 ^ q + x * 2 ^ s * 4294967296 ^ (i + q) := by
      rw [Nat.add_mul, Nat.add_mul, Nat.pow_add]
      congr 1
      rw [Nat.mul_assoc x, Nat.mul_comm (4294967296 ^ i) (2 ^ s), ← Nat.mul_assoc x, Nat.mul_assoc (x * 2 ^ s)]
    rw [e1, e2, e3, ← e0, Nat.add_mul, Nat.add_assoc, Nat.add_comm (lo * _)]
theorem rtimes_run (a : List Int) (ha : okL a) (q s : Nat) (hs : s < 32) (hn : a.length + q < 1099511627776) : ∀ (d i : Nat), a.length - i = d → i ≤ a.length → ∀ (out : List Int), UpAt a q s i out → out.length = a.length + q + 1 → ∀ k, d + a.length + q + 3 < k →
    driftnetref01_times.l0 k a ((32 * q + s : Nat) : Int) out (i : Int) = some (limbs (val a * 2 ^ (32 * q + s))) := by
  intro d
  induction d with
  | zero =>
    intro i hd hi out h hl k hk
    obtain ⟨k, rfl⟩ : ∃ m, k = m + 1 := ⟨k - 1, by omega⟩
    obtain rfl : i = a.length := by omega
    have ht := rtrim_run out h.ok (by omega) out.length (Nat.le_refl _) k (by omega)
    rw [List.take_length] at ht
    simp only [driftnetref01_times.l0]
    rw [if_neg (by omega), driftnetref01_trim.f, ht, h.v, List.take_of_length_le (Nat.le_refl _), base_pow, Nat.mul_assoc, ← Nat.pow_add, Nat.add_comm s]
    rfl
  | succ d ih =>
    intro i hd hi out h hl k hk
    obtain ⟨k, rfl⟩ : ∃ m, k = m + 1 := ⟨k - 1, by omega⟩
    obtain ⟨x, hx, hx2⟩ := nat_of_ok ha i
    obtain ⟨o, ho, _⟩ := nat_of_ok h.ok (i + q)
    obtain ⟨h3, h2, h1, ho2, hs2⟩ := h.step hs (by omega) hx hx2 ho
    have et : Int.tmod ((32 * q + s : Nat) : Int) 32 = (s : Int) := by
      rw [show Int.tmod ((32 * q + s : Nat) : Int) 32 = (((32 * q + s) % 32 : Nat) : Int) from rfl]; omega
    have eq : Int.tdiv ((32 * q + s : Nat) : Int) 32 = (q : Int) := by
      rw [show Int.tdiv ((32 * q + s : Nat) : Int) 32 = (((32 * q + s) / 32 : Nat) : Int) from rfl]; omega
    have hB2 : 2 ^ s ≤ 2 ^ 31 := Nat.pow_le_pow_right (by omega) (by omega)
    have hlo : (x * 2 ^ s) % 4294967296 < 4294967296 := Nat.mod_lt _ (by omega)
    have hor := or_low ho2 (by omega) h1 hlo
    have hhi : (x * 2 ^ s) / 4294967296 < 4294967296 := Nat.lt_trans h2 (by omega)
    simp only [driftnetref01_times.l0]
    rw [et, eq, if_pos (by omega), if_pos (by omega), if_pos (by omega), w64 (n := (q : Int)) (by omega) (by omega), w64 (n := (i : Int) + q) (by omega) (by omega), if_pos (by omega), if_pos (by omega), w64 (n := (i : Int) + q + 1) (by omega) (by omega), if_pos (by omega), if_pos (by omega), w64 (n := (i : Int) + 1) (by omega) (by omega), rd_nat, hx, shl64 hx2 hs,
      rd_at out (j := i + q) (by omega), ho, show (((x * 2 ^ s : Nat) : Int)) % 4294967296 = (((x * 2 ^ s) % 4294967296 : Nat) : Int) from rfl, hor, show (((x * 2 ^ s : Nat) : Int)) / 4294967296 = (((x * 2 ^ s) / 4294967296 : Nat) : Int) from rfl, nat_emod hhi, show ((i : Int) + q).toNat = i + q by omega, show ((i : Int) + q + 1).toNat = i + q + 1 by omega, show (i : Int) + 1 = ((i + 1 : Nat) : Int) by omega]
    exact ih (i + 1) (by omega) (by omega) _ hs2 (by simp only [List.length_set]; exact hl) k (by omega)
theorem rtimes_ev {a : List Int} (ha : okL a) (p : Nat) (hn : a.length + p < 1099511627776) : Ev (fun k => driftnetref01_times.f k a (p : Int)) (limbs (val a * 2 ^ p)) := by
  obtain ⟨q, s, hs, rfl⟩ : ∃ q s, s < 32 ∧ p = 32 * q + s := ⟨p / 32, p % 32, Nat.mod_lt _ (by omega), by omega⟩
  refine Ev.mk (a.length + a.length + q + 3) fun k hk => ?_
  have eq : Int.tdiv ((32 * q + s : Nat) : Int) 32 = (q : Int) := by
    rw [show Int.tdiv ((32 * q + s : Nat) : Int) 32 = (((32 * q + s) / 32 : Nat) : Int) from rfl]; omega
  unfold driftnetref01_times.f
  rw [eq, w64 (n := (q : Int)) (by omega) (by omega), w64 (n := (a.length : Int) + q) (by omega) (by omega), w64 (by omega) (by omega), if_pos (by omega), if_pos (by omega), show ((a.length : Int) + q + 1).toNat = a.length + q + 1 by omega]
  exact rtimes_run a ha q s hs (by omega) a.length 0 (by omega) (by omega) _ ⟨okL_replicate _, by rw [getD_zeros]; exact_mod_cast Nat.two_pow_pos s, fun j _ => getD_zeros _ _, by simp [val_zeros, val]⟩ (by simp) k (by omega)
theorem clone_f {a : List Int} (h : a.length < 35184372088832) : slices_Clone_uint32_uint32.f a = some a := by unfold slices_Clone_uint32_uint32.f; rw [if_pos h]
theorem cmpI_pos {m n : Nat} : cmpI m n ≤ 0 ↔ m ≤ n := by
  unfold cmpI
  by_cases h : m < n
  · simp [h]; omega
  · by_cases h2 : n < m <;> simp [h, h2] <;> omega
theorem l1_ev {by_ part : List Int} (hb : canB by_) (hp : okL part) (hlb : by_.length < 1000000) (hlp : part.length < 1000000) (h0 : 0 < val by_) (hd : val part / val by_ < 4294967296) :
    ∀ (d g : Nat), g = val part / val by_ + d → g < 4294967296 → Ev (fun k => nat_divide.l1 k by_ part g) (val part / val by_, limbs (val part - val part / val by_ * val by_)) := by
  intro d
  induction d with
  | zero =>
    intro g hg hgl
    rw [Nat.add_zero] at hg
    have hle : g * val by_ ≤ val part := by rw [hg]; exact Nat.div_mul_le_self _ _
    have hstep : ∀ nx : Nat → Option (Nat × List Int), Ev (fun k => nat_divide.step k by_ part g (nx k)) (g, limbs (val part - g * val by_)) := by
      intro nx
      unfold nat_divide.step
      refine Ev.bind (of_ev (n := (g : Int)) (by omega) (by omega)) ?_
      refine Ev.bind (times_ev (okL_limbs _) hb.1 (Nat.lt_of_le_of_lt (limbs_length_le (m := 1) (by simpa using hgl)) (by omega)) (by omega)) ?_
      simp only [clone_f (show part.length < 35184372088832 by omega), Option.bind_some]
      refine Ev.bind (trim_ev hp (by omega)) ?_
      have hv : val (limbs (g : Int).toNat) = g := by rw [z15]; rfl
      rw [hv]
      refine Ev.bind (compare_ev (canB_limbs _) (canB_limbs _) (Nat.lt_of_le_of_lt (limbs_length_le (m := by_.length + 1) ?_) (by omega)) (Nat.lt_of_le_of_lt (limbs_length_le (val_lt hp)) (by omega))) ?_
      · rw [Nat.pow_succ, Nat.mul_comm]
        exact Nat.mul_lt_mul_of_lt_of_le (val_lt hb.1) (Nat.le_of_lt hgl) (by omega)
      · rw [z15, z15]
        simp only [if_pos (cmpI_pos.2 hle)]
        refine Ev.bind (minus_ev hp (okL_limbs _) (by omega) (by rw [z15]; exact hle)) ?_
        rw [z15]
        have hl : (limbs (val part - g * val by_)).length ≤ part.length := limbs_length_le (Nat.lt_of_le_of_lt (Nat.sub_le _ _) (val_lt hp))
        rw [if_pos hl]
        exact Ev.const rfl
    rw [← hg]
    cases g with
    | zero => exact hstep (fun _ => none)
    | succ g => exact hstep (fun k => nat_divide.l1 k by_ part g)
  | succ d ih =>
    intro g hg hgl
    obtain ⟨g, rfl⟩ : ∃ g', g = g' + 1 := ⟨val part / val by_ + d, hg⟩
    have hgt : val part < (g + 1) * val by_ := by
      have h1 := Nat.lt_mul_div_succ (val part) h0
      have h2 : val by_ * (val part / val by_ + 1) ≤ (g + 1) * val by_ := by rw [Nat.mul_comm]; exact Nat.mul_le_mul_right _ (by rw [hg]; exact Nat.add_le_add_left (by omega) _)
      omega
    show Ev (fun k => nat_divide.step k by_ part (g + 1) (nat_divide.l1 k by_ part g)) _
    unfold nat_divide.step
    refine Ev.bind (of_ev (n := ((g + 1 : Nat) : Int)) (by omega) (by omega)) ?_
    refine Ev.bind (times_ev (okL_limbs _) hb.1 (Nat.lt_of_le_of_lt (limbs_length_le (m := 1) (by simpa using hgl)) (by omega)) (by omega)) ?_
    simp only [clone_f (show part.length < 35184372088832 by omega), Option.bind_some]
    refine Ev.bind (trim_ev hp (by omega)) ?_
    have hv : val (limbs ((g + 1 : Nat) : Int).toNat) = g + 1 := by rw [z15]; rfl
    rw [hv]
    refine Ev.bind (compare_ev (canB_limbs _) (canB_limbs _) (Nat.lt_of_le_of_lt (limbs_length_le (m := by_.length + 1) ?_) (by omega)) (Nat.lt_of_le_of_lt (limbs_length_le (val_lt hp)) (by omega))) ?_
    · rw [Nat.pow_succ, Nat.mul_comm]
      exact Nat.mul_lt_mul_of_lt_of_le (val_lt hb.1) (Nat.le_of_lt hgl) (by omega)
    · rw [z15, z15]
      simp only [if_neg (fun h => absurd (cmpI_pos.1 h) (by omega) : ¬ cmpI ((g + 1) * val by_) (val part) ≤ 0)]
      exact ih g (by have : g + 1 = (val part / val by_ + d) + 1 := hg
                     exact Nat.succ.inj this) (by omega)
structure KnuthAt (V B n : Nat) (i : Nat) (left q : List Int) : Prop where
  okl : okL left
  okq : okL q
  v : V = val left + val q * B
  lt : val left < B * 4294967296 ^ i
  z : ∀ j, j < i → q.getD j 0 = 0
  i_le : i ≤ q.length
  len : left.length = q.length + n
theorem lt_bitLen : ∀ (x : Nat), x < 18446744073709551616 → x < 2 ^ Lib.bitLen x := by
  intro x
  induction x using Nat.strongRecOn with
  | _ x ih =>
    intro hx
    by_cases h : x = 0
    · subst h; exact Nat.two_pow_pos _
    · have := ih (x / 2) (by omega) (by omega)
      rw [Lib.bitLen_half x h hx, Nat.add_comm, Nat.pow_succ]
      omega
theorem mul_pow_le {x p P y : Nat} (h : x < P) (hp : P * p = 4294967296) (hy : y ≤ x) : (y + 1) * p ≤ 4294967296 := by
  rw [← hp]; exact Nat.mul_le_mul_right _ (by omega)
theorem lead {x : Nat} (h0 : 0 < x) (hx : x < 4294967296) : ∃ s : Nat, s < 32 ∧ bits_LeadingZeros32.f (x : Int) = some (s : Int) ∧ (x + 1) * 2 ^ s ≤ 4294967296 := by
  have h1 := lt_bitLen x (by omega)
  have h2 := Lib.bitLen_le x 32 (by omega) (by simpa using hx)
  have h3 : 1 ≤ Lib.bitLen x := by
    rcases Nat.eq_zero_or_pos (Lib.bitLen x) with h | h
    · rw [h] at h1; omega
    · exact h
  refine ⟨32 - Lib.bitLen x, by omega, ?_, mul_pow_le h1 (by rw [← Nat.pow_add, show Lib.bitLen x + (32 - Lib.bitLen x) = 32 by omega]) (Nat.le_refl _)⟩
  unfold bits_LeadingZeros32.f
  rw [if_pos (by omega), Int.toNat_natCast]
  congr 1
  omega
theorem shifted_run (a : List Int) (ha : okL a) (s : Nat) (hs : s < 32) (hn : a.length < 1099511627776) : ∀ (d i : Nat), a.length - i = d → i ≤ a.length → ∀ (out : List Int), UpAt a 0 s i out → out.length = a.length + 1 →
    ∃ r, okL r ∧ r.length = a.length + 1 ∧ val r = val a * 2 ^ s ∧ ∀ k, d < k → nat_shifted.l0 k (s : Int) out a (a.length : Int) (i : Int) = some r := by
  intro d
  induction d with
  | zero =>
    intro i hd hi out h hl
    obtain rfl : i = a.length := by omega
    refine ⟨out, h.ok, hl, by rw [h.v, List.take_length, Nat.pow_zero, Nat.mul_one], fun k hk => ?_⟩
    obtain ⟨k, rfl⟩ : ∃ m, k = m + 1 := ⟨k - 1, by omega⟩
    simp only [nat_shifted.l0]
    rw [if_neg (by omega)]
  | succ d ih =>
    intro i hd hi out h hl
    have c1 : (i : Int) < (a.length : Int) := by omega
    have c2 : (0 : Int) ≤ (i : Int) := by omega
    have c3 : (0 : Int) ≤ (s : Int) := by omega
    have c4 : (i : Int) < (out.length : Int) := by omega
    have c5 : (0 : Int) ≤ ((i + 1 : Nat) : Int) := by omega
    have c6 : ((i + 1 : Nat) : Int) < (out.length : Int) := by omega
    have ew : wrap64 ((i : Int) + 1) = ((i + 1 : Nat) : Int) := (w64 (by omega) (by omega)).trans (by omega)
    obtain ⟨x, hx, hx2⟩ := nat_of_ok ha i
    obtain ⟨o, ho, _⟩ := nat_of_ok h.ok (i + 0)
    obtain ⟨h3, h2, h1, ho2, hs2⟩ := h.step hs (by omega) hx hx2 ho
    have hB2 : 2 ^ s ≤ 2 ^ 31 := Nat.pow_le_pow_right (by omega) (by omega)
    have hlo : (x * 2 ^ s) % 4294967296 < 4294967296 := Nat.mod_lt _ (by omega)
    have hor := or_low ho2 (by omega) h1 hlo
    have hhi : (x * 2 ^ s) / 4294967296 < 4294967296 := Nat.lt_trans h2 (by omega)
    obtain ⟨r, hr1, hr2, hr3, hr4⟩ := ih (i + 1) (by omega) (by omega) _ hs2 (by simp only [List.length_set]; exact hl)
    refine ⟨r, hr1, hr2, hr3, fun k hk => ?_⟩
    obtain ⟨k, rfl⟩ : ∃ m, k = m + 1 := ⟨k - 1, by omega⟩
    simp only [nat_shifted.l0]
    rw [ew, if_pos c1, if_pos c2, if_pos c1, if_pos c3, if_pos c4, if_pos c5, if_pos c6, rd_nat, rd_nat, hx, shl64 hx2 hs, show out.getD i 0 = (o : Int) from ho, show (((x * 2 ^ s : Nat) : Int)) % 4294967296 = (((x * 2 ^ s) % 4294967296 : Nat) : Int) from rfl, hor,
      show (((x * 2 ^ s : Nat) : Int)) / 4294967296 = (((x * 2 ^ s) / 4294967296 : Nat) : Int) from rfl, nat_emod hhi, Int.toNat_natCast, Int.toNat_natCast]
    exact hr4 k (by omega)
theorem shifted_ev {a : List Int} (ha : okL a) {s : Nat} (hs : s < 32) (hn : a.length < 1000000) : ∃ r, okL r ∧ r.length = a.length + 1 ∧ val r = val a * 2 ^ s ∧ Ev (fun k => nat_shifted.f k a (s : Int)) r := by
  obtain ⟨r, h1, h2, h3, h4⟩ := shifted_run a ha s hs (by omega) a.length 0 (by omega) (by omega) (List.replicate (a.length + 1) 0) ⟨okL_replicate _, by rw [getD_zeros]; exact_mod_cast Nat.two_pow_pos s, fun j _ => getD_zeros _ _, by simp [val_zeros, val]⟩ (by simp)
  refine ⟨r, h1, h2, h3, Ev.mk a.length fun k hk => ?_⟩
  unfold nat_shifted.f
  have ew : wrap64 ((a.length : Int) + 1) = ((a.length + 1 : Nat) : Int) := by rw [w64 (by omega) (by omega)]; omega
  rw [ew, if_pos (by omega), if_pos (by omega), Int.toNat_natCast]
  exact h4 k hk
theorem top_eq {x y : Nat} (hx : x < 4294967296) (hy : y < 4294967296) : nat_divide.topOf (x : Int) (y : Int) = ((x * 4294967296 + y : Nat) : Int) := by
  unfold nat_divide.topOf
  rw [u64n (by omega), u64n (by omega), show (x : Int) * 4294967296 = ((x * 4294967296 : Nat) : Int) by omega, u64n (by omega),
    (bits_nat .u64 64 (by decide) (fun n h0 h => u64w h0 (by omega)) (x * 4294967296) y (by omega) (by omega)).2]
  have hy' : y < 2 ^ 32 := hy
  rw [show x * 4294967296 = 2 ^ 32 * x by omega, ← Nat.two_pow_add_eq_or_of_lt hy']
theorem mn_nat (q : Nat) : mn (q : Int) 4294967295 = ((min q 4294967295 : Nat) : Int) := by
  unfold mn
  by_cases h : (4294967295 : Int) < (q : Int)
  · rw [if_pos h, Nat.min_eq_right (by omega)]; omega
  · rw [if_neg h, Nat.min_eq_left (by omega)]
theorem guess_eq {x y z : Nat} (hx : x < 4294967296) (hy : y < 4294967296) (hz : z < 4294967296) : nat_divide.guessOf (x : Int) (y : Int) (z : Int) = ((min ((x * 4294967296 + y) / z) 4294967295 : Nat) : Int) := by
  unfold nat_divide.guessOf
  rw [top_eq hx hy, u64n (by omega), show Int.tdiv ((x * 4294967296 + y : Nat) : Int) (z : Int) = (((x * 4294967296 + y) / z : Nat) : Int) from rfl, u64n (Nat.lt_of_le_of_lt (Nat.div_le_self _ _) (by omega))]
  exact mn_nat _
theorem val_split3 (l : List Int) (i m : Nat) (h : i + m ≤ l.length) : val l = val (l.take i) + 4294967296 ^ i * (val ((l.take (i + m)).drop i) + 4294967296 ^ m * val (l.drop (i + m))) := by
  rw [val_take_drop l i (by omega), val_take_drop (l.drop i) m (by rw [List.length_drop]; omega), List.drop_drop]
  congr 4
  rw [List.drop_take, Nat.add_sub_cancel_left]
theorem lay_val {lf r : List Int} {n i : Nat} (hl : i + n + 1 ≤ lf.length) (hr : r.length ≤ n + 1) : val (nat_divide.lay lf r n i) = val (lf.take i) + 4294967296 ^ i * (val r + 4294967296 ^ (n + 1) * val (lf.drop (i + n + 1))) := by
  unfold nat_divide.lay
  rw [List.append_assoc, val_append, List.length_take, Nat.min_eq_left (by omega), val_append, val_append, val_zeros, List.length_append, List.length_replicate, Nat.add_sub_cancel' hr, Nat.mul_zero, Nat.add_zero]
theorem lay_len (lf rr : List Int) (n i : Nat) (hl : i + n + 1 ≤ lf.length) (hr : rr.length ≤ n + 1) : (nat_divide.lay lf rr n i).length = lf.length := by
  unfold nat_divide.lay
  simp only [List.length_append, List.length_take, List.length_replicate, List.length_drop]
  omega
theorem okL_lay {lf r : List Int} (h : okL lf) (hr : okL r) (n i : Nat) : okL (nat_divide.lay lf r n i) :=
  okL_append.2 ⟨okL_append.2 ⟨okL_take h _, okL_append.2 ⟨hr, okL_replicate _⟩⟩, okL_drop h _⟩
theorem guess_ge {P B n x y z Plo Blo : Nat} (hP : P = Plo + 4294967296 ^ n * (y + 4294967296 * x)) (hPlo : Plo < 4294967296 ^ n) (hB : B = Blo + 4294967296 ^ n * z) (hz : 0 < z) (hd : P / B < 4294967296) : P / B ≤ min ((x * 4294967296 + y) / z) 4294967295 := by
  refine Nat.le_min.2 ⟨?_, by omega⟩
  rw [Nat.le_div_iff_mul_le hz]
  have h1 : P / B * B ≤ P := Nat.div_mul_le_self _ _
  have h2 : 4294967296 ^ n * (P / B * z) ≤ P / B * B := by
    rw [hB, Nat.mul_add, Nat.mul_left_comm]
    exact Nat.le_add_left _ _
  have h3 : P < 4294967296 ^ n * (x * 4294967296 + y + 1) := by
    rw [hP, Nat.mul_add (4294967296 ^ n) (x * 4294967296 + y) 1, Nat.mul_one, show y + 4294967296 * x = x * 4294967296 + y by omega]
    omega
  have h4 := Nat.lt_of_mul_lt_mul_left (Nat.lt_of_le_of_lt (Nat.le_trans h2 h1) h3)
  omega
theorem KnuthAt.step {V B n i : Nat} {left q : List Int} (h : KnuthAt V B n (i + 1) left q) (hB : B < 4294967296 ^ n) (hB0 : 0 < B) {P : Nat} (hP : P = val ((left.take (i + (n + 1))).drop i)) :
    P / B < 4294967296 ∧ KnuthAt V B n i (nat_divide.lay left (limbs (P - P / B * B)) n i) (q.set i ((P / B : Nat) : Int)) := by
  have hlen : i + (n + 1) ≤ left.length := by have := h.len; have := h.i_le; omega
  have hs := val_split3 left i (n + 1) hlen
  have hlo := val_lt (okL_take h.okl i)
  rw [List.length_take, Nat.min_eq_left (by omega)] at hlo
  have hlt := h.lt
  rw [Nat.pow_succ] at hlt
  have hp : 0 < 4294967296 ^ i := Nat.pow_pos (by omega)
  rw [← hP] at hs
  have hmid : P + 4294967296 ^ (n + 1) * val (left.drop (i + (n + 1))) < B * 4294967296 := by
    refine Nat.lt_of_mul_lt_mul_left (a := 4294967296 ^ i) ?_
    rw [show 4294967296 ^ i * (B * 4294967296) = B * (4294967296 ^ i * 4294967296) by rw [Nat.mul_left_comm]]
    omega
  have hz : val (left.drop (i + (n + 1))) = 0 := by
    rcases Nat.eq_zero_or_pos (val (left.drop (i + (n + 1)))) with h0 | h0
    · exact h0
    · have h1 : 4294967296 ^ (n + 1) * 1 ≤ 4294967296 ^ (n + 1) * val (left.drop (i + (n + 1))) := Nat.mul_le_mul_left _ h0
      rw [Nat.pow_succ] at h1
      rw [Nat.pow_succ] at hmid
      omega
  rw [hz, Nat.mul_zero, Nat.add_zero] at hmid hs
  have hd : P / B < 4294967296 := by rw [Nat.div_lt_iff_lt_mul hB0, Nat.mul_comm]; exact hmid
  have hdm := Nat.div_add_mod P B
  have hmod := Nat.mod_lt P hB0
  have hrest : P - P / B * B = P % B := by rw [Nat.mul_comm]; omega
  have hrl : (limbs (P % B)).length ≤ n + 1 := Nat.le_succ_of_le (limbs_length_le (Nat.lt_trans hmod hB))
  have hv := lay_val (lf := left) (r := limbs (P % B)) (n := n) (i := i) (by omega) hrl
  rw [show i + n + 1 = i + (n + 1) from rfl, hz, Nat.mul_zero, Nat.add_zero, z15] at hv
  have hqi : i < q.length := by have := h.i_le; omega
  have hq := set_val hqi (h.z i (by omega)) (P / B)
  refine ⟨hd, okL_lay h.okl (by rw [hrest]; exact okL_limbs _) _ _, okL_set h.okq _ (limb_nat hd), ?_, ?_, ?_, ?_, ?_⟩
  · rw [hrest, hv, hq, h.v, hs, Nat.add_mul]
    have e1 : P / B * 4294967296 ^ i * B = 4294967296 ^ i * (B * (P / B)) := by rw [Nat.mul_comm (P / B), Nat.mul_assoc, Nat.mul_comm (P / B)]
    have e2 : 4294967296 ^ i * P = 4294967296 ^ i * (B * (P / B)) + 4294967296 ^ i * (P % B) := by rw [← Nat.mul_add, hdm]
    rw [e1, e2]
    omega
  · rw [hrest, hv]
    have e1 : 4294967296 ^ i * (P % B + 1) ≤ 4294967296 ^ i * B := Nat.mul_le_mul_left _ hmod
    rw [Nat.mul_add, Nat.mul_one] at e1
    rw [Nat.mul_comm B]
    omega
  · intro j hj
    rw [getD_set_ne _ (by omega)]
    exact h.z j (by omega)
  · rw [List.length_set]; have := h.i_le; omega
  · rw [lay_len _ _ _ _ (by omega) (by rw [hrest]; exact hrl), List.length_set]
    exact h.len
theorem l0_ev {V B n : Nat} {by_ : List Int} (hb : canB by_) (hB : val by_ = B) (hn : by_.length = n) (h0 : 0 < n) (hn2 : n < 999999) : ∀ (i : Nat) (left q : List Int), left.length < 2000000 → KnuthAt V B n i left q →
    ∃ left' q', KnuthAt V B n 0 left' q' ∧ q'.length = q.length ∧ Ev (fun k => nat_divide.l0 k by_ i left q) (left', q') := by
  have hBlt : B < 4294967296 ^ n := by rw [← hB, ← hn]; exact val_lt hb.1
  have hB0 : 0 < B := by
    have := (canB_val_zero hb).1
    rcases Nat.eq_zero_or_pos B with h | h
    · rw [hB] at this; rw [this h] at hn; simp at hn; omega
    · exact h
  intro i
  induction i with
  | zero => intro left q _ h; exact ⟨left, q, h, rfl, Ev.const rfl⟩
  | succ i ih =>
    intro left q hl h
    obtain ⟨hd, hs⟩ := h.step hBlt hB0 rfl
    have hlen : i + (n + 1) ≤ left.length := by have := h.len; have := h.i_le; omega
    have hiq : i < q.length := by have := h.i_le; omega
    have hrl : (limbs (val ((left.take (i + (n + 1))).drop i) - val ((left.take (i + (n + 1))).drop i) / B * B)).length ≤ n + 1 := by
      refine Nat.le_succ_of_le (limbs_length_le (Nat.lt_of_le_of_lt ?_ (Nat.lt_trans (Nat.mod_lt (val ((left.take (i + (n + 1))).drop i)) hB0) hBlt)))
      have e := Nat.div_add_mod (val ((left.take (i + (n + 1))).drop i)) B
      rw [Nat.mul_comm] at e
      exact Nat.sub_le_iff_le_add'.2 (Nat.le_of_eq e.symm)
    obtain ⟨left', q', hk, hql, he⟩ := ih _ _ (by rw [lay_len _ _ _ _ (by omega) hrl]; exact hl) hs
    · refine ⟨left', q', hk, by rw [hql, List.length_set], ?_⟩
      obtain ⟨P, hP⟩ : ∃ P, P = val ((left.take (i + (n + 1))).drop i) := ⟨_, rfl⟩
      rw [← hP] at hd he
      obtain ⟨x, hx, hx2⟩ := nat_of_ok h.okl (i + n)
      obtain ⟨y, hy, hy2⟩ := nat_of_ok h.okl (i + n - 1)
      obtain ⟨z, hz, hz2⟩ := nat_of_ok hb.1 (n - 1)
      have hbne : by_ ≠ [] := by rintro rfl; simp at hn; omega
      have hz0 : 0 < z := by
        have h1 := canB_last hb
        rw [last_rd hbne, hn, hz] at h1
        rcases Nat.eq_zero_or_pos z with h2 | h2
        · rw [h2] at h1; exact absurd rfl h1
        · exact h2
      have hpo : okL ((left.take (i + (n + 1))).drop i) := okL_drop (okL_take h.okl _) _
      have hpl : ((left.take (i + (n + 1))).drop i).length = n + 1 := by rw [List.length_drop, List.length_take]; omega
      have hpg : ∀ j, j < n + 1 → ((left.take (i + (n + 1))).drop i).getD j 0 = left.getD (i + j) 0 := by
        intro j hj
        simp only [List.getD_eq_getElem?_getD, List.getElem?_drop, List.getElem?_take]
        rw [if_pos (by omega)]
      have hPs : P = val (((left.take (i + (n + 1))).drop i).take (n - 1)) + 4294967296 ^ (n - 1) * (y + 4294967296 * x) := by
        have h1 := val_take_drop ((left.take (i + (n + 1))).drop i) (n - 1) (by omega)
        have h2 := val_drop_succ ((left.take (i + (n + 1))).drop i) (n - 1) (by omega)
        have h3 := val_drop_succ ((left.take (i + (n + 1))).drop i) (n - 1 + 1) (by omega)
        rw [List.drop_of_length_le (i := n - 1 + 1 + 1) (by omega), val_nil, hpg _ (by omega), show i + (n - 1 + 1) = i + n by omega, hx, Int.toNat_natCast] at h3
        rw [hpg _ (by omega), show i + (n - 1) = i + n - 1 by omega, hy, Int.toNat_natCast, h3] at h2
        rw [hP, h1, h2]
        simp only [Nat.mul_zero, Nat.add_zero]
      have hPlo := val_lt (okL_take hpo (n - 1))
      rw [List.length_take, Nat.min_eq_left (by omega)] at hPlo
      have hBs : B = val (by_.take (n - 1)) + 4294967296 ^ (n - 1) * z := by
        have h1 := val_take_drop by_ (n - 1) (by omega)
        have h2 := val_drop_succ by_ (n - 1) (by omega)
        rw [List.drop_of_length_le (i := n - 1 + 1) (by omega), val_nil, hz, Int.toNat_natCast] at h2
        rw [← hB, h1, h2]
        simp only [Nat.mul_zero, Nat.add_zero]
      have hge := guess_ge hPs hPlo hBs hz0 hd
      have hg : nat_divide.guessOf (rd left ((i + by_.length : Nat) : Int)) (rd left ((i + by_.length - 1 : Nat) : Int)) (rd by_ ((by_.length - 1 : Nat) : Int)) = ((min ((x * 4294967296 + y) / z) 4294967295 : Nat) : Int) := by
        rw [hn, rd_nat, rd_nat, rd_nat, hx, hy, hz, guess_eq hx2 hy2 hz2]
      have hcond : i + by_.length < left.length ∧ i < q.length ∧ IntKind.u64.wrap (rd by_ ((by_.length - 1 : Nat) : Int)) ≠ 0 ∧ 0 ≤ nat_divide.guessOf (rd left ((i + by_.length : Nat) : Int)) (rd left ((i + by_.length - 1 : Nat) : Int)) (rd by_ ((by_.length - 1 : Nat) : Int)) := by
        refine ⟨by omega, hiq, ?_, by rw [hg]; exact Int.natCast_nonneg _⟩
        rw [hn, rd_nat, hz, u64n (q := z) (by omega)]
        omega
      obtain ⟨D, hD⟩ : ∃ D, min ((x * 4294967296 + y) / z) 4294967295 = P / B + D := ⟨_, (Nat.add_sub_cancel' hge).symm⟩
      have hgl : min ((x * 4294967296 + y) / z) 4294967295 < 4294967296 := Nat.lt_of_le_of_lt (Nat.min_le_right _ _) (by omega)
      refine Ev.congr (f := fun k => (nat_divide.l1 k by_ ((left.take (i + (n + 1))).drop i) (P / B + D)).bind fun t => nat_divide.l0 k by_ i (nat_divide.lay left t.2 n i) (q.set i ((t.1 : Int) % 4294967296))) (fun k => ?_) ?_
      · show (if _ then _ else _) = _
        rw [if_pos hcond, hg, Int.toNat_natCast, hD, hn]
        rfl
      · rw [hD] at hgl
        have hl1 := l1_ev hb hpo (by omega) (by omega) (by rw [hB]; exact hB0) (by rw [hB, ← hP]; exact hd) D (P / B + D) (by rw [hB, ← hP]) hgl
        rw [hB, ← hP] at hl1
        refine Ev.bind hl1 ?_
        show Ev (fun k => nat_divide.l0 k by_ i (nat_divide.lay left (limbs (P - P / B * B)) n i) (q.set i (((P / B : Nat) : Int) % 4294967296))) (left', q')
        rw [nat_emod hd]
        exact he
theorem shr64 {T s : Nat} (hs : s < 32) : shr .u64 (T : Int) (s : Int) = ((T / 2 ^ s : Nat) : Int) := by
  unfold shr
  rw [show min ((s : Int)).toNat (IntKind.u64.bits) = s from Nat.min_eq_left (by simp [IntKind.bits]; omega)]
  have : (2 : Int) ^ s = ((2 ^ s : Nat) : Int) := by norm_cast
  rw [this, Int.natCast_ediv]
theorem restAt_eq {left : List Int} (h : okL left) {s : Nat} (hs : s < 32) (i : Nat) : nat_divide.restAt left (s : Int) i = ((((left.getD (i + 1) 0).toNat * 4294967296 + (left.getD i 0).toNat) / 2 ^ s % 4294967296 : Nat) : Int) := by
  obtain ⟨x, hx, hx2⟩ := nat_of_ok h (i + 1)
  obtain ⟨y, hy, hy2⟩ := nat_of_ok h i
  unfold nat_divide.restAt
  rw [rd_nat, rd_nat, hx, hy, top_eq hx2 hy2, shr64 hs, Int.toNat_natCast, Int.toNat_natCast]
  rfl
theorem shift_limb {y x R s : Nat} (hy : y < 4294967296) (hs : s < 32) : (y + 4294967296 * (x + 4294967296 * R)) / 2 ^ s = (x * 4294967296 + y) / 2 ^ s % 4294967296 + 4294967296 * ((x + 4294967296 * R) / 2 ^ s) := by
  have hp := Nat.two_pow_pos s
  have hB : 4294967296 = 2 ^ s * 2 ^ (32 - s) := by rw [← Nat.pow_add, show s + (32 - s) = 32 by omega]
  obtain ⟨Y, hY⟩ : ∃ Y, Y = x + 4294967296 * R := ⟨_, rfl⟩
  have e1 : (y + 4294967296 * Y) / 2 ^ s = y / 2 ^ s + 2 ^ (32 - s) * Y := by
    rw [show 4294967296 * Y = 2 ^ s * (2 ^ (32 - s) * Y) by rw [← Nat.mul_assoc, ← hB], Nat.add_mul_div_left _ _ hp]
  have e2 : (x * 4294967296 + y) / 2 ^ s = y / 2 ^ s + 2 ^ (32 - s) * x := by
    rw [Nat.add_comm, show x * 4294967296 = 2 ^ s * (2 ^ (32 - s) * x) by rw [← Nat.mul_assoc, ← hB, Nat.mul_comm], Nat.add_mul_div_left _ _ hp]
  have hylt : y / 2 ^ s < 2 ^ (32 - s) := by rw [Nat.div_lt_iff_lt_mul hp, Nat.mul_comm, ← hB]; exact hy
  rw [← hY, e1, e2]
  have hm := Nat.div_add_mod Y (2 ^ s)
  have hmx : x % 2 ^ s = Y % 2 ^ s := by
    rw [hY, show 4294967296 * R = 2 ^ s * (2 ^ (32 - s) * R) by rw [← Nat.mul_assoc, ← hB], Nat.add_mul_mod_self_left]
  have hdx := Nat.div_add_mod x (2 ^ s)
  have e3 : 2 ^ (32 - s) * x = 4294967296 * (x / 2 ^ s) + 2 ^ (32 - s) * (x % 2 ^ s) := by
    conv => lhs; rw [← hdx]
    rw [Nat.mul_add, ← Nat.mul_assoc, Nat.mul_comm (2 ^ (32 - s)), ← hB]
  have e4 : 2 ^ (32 - s) * Y = 4294967296 * (Y / 2 ^ s) + 2 ^ (32 - s) * (Y % 2 ^ s) := by
    conv => lhs; rw [← hm]
    rw [Nat.mul_add, ← Nat.mul_assoc, Nat.mul_comm (2 ^ (32 - s)), ← hB]
  have e5 : y / 2 ^ s + 2 ^ (32 - s) * (x % 2 ^ s) < 4294967296 := by
    have h1 := Nat.mod_lt x hp
    have h2 : 2 ^ (32 - s) * (x % 2 ^ s + 1) ≤ 2 ^ (32 - s) * 2 ^ s := Nat.mul_le_mul_left _ h1
    rw [Nat.mul_add, Nat.mul_one, Nat.mul_comm (2 ^ (32 - s)) (2 ^ s), ← hB] at h2
    omega
  have e6 : (y / 2 ^ s + 2 ^ (32 - s) * x) % 4294967296 = y / 2 ^ s + 2 ^ (32 - s) * (x % 2 ^ s) := by
    rw [e3, show y / 2 ^ s + (4294967296 * (x / 2 ^ s) + 2 ^ (32 - s) * (x % 2 ^ s)) = (y / 2 ^ s + 2 ^ (32 - s) * (x % 2 ^ s)) + 4294967296 * (x / 2 ^ s) by omega, Nat.add_mul_mod_self_left, Nat.mod_eq_of_lt e5]
  rw [e6, e4, hmx]
  omega
theorem okL_toNat {l : List Int} (h : okL l) (i : Nat) : (l.getD i 0).toNat < 4294967296 := by have := okL_get h i; omega
theorem rest_val {left : List Int} (h : okL left) {s : Nat} (hs : s < 32) : ∀ (m i : Nat), i + m < left.length → val (left.drop (i + m)) = 0 →
    val ((List.range m).map fun j => nat_divide.restAt left (s : Int) (i + j)) = val (left.drop i) / 2 ^ s := by
  intro m
  induction m with
  | zero => intro i hl hz; rw [Nat.add_zero] at hz; rw [hz]; simp [val]
  | succ m ih =>
    intro i hl hz
    have := ih (i + 1) (by omega) (by rw [show i + 1 + m = i + (m + 1) by omega]; exact hz)
    rw [List.range_succ_eq_map, List.map_cons, List.map_map, val_cons, Nat.add_zero, restAt_eq h hs, Int.toNat_natCast]
    have e : ((fun j => nat_divide.restAt left (s : Int) (i + j)) ∘ Nat.succ) = fun j => nat_divide.restAt left (s : Int) (i + 1 + j) := by
      funext j
      show nat_divide.restAt left (s : Int) (i + (j + 1)) = _
      rw [show i + (j + 1) = i + 1 + j by omega]
    rw [e, this, val_drop_succ left i (by omega), val_drop_succ left (i + 1) (by omega)]
    exact (shift_limb (okL_toNat h i) hs).symm
theorem okL_rest {left : List Int} (h : okL left) {s : Nat} (hs : s < 32) (n : Nat) : okL (nat_divide.restOf left (s : Int) n) := by
  intro x hx
  unfold nat_divide.restOf at hx
  obtain ⟨i, _, rfl⟩ := List.mem_map.1 hx
  rw [restAt_eq h hs]
  exact limb_nat (Nat.mod_lt _ (by omega))
theorem divide_big {a b : List Int} (ha : canB a) (hb : canB b) (h0 : b ≠ []) (hna : a.length < 999999) (hnb : b.length < 999999) (hbl : 0 < b.length) (hv0 : val b ≠ 0) (hba : b.length ≤ a.length) (h1 : ¬ b.length = 1) :
    Ev (fun k => if 0 < b.length ∧ a.length < 1000000 then (bits_LeadingZeros32.f (rd b ((b.length - 1 : Nat) : Int))).bind fun up => (nat_shifted.f k a up).bind fun left => (nat_shifted.f k b up).bind fun s => (nat_trim.f k s).bind fun by_ =>
    (if 0 < by_.length ∧ by_.length ≤ a.length ∧ left.length = a.length + 1 ∧ 0 ≤ up then (nat_divide.l0 k by_ (a.length - by_.length + 1) left (List.replicate (a.length - by_.length + 1) 0)).bind fun t => (nat_trim.f k t.2).bind fun q => (nat_trim.f k (nat_divide.restOf t.1 up by_.length)).bind fun r => some (q, r) else none) else none) (limbs (val a / val b), limbs (val a % val b)) := by
  have c2 : 0 < b.length ∧ a.length < 1000000 := ⟨hbl, by omega⟩
  simp only [if_pos c2]
  obtain ⟨x, hx, hx2⟩ := nat_of_ok hb.1 (b.length - 1)
  have hx0 : 0 < x := by
    have h2 := canB_last hb
    rw [last_rd h0, hx] at h2
    rcases Nat.eq_zero_or_pos x with h3 | h3
    · rw [h3] at h2; exact absurd rfl h2
    · exact h3
  obtain ⟨s, hs, hlead, htop⟩ := lead hx0 hx2
  refine Ev.bind (g := fun _ => bits_LeadingZeros32.f (rd b ((b.length - 1 : Nat) : Int))) (Ev.const (by rw [rd_nat, hx]; exact hlead)) ?_
  obtain ⟨left, hlo, hll, hlv, hle⟩ := shifted_ev ha.1 hs (by omega)
  obtain ⟨sb, hso, hsl, hsv, hse⟩ := shifted_ev hb.1 hs (by omega)
  refine Ev.bind hle (Ev.bind hse (Ev.bind (trim_ev hso (by omega)) ?_))
  rw [hsv]
  have hbv : val b * 2 ^ s < 4294967296 ^ b.length := by
    have h2 := val_take_drop b (b.length - 1) (by omega)
    have h3 := val_drop_succ b (b.length - 1) (by omega)
    rw [List.drop_of_length_le (i := b.length - 1 + 1) (by omega), val_nil, hx, Int.toNat_natCast] at h3
    simp only [Nat.mul_zero, Nat.add_zero] at h3
    have h4 := val_lt (okL_take hb.1 (b.length - 1))
    rw [List.length_take, Nat.min_eq_left (by omega)] at h4
    have h5 : val b < 4294967296 ^ (b.length - 1) * (x + 1) := by rw [h2, h3, Nat.mul_add, Nat.mul_one]; omega
    have h6 : val b * 2 ^ s < 4294967296 ^ (b.length - 1) * (x + 1) * 2 ^ s := Nat.mul_lt_mul_of_pos_right h5 (Nat.two_pow_pos s)
    have h7 : 4294967296 ^ (b.length - 1) * (x + 1) * 2 ^ s ≤ 4294967296 ^ (b.length - 1) * 4294967296 := by rw [Nat.mul_assoc]; exact Nat.mul_le_mul_left _ htop
    rw [← Nat.pow_succ, show (b.length - 1).succ = b.length by omega] at h7
    exact Nat.lt_of_lt_of_le h6 h7
  obtain ⟨by_, hby⟩ : ∃ by_, by_ = limbs (val b * 2 ^ s) := ⟨_, rfl⟩
  rw [← hby]
  have hcb : canB by_ := by rw [hby]; exact canB_limbs _
  have hvb : val by_ = val b * 2 ^ s := by rw [hby, z15]
  have hB0 : 0 < val b * 2 ^ s := Nat.mul_pos (by omega) (Nat.two_pow_pos s)
  have hn : by_.length ≤ b.length := by rw [hby]; exact limbs_length_le hbv
  have hn0 : 0 < by_.length := by
    rcases Nat.eq_zero_or_pos by_.length with h2 | h2
    · rw [List.eq_nil_of_length_eq_zero h2] at hvb; rw [val_nil] at hvb; omega
    · exact h2
  have c3 : 0 < by_.length ∧ by_.length ≤ a.length ∧ left.length = a.length + 1 ∧ (0 : Int) ≤ (s : Int) := ⟨hn0, by omega, hll, by omega⟩
  simp only [if_pos c3]
  obtain ⟨m, hm⟩ : ∃ m, m = a.length - by_.length + 1 := ⟨_, rfl⟩
  rw [← hm]
  have hk : KnuthAt (val a * 2 ^ s) (val b * 2 ^ s) by_.length m left (List.replicate m 0) := by
    refine ⟨hlo, okL_replicate _, by rw [hlv, val_zeros, Nat.zero_mul, Nat.add_zero], ?_, fun j _ => getD_zeros _ _, by rw [List.length_replicate]; exact Nat.le_refl _, by rw [List.length_replicate]; omega⟩
    rw [hlv]
    have h2 := val_lt ha.1
    have h3 := val_ge_of_length hb (m := by_.length - 1) (by omega)
    have h4 : 4294967296 ^ (by_.length - 1) * 4294967296 ^ m ≤ val b * 4294967296 ^ m := Nat.mul_le_mul_right _ h3
    rw [← Nat.pow_add, show by_.length - 1 + m = a.length by omega] at h4
    rw [Nat.mul_right_comm]
    exact Nat.mul_lt_mul_of_pos_right (Nat.lt_of_lt_of_le h2 h4) (Nat.two_pow_pos s)
  obtain ⟨left', q', hk', hql, he⟩ := l0_ev hcb hvb rfl hn0 (by omega) m left _ (by omega) hk
  refine Ev.bind he ?_
  have hlt := hk'.lt
  rw [Nat.pow_zero, Nat.mul_one] at hlt
  have hv := hk'.v
  have hq : val q' = val a / val b := by
    have h2 : (val a * 2 ^ s) / (val b * 2 ^ s) = val q' := by
      rw [hv, Nat.add_mul_div_right _ _ hB0, Nat.div_eq_of_lt hlt, Nat.zero_add]
    rw [← h2, Nat.mul_div_mul_right _ _ (Nat.two_pow_pos s)]
  have hr : val left' = val a % val b * 2 ^ s := by
    have h2 : (val a * 2 ^ s) % (val b * 2 ^ s) = val left' := by
      rw [hv, Nat.add_mul_mod_self_right, Nat.mod_eq_of_lt hlt]
    rw [← h2, Nat.mul_mod_mul_right]
  rw [List.length_replicate] at hql
  have hl' := hk'.len
  have hz : val (left'.drop (0 + by_.length)) = 0 := by
    rw [Nat.zero_add]
    have h2 := val_take_drop left' by_.length (by omega)
    have h3 : val left' < 4294967296 ^ by_.length := Nat.lt_trans hlt (by rw [← hvb]; exact val_lt hcb.1)
    rcases Nat.eq_zero_or_pos (val (left'.drop by_.length)) with h4 | h4
    · exact h4
    · have h5 : 4294967296 ^ by_.length * 1 ≤ 4294967296 ^ by_.length * val (left'.drop by_.length) := Nat.mul_le_mul_left _ h4
      omega
  have hrv := rest_val hk'.okl hs by_.length 0 (by omega) hz
  simp only [Nat.zero_add, List.drop_zero] at hrv
  have hrv2 : val (nat_divide.restOf left' (s : Int) by_.length) = val a % val b := by
    show val ((List.range by_.length).map (nat_divide.restAt left' (s : Int))) = _
    refine hrv.trans ?_
    rw [hr, Nat.mul_div_cancel _ (Nat.two_pow_pos s)]
  have hrl : (nat_divide.restOf left' (s : Int) by_.length).length = by_.length := by unfold nat_divide.restOf; rw [List.length_map, List.length_range]
  have t1 := trim_ev hk'.okq (by omega)
  have t2 := trim_ev (okL_rest hk'.okl hs by_.length) (by omega)
  rw [hq] at t1
  rw [hrv2] at t2
  exact Ev.bind t1 (Ev.bind t2 (Ev.const rfl))
theorem divide_ev {a b : List Int} (ha : canB a) (hb : canB b) (h0 : b ≠ []) (hna : a.length < 999999) (hnb : b.length < 999999) : Ev (fun k => nat_divide.f k a b) (limbs (val a / val b), limbs (val a % val b)) := by
  have hbl := List.length_pos_iff.2 h0
  have hv0 : val b ≠ 0 := fun e => h0 ((canB_val_zero hb).1 e)
  unfold nat_divide.f
  have e1 : slices_Clone_uint32_uint32.f a = some a := clone_f (by omega)
  by_cases h : val a < val b
  · have hc : cmpI (val a) (val b) < 0 := by unfold cmpI; rw [if_pos h]; decide
    refine Ev.bind (compare_ev ha hb (by omega) (by omega)) ?_
    simp only [if_pos hc, e1, Option.bind_some]
    rw [Nat.div_eq_of_lt h, Nat.mod_eq_of_lt h, limbs_zero, ha.2]
    exact Ev.const rfl
  · have hba : b.length ≤ a.length := by
      rcases Nat.lt_or_ge a.length b.length with h1 | h1
      · exact absurd (canB_length_lt ha hb h1) h
      · exact h1
    have hc : ¬ cmpI (val a) (val b) < 0 := by unfold cmpI; rw [if_neg h]; split <;> decide
    refine Ev.bind (compare_ev ha hb (by omega) (by omega)) ?_
    by_cases h1 : b.length = 1
    · obtain ⟨x, rfl⟩ := List.length_eq_one_iff.1 h1
      have hx := hb.1 x (by simp)
      have hv : val [x] = x.toNat := by simp [val]
      have e1 : (([x] : List Int).length : Int) = 1 := rfl
      have e3 : 0 < (([x] : List Int).length : Int) := by rw [e1]; decide
      have e2 : rd [x] 0 = ((val [x] : Nat) : Int) := by
        have : rd [x] 0 = x := rfl
        rw [this, hv]; omega
      simp only [if_neg hc, if_pos e1, if_pos e3, e2]
      have hlt : val [x] < 4294967296 := by rw [hv]; omega
      refine Ev.bind (short_ev ha.1 (by omega) (d := val [x]) (by omega) hlt) ?_
      have hm : val a % val [x] < 4294967296 := Nat.lt_trans (Nat.mod_lt _ (by omega)) hlt
      have ew : IntKind.u64.wrap ((val a % val [x] : Nat) : Int) = ((val a % val [x] : Nat) : Int) := u64n (by omega)
      rw [ew]
      exact Ev.bind (of_ev (by omega) (by omega)) (Ev.const rfl)
    · have c1 : ¬ (b.length : Int) = 1 := by omega
      simp only [if_neg hc, if_neg c1]
      exact divide_big ha hb h0 hna hnb hbl hv0 hba h1
theorem Ev.steps {α : Type} {g f : Nat → Option α} {r : α} (h : ∀ k, g (k + 1) = f k) (k : Ev f r) : Ev g r := Ev.step h k
theorem or_bit {x s : Nat} (hx : x % 2 ^ (s + 1) = 0) (hx2 : x < 4294967296) (hs : s < 32) : Go.bits .or .u32 (x : Int) (shl .u32 1 (s : Int)) = ((x + 2 ^ s : Nat) : Int) ∧ x + 2 ^ s < 4294967296 := by
  have h1 : 2 ^ s < 2 ^ (s + 1) := Nat.pow_lt_pow_right (by omega) (by omega)
  have h2 : 2 ^ s < 2 ^ 32 := Nat.pow_lt_pow_right (by omega) hs
  have e : shl .u32 1 (s : Int) = ((2 ^ s : Nat) : Int) := by
    unfold shl
    have e1 : (1 : Int) * 2 ^ min ((s : Int)).toNat (IntKind.u32.bits) = ((2 ^ s : Nat) : Int) := by
      simp [IntKind.bits, Nat.min_eq_left (show s ≤ 32 by omega)]
    rw [e1, IntKind.wrap_u32]; omega
  have hor := or_low (o := 2 ^ s) (x := x) (s := s + 1) h1 (by omega) hx hx2
  refine ⟨?_, ?_⟩
  · rw [e, Nat.add_comm, ← hor]
    rw [(bits_nat .u32 32 (by decide) (fun n h0 h => by rw [IntKind.wrap_u32]; omega) x (2 ^ s) hx2 h2).2, (bits_nat .u32 32 (by decide) (fun n h0 h => by rw [IntKind.wrap_u32]; omega) (2 ^ s) x h2 hx2).2, Nat.or_comm]
  · have hB : 4294967296 = 2 ^ (s + 1) * 2 ^ (31 - s) := by rw [← Nat.pow_add, show s + 1 + (31 - s) = 32 by omega]
    obtain ⟨z, rfl⟩ : ∃ z, x = 2 ^ (s + 1) * z := ⟨x / 2 ^ (s + 1), by have := Nat.div_add_mod x (2 ^ (s + 1)); omega⟩
    rw [hB] at hx2
    have hz := Nat.lt_of_mul_lt_mul_left hx2
    have : 2 ^ (s + 1) * (z + 1) ≤ 2 ^ (s + 1) * 2 ^ (31 - s) := Nat.mul_le_mul_left _ hz
    rw [← hB, Nat.mul_add] at this
    omega
theorem low_zero {q : List Int} (hq : okL q) {j s z : Nat} (hj : j < q.length) (hs : s < 32) (h : val q = 2 ^ (32 * j + s + 1) * z) {x : Nat} (hx : q.getD j 0 = (x : Int)) : x % 2 ^ (s + 1) = 0 := by
  have h1 := val_take_drop q j (by omega)
  have h2 := val_drop_succ q j hj
  have h3 := val_lt (okL_take hq j)
  rw [List.length_take, Nat.min_eq_left (by omega)] at h3
  rw [hx] at h2
  simp only [Int.toNat_natCast] at h2
  have e : 2 ^ (32 * j + s + 1) = 4294967296 ^ j * 2 ^ (s + 1) := by rw [base_pow, ← Nat.pow_add, Nat.add_assoc]
  rw [h1, e, Nat.mul_assoc] at h
  have hB : 4294967296 = 2 ^ (s + 1) * 2 ^ (31 - s) := by rw [← Nat.pow_add, show s + 1 + (31 - s) = 32 by omega]
  have hp : 0 < 4294967296 ^ j := Nat.pow_pos (by omega)
  have h4 : val (q.drop j) = 2 ^ (s + 1) * z := by
    have a1 : (val (q.take j) + 4294967296 ^ j * val (q.drop j)) / 4294967296 ^ j = val (q.drop j) := by
      rw [Nat.add_mul_div_left _ _ hp, Nat.div_eq_of_lt h3, Nat.zero_add]
    rw [h, Nat.mul_div_cancel_left _ hp] at a1
    exact a1.symm
  have h5 : (x + 4294967296 * val (q.drop (j + 1))) % 2 ^ (s + 1) = 0 := by rw [← h2, h4, Nat.mul_mod_right]
  rw [hB, Nat.mul_assoc, Nat.add_mul_mod_self_left] at h5
  exact h5
structure DivAt (a b q r : List Int) (m : Nat) : Prop where
  ok : okL q
  len : q.length = a.length
  can : canB r
  v : val a = val q * val b + val r
  lt : val r < val b * 2 ^ m
  dv : ∃ z, val q = 2 ^ m * z
theorem DivAt.down {a b q r : List Int} {m : Nat} (h : DivAt a b q r (m + 1)) (hr : val r < val b * 2 ^ m) : DivAt a b q r m := by
  obtain ⟨z, hz⟩ := h.dv
  exact ⟨h.ok, h.len, h.can, h.v, hr, 2 * z, by rw [hz, Nat.pow_succ, Nat.mul_assoc]⟩
theorem DivAt.take {a b q r : List Int} {m : Nat} (h : DivAt a b q r (m + 1)) (hm : m < 32 * a.length) (hr : val b * 2 ^ m ≤ val r) {x : Nat} (hx : q.getD (m / 32) 0 = (x : Int)) :
    x % 2 ^ (m % 32 + 1) = 0 ∧ DivAt a b (q.set (m / 32) ((x + 2 ^ (m % 32) : Nat) : Int)) (limbs (val r - val b * 2 ^ m)) m := by
  obtain ⟨z, hz⟩ := h.dv
  have hlen := h.len
  have hs : m % 32 < 32 := Nat.mod_lt _ (by omega)
  have hj : m / 32 < q.length := by omega
  have e : 32 * (m / 32) + m % 32 + 1 = m + 1 := by omega
  have h0 := low_zero h.ok hj hs (z := z) (by rw [e]; exact hz) hx
  have hx2 : x < 4294967296 := by have := okL_get h.ok (m / 32); omega
  have hb := or_bit h0 hx2 hs
  have hv := val_set hj ((x + 2 ^ (m % 32) : Nat) : Int)
  rw [hx] at hv
  simp only [Int.toNat_natCast] at hv
  have e2 : 2 ^ (m % 32) * 4294967296 ^ (m / 32) = 2 ^ m := by rw [base_pow, ← Nat.pow_add]; congr 1; omega
  rw [Nat.add_mul, e2] at hv
  have hV : val (q.set (m / 32) ((x + 2 ^ (m % 32) : Nat) : Int)) = val q + 2 ^ m := by omega
  refine ⟨h0, okL_set h.ok _ (limb_nat hb.2), by rw [List.length_set]; exact h.len, canB_limbs _, ?_, ?_, ?_⟩
  · rw [hV, z15, h.v, Nat.add_mul, Nat.mul_comm (2 ^ m)]; omega
  · rw [z15]
    have := h.lt
    rw [Nat.pow_succ, ← Nat.mul_assoc] at this
    omega
  · exact ⟨2 * z + 1, by rw [hV, hz, Nat.pow_succ, Nat.mul_add, Nat.mul_assoc, Nat.mul_one]⟩
theorem rdiv_run (a b : List Int) (ha : canB a) (hb : canB b) (hna : a.length < 1000000) (hnb : b.length < 1000000) : ∀ (m : Nat), m ≤ 32 * a.length → ∀ (q r : List Int), DivAt a b q r m →
    Ev (fun k => driftnetref01_div.l0 k b q r ((m : Int) - 1)) (limbs (val a / val b), limbs (val a % val b)) := by
  intro m
  induction m with
  | zero =>
    intro _ q r h
    have hlt : val r < val b := by have := h.lt; simpa using this
    have hq : val a / val b = val q := by
      rw [h.v, Nat.mul_comm, Nat.mul_add_div (by omega), Nat.div_eq_of_lt hlt, Nat.add_zero]
    have hr : val a % val b = val r := by
      rw [h.v, Nat.mul_comm, Nat.mul_add_mod, Nat.mod_eq_of_lt hlt]
    refine Ev.steps (f := fun k => (driftnetref01_trim.f k q).bind fun t => some (t, r)) (fun k => by simp only [driftnetref01_div.l0]; rw [if_neg (by omega)]) ?_
    refine Ev.bind (rtrim_ev h.ok (by rw [h.len]; omega)) (Ev.const ?_)
    rw [hq, hr, h.can.2]
  | succ m ih =>
    intro hm q r h
    have hlen := h.len
    have hs : m % 32 < 32 := Nat.mod_lt _ (by omega)
    have hra : r.length ≤ a.length := length_le_of_val h.can (Nat.lt_of_le_of_lt (by rw [h.v]; omega) (val_lt ha.1))
    have hdl : (limbs (val b * 2 ^ m)).length ≤ b.length + a.length := by
      refine limbs_length_le ?_
      have h1 := val_lt hb.1
      have h2 : 2 ^ m ≤ 4294967296 ^ a.length := by rw [base_pow]; exact Nat.pow_le_pow_right (by omega) (by omega)
      rw [Nat.pow_add]
      exact Nat.mul_lt_mul_of_lt_of_le h1 h2 (Nat.pow_pos (by omega))
    obtain ⟨x, hx, hx2⟩ := nat_of_ok h.ok (m / 32)
    have et : Int.tmod (m : Int) 32 = ((m % 32 : Nat) : Int) := rfl
    have eq : Int.tdiv (m : Int) 32 = ((m / 32 : Nat) : Int) := rfl
    refine Ev.steps (f := fun k => (driftnetref01_times.f k b (m : Int)).bind fun d => (driftnetref01_cmp.f k r d).bind fun c => if c ≥ 0 then (driftnetref01_sub.f k r d).bind fun s => driftnetref01_div.l0 k b (q.set (m / 32) (Go.bits .or .u32 (x : Int) (shl .u32 1 ((m % 32 : Nat) : Int)))) s ((m : Int) - 1) else driftnetref01_div.l0 k b q r ((m : Int) - 1)) (fun k => ?_) ?_
    · simp only [driftnetref01_div.l0]
      rw [show ((m + 1 : Nat) : Int) - 1 = (m : Int) by omega, if_pos (by omega), et, eq, w64 (n := ((m / 32 : Nat) : Int)) (by omega) (by omega), w64 (n := (m : Int) - 1) (by omega) (by omega), rd_nat, hx]
      have c1 : (0 : Int) ≤ ((m / 32 : Nat) : Int) := by omega
      have c2 : ((m / 32 : Nat) : Int) < (q.length : Int) := by omega
      have c3 : (0 : Int) ≤ ((m % 32 : Nat) : Int) := by omega
      simp only [if_pos c1, if_pos c2, if_pos c3, Int.toNat_natCast]
    · refine Ev.bind (rtimes_ev hb.1 m (by omega)) ?_
      refine Ev.bind (rcmp_ev h.can (canB_limbs _) (by omega) (by omega)) ?_
      rw [z15]
      by_cases hc : val b * 2 ^ m ≤ val r
      · have hcmp : cmpI (val r) (val b * 2 ^ m) ≥ 0 := by unfold cmpI; rw [if_neg (by omega)]; split <;> omega
        obtain ⟨h0, hd⟩ := h.take (by omega) hc hx
        simp only [if_pos hcmp]
        have hsub := rsub_ev (a := r) (b := limbs (val b * 2 ^ m)) h.can.1 (okL_limbs _) (by omega) (by rw [z15]; exact hc)
        rw [z15] at hsub
        refine Ev.bind hsub ?_
        rw [(or_bit h0 hx2 hs).1]
        exact ih (by omega) _ _ hd
      · have hcmp : ¬ cmpI (val r) (val b * 2 ^ m) ≥ 0 := by unfold cmpI; rw [if_pos (by omega)]; omega
        simp only [if_neg hcmp]
        exact ih (by omega) _ _ (h.down (by omega))
theorem rdiv_ev {a b : List Int} (ha : canB a) (hb : canB b) (h0 : b ≠ []) (hna : a.length < 1000000) (hnb : b.length < 1000000) : Ev (fun k => driftnetref01_div.f k a b) (limbs (val a / val b), limbs (val a % val b)) := by
  have hb0 : val b ≠ 0 := fun e => h0 ((canB_val_zero hb).1 e)
  have hta := rtrim_ev ha.1 (by omega)
  have htb := rtrim_ev hb.1 (by omega)
  rw [ha.2] at hta
  rw [hb.2] at htb
  obtain ⟨nb, hb1, hb2, hb3, hb4, hbe⟩ := rbits_ev hb h0 (by omega)
  have hz : okL (List.replicate a.length 0) ∧ val (List.replicate a.length (0 : Int)) = 0 := ⟨okL_replicate _, val_zeros _⟩
  refine Ev.congr (f := fun k => (driftnetref01_trim.f k a).bind fun t => (driftnetref01_trim.f k b).bind fun u => (driftnetref01_bits.f k t).bind fun n => (driftnetref01_bits.f k u).bind fun m => driftnetref01_div.l0 k u (List.replicate a.length 0) t (wrap64 (n - m))) (fun k => ?_) ?_
  · unfold driftnetref01_div.f
    rw [if_pos (by omega), if_pos (by omega)]
    rfl
  refine Ev.bind hta (Ev.bind htb ?_)
  by_cases ha0 : a = []
  · subst ha0
    refine Ev.bind (a := 0) (Ev.const rfl) (Ev.bind hbe ?_)
    rw [w64 (by omega) (by omega)]
    have hrun := rdiv_run [] b canB_nil hb (by simp) hnb 0 (by omega) [] [] ⟨okL_nil, rfl, canB_nil, by simp [val], by simp [val]; omega, 0, rfl⟩
    refine Ev.steps (f := fun k => (driftnetref01_trim.f k (List.replicate ([] : List Int).length 0)).bind fun t => some (t, [])) (fun k => by simp only [driftnetref01_div.l0]; rw [if_neg (by omega)]) ?_
    refine Ev.bind (rtrim_ev (l := []) okL_nil (by simp)) (Ev.const ?_)
    simp [val, limbs_zero]
  · obtain ⟨na, ha1, ha2, ha3, ha4, hae⟩ := rbits_ev ha ha0 (by omega)
    refine Ev.bind hae (Ev.bind hbe ?_)
    rw [w64 (by omega) (by omega)]
    by_cases hlt : na < nb
    · have hab : val a < val b := Nat.lt_of_lt_of_le ha4 (Nat.le_trans (Nat.pow_le_pow_right (by omega) (by omega)) hb3)
      refine Ev.steps (f := fun k => (driftnetref01_trim.f k (List.replicate a.length 0)).bind fun t => some (t, a)) (fun k => by simp only [driftnetref01_div.l0]; rw [if_neg (by omega)]) ?_
      refine Ev.bind (rtrim_ev hz.1 (by simp; omega)) (Ev.const ?_)
      rw [hz.2, Nat.div_eq_of_lt hab, Nat.mod_eq_of_lt hab, ha.2]
    · have hrun := rdiv_run a b ha hb hna hnb (na - nb + 1) (by omega) (List.replicate a.length 0) a ⟨hz.1, by simp, ha, by rw [hz.2]; omega, ?_, 0, by rw [hz.2]; rfl⟩
      · rw [show ((na - nb + 1 : Nat) : Int) - 1 = (na : Int) - (nb : Int) by omega] at hrun
        exact hrun
      · refine Nat.lt_of_lt_of_le ha4 ?_
        rw [show na = (nb - 1) + (na - nb + 1) by omega, Nat.pow_add, show nb - 1 + (na - nb + 1) - nb + 1 = na - nb + 1 by omega]
        exact Nat.mul_le_mul_right _ hb3
theorem gcd_step (m n : Nat) : Nat.gcd n (m % n) = Nat.gcd m n := by rw [Nat.gcd_comm m n, Nat.gcd_comm n (m % n), ← Nat.gcd_rec]
theorem mod_length {a b : List Int} (hb : okL b) (h0 : val b ≠ 0) : (limbs (val a % val b)).length ≤ b.length :=
  limbs_length_le (Nat.lt_trans (Nat.mod_lt _ (by omega)) (val_lt hb))
theorem rgcd_run : ∀ (n : Nat) (x y : List Int), val y = n → canB x → canB y → x.length < 1000000 → y.length < 1000000 → Ev (fun k => driftnetref01_Gcd.l0 k x y) (limbs (Nat.gcd (val x) (val y)), 0) := by
  intro n
  induction n using Nat.strongRecOn with
  | _ n ih =>
    intro x y hn hx hy hlx hly
    by_cases h0 : y = []
    · subst h0
      refine Ev.steps (f := fun _ => some (x, 0)) (fun k => by simp only [driftnetref01_Gcd.l0]; rw [if_neg (by simp)]) (Ev.const ?_)
      rw [val_nil, Nat.gcd_zero_right, hx.2]
    · have hy0 : val y ≠ 0 := fun e => h0 ((canB_val_zero hy).1 e)
      have hp := List.length_pos_iff.2 h0
      refine Ev.steps (f := fun k => (driftnetref01_div.f k x y).bind fun t => driftnetref01_Gcd.l0 k y t.2) (fun k => by simp only [driftnetref01_Gcd.l0]; rw [if_pos (by omega)]) ?_
      refine Ev.bind (rdiv_ev hx hy h0 hlx hly) ?_
      have hlt := Nat.mod_lt (val x) (show val y > 0 by omega)
      have := ih (val x % val y) (by omega) y (limbs (val x % val y)) (z15 _) hy (canB_limbs _) hly (Nat.lt_of_le_of_lt (mod_length hy.1 hy0) hly)
      rw [z15, gcd_step] at this
      exact this
theorem cmpI_neg {m n : Nat} : cmpI m n < 0 ↔ m < n := by
  unfold cmpI
  by_cases h : m < n
  · simp [h]
  · by_cases h2 : n < m <;> simp [h, h2]
theorem gcd_run : ∀ (n : Nat) (x y : List Int), val y = n → canB x → canB y → x.length < 999999 → y.length < 999999 → Ev (fun k => nat_Gcd.l0 k x y) (limbs (Nat.gcd (val x) (val y)), 0) := by
  intro n
  induction n using Nat.strongRecOn with
  | _ n ih =>
    intro x y hn hx hy hlx hly
    by_cases h0 : y = []
    · subst h0
      refine Ev.steps (f := fun _ => some (x, 0)) (fun k => by simp only [nat_Gcd.l0]; rw [if_neg (by simp)]) (Ev.const ?_)
      rw [val_nil, Nat.gcd_zero_right, hx.2]
    · have hy0 : val y ≠ 0 := fun e => h0 ((canB_val_zero hy).1 e)
      have hp := List.length_pos_iff.2 h0
      refine Ev.steps (f := fun k => (nat_divide.f k x y).bind fun t => nat_Gcd.l0 k y t.2) (fun k => by simp only [nat_Gcd.l0]; rw [if_pos (by omega)]) ?_
      refine Ev.bind (divide_ev hx hy h0 hlx hly) ?_
      have hlt := Nat.mod_lt (val x) (show val y > 0 by omega)
      have := ih (val x % val y) (by omega) y (limbs (val x % val y)) (z15 _) hy (canB_limbs _) hly (Nat.lt_of_le_of_lt (mod_length hy.1 hy0) hly)
      rw [z15, gcd_step] at this
      exact this
theorem chk2_zero {a b : List Int} (ha : okL a) (hb : okL b) (h : chk2 a b = 0) : (a.length ≤ 64 ∧ canB a) ∧ (b.length ≤ 64 ∧ canB b) := by
  unfold chk2 at h
  by_cases h1 : chk a = 0
  · rw [if_pos h1] at h; exact ⟨(chk_zero ha).1 h1, (chk_zero hb).1 h⟩
  · rw [if_neg h1] at h; exact absurd h h1
theorem chk2_of {a b : List Int} (ha : canB a) (hb : canB b) (hna : a.length ≤ 64) (hnb : b.length ≤ 64) : chk2 a b = 0 := by
  unfold chk2
  rw [if_pos ((chk_zero ha.1).2 ⟨hna, ha⟩)]
  exact (chk_zero hb.1).2 ⟨hnb, hb⟩
def addS (a b : List Int) : List Int × Int := if chk2 a b = 0 then (limbs (val a + val b), 0) else ([], chk2 a b)
def subS (a b : List Int) : List Int × Int := if chk2 a b = 0 then (if val a < val b then ([], 9) else (limbs (val a - val b), 0)) else ([], chk2 a b)
def mulS (a b : List Int) : List Int × Int := if chk2 a b = 0 then (limbs (val a * val b), 0) else ([], chk2 a b)
def divS (a b : List Int) : List Int × List Int × Int := if chk2 a b = 0 then (if b = [] then ([], [], 21) else (limbs (val a / val b), limbs (val a % val b), 0)) else ([], [], chk2 a b)
def gcdS (a b : List Int) : List Int × Int := if chk2 a b = 0 then (limbs (Nat.gcd (val a) (val b)), 0) else ([], chk2 a b)
def cmpS (a b : List Int) : Int := if chk2 a b = 0 then cmpI (val a) (val b) else 0
theorem ev_ite {α : Type} {c : Prop} [Decidable c] {f g : Nat → Option α} {x y : α} (h1 : c → Ev f x) (h2 : ¬ c → Ev g y) : Ev (fun k => if c then f k else g k) (if c then x else y) := by
  by_cases h : c
  · simp only [if_pos h]; exact h1 h
  · simp only [if_neg h]; exact h2 h
theorem Add_ev {a b : List Int} (ha : okL a) (hb : okL b) : Ev (fun k => nat_Add.f k a b) (addS a b) := by
  refine Ev.congr (f := fun k => if chk2 a b = 0 then (nat_plus.f k a b).bind fun t => some (t, 0) else some ([], chk2 a b)) (fun k => by unfold nat_Add.f; rw [both]; rfl) ?_
  refine ev_ite (fun h => ?_) (fun _ => Ev.const rfl)
  obtain ⟨h1, h2⟩ := chk2_zero ha hb h
  exact Ev.bind (plus_ev ha hb (by omega) (by omega)) (Ev.const rfl)
theorem Mul_ev {a b : List Int} (ha : okL a) (hb : okL b) : Ev (fun k => nat_Mul.f k a b) (mulS a b) := by
  refine Ev.congr (f := fun k => if chk2 a b = 0 then (nat_times.f k a b).bind fun t => some (t, 0) else some ([], chk2 a b)) (fun k => by unfold nat_Mul.f; rw [both]; rfl) ?_
  refine ev_ite (fun h => ?_) (fun _ => Ev.const rfl)
  obtain ⟨h1, h2⟩ := chk2_zero ha hb h
  exact Ev.bind (times_ev ha hb (by omega) (by omega)) (Ev.const rfl)
theorem Sub_ev {a b : List Int} (ha : okL a) (hb : okL b) : Ev (fun k => nat_Sub.f k a b) (subS a b) := by
  refine Ev.congr (f := fun k => if chk2 a b = 0 then (nat_compare.f k a b).bind fun t => if t < 0 then some ([], 9) else (nat_minus.f k a b).bind fun t => some (t, 0) else some ([], chk2 a b)) (fun k => by unfold nat_Sub.f; rw [both]; rfl) ?_
  refine ev_ite (fun h => ?_) (fun _ => Ev.const rfl)
  obtain ⟨h1, h2⟩ := chk2_zero ha hb h
  refine Ev.bind (compare_ev h1.2 h2.2 (by omega) (by omega)) ?_
  simp only [cmpI_neg]
  exact ev_ite (fun _ => Ev.const rfl) (fun h3 => Ev.bind (minus_ev ha hb (by omega) (by omega)) (Ev.const rfl))
theorem Cmp_ev {a b : List Int} (ha : okL a) (hb : okL b) : Ev (fun k => nat_Cmp.f k a b) (cmpS a b) := by
  refine Ev.congr (f := fun k => if chk2 a b = 0 then (nat_compare.f k a b).bind fun t => some t else some 0) (fun k => by unfold nat_Cmp.f; rw [both]; rfl) ?_
  refine ev_ite (fun h => ?_) (fun _ => Ev.const rfl)
  obtain ⟨h1, h2⟩ := chk2_zero ha hb h
  exact Ev.bind (compare_ev h1.2 h2.2 (by omega) (by omega)) (Ev.const rfl)
theorem Div_ev {a b : List Int} (ha : okL a) (hb : okL b) : Ev (fun k => nat_Div.f k a b) (divS a b) := by
  refine Ev.congr (f := fun k => if chk2 a b = 0 then (if b = [] then some ([], [], 21) else (nat_divide.f k a b).bind fun t => some (t.1, t.2, 0)) else some ([], [], chk2 a b)) (fun k => by
    unfold nat_Div.f; rw [both]; simp only [Option.bind_some]
    by_cases h0 : b = []
    · subst h0; rfl
    · have := List.length_pos_iff.2 h0
      rw [if_neg (show ¬ ((b.length : Int) = 0) by omega), if_neg h0]) ?_
  refine ev_ite (fun h => ?_) (fun _ => Ev.const rfl)
  obtain ⟨h1, h2⟩ := chk2_zero ha hb h
  exact ev_ite (fun _ => Ev.const rfl) (fun h0 => Ev.bind (divide_ev h1.2 h2.2 h0 (by omega) (by omega)) (Ev.const rfl))
theorem rDiv_ev {a b : List Int} (ha : okL a) (hb : okL b) : Ev (fun k => driftnetref01_Div.f k a b) (divS a b) := by
  refine Ev.congr (f := fun k => if chk2 a b = 0 then (if b = [] then some ([], [], 21) else (driftnetref01_div.f k a b).bind fun t => some (t.1, t.2, 0)) else some ([], [], chk2 a b)) (fun k => by
    unfold driftnetref01_Div.f; rw [two]; simp only [Option.bind_some]
    by_cases h0 : b = []
    · subst h0; rfl
    · have := List.length_pos_iff.2 h0
      rw [if_neg (show ¬ ((b.length : Int) = 0) by omega), if_neg h0]) ?_
  refine ev_ite (fun h => ?_) (fun _ => Ev.const rfl)
  obtain ⟨h1, h2⟩ := chk2_zero ha hb h
  exact ev_ite (fun _ => Ev.const rfl) (fun h0 => Ev.bind (rdiv_ev h1.2 h2.2 h0 (by omega) (by omega)) (Ev.const rfl))
theorem Gcd_ev {a b : List Int} (ha : okL a) (hb : okL b) : Ev (fun k => nat_Gcd.f k a b) (gcdS a b) := by
  by_cases h : chk2 a b = 0
  · obtain ⟨h1, h2⟩ := chk2_zero ha hb h
    have e1 : slices_Clone_uint32_uint32.f a = some a := by unfold slices_Clone_uint32_uint32.f; rw [if_pos (by omega)]
    have e2 : slices_Clone_uint32_uint32.f b = some b := by unfold slices_Clone_uint32_uint32.f; rw [if_pos (by omega)]
    refine Ev.congr (f := fun k => nat_Gcd.l0 k a b) (fun k => by unfold nat_Gcd.f; rw [both, e1, e2]; simp only [Option.bind_some]; rw [if_pos h]) ?_
    have := gcd_run _ a b rfl h1.2 h2.2 (by omega) (by omega)
    unfold gcdS; rw [if_pos h]; exact this
  · refine Ev.congr (f := fun k => some ([], chk2 a b)) (fun k => by unfold nat_Gcd.f; rw [both]; simp only [Option.bind_some]; rw [if_neg h]) ?_
    unfold gcdS; rw [if_neg h]; exact Ev.const rfl
theorem rGcd_ev {a b : List Int} (ha : okL a) (hb : okL b) : Ev (fun k => driftnetref01_Gcd.f k a b) (gcdS a b) := by
  refine Ev.congr (f := fun k => if chk2 a b = 0 then (driftnetref01_trim.f k a).bind fun t => (driftnetref01_trim.f k b).bind fun u => driftnetref01_Gcd.l0 k t u else some ([], chk2 a b)) (fun k => by unfold driftnetref01_Gcd.f; rw [two]; rfl) ?_
  refine ev_ite (fun h => ?_) (fun _ => Ev.const rfl)
  obtain ⟨h1, h2⟩ := chk2_zero ha hb h
  have hta := rtrim_ev ha (by omega)
  have htb := rtrim_ev hb (by omega)
  rw [h1.2.2] at hta
  rw [h2.2.2] at htb
  exact Ev.bind hta (Ev.bind htb (rgcd_run _ a b rfl h1.2 h2.2 (by omega) (by omega)))
theorem nv_append (a b : List UInt8) : nv (a ++ b) = nv a * 10 ^ b.length + nv b := by
  have key : ∀ (n : Nat) (b : List UInt8), b.length = n → nv (a ++ b) = nv a * 10 ^ b.length + nv b := by
    intro n
    induction n with
    | zero => intro b hb; obtain rfl := List.eq_nil_of_length_eq_zero hb; simp [nv]
    | succ n ih =>
      intro b hb
      obtain ⟨c, d, rfl⟩ : ∃ c d, b = c ++ [d] := by
        have hne : b ≠ [] := by rintro rfl; simp at hb
        exact ⟨b.dropLast, b.getLast hne, (List.dropLast_concat_getLast hne).symm⟩
      have := ih c (by simp at hb; exact hb)
      rw [← List.append_assoc, nv_snoc, nv_snoc, this, List.length_append, List.length_singleton, Nat.pow_succ, Nat.mul_add, ← Nat.mul_assoc (nv a), Nat.mul_comm _ 10, Nat.add_assoc]
  exact key b.length b rfl
theorem nv_cons (c : UInt8) (l : List UInt8) : nv (c :: l) = (c.toNat - 48) * 10 ^ l.length + nv l := by
  have := nv_append [c] l
  simpa [nv] using this
theorem rd_mid (L : List Int) (a : Int) (R : List Int) {i : Int} (h : i = L.length) : rd (L ++ a :: R) i = a := by
  rw [rd_at _ (j := L.length) h, List.getD_eq_getElem?_getD, List.getElem?_append_right (Nat.le_refl _)]; simp
theorem set_mid (L : List Int) (a v : Int) (R : List Int) {i : Nat} (h : i = L.length) : (L ++ a :: R).set i v = L ++ v :: R := by
  subst h
  rw [List.set_append_right _ _ (Nat.le_refl _)]; simp
theorem rev_run : ∀ (n : Nat) (L M R : List Int), M.length = n → (L ++ M ++ R).length < 4611686018427387904 → ∀ k, n < k →
    slices_Reverse_byte_byte.l0 k (L ++ M ++ R) (L.length : Int) ((L.length : Int) + M.length - 1) = some (L ++ M.reverse ++ R) := by
  intro n
  induction n using Nat.strongRecOn with
  | _ n ih =>
    intro L M R hn hl k hk
    obtain ⟨k, rfl⟩ : ∃ m, k = m + 1 := ⟨k - 1, by omega⟩
    have hl2 : (L ++ M ++ R).length = L.length + M.length + R.length := by simp [Nat.add_assoc]
    simp only [slices_Reverse_byte_byte.l0]
    by_cases h2 : M.length < 2
    · rw [if_neg (by omega)]
      cases M with
      | nil => rfl
      | cons a M =>
        cases M with
        | nil => rfl
        | cons b M => simp at h2; omega
    · obtain ⟨a, M', b, rfl⟩ : ∃ a M' b, M = a :: (M' ++ [b]) := by
        cases M with
        | nil => simp at h2
        | cons a M =>
          have hne : M ≠ [] := by rintro rfl; simp at h2
          exact ⟨a, M.dropLast, M.getLast hne, by rw [List.dropLast_concat_getLast hne]⟩
      have e1 : L ++ a :: (M' ++ [b]) ++ R = L ++ a :: (M' ++ b :: R) := by simp
      have e2 : L ++ a :: (M' ++ b :: R) = (L ++ a :: M') ++ b :: R := by simp
      have e3 : L ++ b :: (M' ++ b :: R) = (L ++ b :: M') ++ b :: R := by simp
      have e4 : (L ++ b :: M') ++ a :: R = (L ++ [b]) ++ M' ++ (a :: R) := by simp
      have hm : (a :: (M' ++ [b])).length = M'.length + 2 := by simp
      have hr1 : rd (L ++ a :: (M' ++ b :: R)) (L.length : Int) = a := rd_mid L a _ rfl
      have hr2 : rd (L ++ a :: (M' ++ b :: R)) ((L.length : Int) + (a :: (M' ++ [b])).length - 1) = b := by rw [e2]; exact rd_mid _ b R (by rw [hm]; simp; omega)
      rw [if_pos (by rw [hm]; omega), if_pos (by rw [hm]; omega), if_pos (by omega), if_pos (by omega), if_pos (by omega), w64 (n := (L.length : Int) + 1) (by omega) (by omega), w64 (n := (L.length : Int) + (a :: (M' ++ [b])).length - 1 - 1) (by omega) (by omega), e1, hr1, hr2]
      rw [set_mid L a b _ (by omega), e3, set_mid (L ++ b :: M') b a R (by rw [hm]; simp; omega), e4]
      have := ih M'.length (by omega) (L ++ [b]) M' (a :: R) rfl (by rw [hl2, hm] at hl; simp; omega) k (by omega)
      rw [show ((L ++ [b]).length : Int) = (L.length : Int) + 1 by simp] at this
      rw [show (L.length : Int) + (a :: (M' ++ [b])).length - 1 - 1 = (L.length : Int) + 1 + M'.length - 1 by rw [hm]; omega, this]
      simp
theorem rev_ev {l : List Int} (h : l.length < 4611686018427387904) : Ev (fun k => slices_Reverse_byte_byte.f k l) l.reverse := by
  refine Ev.mk l.length fun k hk => ?_
  unfold slices_Reverse_byte_byte.f
  rw [w64 (by omega) (by omega)]
  have := rev_run l.length [] l [] rfl (by simpa using h) k hk
  simpa using this
def nums8 (ds : List UInt8) : List Int := ds.map fun c => (c.toNat : Int)
theorem nums8_append (a b : List UInt8) : nums8 (a ++ b) = nums8 a ++ nums8 b := by simp [nums8]
theorem nums8_reverse (a : List UInt8) : (nums8 a).reverse = nums8 a.reverse := by simp [nums8]
theorem strOfNums_nums8 (ds : List UInt8) : strOfNums (nums8 ds) = str ds := by
  unfold strOfNums nums8 str
  rw [List.map_map]
  congr 2
  conv => rhs; rw [← List.map_id ds]
  refine List.map_congr_left fun c _ => ?_
  simp
theorem bt_digits {d : Nat} (h : d < 10) : bt (⟨#[48, 49, 50, 51, 52, 53, 54, 55, 56, 57]⟩ : ByteArray) (d : Int) = ((48 + d : Nat) : Int) := by
  have : d = 0 ∨ d = 1 ∨ d = 2 ∨ d = 3 ∨ d = 4 ∨ d = 5 ∨ d = 6 ∨ d = 7 ∨ d = 8 ∨ d = 9 := by omega
  rcases this with rfl | rfl | rfl | rfl | rfl | rfl | rfl | rfl | rfl | rfl <;> rfl
structure TextAt (V : Nat) (ds : List UInt8) (more : Nat) : Prop where
  d : allD ds = true
  v : nv ds.reverse + 10 ^ ds.length * more = V
theorem TextAt.step {V : Nat} {ds : List UInt8} {x v j : Nat} (h : TextAt V ds (x + 10 ^ (j + 1) * v)) : TextAt V (ds ++ [UInt8.ofNat (48 + x % 10)]) (x / 10 + 10 ^ j * v) := by
  refine ⟨?_, ?_⟩
  · rw [allD_append, h.d]; simp only [allD, List.all_cons, List.all_nil, isD_digit]; rfl
  · have hv := h.v
    rw [List.reverse_append, List.reverse_cons, List.reverse_nil, List.nil_append, List.singleton_append, nv_cons, digit_toNat, List.length_reverse, List.length_append, List.length_singleton, Nat.pow_succ, ← hv, Nat.add_comm (_ * _) (nv _), Nat.add_assoc, Nat.add_sub_cancel_left]
    congr 1
    rw [Nat.mul_comm (x % 10), Nat.mul_assoc, ← Nat.mul_add]
    congr 1
    rw [Nat.pow_succ, Nat.mul_add, Nat.mul_comm (10 ^ j) 10, Nat.mul_assoc, ← Nat.add_assoc]
    congr 1
    omega
theorem text_end (V : Nat) (ds : List UInt8) (h : TextAt V ds 0) (hl : ds.length ≤ 100000) : Ev (fun k => nat_Text.l0 k (nums8 ds) []) (str (textL V), 0) := by
  have hv : nv ds.reverse = V := by have := h.v; omega
  have hr : allD ds.reverse = true := by have := h.d; simpa [allD] using this
  refine Ev.steps (f := fun k => (slices_Reverse_byte_byte.f k (nums8 ds)).bind fun t => (nat_cutLeft.f (strOfNums t) ((⟨#[48, 49, 50, 51, 52, 53, 54, 55, 56, 57]⟩ : ByteArray).extract 0 1)).bind fun u => if u.toList = ([] : List UInt8) then some ((⟨#[48, 49, 50, 51, 52, 53, 54, 55, 56, 57]⟩ : ByteArray).extract 0 1, 0) else some (u, 0)) (fun k => by
    simp only [nat_Text.l0]; rw [if_neg (by simp)]; simp) ?_
  refine Ev.bind (rev_ev (by simp [nums8]; omega)) (Ev.const ?_)
  rw [nums8_reverse, strOfNums_nums8]
  have hc : nat_cutLeft.f (str ds.reverse) ((⟨#[48, 49, 50, 51, 52, 53, 54, 55, 56, 57]⟩ : ByteArray).extract 0 1) = some (str (decL V)) := by
    have ha : ∀ x ∈ (str ds.reverse).toList, x < 128 := by
      intro x hx
      rw [str_toList] at hx
      have := isD_iff.1 (List.all_eq_true.1 hr x hx)
      rw [UInt8.lt_iff_toNat_lt]
      have e : (128 : UInt8).toNat = 128 := rfl
      omega
    have hz : (str ds.reverse).size ≤ 1048576 := by rw [str_size, List.length_reverse]; omega
    unfold nat_cutLeft.f
    rw [if_pos ⟨by decide, ha, by omega⟩, str_toList]
    have e := decL_nv hr
    rw [hv] at e
    rw [e]
    rfl
  rw [hc]
  simp only [Option.bind_some, str_toList]
  unfold textL
  by_cases h0 : V = 0
  · rw [if_pos (decL_eq_nil.2 h0), if_pos h0]; rfl
  · rw [if_neg (fun e => h0 (decL_eq_nil.1 e)), if_neg h0]
theorem text_l1 (V v : Nat) (x6 : List Int) (r : ByteArray × Int) (N : Nat) (hN : N + 9 ≤ 100000) (hnext : ∀ ds : List UInt8, TextAt V ds v → ds.length = N + 9 → Ev (fun k => nat_Text.l0 k (nums8 ds) x6) r) :
    ∀ (j : Nat), j ≤ 9 → ∀ (ds : List UInt8) (x : Nat), x < 10 ^ j → TextAt V ds (x + 10 ^ j * v) → ds.length + j = N + 9 → Ev (fun k => nat_Text.l1 k (nums8 ds) x6 (x : Int) ((9 - j : Nat) : Int)) r := by
  intro j
  induction j with
  | zero =>
    intro _ ds x hx h hl
    obtain rfl : x = 0 := by simpa using hx
    refine Ev.steps (f := fun k => nat_Text.l0 k (nums8 ds) x6) (fun k => by simp only [nat_Text.l1]; rw [if_neg (by omega)]) ?_
    exact hnext ds (by simpa using h) (by omega)
  | succ j ih =>
    intro hj ds x hx h hl
    have et : Int.tmod (x : Int) 10 = ((x % 10 : Nat) : Int) := rfl
    have ed : Int.tdiv (x : Int) 10 = ((x / 10 : Nat) : Int) := rfl
    have hx9 : x < 10 ^ 9 := Nat.lt_of_lt_of_le hx (Nat.pow_le_pow_right (by omega) (by omega))
    have hnl : (nums8 ds).length = ds.length := by simp [nums8]
    refine Ev.steps (f := fun k => nat_Text.l1 k (nums8 (ds ++ [UInt8.ofNat (48 + x % 10)])) x6 ((x / 10 : Nat) : Int) ((9 - j : Nat) : Int)) (fun k => ?_) ?_
    · simp only [nat_Text.l1]
      rw [if_pos (by omega), et, if_pos (by omega), if_pos (by omega), if_pos (by rw [hnl]; omega), ed, bt_digits (Nat.mod_lt _ (by omega)), w64 (n := ((9 - (j + 1) : Nat) : Int) + 1) (by omega) (by omega), nums8_append, show ((9 - (j + 1) : Nat) : Int) + 1 = ((9 - j : Nat) : Int) by omega, show ((x / 10 : Nat) : Int) % 4294967296 = ((x / 10 : Nat) : Int) by omega]
      simp only [nums8, List.map_cons, List.map_nil, digit_toNat]
    · exact ih (by omega) _ _ (by rw [Nat.pow_succ] at hx; omega) h.step (by rw [List.length_append, List.length_singleton]; omega)
theorem text_l0 (V : Nat) : ∀ (m : Nat) (ds : List UInt8) (x : List Int), canB x → x.length < 1000000 → val x < 10 ^ (9 * m) → ds.length + 9 * m ≤ 100000 → TextAt V ds (val x) → Ev (fun k => nat_Text.l0 k (nums8 ds) x) (str (textL V), 0) := by
  intro m
  induction m with
  | zero =>
    intro ds x hx _ hv hl h
    have h0 : val x = 0 := by simpa using hv
    obtain rfl := (canB_val_zero hx).1 h0
    exact text_end V ds (by simpa [val] using h) (by omega)
  | succ m ih =>
    intro ds x hx hxl hv hl h
    by_cases h0 : x = []
    · subst h0
      exact text_end V ds (by simpa [val] using h) (by omega)
    · have hp := List.length_pos_iff.2 h0
      refine Ev.steps (f := fun k => (nat_short.f k x 1000000000).bind fun t => nat_Text.l1 k (nums8 ds) t.1 t.2 0) (fun k => by simp only [nat_Text.l0]; rw [if_pos (by omega)]) ?_
      refine Ev.bind (short_ev hx.1 (by omega) (d := 1000000000) (by omega) (by omega)) ?_
      have hb := text_l1 V (val x / 1000000000) (limbs (val x / 1000000000)) (str (textL V), 0) ds.length (by omega) (fun ds2 h2 hl2 => by
        refine ih ds2 _ (canB_limbs _) ?_ ?_ (by omega) (by rw [z15]; exact h2)
        · refine Nat.lt_of_le_of_lt (limbs_length_le (m := x.length) ?_) hxl
          exact Nat.lt_of_le_of_lt (Nat.div_le_self _ _) (val_lt hx.1)
        · rw [z15, Nat.div_lt_iff_lt_mul (by omega)]
          rw [show 9 * (m + 1) = 9 * m + 9 by omega, Nat.pow_add] at hv
          exact hv) 9 (by omega) ds (val x % 1000000000) (Nat.mod_lt _ (by omega)) (by
          have : val x % 1000000000 + 10 ^ 9 * (val x / 1000000000) = val x := Nat.mod_add_div _ _
          rw [this]; exact h) (by omega)
      exact hb
def textS (a : List Int) : ByteArray × Int := if chk a = 0 then (str (textL (val a)), 0) else (str [], chk a)
theorem big_dec (m e : Nat) (h : 10 * m < e) : (4294967296 : Nat) ^ m < 10 ^ e := by
  have h1 : (4294967296 : Nat) ^ m ≤ (10 ^ 10) ^ m := Nat.pow_le_pow_left (by omega) m
  rw [← Nat.pow_mul] at h1
  exact Nat.lt_of_le_of_lt h1 (Nat.pow_lt_pow_right (by omega) h)
theorem val_big {a : List Int} (ha : okL a) (h : a.length ≤ 64) (e : Nat) (he : 10 * 64 < e) : val a < 10 ^ e := Nat.lt_trans (val_lt_of_length ha h) (big_dec 64 e he)
theorem Text_ev {a : List Int} (ha : okL a) : Ev (fun k => nat_Text.f k a) (textS a) := by
  refine Ev.congr (f := fun k => if chk a = 0 then nat_Text.l0 k [] a else some ((⟨#[]⟩ : ByteArray), chk a)) (fun k => by unfold nat_Text.f; rw [check]; rfl) ?_
  refine ev_ite (fun h => ?_) (fun _ => Ev.const rfl)
  obtain ⟨h1, h2⟩ := (chk_zero ha).1 h
  obtain ⟨m, hm⟩ : ∃ m : Nat, m = 72 := ⟨72, rfl⟩
  exact text_l0 (val a) m [] a h2 (by omega) (val_big ha h1 (9 * m) (by omega)) (by simp; omega) ⟨rfl, by simp [nv]⟩
theorem rtext_run : ∀ (n : Nat) (x : List Int) (t : List UInt8), val x = n → canB x → x.length < 1000000 → ∀ (m : Nat), val x < 10 ^ m → t.length + m ≤ 100000 → Ev (fun k => driftnetref01_Text.l0 k x (str t)) (str (decL (val x) ++ t), 0) := by
  intro n
  induction n using Nat.strongRecOn with
  | _ n ih =>
    intro x t hn hx hxl m hm ht
    by_cases h0 : x = []
    · subst h0
      refine Ev.steps (f := fun _ => some (str t, 0)) (fun k => by simp only [driftnetref01_Text.l0]; rw [if_neg (by simp)]) (Ev.const ?_)
      rw [val_nil, decL_zero]; rfl
    · have hv0 : val x ≠ 0 := fun e => h0 ((canB_val_zero hx).1 e)
      have hp := List.length_pos_iff.2 h0
      obtain ⟨m, rfl⟩ : ∃ p, m = p + 1 := ⟨m - 1, by
        rcases m with _ | m
        · simp at hm; omega
        · omega⟩
      refine Ev.steps (f := fun k => (driftnetref01_small.f k x 10).bind fun t1 => if (strOfNums [(IntKind.u64.wrap (48 + t1.2)) % 256]).size + (str t).size ≤ 9223372036854775807 then driftnetref01_Text.l0 k t1.1 (strOfNums [(IntKind.u64.wrap (48 + t1.2)) % 256] ++ str t) else none) (fun k => by simp only [driftnetref01_Text.l0]; rw [if_pos (by omega)]; rfl) ?_
      refine Ev.bind (rsmall_ev hx.1 (by omega) (d := 10) (by omega) (by omega)) ?_
      have e : (IntKind.u64.wrap (48 + ((val x % 10 : Nat) : Int))) % 256 = ((48 + val x % 10 : Nat) : Int) := by
        rw [u64w (by omega) (by omega)]; omega
      have e2 : strOfNums [((48 + val x % 10 : Nat) : Int)] = str [UInt8.ofNat (48 + val x % 10)] := by
        have := strOfNums_nums8 [UInt8.ofNat (48 + val x % 10)]
        simp only [nums8, List.map_cons, List.map_nil, digit_toNat] at this
        exact this
      simp only [e, e2]
      have hs : (str [UInt8.ofNat (48 + val x % 10)]).size + (str t).size ≤ 9223372036854775807 := by rw [str_size, str_size]; simp; omega
      simp only [if_pos hs, str_append]
      have hd : val x / 10 < 10 ^ m := by rw [Nat.pow_succ] at hm; omega
      have := ih (val x / 10) (by omega) (limbs (val x / 10)) ([UInt8.ofNat (48 + val x % 10)] ++ t) (z15 _) (canB_limbs _) (Nat.lt_of_le_of_lt (limbs_length_le (m := x.length) (Nat.lt_of_le_of_lt (Nat.div_le_self _ _) (val_lt hx.1))) hxl) m (by rw [z15]; exact hd) (by simp; omega)
      rw [z15, ← List.append_assoc, ← decL_pos hv0] at this
      exact this
theorem rText_ev {a : List Int} (ha : okL a) : Ev (fun k => driftnetref01_Text.f k a) (textS a) := by
  refine Ev.congr (f := fun k => if chk a = 0 then (if a = [] then some ((⟨#[48]⟩ : ByteArray), 0) else driftnetref01_Text.l0 k a (str [])) else some ((⟨#[]⟩ : ByteArray), chk a)) (fun k => by
    unfold driftnetref01_Text.f; rw [check']; simp only [Option.bind_some]
    by_cases h0 : a = []
    · subst h0; rfl
    · have := List.length_pos_iff.2 h0
      rw [if_neg (show ¬ ((a.length : Int) = 0) by omega), if_neg h0]; rfl) ?_
  refine ev_ite (fun h => ?_) (fun _ => Ev.const rfl)
  obtain ⟨h1, h2⟩ := (chk_zero ha).1 h
  by_cases h0 : a = []
  · subst h0; exact Ev.const rfl
  · simp only [if_neg h0]
    have := rtext_run _ a [] rfl h2 (by omega) (9 * 72) (val_big ha h1 _ (by decide)) (by simp)
    have hv0 : val a ≠ 0 := fun e => h0 ((canB_val_zero h2).1 e)
    unfold textL; rw [if_neg hv0]
    simpa using this
theorem bt_at (s : List UInt8) {i : Nat} (h : i < s.length) : bt (str s) (i : Int) = ((s[i]).toNat : Int) := by
  unfold bt
  rw [dif_pos (by rw [str_size]; simpa using h)]
  rfl
theorem extract_str (s : List UInt8) (a b : Nat) : (str s).extract a b = str ((s.drop a).take (b - a)) := by
  refine eq_str ?_
  have := Lib.extract_toList (str s) a b
  rw [Lib.toList_data, str_data] at this
  exact this
theorem dw_nil {p : UInt8 → Bool} : ∀ {l : List UInt8}, l.dropWhile p = [] ↔ ∀ x ∈ l, p x = true
  | [] => by simp
  | a :: t => by
    rw [List.dropWhile_cons]
    by_cases h : p a = true
    · rw [if_pos h, dw_nil]; simp [h]
    · rw [if_neg h]; simp [h]
set_option maxRecDepth 20000 in
theorem dg : ∀ x : UInt8, [48, 49, 50, 51, 52, 53, 54, 55, 56, 57].contains x = isD x := by
  intro x
  have h : ∀ n : Fin 256, ([48, 49, 50, 51, 52, 53, 54, 55, 56, 57] : List UInt8).contains (UInt8.ofNat n.val) = isD (UInt8.ofNat n.val) := by decide
  have := h ⟨x.toNat, UInt8.toNat_lt x⟩
  rwa [UInt8.ofNat_toNat] at this
theorem trim_digits (s : List UInt8) : Lib.trimS s [48, 49, 50, 51, 52, 53, 54, 55, 56, 57] = [] ↔ allD s = true := by
  unfold Lib.trimS Lib.trimLeftS Lib.trimRightS
  simp only [dg]
  unfold allD
  constructor
  · intro h
    have h1 : ∀ x ∈ (s.reverse.dropWhile isD).reverse, isD x = true := by
      intro x hx
      have := dw_nil.1 h x hx
      exact this
    have h2 : s.reverse.dropWhile isD = [] := by
      cases e : s.reverse.dropWhile isD with
      | nil => rfl
      | cons a t =>
        have h3 : isD a = true := h1 a (by rw [e]; simp)
        have h4 := List.head?_dropWhile_not isD s.reverse
        rw [e] at h4
        simp at h4
        rw [h3] at h4
        simp at h4
    rw [List.all_eq_true]
    intro x hx
    exact dw_nil.1 h2 x (List.mem_reverse.2 hx)
  · intro h
    rw [List.all_eq_true] at h
    have h2 : s.reverse.dropWhile isD = [] := dw_nil.2 fun x hx => h x (List.mem_reverse.1 hx)
    rw [show List.dropWhile (fun x => isD x) s.reverse = [] from h2]
    rfl
def readS (s : List UInt8) : List Int × Int := if s.length > 600 then ([], 5) else if numeral s = true then (limbs (nv s), 0) else ([], 4)
theorem nv_take {s : List UInt8} {i : Nat} (h : i < s.length) : nv (s.take (i + 1)) = 10 * nv (s.take i) + ((s[i]).toNat - 48) := by
  rw [List.take_succ_eq_append_getElem h, nv_snoc]
theorem len_of_dec {v m M : Nat} (h : v < 10 ^ m) (hm : m ≤ M) : (limbs v).length ≤ M := by
  refine limbs_length_le (Nat.lt_of_lt_of_le h ?_)
  exact Nat.le_trans (Nat.pow_le_pow_right (by decide) hm) (Nat.pow_le_pow_left (by decide) M)
theorem len_mul {v c M : Nat} (h : (limbs v).length ≤ M) (hc : c < 4294967296) : (limbs (v * c)).length ≤ M + 1 := by
  refine limbs_length_le ?_
  rw [limbs_length_lt_iff] at h
  rw [Nat.pow_succ]
  exact Nat.mul_lt_mul_of_lt_of_le h (by omega) (by decide)
theorem nv_limbs_len {s : List UInt8} (h : allD s = true) (hl : s.length ≤ 600) (i : Nat) : (limbs (nv (s.take i))).length < 1000 := by
  have h1 : allD (s.take i) = true := by
    unfold allD at *; rw [List.all_eq_true] at *
    exact fun x hx => h x (List.mem_of_mem_take hx)
  have h4 := len_of_dec (M := 600) (nv_lt _ h1) (by rw [List.length_take]; omega)
  omega
theorem allD_at {s : List UInt8} (h : allD s = true) {i : Nat} (hi : i < s.length) : 48 ≤ (s[i]).toNat ∧ (s[i]).toNat ≤ 57 := by
  unfold allD at h; rw [List.all_eq_true] at h
  exact isD_iff.1 (h _ (List.getElem_mem hi))
theorem contains_f (s : List UInt8) {i : Nat} (hi : i < s.length) : strings_Contains.f (⟨#[48, 49, 50, 51, 52, 53, 54, 55, 56, 57]⟩ : ByteArray) ((str s).extract i (i + 1)) = some (isD s[i]) := by
  rw [extract_str, Nat.add_sub_cancel_left, List.drop_eq_getElem_cons hi]
  unfold strings_Contains.f
  rw [if_pos (by rw [str_size]; rfl), str_data]
  simp only [List.take_succ_cons, List.take_zero, List.getD_cons_zero]
  have := dg s[i]
  rw [← this]
  congr 1
  simp
theorem sub48 {c : Nat} (h1 : 48 ≤ c) (h2 : c ≤ 57) : ((c : Int) - 48) % 256 = ((c - 48 : Nat) : Int) := by omega
theorem limbs_small_len {n : Nat} (h : n < 4294967296) : (limbs n).length ≤ 1 := limbs_length_le (m := 1) (by simpa using h)
theorem read_run (s : List UInt8) (h : allD s = true) (hl : s.length ≤ 600) : ∀ (d i : Nat), s.length - i = d → i ≤ s.length →
    Ev (fun k => nat_Read.l0 k (str s) (limbs (nv (s.take i))) ((str s).size : Int) (i : Int)) (limbs (nv s), 0) := by
  intro d
  induction d with
  | zero =>
    intro i hd hi
    have e : i = s.length := by omega
    subst e
    refine Ev.steps (f := fun _ => some (limbs (nv s), 0)) (fun k => ?_) (Ev.const rfl)
    simp only [nat_Read.l0]
    rw [if_neg (by rw [str_size]; omega), List.take_length]
  | succ d ih =>
    intro i hd hi
    have hil : i < s.length := by omega
    obtain ⟨h1, h2⟩ := allD_at h hil
    have hc : isD s[i] = true := isD_iff.2 ⟨h1, h2⟩
    have hlen := nv_limbs_len h hl i
    refine Ev.steps (f := fun k => (nat_Of.f k 10).bind fun t191 => (nat_times.f k (limbs (nv (s.take i))) t191).bind fun t194 => (nat_Of.f k (((s[i]).toNat - 48 : Nat) : Int)).bind fun t197 => (nat_plus.f k t194 t197).bind fun t200 => nat_Read.l0 k (str s) t200 ((str s).size : Int) ((i + 1 : Nat) : Int)) (fun k => ?_) ?_
    · have e1 : wrap64 ((i : Int) + 1) = ((i + 1 : Nat) : Int) := by rw [w64 (by omega) (by omega)]; rfl
      have hz : (str s).size = s.length := str_size s
      have e2 : ((i : Int)).toNat = i := rfl
      have e3 : (((i + 1 : Nat) : Int)).toNat = i + 1 := rfl
      simp only [nat_Read.l0]
      rw [e1, if_pos (by omega), if_pos (by omega), if_pos (by omega), if_pos (by omega), e2, e3, contains_f s hil, hc]
      simp only [Option.bind_some, if_true]
      simp only [if_pos (show (i : Int) < ((str s).size : Int) by omega), bt_at s hil, sub48 h1 h2]
    · refine Ev.bind (of_ev (by decide) (by decide)) ?_
      refine Ev.bind (times_ev (okL_limbs _) (okL_limbs _) (by omega) (Nat.lt_of_le_of_lt (limbs_small_len (by decide)) (by decide))) ?_
      refine Ev.bind (of_ev (by omega) (by omega)) ?_
      have ha : val (limbs (val (limbs (nv (s.take i))) * val (limbs (10 : Int).toNat))) = 10 * nv (s.take i) := by
        rw [z15, z15, z15]; exact Nat.mul_comm _ _
      have hb : val (limbs ((((s[i]).toNat - 48 : Nat) : Int)).toNat) = (s[i]).toNat - 48 := by rw [z15]; rfl
      refine Ev.bind (plus_ev (okL_limbs _) (okL_limbs _) ?_ ?_) ?_
      · have h3 := len_mul (v := nv (s.take i)) (c := 10) (M := 1000) (by omega) (by decide)
        rw [z15, z15]
        exact Nat.lt_of_le_of_lt h3 (by decide)
      · have h3 : (limbs ((((s[i]).toNat - 48 : Nat) : Int)).toNat).length ≤ 1 := limbs_small_len (by omega)
        omega
      · rw [ha, hb, ← nv_take hil]
        exact ih (i + 1) (by omega) (by omega)
theorem numeral_iff (s : List UInt8) : numeral s = true ↔ s ≠ [] ∧ allD s = true ∧ (s.length = 1 ∨ s.head? ≠ some 48) := by
  unfold numeral
  cases s with
  | nil => simp
  | cons a t => simp
theorem head_bt {s : List UInt8} (h : 0 < s.length) : (bt (str s) 0 = 48) ↔ s.head? = some 48 := by
  have := bt_at s h
  rw [show ((0 : Nat) : Int) = 0 from rfl] at this
  rw [this]
  cases s with
  | nil => simp at h
  | cons a t =>
    simp only [List.getElem_cons_zero, List.head?_cons, Option.some.injEq]
    constructor
    · intro e
      have e2 : a.toNat = 48 := by omega
      exact (u8_of_nat e2)
    · intro e; rw [e]; rfl
theorem trim_f {s : List UInt8} (hl : s.length ≤ 600) : strings_Trim.f (str s) (⟨#[48, 49, 50, 51, 52, 53, 54, 55, 56, 57]⟩ : ByteArray) = some (str (Lib.trimS s [48, 49, 50, 51, 52, 53, 54, 55, 56, 57])) := by
  unfold strings_Trim.f
  rw [if_pos ⟨by rw [str_size]; omega, by decide, by rw [Lib.toList_data]; decide⟩, str_data]
  rfl
theorem Read_ev (s : List UInt8) : Ev (fun k => nat_Read.f k (str s)) (readS s) := by
  have hz : (str s).size = s.length := str_size s
  unfold nat_Read.f readS
  by_cases h1 : s.length > 600
  · refine Ev.congr (f := fun _ => some (([] : List Int), 5)) (fun k => by rw [if_pos (by omega)]) ?_
    rw [if_pos h1]; exact Ev.const rfl
  · rw [if_neg h1]
    by_cases h0 : s = []
    · subst h0
      exact Ev.congr (f := fun _ => some (([] : List Int), (4 : Int))) (fun k => by rw [if_neg (by rw [str_size]; simp), if_pos (str_toList [])]) (Ev.const rfl)
    · have hp := List.length_pos_iff.2 h0
      have ht := trim_f (s := s) (by omega)
      have hk : ∀ k, ((strings_Trim.f (str s) (⟨#[48, 49, 50, 51, 52, 53, 54, 55, 56, 57]⟩ : ByteArray)).bind fun t => if t.toList = ([] : List UInt8) then nat_Read.j0 k (str s) else some (([] : List Int), 4)) = if allD s = true then nat_Read.j0 k (str s) else some (([] : List Int), 4) := by
        intro k
        rw [ht, Option.bind_some, str_toList]
        by_cases h : allD s = true
        · rw [if_pos h, if_pos ((trim_digits s).2 h)]
        · rw [if_neg h, if_neg (fun e => h ((trim_digits s).1 e))]
      refine Ev.congr (f := fun k => if s.length > 1 ∧ s.head? = some 48 then some (([] : List Int), 4) else if allD s = true then nat_Read.j0 k (str s) else some (([] : List Int), 4)) (fun k => ?_) ?_
      · rw [if_neg (by omega), if_neg (by rw [str_toList]; exact h0)]
        by_cases h2 : s.length > 1
        · rw [if_pos (by omega), if_pos (by omega)]
          by_cases h3 : s.head? = some 48
          · rw [if_pos ((head_bt hp).2 h3), if_pos ⟨h2, h3⟩]
          · rw [if_neg (fun e => h3 ((head_bt hp).1 e)), if_neg (fun e => h3 e.2)]
            exact hk k
        · rw [if_neg (by omega), if_neg (fun e => h2 e.1)]
          exact hk k
      · by_cases h2 : s.length > 1 ∧ s.head? = some 48
        · have : ¬ numeral s = true := by
            rw [numeral_iff]
            rintro ⟨_, _, h | h⟩
            · omega
            · exact h h2.2
          simp only [if_pos h2, if_neg this]
          exact Ev.const rfl
        · by_cases h3 : allD s = true
          · have : numeral s = true := by
              rw [numeral_iff]
              refine ⟨h0, h3, ?_⟩
              by_cases h4 : s.length = 1
              · exact .inl h4
              · exact .inr fun e => h2 ⟨by omega, e⟩
            simp only [if_neg h2, if_pos h3, if_pos this]
            refine Ev.steps (f := fun k => nat_Read.l0 k (str s) (limbs (nv (s.take 0))) ((str s).size : Int) ((0 : Nat) : Int)) (fun k => by simp only [nat_Read.j0]; rw [List.take_zero, nv_nil, limbs_zero]; rfl) ?_
            exact read_run s h3 (by omega) s.length 0 (by omega) (by omega)
          · have : ¬ numeral s = true := by
              rw [numeral_iff]
              exact fun h => h3 h.2.1
            simp only [if_neg h2, if_neg h3, if_neg this]
            exact Ev.const rfl
theorem not_digit {s : List UInt8} {i : Nat} (hi : i < s.length) (h : isD s[i] = false) : ¬ allD s = true := by
  intro ha
  have h2 := allD_at ha hi
  have := isD_iff.2 h2
  rw [h] at this
  simp at this
theorem rread_run (s : List UInt8) (hl : s.length ≤ 600) : ∀ (d i : Nat), s.length - i = d → i ≤ s.length → allD (s.take i) = true →
    Ev (fun k => driftnetref01_Read.l0 k (str s) (limbs (nv (s.take i))) (i : Int)) (if allD s = true then (limbs (nv s), 0) else ([], 4)) := by
  intro d
  induction d with
  | zero =>
    intro i hd hi ht
    have e : i = s.length := by omega
    subst e
    rw [List.take_length] at ht
    rw [if_pos ht]
    refine Ev.steps (f := fun _ => some (limbs (nv s), 0)) (fun k => ?_) (Ev.const rfl)
    simp only [driftnetref01_Read.l0]
    rw [if_neg (by rw [str_size]; omega), List.take_length]
  | succ d ih =>
    intro i hd hi ht
    have hil : i < s.length := by omega
    have hz : (str s).size = s.length := str_size s
    have e1 : wrap64 ((i : Int) + 1) = ((i + 1 : Nat) : Int) := by rw [w64 (by omega) (by omega)]; rfl
    refine Ev.steps (f := fun k => driftnetref01_Read.j2 k (str s) (limbs (nv (s.take i))) (i : Int) (!isD s[i])) (fun k => ?_) ?_
    · simp only [driftnetref01_Read.l0]
      rw [if_pos (by omega), if_pos (by omega), bt_at s hil]
      by_cases h1 : ((s[i]).toNat : Int) < 48
      · rw [if_pos h1]
        have : isD s[i] = false := by unfold isD; simp; omega
        rw [this]; rfl
      · rw [if_neg h1]
        congr 1
        unfold isD
        rw [show decide (48 ≤ (s[i]).toNat) = true from decide_eq_true (by omega), Bool.true_and]
        by_cases h2 : (s[i]).toNat ≤ 57
        · rw [decide_eq_true h2]; simp; omega
        · rw [decide_eq_false h2]; simp; omega
    · cases hc : isD s[i] with
      | false =>
        rw [if_neg (not_digit hil hc)]
        exact Ev.steps (f := fun _ => some (([] : List Int), 4)) (fun k => by simp only [driftnetref01_Read.j2]; rfl) (Ev.const rfl)
      | true =>
        obtain ⟨h1, h2⟩ := isD_iff.1 hc
        have ht2 : allD (s.take (i + 1)) = true := by
          rw [List.take_succ_eq_append_getElem hil, allD_append, ht, Bool.true_and]
          unfold allD; simp [hc]
        have hlen : (limbs (nv (s.take i))).length ≤ 600 := len_of_dec (nv_lt _ ht) (by rw [List.length_take]; omega)
        refine Ev.steps (f := fun k => (driftnetref01_mul.f k (limbs (nv (s.take i))) ([10] : List Int)).bind fun t491 => (driftnetref01_Of.f k (((s[i]).toNat - 48 : Nat) : Int)).bind fun t494 => (driftnetref01_add.f k t491 t494).bind fun t497 => driftnetref01_Read.l0 k (str s) t497 ((i + 1 : Nat) : Int)) (fun k => ?_) ?_
        · simp only [driftnetref01_Read.j2, Bool.not_true, Bool.false_eq_true, if_false]
          congr 1; funext t
          rw [if_pos (by omega), if_pos (by omega), bt_at s hil, sub48 h1 h2, e1]
        · have h10 : okL [10] := by intro x hx; simp at hx; omega
          refine Ev.bind (rmul_ev (okL_limbs _) h10 (by omega) (by decide)) ?_
          refine Ev.bind (rof_ev (by omega) (by omega)) ?_
          have ha : val (limbs (val (limbs (nv (s.take i))) * val [10])) = 10 * nv (s.take i) := by
            rw [z15, z15]; exact Nat.mul_comm _ _
          have hb : val (limbs ((((s[i]).toNat - 48 : Nat) : Int)).toNat) = (s[i]).toNat - 48 := by rw [z15]; rfl
          refine Ev.bind (radd_ev (okL_limbs _) (okL_limbs _) ?_ ?_) ?_
          · have h3 := len_mul (v := nv (s.take i)) (c := 10) (M := 600) hlen (by decide)
            rw [z15]
            exact Nat.lt_of_le_of_lt h3 (by decide)
          · have h3 : (limbs ((((s[i]).toNat - 48 : Nat) : Int)).toNat).length ≤ 1 := limbs_small_len (by omega)
            omega
          · rw [ha, hb, ← nv_take hil]
            exact ih (i + 1) (by omega) (by omega) ht2
theorem rRead_ev (s : List UInt8) : Ev (fun k => driftnetref01_Read.f k (str s)) (readS s) := by
  have hz : (str s).size = s.length := str_size s
  unfold driftnetref01_Read.f readS
  have hrun : s.length ≤ 600 → Ev (fun k => driftnetref01_Read.j0 k (str s) false) (if allD s = true then (limbs (nv s), 0) else ([], 4)) := fun hl => by
    refine Ev.steps (f := fun k => driftnetref01_Read.l0 k (str s) (limbs (nv (s.take 0))) ((0 : Nat) : Int)) (fun k => by simp only [driftnetref01_Read.j0]; rw [List.take_zero, nv_nil, limbs_zero]; rfl) ?_
    exact rread_run s hl s.length 0 (by omega) (by omega) (by rw [List.take_zero]; rfl)
  have hbad : Ev (fun k => driftnetref01_Read.j0 k (str s) true) (([] : List Int), (4 : Int)) :=
    Ev.steps (f := fun _ => some (([] : List Int), 4)) (fun k => by simp only [driftnetref01_Read.j0]; rfl) (Ev.const rfl)
  by_cases h1 : s.length > 600
  · refine Ev.congr (f := fun _ => some (([] : List Int), 5)) (fun k => by rw [if_pos (by omega)]) ?_
    rw [if_pos h1]; exact Ev.const rfl
  · rw [if_neg h1]
    by_cases h0 : s = []
    · subst h0
      exact Ev.congr (f := fun k => driftnetref01_Read.j0 k (str []) true) (fun k => by rw [if_neg (by omega), if_pos (str_toList [])]) hbad
    · have hp := List.length_pos_iff.2 h0
      by_cases h2 : s.length > 1 ∧ s.head? = some 48
      · have : ¬ numeral s = true := by
          rw [numeral_iff]
          rintro ⟨_, _, h | h⟩
          · omega
          · exact h h2.2
        rw [if_neg this]
        refine Ev.congr (f := fun k => driftnetref01_Read.j0 k (str s) true) (fun k => ?_) hbad
        rw [if_neg (by omega), if_neg (by rw [str_toList]; exact h0), if_pos (by omega), if_pos (by omega), (head_bt hp).2 h2.2]; rfl
      · have e : (if numeral s = true then (limbs (nv s), (0 : Int)) else ([], 4)) = if allD s = true then (limbs (nv s), (0 : Int)) else ([], 4) := by
          by_cases h3 : allD s = true
          · rw [if_pos h3, if_pos]
            rw [numeral_iff]
            refine ⟨h0, h3, ?_⟩
            by_cases h4 : s.length = 1
            · exact .inl h4
            · exact .inr fun e => h2 ⟨by omega, e⟩
          · rw [if_neg h3, if_neg]
            rw [numeral_iff]
            exact fun h => h3 h.2.1
        rw [e]
        refine Ev.congr (f := fun k => driftnetref01_Read.j0 k (str s) false) (fun k => ?_) (hrun (by omega))
        rw [if_neg (by omega), if_neg (by rw [str_toList]; exact h0)]
        by_cases h4 : s.length > 1
        · rw [if_pos (by omega), if_pos (by omega)]
          have : ¬ bt (str s) 0 = 48 := fun e => h2 ⟨h4, (head_bt hp).1 e⟩
          rw [show (bt (str s) 0 == 48) = false by simpa using this]
        · rw [if_neg (by omega)]
def Lt (j n : Nat) : Prop := n < 4294967296 ^ j
theorem Lt.up {i j n : Nat} (h : Lt i n) (hij : i ≤ j) : Lt j n := Nat.lt_of_lt_of_le h (Nat.pow_le_pow_right (by decide) hij)
theorem Lt.add {i j m n : Nat} (hm : Lt i m) (hn : Lt i n) (hij : i < j) : Lt j (m + n) := by
  refine Lt.up (i := i + 1) ?_ hij
  unfold Lt at *
  rw [Nat.pow_succ]; omega
theorem Lt.mul {i j l m n : Nat} (hm : Lt i m) (hn : Lt j n) (h : i + j ≤ l) : Lt l (m * n) := by
  refine Lt.up (i := i + j) ?_ h
  unfold Lt at *
  rw [Nat.pow_add]; exact Nat.mul_lt_mul'' hm hn
theorem Lt.le {j m n : Nat} (hn : Lt j n) (h : m ≤ n) : Lt j m := Nat.lt_of_le_of_lt h hn
theorem lt_two {n : Nat} (h : n < 18446744073709551616) : Lt 2 n := by unfold Lt; exact Nat.lt_of_lt_of_le h (by decide)
theorem len_l {j n : Nat} (h : Lt j n) : (limbs n).length ≤ j := limbs_length_le h
theorem chk_l {n : Nat} (h : Lt 64 n) : chk (limbs n) = 0 := (chk_zero (okL_limbs n)).2 ⟨len_l h, canB_limbs n⟩
theorem chk2_l {m n : Nat} (hm : Lt 64 m) (hn : Lt 64 n) : chk2 (limbs m) (limbs n) = 0 := chk2_of (canB_limbs _) (canB_limbs _) (len_l hm) (len_l hn)
theorem canB_cons1 {x : Int} (h : 0 < x) (h2 : x < 4294967296) : [x] = limbs x.toNat := by
  have hc : canB [x] := canB_of_last (by intro y hy; simp at hy; omega) (by simp; omega)
  have := hc.2
  simpa [val] using this.symm
theorem lt_lit {n : Nat} (h : n < 18446744073709551616) {j : Nat} (hj : 2 ≤ j) : Lt j n := (lt_two h).up hj
theorem equal_run (a b : List Int) (hl : a.length = b.length) (hn : a.length < 4611686018427387904) : ∀ (d i : Nat), a.length - i = d → i ≤ a.length → ∀ k, d < k → slices_Equal_uint32_uint32.l0 k a b (a.length : Int) (i : Int) = some (decide (a.drop i = b.drop i)) := by
  intro d
  induction d with
  | zero =>
    intro i hd hi k hk
    obtain ⟨k, rfl⟩ : ∃ m, k = m + 1 := ⟨k - 1, by omega⟩
    simp only [slices_Equal_uint32_uint32.l0]
    rw [if_neg (by omega), List.drop_of_length_le (by omega), List.drop_of_length_le (by omega)]
    simp
  | succ d ih =>
    intro i hd hi k hk
    obtain ⟨k, rfl⟩ : ∃ m, k = m + 1 := ⟨k - 1, by omega⟩
    have hi2 : i < a.length := by omega
    have hi3 : i < b.length := by omega
    simp only [slices_Equal_uint32_uint32.l0]
    rw [if_pos (by omega), if_pos (by omega), if_pos (by omega), if_pos (by omega), rd_nat, rd_nat, getD_lt hi2, getD_lt hi3, w64 (n := (i : Int) + 1) (by omega) (by omega), show (i : Int) + 1 = ((i + 1 : Nat) : Int) from rfl, ih (i + 1) (by omega) (by omega) k (by omega)]
    have e : a.drop i = b.drop i ↔ a[i] = b[i] ∧ a.drop (i + 1) = b.drop (i + 1) := by rw [List.drop_eq_getElem_cons hi2, List.drop_eq_getElem_cons hi3, List.cons.injEq]
    by_cases h : a[i] = b[i]
    · rw [if_pos h]
      exact congrArg some (decide_eq_decide.2 ⟨fun h2 => e.2 ⟨h, h2⟩, fun h2 => (e.1 h2).2⟩)
    · rw [if_neg h]
      exact congrArg some (decide_eq_false fun h2 => h (e.1 h2).1).symm
theorem equal_ev {a b : List Int} (hn : a.length < 4611686018427387904) : Ev (fun k => slices_Equal_uint32_uint32.f k a b) (decide (a = b)) := by
  unfold slices_Equal_uint32_uint32.f
  by_cases h : a.length = b.length
  · refine Ev.mk a.length fun k hk => ?_
    rw [if_pos (by omega)]
    exact equal_run a b h hn a.length 0 (by omega) (by omega) k hk
  · refine Ev.mk 0 fun k hk => ?_
    rw [if_neg (by omega), decide_eq_false (fun e => h (by rw [e]))]
def sumR (an : Bool) (m : Nat) (bn : Bool) (n : Nat) : Bool × Nat := if an = bn then (an, m + n) else if m < n then (bn, n - m) else (an, m - n)
theorem len16 {n : Nat} : ((limbs n).length : Int) > 16 ↔ ¬ n < 4294967296 ^ 16 := by
  rw [← limbs_length_lt_iff]; omega
theorem lenpos {n : Nat} : decide (((limbs n).length : Int) > 0) = decide (0 < n) := by
  refine decide_eq_decide.2 ?_
  have := @limbs_eq_nil n
  constructor
  · intro h
    rcases Nat.eq_zero_or_pos n with h2 | h2
    · rw [this.2 h2] at h; simp at h
    · exact h2
  · intro h
    have h3 : limbs n ≠ [] := fun e => by have := this.1 e; omega
    have := List.length_pos_iff.2 h3
    omega
structure CanR (neg : Bool) (n d : Nat) : Prop where
  n16 : n < 4294967296 ^ 16
  d16 : d < 4294967296 ^ 16
  d0 : d ≠ 0
  g : Nat.gcd n d = 1
  neg : neg = true → n ≠ 0
theorem cutPrefix_f (s : List UInt8) : strings_CutPrefix.f (str s) (⟨#[45]⟩ : ByteArray) = some (if s.head? = some 45 then (str s.tail, true) else (str s, false)) := by
  have hz : (str s).size = s.length := str_size s
  have h1 : ((⟨#[45]⟩ : ByteArray).size : Int) = 1 := rfl
  unfold strings_CutPrefix.f stringslite_CutPrefix.f stringslite_HasPrefix.f
  cases s with
  | nil =>
    rw [if_neg (by rw [h1, hz]; simp)]
    rfl
  | cons c t =>
    have hz' : ((str (c :: t)).size : Int) = (t.length : Int) + 1 := by rw [hz, List.length_cons]; omega
    rw [h1, if_pos (by omega), if_pos (by decide), if_pos (by omega)]
    have e1 : ((str (c :: t)).extract 0 ((1 : Int)).toNat).toList = [c] := by
      rw [show ((1 : Int)).toNat = 1 from rfl, extract_str, str_toList]; rfl
    have e2 : ((⟨#[45]⟩ : ByteArray)).toList = [45] := by rw [Lib.toList_data]
    rw [e1, e2]
    by_cases h : c = 45
    · subst h
      simp only [BEq.rfl, Option.bind_some, if_true, List.head?_cons, List.tail_cons]
      rw [if_pos (by decide), if_pos (by omega), show ((1 : Int)).toNat = 1 from rfl, extract_str, hz]
      simp
    · have hb : (([c] : List UInt8) == [45]) = false := by simpa using h
      simp only [hb, Option.bind_some, Bool.false_eq_true, if_false, List.head?_cons, Option.some.injEq, h]
def cutS : List UInt8 → List UInt8 × List UInt8 × Bool
  | [] => ([], [], false)
  | c :: t => if c = 47 then ([], t, true) else (c :: (cutS t).1, (cutS t).2.1, (cutS t).2.2)
theorem cutS_miss : ∀ (s : List UInt8), Lib.indexByte s 47 = -1 → cutS s = (s, [], false)
  | [], _ => rfl
  | c :: t, h => by
    unfold Lib.indexByte at h
    have hg := Lib.indexByte_ge t 47
    by_cases hc : c = 47
    · subst hc; simp at h
    · have hb : (c == 47) = false := by simpa using hc
      rw [hb, if_neg Bool.false_ne_true] at h
      by_cases h2 : Lib.indexByte t 47 = -1
      · unfold cutS; rw [if_neg hc, cutS_miss t h2]
      · rw [if_neg (by simpa using h2)] at h; omega
theorem cutS_hit : ∀ (s : List UInt8) (i : Nat), Lib.indexByte s 47 = (i : Int) → i < s.length ∧ cutS s = (s.take i, s.drop (i + 1), true)
  | [], i, h => by simp [Lib.indexByte] at h
  | c :: t, i, h => by
    unfold Lib.indexByte at h
    by_cases hc : c = 47
    · subst hc
      simp at h
      obtain rfl : i = 0 := by omega
      exact ⟨by simp, by simp [cutS]⟩
    · have hb : (c == 47) = false := by simpa using hc
      rw [hb, if_neg Bool.false_ne_true] at h
      by_cases h2 : Lib.indexByte t 47 = -1
      · rw [if_pos (by simpa using h2)] at h; omega
      · rw [if_neg (by simpa using h2)] at h
        obtain ⟨j, rfl⟩ : ∃ j, i = j + 1 := ⟨i - 1, by have := Lib.indexByte_ge t 47; omega⟩
        obtain ⟨h3, h4⟩ := cutS_hit t j (by omega)
        exact ⟨by simp; omega, by unfold cutS; rw [if_neg hc, h4]; rfl⟩
theorem cut_f (s : List UInt8) (hs : s.length < 1000000) : strings_Cut.f (str s) (⟨#[47]⟩ : ByteArray) = some (str (cutS s).1, str (cutS s).2.1, (cutS s).2.2) := by
  have hz : (str s).size = s.length := str_size s
  have h1 : ((⟨#[47]⟩ : ByteArray).size : Int) = 1 := rfl
  unfold strings_Cut.f stringslite_Cut.f stringslite_Index.f
  rw [if_pos (show (⟨#[47]⟩ : ByteArray).size = 1 from rfl), str_data]
  simp only [Option.bind_some]
  rw [show (⟨#[47]⟩ : ByteArray).data.toList.getD 0 0 = 47 from rfl, h1]
  have hg := Lib.indexByte_ge s 47
  by_cases h : Lib.indexByte s 47 = -1
  · rw [h, if_neg (by decide), cutS_miss s h]
    rfl
  · obtain ⟨i, hi⟩ : ∃ i : Nat, Lib.indexByte s 47 = (i : Int) := ⟨(Lib.indexByte s 47).toNat, by omega⟩
    obtain ⟨hl, he⟩ := cutS_hit s i hi
    rw [hi, he, w64 (n := (i : Int) + 1) (by omega) (by omega), if_pos (by omega), if_pos (by omega), if_pos (by omega), if_pos (by omega), if_pos (by omega), show ((i : Int) + 1).toNat = i + 1 by omega, Int.toNat_natCast, extract_str, extract_str, hz]
    simp
    rw [List.take_of_length_le (by rw [List.length_drop]; omega)]
theorem cutS_len : ∀ s : List UInt8, (cutS s).1.length ≤ s.length ∧ (cutS s).2.1.length ≤ s.length
  | [] => ⟨Nat.le_refl _, Nat.le_refl _⟩
  | c :: t => by
    have := cutS_len t
    unfold cutS
    split
    · exact ⟨Nat.zero_le _, by simp⟩
    · exact ⟨by simp; omega, by simp; omega⟩
theorem readS_num {s : List UInt8} (h : numeral s = true) (hl : s.length ≤ 600) {n : Nat} (e : nv s = n) : readS s = (limbs n, 0) := by
  unfold readS
  rw [if_neg (by omega), if_pos h, e]
theorem textL_digit {n : Nat} (h0 : n ≠ 0) (h : n < 10) : textL n = [UInt8.ofNat (48 + n)] := by
  unfold textL
  rw [if_neg h0, decL_pos h0, Nat.div_eq_of_lt h, decL_zero, Nat.mod_eq_of_lt h]
  rfl
theorem same_run (a b : List Int) (hl : a.length = b.length) (hn : a.length < 4611686018427387904) : ∀ (d i : Nat), a.length - i = d → i ≤ a.length → ∀ k, d < k → driftnetref02_same.l0 k a b (i : Int) = some (decide (a.drop i = b.drop i)) := by
  intro d
  induction d with
  | zero =>
    intro i hd hi k hk
    obtain ⟨k, rfl⟩ : ∃ m, k = m + 1 := ⟨k - 1, by omega⟩
    have e : i = a.length := by omega
    simp only [driftnetref02_same.l0]
    rw [if_neg (by omega), List.drop_of_length_le (by omega), List.drop_of_length_le (by omega)]
    simp
  | succ d ih =>
    intro i hd hi k hk
    obtain ⟨k, rfl⟩ : ∃ m, k = m + 1 := ⟨k - 1, by omega⟩
    have hi2 : i < a.length := by omega
    have hi3 : i < b.length := by omega
    simp only [driftnetref02_same.l0]
    rw [if_pos (by omega), if_pos (by omega), if_pos (by omega), rd_nat, rd_nat, getD_lt hi2, getD_lt hi3, w64 (n := (i : Int) + 1) (by omega) (by omega), show (i : Int) + 1 = ((i + 1 : Nat) : Int) from rfl, ih (i + 1) (by omega) (by omega) k (by omega)]
    have e : a.drop i = b.drop i ↔ a[i] = b[i] ∧ a.drop (i + 1) = b.drop (i + 1) := by rw [List.drop_eq_getElem_cons hi2, List.drop_eq_getElem_cons hi3, List.cons.injEq]
    by_cases h : a[i] = b[i]
    · rw [if_pos h]
      exact congrArg some (decide_eq_decide.2 ⟨fun h2 => e.2 ⟨h, h2⟩, fun h2 => (e.1 h2).2⟩)
    · rw [if_neg h]
      exact congrArg some (decide_eq_false fun h2 => h (e.1 h2).1).symm
theorem same_ev {a b : List Int} (hn : a.length < 4611686018427387904) : Ev (fun k => driftnetref02_same.f k a b) (decide (a = b)) := by
  unfold driftnetref02_same.f
  by_cases h : a.length = b.length
  · refine Ev.mk a.length fun k hk => ?_
    rw [if_pos (by omega)]
    exact same_run a b h hn a.length 0 (by omega) (by omega) k hk
  · refine Ev.mk 0 fun k hk => ?_
    rw [if_neg (by omega), decide_eq_false (fun e => h (by rw [e]))]
theorem rcut_run (s : List UInt8) (hl : s.length < 1000000) : ∀ (d i : Nat), s.length - i = d → i ≤ s.length → cutS s = (s.take i ++ (cutS (s.drop i)).1, (cutS (s.drop i)).2.1, (cutS (s.drop i)).2.2) → ∀ k, d < k → driftnetref02_cut.l0 k (str s) (i : Int) = some (str (cutS s).1, str (cutS s).2.1, (cutS s).2.2) := by
  have hz : ((str s).size : Int) = (s.length : Int) := by rw [str_size]
  intro d
  induction d with
  | zero =>
    intro i hd hi hc k hk
    obtain ⟨k, rfl⟩ : ∃ m, k = m + 1 := ⟨k - 1, by omega⟩
    simp only [driftnetref02_cut.l0]
    rw [if_neg (by omega), hc, List.drop_of_length_le (by omega), List.take_of_length_le (by omega)]
    simp only [cutS, List.append_nil]
    rfl
  | succ d ih =>
    intro i hd hi hc k hk
    obtain ⟨k, rfl⟩ : ∃ m, k = m + 1 := ⟨k - 1, by omega⟩
    have hi2 : i < s.length := by omega
    have hdr := List.drop_eq_getElem_cons hi2
    simp only [driftnetref02_cut.l0]
    rw [if_pos (by omega), if_pos (by omega), bt_at s hi2, w64 (n := (i : Int) + 1) (by omega) (by omega)]
    by_cases h : s[i] = 47
    · have e : cutS (s.drop i) = ([], s.drop (i + 1), true) := by rw [hdr]; simp only [cutS, h, if_true]
      rw [if_pos (by rw [h]; rfl), if_pos (by omega), if_pos (by omega), if_pos (by omega), hc, e, Int.toNat_natCast, show ((i : Int) + 1).toNat = i + 1 by omega, extract_str, extract_str, str_size]
      simp only [List.append_nil, List.drop_zero, Nat.sub_zero]
      rw [List.take_of_length_le (l := s.drop (i + 1)) (by rw [List.length_drop]; omega)]
    · have h2 : ¬ ((s[i].toNat : Nat) : Int) = 47 := fun e => h (by
        apply UInt8.toNat_inj.1
        have : s[i].toNat = 47 := by omega
        rw [this]; rfl)
      rw [if_neg h2, show (i : Int) + 1 = ((i + 1 : Nat) : Int) from rfl]
      refine ih (i + 1) (by omega) (by omega) ?_ k (by omega)
      have e : cutS (s.drop i) = (s[i] :: (cutS (s.drop (i + 1))).1, (cutS (s.drop (i + 1))).2.1, (cutS (s.drop (i + 1))).2.2) := by rw [hdr]; simp only [cutS, if_neg h]
      rw [hc, e]
      simp only [Prod.mk.injEq, and_true]
      rw [List.take_succ_eq_append_getElem hi2, List.append_assoc]
      rfl
theorem rcut_ev (s : List UInt8) (hl : s.length < 1000000) : Ev (fun k => driftnetref02_cut.f k (str s)) (str (cutS s).1, str (cutS s).2.1, (cutS s).2.2) :=
  Ev.mk s.length fun k hk => rcut_run s hl s.length 0 (by omega) (by omega) (by simp) k hk
end Go.Proofs.YtkjdpojbmkpkgaaGreatDoor.E
