/- What the printed functions on limbs come to: Check, trim, Of, compare, plus, minus, times and their kin, as plain numbers. -/
import Derived.Test.YtbejniapdlgpiaaDoorQiP1
import Derived.Test.YtbejniapdlgpiaaDoorQiP2
import Derived.Test.YtbejniapdlgpiaaDoorQiP3
import Derived.Test.YtbejniapdlgpiaaDoorQiP4
import Derived.Test.YtbejniapdlgpiaaDoorQiP5
import Derived.Test.YtbejniapdlgpiaaDoorQiP6
import Derived.Test.YtbejniapdlgpiaaDoorQiP7
import Derived.Test.YtbejniapdlgpiaaDoorQiP0
import Derived.Test.YtbejniapdlgpiaaDoorQiP9
import Derived.Test.YtbejniapdlgpiaaDoorQiP14
import Derived.Test.YtbejniapdlgpiaaDoorQiP16
import Derived.Test.YtbejniapdlgpiaaDoorQiP19
namespace Go.Proofs.YtbejniapdlgpiaaDoor.E
open Go.RowKit Go.Proofs.YtbejniapdlgpiaaDoorW.PrintWords Go.Proofs.YtbejniapdlgpiaaDoorW.PrintLast Go.Proofs.YtbejniapdlgpiaaDoorW.PrintMore Go.Proofs.YtbejniapdlgpiaaDoor.M Go.Proofs.YtbejniapdlgpiaaDoor.P

theorem w64 {n : Int} (h : -9223372036854775808 ≤ n) (h' : n ≤ 9223372036854775807) : wrap64 n = n := by unfold wrap64; omega
theorem u64w {n : Int} (h : 0 ≤ n) (h' : n < 18446744073709551616) : IntKind.u64.wrap n = n := by
  simp only [IntKind.wrap, IntKind.bits, IntKind.signed]
  simp
  omega
theorem rd_nat (l : List Int) (i : Nat) : rd l (i : Int) = l.getD i 0 := rfl
theorem rd_at (l : List Int) {i : Int} {j : Nat} (h : i = j) : rd l i = l.getD j 0 := by subst h; rfl
theorem Ev.mk {α : Type} {g : Nat → Option α} {r : α} (d : Nat) (h : ∀ k, d < k → g k = some r) : Ev g r := ⟨d + 1, fun k hk => h k (by omega)⟩
theorem Ev.const {α : Type} {o : Option α} {r : α} (h : o = some r) : Ev (fun _ => o) r := ⟨0, fun _ _ => h⟩

theorem last_rd {l : List Int} (h : l ≠ []) : l.getLast? = some (l.getD (l.length - 1) 0) := by
  rw [List.getLast?_eq_getElem?, List.getD_eq_getElem?_getD, List.getElem?_eq_getElem (by have := List.length_pos_iff.2 h; omega)]; rfl
theorem check (l : List Int) : nat_Check.f l = some (chk l) := by
  unfold nat_Check.f chk
  by_cases h : l.length > 64
  · rw [if_pos (by omega), if_pos h]
  · rw [if_neg (by omega), if_neg h]
    by_cases h0 : l = []
    · subst h0; simp
    · have hp := List.length_pos_iff.2 h0
      rw [if_pos (by omega), w64 (by omega) (by omega), if_pos (by omega), if_pos (by omega), rd_at l (j := l.length - 1) (by omega), last_rd h0]
      by_cases h1 : l.getD (l.length - 1) 0 = 0
      · rw [if_pos h1, h1]; rfl
      · rw [if_neg h1, if_neg (by simpa using h1)]
/-- The first error of two. -/
def chk2 (a b : List Int) : Int := if chk a = 0 then chk b else chk a
theorem both (a b : List Int) : nat_both.f a b = some (chk2 a b) := by
  unfold nat_both.f chk2
  rw [check, check]
  simp only [Option.bind_some]
  split <;> rfl
theorem trim_run : ∀ (n : Nat) (l : List Int), l.length = n → okL l → n < 4611686018427387904 → ∀ k, n < k → nat_trim.l0 k l = some (limbs (val l)) := by
  intro n
  induction n with
  | zero =>
    intro l hl _ _ k hk
    obtain ⟨k, rfl⟩ : ∃ m, k = m + 1 := ⟨k - 1, by omega⟩
    obtain rfl := List.eq_nil_of_length_eq_zero hl
    simp [nat_trim.l0, val, limbs_zero]
  | succ n ih =>
    intro l hl ho hn k hk
    obtain ⟨k, rfl⟩ : ∃ m, k = m + 1 := ⟨k - 1, by omega⟩
    have hne : l ≠ [] := by rintro rfl; simp at hl
    have hw : wrap64 ((l.length : Int) - 1) = (n : Int) := by rw [w64 (by omega) (by omega)]; omega
    simp only [nat_trim.l0]
    rw [if_pos (by omega), hw, if_pos (by omega), if_pos (by omega), rd_nat]
    have hl2 : l.getLast? = some (l.getD n 0) := by rw [last_rd hne, hl]; rfl
    by_cases h : l.getD n 0 = 0
    · rw [if_pos h, if_pos (by omega), ih _ (by rw [List.length_take]; omega) (okL_take ho _) (by omega) _ (by omega)]
      have hv := val_take_succ l n
      rw [List.take_of_length_le (by omega), h] at hv
      simp at hv
      simp [hv]
    · rw [if_neg h]
      have := canB_of_last ho (by rw [hl2]; simpa using h)
      rw [this.2]
theorem trim_ev {l : List Int} (ho : okL l) (hn : l.length < 4611686018427387904) : Ev (fun k => nat_trim.f k l) (limbs (val l)) :=
  Ev.mk l.length fun k hk => trim_run l.length l rfl ho hn k hk
theorem of_val (n : Nat) (h : n < 18446744073709551616) : okL [((n : Int)) % 4294967296, ((n : Int) / 4294967296) % 4294967296] ∧ val [((n : Int)) % 4294967296, ((n : Int) / 4294967296) % 4294967296] = n := by
  refine ⟨fun x hx => ?_, ?_⟩
  · simp at hx; rcases hx with rfl | rfl <;> omega
  · simp only [val]; omega
theorem of_ev {n : Int} (h0 : 0 ≤ n) (h : n < 18446744073709551616) : Ev (fun k => nat_Of.f k n) (limbs n.toNat) := by
  obtain ⟨m, rfl⟩ := Int.eq_ofNat_of_zero_le h0
  have hv := of_val m (by omega)
  have := trim_ev hv.1 (by simp)
  rw [hv.2] at this
  exact Ev.bind this (Ev.now _)
theorem cmp_top {a b : List Int} (ha : okL a) (hb : okL b) {n : Nat} (h : val (a.drop (n + 1)) = val (b.drop (n + 1))) (hna : n < a.length) (hnb : n < b.length) (hx : a.getD n 0 < b.getD n 0) : val a < val b := by
  have h1 := val_take_drop a n (by omega)
  have h2 := val_take_drop b n (by omega)
  have h3 := val_drop_succ a n hna
  have h4 := val_drop_succ b n hnb
  have h5 := val_lt (okL_take ha n)
  have h6 := okL_get ha n
  have h7 := okL_get hb n
  rw [List.length_take, Nat.min_eq_left (by omega)] at h5
  have h8 : val (a.drop n) + 1 ≤ val (b.drop n) := by rw [h3, h4, h]; omega
  have h9 := Nat.mul_le_mul_left (4294967296 ^ n) h8
  rw [Nat.mul_add] at h9
  omega
theorem compare_run (a b : List Int) (ha : okL a) (hb : okL b) (hl : a.length = b.length) (hn : a.length < 4611686018427387904) : ∀ (n : Nat), n ≤ a.length → val (a.drop n) = val (b.drop n) → ∀ k, n < k →
    nat_compare.l0 k a b (a.length : Int) (((a.length - n : Nat)) : Int) = some (cmpI (val a) (val b)) := by
  intro n
  induction n with
  | zero =>
    intro _ he k hk
    obtain ⟨k, rfl⟩ : ∃ m, k = m + 1 := ⟨k - 1, by omega⟩
    simp only [nat_compare.l0]
    rw [if_neg (by omega)]
    simp at he
    simp [cmpI, he]
  | succ n ih =>
    intro hle he k hk
    obtain ⟨k, rfl⟩ : ∃ m, k = m + 1 := ⟨k - 1, by omega⟩
    have e1 : wrap64 (wrap64 ((a.length : Int) - 1) - ((a.length - (n + 1) : Nat) : Int)) = (n : Int) := by
      rw [w64 (n := (a.length : Int) - 1) (by omega) (by omega), w64 (by omega) (by omega)]; omega
    have e2 : wrap64 (wrap64 ((b.length : Int) - 1) - ((a.length - (n + 1) : Nat) : Int)) = (n : Int) := by
      rw [w64 (n := (b.length : Int) - 1) (by omega) (by omega), w64 (by omega) (by omega)]; omega
    have e3 : wrap64 (((a.length - (n + 1) : Nat) : Int) + 1) = ((a.length - n : Nat) : Int) := by
      rw [w64 (by omega) (by omega)]; omega
    simp only [nat_compare.l0]
    rw [if_pos (by omega), e1, if_pos (by omega), if_pos (by omega), e2, if_pos (by omega), if_pos (by omega), rd_nat, rd_nat]
    by_cases h : a.getD n 0 = b.getD n 0
    · rw [if_pos h, e3]
      exact ih (by omega) (by rw [val_drop_succ a n (by omega), val_drop_succ b n (by omega), he, h]) k (by omega)
    · rw [if_neg h]
      by_cases h2 : a.getD n 0 < b.getD n 0
      · have := cmp_top ha hb he (by omega) (by omega) h2
        rw [if_pos h2, cmpI, if_pos this]
      · have := cmp_top hb ha he.symm (by omega) (by omega) (show b.getD n 0 < a.getD n 0 by omega)
        rw [if_neg h2, cmpI, if_neg (by omega), if_pos this]
theorem compare_ev {a b : List Int} (ha : canB a) (hb : canB b) (hna : a.length < 4611686018427387904) (hnb : b.length < 4611686018427387904) : Ev (fun k => nat_compare.f k a b) (cmpI (val a) (val b)) := by
  refine Ev.mk a.length fun k hk => ?_
  unfold nat_compare.f
  by_cases hl : a.length = b.length
  · rw [if_pos (by omega)]
    have := compare_run a b ha.1 hb.1 hl hna a.length (Nat.le_refl _) (by rw [List.drop_length, hl, List.drop_length]) k hk
    simpa using this
  · rw [if_neg (by omega), w64 (n := (a.length : Int) - b.length) (by omega) (by omega), w64 (by omega) (by omega)]
    by_cases h : a.length < b.length
    · have := canB_length_lt ha hb h
      have e : mn (mx ((a.length : Int) - b.length + 1) 0) 1 = 0 := by unfold mn mx; split <;> split <;> omega
      rw [e, cmpI, if_pos this]; rfl
    · have := canB_length_lt hb ha (by omega)
      have e : mn (mx ((a.length : Int) - b.length + 1) 0) 1 = 1 := by unfold mn mx; split <;> split <;> omega
      rw [e, cmpI, if_neg (by omega), if_pos this]; rfl
theorem rcmp_run (a b : List Int) (ha : okL a) (hb : okL b) (hl : a.length = b.length) (hn : a.length < 4611686018427387904) : ∀ (n : Nat), n ≤ a.length → val (a.drop n) = val (b.drop n) → ∀ k, n < k →
    driftnetref01_cmp.l0 k a b ((n : Int) - 1) = some (cmpI (val a) (val b)) := by
  intro n
  induction n with
  | zero =>
    intro _ he k hk
    obtain ⟨k, rfl⟩ : ∃ m, k = m + 1 := ⟨k - 1, by omega⟩
    simp only [driftnetref01_cmp.l0]
    rw [if_neg (by omega)]
    simp at he
    simp [cmpI, he]
  | succ n ih =>
    intro hle he k hk
    obtain ⟨k, rfl⟩ : ∃ m, k = m + 1 := ⟨k - 1, by omega⟩
    have e1 : ((n + 1 : Nat) : Int) - 1 = (n : Int) := by omega
    have e3 : wrap64 ((n : Int) - 1) = (n : Int) - 1 := w64 (by omega) (by omega)
    simp only [driftnetref01_cmp.l0]
    rw [e1, if_pos (by omega), if_pos (by omega), if_pos (by omega), if_pos (by omega), rd_nat, rd_nat]
    by_cases h2 : a.getD n 0 < b.getD n 0
    · have := cmp_top ha hb he (by omega) (by omega) h2
      rw [if_pos h2, cmpI, if_pos this]
    · rw [if_neg h2]
      by_cases h3 : a.getD n 0 > b.getD n 0
      · have := cmp_top hb ha he.symm (by omega) (by omega) h3
        rw [if_pos h3, cmpI, if_neg (by omega), if_pos this]
      · rw [if_neg h3, e3]
        exact ih (by omega) (by rw [val_drop_succ a n (by omega), val_drop_succ b n (by omega), he]; omega) k (by omega)
theorem rcmp_ev {a b : List Int} (ha : canB a) (hb : canB b) (hna : a.length < 4611686018427387904) (_hnb : b.length < 4611686018427387904) : Ev (fun k => driftnetref01_cmp.f k a b) (cmpI (val a) (val b)) := by
  refine Ev.mk a.length fun k hk => ?_
  unfold driftnetref01_cmp.f
  by_cases hl : a.length = b.length
  · rw [if_pos (by omega), w64 (by omega) (by omega)]
    exact rcmp_run a b ha.1 hb.1 hl hna a.length (Nat.le_refl _) (by rw [List.drop_length, hl, List.drop_length]) k hk
  · rw [if_neg (by omega)]
    by_cases h : a.length < b.length
    · have := canB_length_lt ha hb h
      rw [if_pos (by omega), cmpI, if_pos this]
    · have := canB_length_lt hb ha (by omega)
      rw [if_neg (by omega), cmpI, if_neg (by omega), if_pos this]
theorem eq_ev {a b : List Int} (ha : canB a) (hb : canB b) (hna : a.length < 4611686018427387904) (hnb : b.length < 4611686018427387904) : Ev (fun k => driftnetref01_Eq.f k a b) (decide (val a = val b)) := by
  refine Ev.bind (rcmp_ev ha hb hna hnb) (Ev.const ?_)
  congr 1
  by_cases h : val a = val b
  · simp [cmpI, h]
  · by_cases h1 : val a < val b
    · simp [cmpI, h1, h]
    · have : val b < val a := by omega
      simp [cmpI, h1, this, h]
end Go.Proofs.YtbejniapdlgpiaaDoor.E
