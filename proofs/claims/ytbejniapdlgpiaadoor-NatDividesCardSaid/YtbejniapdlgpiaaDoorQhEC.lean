/- What the reference's functions on limbs come to: sums, differences, products; quotients by one limb. -/
import Derived.Test.YtbejniapdlgpiaaDoorQhEB
namespace Go.Proofs.YtbejniapdlgpiaaDoor.E
open Go.RowKit Go.Proofs.YtbejniapdlgpiaaDoorW.PrintWords Go.Proofs.YtbejniapdlgpiaaDoorW.PrintLast Go.Proofs.YtbejniapdlgpiaaDoorW.PrintMore Go.Proofs.YtbejniapdlgpiaaDoor.M Go.Proofs.YtbejniapdlgpiaaDoor.P

theorem diff_end {a b out : List Int} {c : Nat} (ha : okL a) (ho : okL out) (hl : out.length = a.length) (hab : val b ≤ val a) (hc : c ≤ 1) (hv : val out + val (b.take a.length) = val a + c * 4294967296 ^ a.length) : val out = val a - val b := by
  have h1 := val_lt ho
  rw [hl] at h1
  have h4 : val b = val (b.take a.length) + 4294967296 ^ a.length * val (b.drop a.length) := by
    by_cases h5 : a.length ≤ b.length
    · exact val_take_drop b a.length h5
    · rw [List.take_of_length_le (by omega), List.drop_eq_nil_of_le (by omega)]; simp [val]
  have h6 := val_lt ha
  have h7 : val (b.drop a.length) = 0 := by
    by_cases h8 : val (b.drop a.length) = 0
    · exact h8
    · have : 4294967296 ^ a.length * 1 ≤ 4294967296 ^ a.length * val (b.drop a.length) := Nat.mul_le_mul_left _ (by omega)
      omega
  rw [h7] at h4
  have h9 : c = 0 := by
    by_cases h10 : c = 0
    · exact h10
    · obtain rfl : c = 1 := by omega
      omega
  subst h9
  omega
theorem take_set_succ {l : List Int} {i : Nat} (hi : i < l.length) (v : Nat) : val ((l.set i (v : Int)).take (i + 1)) = val (l.take i) + v * 4294967296 ^ i := by
  rw [val_take_succ, List.take_set_of_le (Nat.le_refl i), getD_lt (by rw [List.length_set]; exact hi)]
  simp
theorem rsub_run (a b : List Int) (ha : okL a) (hb : okL b) (hn : a.length < 1099511627776) (hab : val b ≤ val a) : ∀ (d i : Nat), a.length - i = d → i ≤ a.length → ∀ (out : List Int) (c : Nat), okL out → out.length = a.length → c ≤ 1 →
    val (out.take i) + val (b.take i) = val (a.take i) + c * 4294967296 ^ i → ∀ k, d + a.length + 5 < k →
    driftnetref01_sub.l0 k a b out (c : Int) (i : Int) = some (limbs (val a - val b)) := by
  intro d
  induction d with
  | zero =>
    intro i hd hi out c ho hl hc hv k hk
    obtain ⟨k, rfl⟩ : ∃ m, k = m + 1 := ⟨k - 1, by omega⟩
    obtain rfl : i = a.length := by omega
    simp only [driftnetref01_sub.l0]
    rw [if_neg (by omega)]
    have ht := rtrim_run out ho (by omega) out.length (Nat.le_refl _) k (by omega)
    rw [List.take_length] at ht
    rw [List.take_of_length_le (l := out) (by omega), List.take_of_length_le (l := a) (Nat.le_refl _)] at hv
    rw [driftnetref01_trim.f, ht, diff_end ha ho hl hab hc hv]
    rfl
  | succ d ih =>
    intro i hd hi out c ho hl hc hv k hk
    obtain ⟨k, rfl⟩ : ∃ m, k = m + 1 := ⟨k - 1, by omega⟩
    obtain ⟨x, hx, hx2⟩ := nat_of_ok ha i
    obtain ⟨y, hy, hy2⟩ := nat_of_ok hb i
    have next : ∀ s t : Nat, s < 4294967296 → t ≤ 1 → s + (y + c) = x + 4294967296 * t → driftnetref01_sub.l0 k a b (out.set i (s : Int)) (t : Int) ((i + 1 : Nat) : Int) = some (limbs (val a - val b)) := by
      intro s t hs1 ht hs
      have hil : i < out.length := by omega
      have ho2 : okL (out.set i (s : Int)) := okL_set ho i ⟨by omega, by omega⟩
      have hd2 : a.length - (i + 1) = d := by omega
      have hi2 : i + 1 ≤ a.length := by omega
      have hk2 : d + a.length + 5 < k := by omega
      have hv2 : val ((out.set i (s : Int)).take (i + 1)) + val (b.take (i + 1)) = val (a.take (i + 1)) + t * 4294967296 ^ (i + 1) := by
        rw [take_set_succ hil, val_take_succ, val_take_succ, hx, hy, Nat.pow_succ]
        simp only [Int.toNat_natCast]
        rw [step_diff (A := val (a.take i)) (B := val (b.take i)) (O := val (out.take i)) (x := x) (y := y) (c := c) (s := s) (t := t) (P := 4294967296 ^ i) hs hv]
      exact ih (i + 1) hd2 hi2 (out.set i (s : Int)) t ho2 (by rw [List.length_set]; exact hl) ht hv2 k hk2
    have n1 := next (x + 4294967296 - (y + c)) 1
    have n0 := next (x - (y + c)) 0
    simp only [driftnetref01_sub.l0]
    rw [if_pos (by omega), if_pos (by omega), w64 (n := (i : Int) + 1) (by omega) (by omega), show (i : Int) + 1 = ((i + 1 : Nat) : Int) by omega]
    by_cases hb2 : i < b.length
    · rw [if_pos (by omega), rd_nat, rd_nat, hx, hy, w64 (n := (x : Int)) (by omega) (by omega), w64 (n := (y : Int)) (by omega) (by omega), w64 (n := (x : Int) - c) (by omega) (by omega), w64 (n := (x : Int) - c - y) (by omega) (by omega)]
      by_cases h : x < y + c
      · rw [if_pos (by omega), if_pos (by omega), w64 (n := (x : Int) - c - y + 4294967296) (by omega) (by omega), show ((x : Int) - c - y + 4294967296) % 4294967296 = ((x + 4294967296 - (y + c) : Nat) : Int) by omega]
        exact n1 (by omega) (by omega) (by omega)
      · rw [if_neg (by omega), if_pos (by omega), show ((x : Int) - c - y) % 4294967296 = ((x - (y + c) : Nat) : Int) by omega]
        exact n0 (by omega) (by omega) (by omega)
    · have : y = 0 := by rw [getD_ge (by omega)] at hy; omega
      subst this
      rw [if_neg (by omega), rd_nat, hx, w64 (n := (x : Int)) (by omega) (by omega), w64 (n := (x : Int) - c) (by omega) (by omega)]
      by_cases h : x < 0 + c
      · rw [if_pos (by omega), if_pos (by omega), w64 (n := (x : Int) - c + 4294967296) (by omega) (by omega), show ((x : Int) - c + 4294967296) % 4294967296 = ((x + 4294967296 - (0 + c) : Nat) : Int) by omega]
        exact n1 (by omega) (by omega) (by omega)
      · rw [if_neg (by omega), if_pos (by omega), show ((x : Int) - c) % 4294967296 = ((x - (0 + c) : Nat) : Int) by omega]
        exact n0 (by omega) (by omega) (by omega)
theorem rsub_ev {a b : List Int} (ha : okL a) (hb : okL b) (hna : a.length < 1099511627776) (hab : val b ≤ val a) : Ev (fun k => driftnetref01_sub.f k a b) (limbs (val a - val b)) := by
  refine Ev.mk (2 * a.length + 6) fun k hk => ?_
  unfold driftnetref01_sub.f
  rw [if_pos (by simp; omega), List.nil_append]
  exact rsub_run a b ha hb hna hab a.length 0 (by omega) (by omega) a 0 ha rfl (by omega) (by simp [val]) k (by omega)

theorem nat_emod {q : Nat} (h : q < 4294967296) : (q : Int) % 4294967296 = q := by omega
theorem u64n {q : Nat} (h : q < 18446744073709551616) : IntKind.u64.wrap (q : Int) = q := u64w (by omega) (by omega)
theorem limb_nat {q : Nat} (h : q < 4294967296) : 0 ≤ (q : Int) ∧ (q : Int) < 4294967296 := by omega
/-- What holds of a quotient that is written from above: at place i. -/
structure ShortAt (a : List Int) (by' i : Nat) (out : List Int) (r : Nat) : Prop where
  ok : okL out
  lt : r < by'
  z : ∀ j, j < i → out.getD j 0 = 0
  v : val (a.drop i) * 4294967296 ^ i = by' * val out + r * 4294967296 ^ i
theorem ShortAt.step {a out : List Int} {d i r x : Nat} (h : ShortAt a d (i + 1) out r) (hd : d < 4294967297) (hi : i < a.length) (hl : out.length = a.length) (hx : a.getD i 0 = (x : Int)) (hx2 : x < 4294967296) :
    ShortAt a d i (out.set i (((r * 4294967296 + x) / d : Nat) : Int)) ((r * 4294967296 + x) % d) := by
  have hr := h.lt
  have hq : (r * 4294967296 + x) / d < 4294967296 := by
    rw [Nat.div_lt_iff_lt_mul (by omega)]
    have : (r + 1) * 4294967296 ≤ d * 4294967296 := Nat.mul_le_mul_right _ (by omega)
    omega
  refine ⟨okL_set h.ok _ (limb_nat hq), Nat.mod_lt _ (by omega), fun j hj => by rw [getD_set_ne _ (by omega)]; exact h.z j (by omega), ?_⟩
  have h1 := h.v
  have hio : i < out.length := by omega
  have hz := h.z i (by omega)
  rw [set_val hio hz, val_drop_succ a i hi, hx]
  simp only [Int.toNat_natCast]
  have e0 := Nat.div_add_mod (r * 4294967296 + x) d
  clear hq hio hz hx hx2 hl hr h
  revert h1 e0
  generalize (r * 4294967296 + x) / d = q
  generalize (r * 4294967296 + x) % d = s
  intro h1 e0
  rw [Nat.pow_succ] at h1
  have e1 : (x + 4294967296 * val (a.drop (i + 1))) * 4294967296 ^ i = x * 4294967296 ^ i + val (a.drop (i + 1)) * (4294967296 ^ i * 4294967296) := by
    rw [Nat.add_mul, Nat.mul_comm 4294967296 (val _), Nat.mul_assoc, Nat.mul_comm 4294967296 (4294967296 ^ i)]
  have e2 : r * (4294967296 ^ i * 4294967296) + x * 4294967296 ^ i = (d * q + s) * 4294967296 ^ i := by
    rw [e0, Nat.add_mul, Nat.mul_assoc r, Nat.mul_comm 4294967296 (4294967296 ^ i)]
  rw [e1, h1, Nat.mul_add]
  rw [Nat.add_mul, Nat.mul_assoc d q] at e2
  rw [Nat.add_left_comm, Nat.add_comm (x * _) (r * _), e2, ← Nat.add_assoc]
theorem ShortAt.done {a out : List Int} {d r : Nat} (h : ShortAt a d 0 out r) : val out = val a / d ∧ r = val a % d := by
  have hv := h.v
  simp at hv
  have hr := h.lt
  have h1 : val a / d = val out := by
    rw [hv, Nat.mul_add_div (by omega), Nat.div_eq_of_lt hr]; rfl
  have h2 : val a % d = r := by
    rw [hv, Nat.mul_add_mod, Nat.mod_eq_of_lt hr]
  exact ⟨h1.symm, h2.symm⟩
theorem ShortAt.start (a : List Int) {d : Nat} (hd : 0 < d) : ShortAt a d a.length (List.replicate a.length 0) 0 :=
  ⟨okL_replicate _, hd, fun j _ => getD_zeros _ _, by simp [val_zeros, val]⟩
theorem div32 {r x d : Nat} (hr : r < d) (hx : x < 4294967296) (hd : d < 4294967296) : bits_Div32.f (r : Int) (x : Int) (d : Int) = some ((((r * 4294967296 + x) / d : Nat) : Int), (((r * 4294967296 + x) % d : Nat) : Int)) := by
  unfold bits_Div32.f
  rw [if_pos (by omega)]
  congr 2
theorem short_run (a : List Int) (ha : okL a) (hn : a.length < 1099511627776) (d : Nat) (hd : d < 4294967296) : ∀ (i : Nat), i ≤ a.length → ∀ (out : List Int) (r : Nat), ShortAt a d i out r → out.length = a.length → ∀ k, i + a.length + 3 < k →
    nat_short.l0 k a (d : Int) out (r : Int) ((i : Int) - 1) = some (limbs (val a / d), ((val a % d : Nat) : Int)) := by
  intro i
  induction i with
  | zero =>
    intro _ out r h hl k hk
    obtain ⟨k, rfl⟩ : ∃ m, k = m + 1 := ⟨k - 1, by omega⟩
    simp only [nat_short.l0]
    rw [if_neg (by omega), nat_trim.f, trim_run _ out rfl h.ok (by omega) k (by omega), h.done.1, ← h.done.2]
    rfl
  | succ i ih =>
    intro hi out r h hl k hk
    obtain ⟨k, rfl⟩ : ∃ m, k = m + 1 := ⟨k - 1, by omega⟩
    obtain ⟨x, hx, hx2⟩ := nat_of_ok ha i
    have hs := h.step (by omega) (by omega) hl hx hx2
    have hr := h.lt
    simp only [nat_short.l0]
    rw [show ((i + 1 : Nat) : Int) - 1 = (i : Int) by omega, if_pos (by omega), if_pos (by omega), if_pos (by omega), rd_nat, hx, div32 hr hx2 hd]
    simp only [Option.bind_some]
    rw [if_pos (by omega), w64 (n := (i : Int) - 1) (by omega) (by omega)]
    exact ih (by omega) _ _ hs (by rw [List.length_set]; exact hl) k (by omega)
theorem short_ev {a : List Int} (ha : okL a) (hn : a.length < 1099511627776) {d : Nat} (h0 : 0 < d) (hd : d < 4294967296) : Ev (fun k => nat_short.f k a (d : Int)) (limbs (val a / d), ((val a % d : Nat) : Int)) := by
  refine Ev.mk (2 * a.length + 3) fun k hk => ?_
  unfold nat_short.f
  rw [if_pos (by omega), if_pos (by omega), show ((a.length : Int)).toNat = a.length by omega, w64 (n := (a.length : Int) - 1) (by omega) (by omega)]
  exact short_run a ha hn d hd a.length (Nat.le_refl _) _ 0 (ShortAt.start a h0) (by simp) k (by omega)
end Go.Proofs.YtbejniapdlgpiaaDoor.E
