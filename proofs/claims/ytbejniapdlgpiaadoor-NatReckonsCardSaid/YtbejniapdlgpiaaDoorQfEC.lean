/- What the reference's functions on limbs come to: sums, differences, products; quotients by one limb. -/
import Derived.Test.YtbejniapdlgpiaaDoorQfEB
namespace Go.Proofs.YtbejniapdlgpiaaDoor.E
open Go.RowKit Go.Proofs.YtbejniapdlgpiaaDoorW.PrintWords Go.Proofs.YtbejniapdlgpiaaDoorW.PrintLast Go.Proofs.YtbejniapdlgpiaaDoorW.PrintMore Go.Proofs.YtbejniapdlgpiaaDoor.M Go.Proofs.YtbejniapdlgpiaaDoor.P

theorem radd_end (a b out : List Int) (ho : okL out) (n : Nat) (hl : out.length = n) (hna : a.length ≤ n) (hnb : b.length ≤ n) (hv : val out + 0 * 4294967296 ^ n = val (a.take n) + val (b.take n)) (hn : n < 2199023255552) (k : Nat) (hk : n < k) :
    (driftnetref01_trim.f k out).bind (fun t => some t) = some (limbs (val a + val b)) := by
  have := rtrim_run out ho (by omega) out.length (Nat.le_refl _) k (by omega)
  rw [List.take_length] at this
  rw [driftnetref01_trim.f, this]
  rw [List.take_of_length_le hna, List.take_of_length_le hnb] at hv
  simp at hv
  rw [hv]; rfl
theorem radd_run (a b : List Int) (ha : okL a) (hb : okL b) (n : Nat) (hna : a.length ≤ n) (hnb : b.length ≤ n) (hmax : n = a.length ∨ n = b.length) (hn : n < 1099511627776) : ∀ (d i : Nat), n + 1 - i = d → i ≤ n + 1 → ∀ (out : List Int) (c : Nat), okL out → out.length = i → c ≤ 1 →
    (i = n + 1 → c = 0) → val out + c * 4294967296 ^ i = val (a.take i) + val (b.take i) → ∀ k, 2 * d + n + 5 < k →
    driftnetref01_add.l0 k a b out (c : Int) (i : Int) = some (limbs (val a + val b)) := by
  intro d
  induction d with
  | zero =>
    intro i hd hi out c ho hl hc hend hv k hk
    obtain rfl : i = n + 1 := by omega
    obtain rfl : c = 0 := hend rfl
    obtain ⟨k, rfl⟩ : ∃ m, k = m + 2 := ⟨k - 2, by omega⟩
    simp only [driftnetref01_add.l0, driftnetref01_add.j1]
    rw [if_neg (by omega), if_neg (by omega), if_neg (by simp)]
    exact radd_end a b out ho (n + 1) hl (by omega) (by omega) hv (by omega) k (by omega)
  | succ d ih =>
    intro i hd hi out c ho hl hc hend hv k hk
    obtain ⟨k, rfl⟩ : ∃ m, k = m + 2 := ⟨k - 2, by omega⟩
    obtain ⟨x, hx, hx2⟩ := nat_of_ok ha i
    obtain ⟨y, hy, hy2⟩ := nat_of_ok hb i
    by_cases hgo : i < n ∨ c = 1
    · have next : driftnetref01_add.l0 k a b (out ++ [(((x + y + c) % 4294967296 : Nat) : Int)]) (((x + y + c) / 4294967296 : Nat) : Int) ((i + 1 : Nat) : Int) = some (limbs (val a + val b)) := by
        have ho2 : okL (out ++ [(((x + y + c) % 4294967296 : Nat) : Int)]) := okL_append.2 ⟨ho, fun z hz => by simp at hz; omega⟩
        have hc2 : (x + y + c) / 4294967296 ≤ 1 := by omega
        have hd2 : n + 1 - (i + 1) = d := by omega
        have hi2 : i + 1 ≤ n + 1 := by omega
        have hk2 : 2 * d + n + 5 < k := by omega
        have hend2 : i + 1 = n + 1 → (x + y + c) / 4294967296 = 0 := by
          intro h
          have h1 : x = 0 := by rw [getD_ge (by omega)] at hx; omega
          have h2 : y = 0 := by rw [getD_ge (by omega)] at hy; omega
          omega
        have hv2 : val (out ++ [(((x + y + c) % 4294967296 : Nat) : Int)]) + (x + y + c) / 4294967296 * 4294967296 ^ (i + 1) = val (a.take (i + 1)) + val (b.take (i + 1)) := by
          rw [val_snoc, hl, val_take_succ, val_take_succ, hx, hy, Nat.pow_succ, Nat.mul_comm (4294967296 ^ i) ((((x + y + c) % 4294967296 : Nat) : Int)).toNat]
          simp only [Int.toNat_natCast]
          rw [step_sum (A := val (a.take i)) (B := val (b.take i)) (O := val out) (x := x) (y := y) (c := c) (s := x + y + c) (P := 4294967296 ^ i) rfl hv]
        exact ih (i + 1) hd2 hi2 _ _ ho2 (by rw [List.length_append, hl]; rfl) hc2 hend2 hv2 k hk2
      simp only [driftnetref01_add.l0, driftnetref01_add.j1]
      by_cases h1 : i < a.length
      · by_cases h2 : i < b.length
        · rw [if_pos (by omega), if_pos trivial, if_pos (by omega), if_pos (by omega), if_pos (by omega), if_pos (by omega), rd_nat, rd_nat, hx, hy, u64w (n := (x : Int)) (by omega) (by omega), u64w (n := (y : Int)) (by omega) (by omega), u64w (n := (c : Int) + x) (by omega) (by omega), u64w (n := (c : Int) + x + y) (by omega) (by omega), w64 (n := (i : Int) + 1) (by omega) (by omega), show ((c : Int) + x + y) % 4294967296 = (((x + y + c) % 4294967296 : Nat) : Int) by omega, show ((c : Int) + x + y) / 4294967296 = (((x + y + c) / 4294967296 : Nat) : Int) by omega, show (i : Int) + 1 = ((i + 1 : Nat) : Int) by omega]
          exact next
        · have : y = 0 := by rw [getD_ge (by omega)] at hy; omega
          subst this
          rw [if_pos (by omega), if_pos trivial, if_pos (by omega), if_pos (by omega), if_neg (by omega), if_pos (by omega), rd_nat, hx, u64w (n := (x : Int)) (by omega) (by omega), u64w (n := (c : Int) + x) (by omega) (by omega), w64 (n := (i : Int) + 1) (by omega) (by omega), show ((c : Int) + x) % 4294967296 = (((x + 0 + c) % 4294967296 : Nat) : Int) by omega, show ((c : Int) + x) / 4294967296 = (((x + 0 + c) / 4294967296 : Nat) : Int) by omega, show (i : Int) + 1 = ((i + 1 : Nat) : Int) by omega]
          exact next
      · have h0 : x = 0 := by rw [getD_ge (by omega)] at hx; omega
        subst h0
        by_cases h2 : i < b.length
        · rw [if_neg (by omega), if_pos (by omega), if_pos trivial, if_neg (by omega), if_pos (by omega), if_pos (by omega), if_pos (by omega), rd_nat, hy, u64w (n := (y : Int)) (by omega) (by omega), u64w (n := (c : Int) + y) (by omega) (by omega), w64 (n := (i : Int) + 1) (by omega) (by omega), show ((c : Int) + y) % 4294967296 = (((0 + y + c) % 4294967296 : Nat) : Int) by omega, show ((c : Int) + y) / 4294967296 = (((0 + y + c) / 4294967296 : Nat) : Int) by omega, show (i : Int) + 1 = ((i + 1 : Nat) : Int) by omega]
          exact next
        · have : y = 0 := by rw [getD_ge (by omega)] at hy; omega
          subst this
          rw [if_neg (by omega), if_neg (by omega), if_pos (by simp; omega), if_neg (by omega), if_neg (by omega), if_pos (by omega), w64 (n := (i : Int) + 1) (by omega) (by omega), show ((c : Int)) % 4294967296 = (((0 + 0 + c) % 4294967296 : Nat) : Int) by omega, show ((c : Int)) / 4294967296 = (((0 + 0 + c) / 4294967296 : Nat) : Int) by omega, show (i : Int) + 1 = ((i + 1 : Nat) : Int) by omega]
          exact next
    · obtain rfl : i = n := by omega
      obtain rfl : c = 0 := by omega
      simp only [driftnetref01_add.l0, driftnetref01_add.j1]
      rw [if_neg (by omega), if_neg (by omega), if_neg (by simp)]
      exact radd_end a b out ho i hl (by omega) (by omega) hv (by omega) k (by omega)
theorem radd_ev {a b : List Int} (ha : okL a) (hb : okL b) (hna : a.length < 1099511627776) (hnb : b.length < 1099511627776) : Ev (fun k => driftnetref01_add.f k a b) (limbs (val a + val b)) := by
  refine Ev.mk (2 * (max a.length b.length + 1) + max a.length b.length + 5) fun k hk => ?_
  exact radd_run a b ha hb (max a.length b.length) (by omega) (by omega) (by omega) (by omega) (max a.length b.length + 1) 0 (by omega) (by omega) [] 0 okL_nil rfl (by omega) (by omega) (by simp [val]) k hk

theorem diff_end {a b out : List Int} {c : Nat} (ha : okL a) (ho : okL out) (hl : out.length = a.length) (hab : val b ≤ val a) (hc : c ≤ 1) (hv : val out + val (b.take a.length) = val a + c * 4294967296 ^ a.length) : val out = val a - val b := by
  have h1 := val_lt ho
  rw [hl] at h1
  have h4 : val b = val (b.take a.length) + 4294967296 ^ a.length * val (b.drop a.length) := by
    by_cases h5 : a.length ≤ b.length
    · exact val_take_drop b a.length h5
    · rw [List.take_of_length_le (by omega), List.drop_eq_nil_of_le (by omega)]; simp [val]
  have h6 := val_lt ha
  have h7 : val (b.drop a.length) = 0 := by
    by_cases h8 : val (b.drop a.length) = 0
    · exact h8
    · have : 4294967296 ^ a.length * 1 ≤ 4294967296 ^ a.length * val (b.drop a.length) := Nat.mul_le_mul_left _ (by omega)
      omega
  rw [h7] at h4
  have h9 : c = 0 := by
    by_cases h10 : c = 0
    · exact h10
    · obtain rfl : c = 1 := by omega
      omega
  subst h9
  omega
theorem take_set_succ {l : List Int} {i : Nat} (hi : i < l.length) (v : Nat) : val ((l.set i (v : Int)).take (i + 1)) = val (l.take i) + v * 4294967296 ^ i := by
  rw [val_take_succ, List.take_set_of_le (Nat.le_refl i), getD_lt (by rw [List.length_set]; exact hi)]
  simp
theorem rsub_run (a b : List Int) (ha : okL a) (hb : okL b) (hn : a.length < 1099511627776) (hab : val b ≤ val a) : ∀ (d i : Nat), a.length - i = d → i ≤ a.length → ∀ (out : List Int) (c : Nat), okL out → out.length = a.length → c ≤ 1 →
    val (out.take i) + val (b.take i) = val (a.take i) + c * 4294967296 ^ i → ∀ k, d + a.length + 5 < k →
    driftnetref01_sub.l0 k a b out (c : Int) (i : Int) = some (limbs (val a - val b)) := by
  intro d
  induction d with
  | zero =>
    intro i hd hi out c ho hl hc hv k hk
    obtain ⟨k, rfl⟩ : ∃ m, k = m + 1 := ⟨k - 1, by omega⟩
    obtain rfl : i = a.length := by omega
    simp only [driftnetref01_sub.l0]
    rw [if_neg (by omega)]
    have ht := rtrim_run out ho (by omega) out.length (Nat.le_refl _) k (by omega)
    rw [List.take_length] at ht
    rw [List.take_of_length_le (l := out) (by omega), List.take_of_length_le (l := a) (Nat.le_refl _)] at hv
    rw [driftnetref01_trim.f, ht, diff_end ha ho hl hab hc hv]
    rfl
  | succ d ih =>
    intro i hd hi out c ho hl hc hv k hk
    obtain ⟨k, rfl⟩ : ∃ m, k = m + 1 := ⟨k - 1, by omega⟩
    obtain ⟨x, hx, hx2⟩ := nat_of_ok ha i
    obtain ⟨y, hy, hy2⟩ := nat_of_ok hb i
    have next : ∀ s t : Nat, s < 4294967296 → t ≤ 1 → s + (y + c) = x + 4294967296 * t → driftnetref01_sub.l0 k a b (out.set i (s : Int)) (t : Int) ((i + 1 : Nat) : Int) = some (limbs (val a - val b)) := by
      intro s t hs1 ht hs
      have hil : i < out.length := by omega
      have ho2 : okL (out.set i (s : Int)) := okL_set ho i ⟨by omega, by omega⟩
      have hd2 : a.length - (i + 1) = d := by omega
      have hi2 : i + 1 ≤ a.length := by omega
      have hk2 : d + a.length + 5 < k := by omega
      have hv2 : val ((out.set i (s : Int)).take (i + 1)) + val (b.take (i + 1)) = val (a.take (i + 1)) + t * 4294967296 ^ (i + 1) := by
        rw [take_set_succ hil, val_take_succ, val_take_succ, hx, hy, Nat.pow_succ]
        simp only [Int.toNat_natCast]
        rw [step_diff (A := val (a.take i)) (B := val (b.take i)) (O := val (out.take i)) (x := x) (y := y) (c := c) (s := s) (t := t) (P := 4294967296 ^ i) hs hv]
      exact ih (i + 1) hd2 hi2 (out.set i (s : Int)) t ho2 (by rw [List.length_set]; exact hl) ht hv2 k hk2
    have n1 := next (x + 4294967296 - (y + c)) 1
    have n0 := next (x - (y + c)) 0
    simp only [driftnetref01_sub.l0]
    rw [if_pos (by omega), if_pos (by omega), w64 (n := (i : Int) + 1) (by omega) (by omega), show (i : Int) + 1 = ((i + 1 : Nat) : Int) by omega]
    by_cases hb2 : i < b.length
    · rw [if_pos (by omega), rd_nat, rd_nat, hx, hy, w64 (n := (x : Int)) (by omega) (by omega), w64 (n := (y : Int)) (by omega) (by omega), w64 (n := (x : Int) - c) (by omega) (by omega), w64 (n := (x : Int) - c - y) (by omega) (by omega)]
      by_cases h : x < y + c
      · rw [if_pos (by omega), if_pos (by omega), w64 (n := (x : Int) - c - y + 4294967296) (by omega) (by omega), show ((x : Int) - c - y + 4294967296) % 4294967296 = ((x + 4294967296 - (y + c) : Nat) : Int) by omega]
        exact n1 (by omega) (by omega) (by omega)
      · rw [if_neg (by omega), if_pos (by omega), show ((x : Int) - c - y) % 4294967296 = ((x - (y + c) : Nat) : Int) by omega]
        exact n0 (by omega) (by omega) (by omega)
    · have : y = 0 := by rw [getD_ge (by omega)] at hy; omega
      subst this
      rw [if_neg (by omega), rd_nat, hx, w64 (n := (x : Int)) (by omega) (by omega), w64 (n := (x : Int) - c) (by omega) (by omega)]
      by_cases h : x < 0 + c
      · rw [if_pos (by omega), if_pos (by omega), w64 (n := (x : Int) - c + 4294967296) (by omega) (by omega), show ((x : Int) - c + 4294967296) % 4294967296 = ((x + 4294967296 - (0 + c) : Nat) : Int) by omega]
        exact n1 (by omega) (by omega) (by omega)
      · rw [if_neg (by omega), if_pos (by omega), show ((x : Int) - c) % 4294967296 = ((x - (0 + c) : Nat) : Int) by omega]
        exact n0 (by omega) (by omega) (by omega)
theorem rsub_ev {a b : List Int} (ha : okL a) (hb : okL b) (hna : a.length < 1099511627776) (hab : val b ≤ val a) : Ev (fun k => driftnetref01_sub.f k a b) (limbs (val a - val b)) := by
  refine Ev.mk (2 * a.length + 6) fun k hk => ?_
  unfold driftnetref01_sub.f
  rw [if_pos (by simp; omega), List.nil_append]
  exact rsub_run a b ha hb hna hab a.length 0 (by omega) (by omega) a 0 ha rfl (by omega) (by simp [val]) k (by omega)

theorem rmul_l1 (a b : List Int) (hb : okL b) (hnb : b.length < 1099511627776) (i x : Nat) (hx : x < 4294967296) (hxa : a.getD i 0 = (x : Int)) (hi : i < 1099511627776) (V0 : Nat) (r : List Int)
    (K : Nat) (hnext : ∀ (out : List Int) (t : Nat), MulAt b i b.length x V0 out t → out.length = a.length + b.length → (∀ j, i + b.length ≤ j → out.getD j 0 = 0) → ∀ k, K < k → driftnetref01_mul.l0 k a b (out.set (i + b.length) (t : Int)) ((i + 1 : Nat) : Int) = some r) (hia : i < a.length) :
    ∀ (d m : Nat), b.length - m = d → m ≤ b.length → ∀ (out : List Int) (t : Nat), MulAt b i m x V0 out t → out.length = a.length + b.length → (∀ j, i + b.length ≤ j → out.getD j 0 = 0) → ∀ k, d + K + 1 < k →
    driftnetref01_mul.l1 k a b out (i : Int) (t : Int) (m : Int) = some r := by
  intro d
  induction d with
  | zero =>
    intro m hd hm out t h hl hz k hk
    obtain ⟨k, rfl⟩ : ∃ m, k = m + 1 := ⟨k - 1, by omega⟩
    obtain rfl : m = b.length := by omega
    have ht := h.lt
    simp only [driftnetref01_mul.l1]
    rw [if_neg (by omega), w64 (n := (i : Int) + b.length) (by omega) (by omega), if_pos (by omega), if_pos (by omega), w64 (n := (i : Int) + 1) (by omega) (by omega), show (((i : Int) + b.length)).toNat = i + b.length by omega, show ((t : Int)) % 4294967296 = (t : Int) by omega, show (i : Int) + 1 = ((i + 1 : Nat) : Int) by omega]
    exact hnext out t h hl hz k (by omega)
  | succ d ih =>
    intro m hd hm out t h hl hz k hk
    obtain ⟨k, rfl⟩ : ∃ m, k = m + 1 := ⟨k - 1, by omega⟩
    obtain ⟨y, hy, hy2⟩ := nat_of_ok hb m
    obtain ⟨o, ho, ho2⟩ := nat_of_ok h.ok (i + m)
    simp only [driftnetref01_mul.l1]
    rw [if_pos (by omega), w64 (n := (i : Int) + (m : Int)) (by omega) (by omega), show (i : Int) + (m : Int) = ((i + m : Nat) : Int) by omega, if_pos (by omega), if_pos (by omega), if_pos (by omega), if_pos (by omega), if_pos (by omega), rd_nat, rd_nat, rd_nat, ho, hy, hxa, mul_step_eq' hx hy2 ho2 h.lt, w64 (n := (m : Int) + 1) (by omega) (by omega)]
    have := ih (m + 1) (by omega) (by omega) (out.set (i + m) (((t + (o + x * y)) % 4294967296 : Nat) : Int)) ((t + (o + x * y)) / 4294967296) (h.step hb hx (by omega) hy ho) (by rw [List.length_set]; exact hl) (fun j hj => by rw [getD_set_ne _ (by omega)]; exact hz j hj) k (by omega)
    simpa [show ((i : Int) + (m : Int)).toNat = i + m by omega] using this
theorem rmul_l0 (a b : List Int) (ha : okL a) (hb : okL b) (hna : a.length < 1099511627776) (hnb : b.length < 1099511627776) : ∀ (d i : Nat), a.length - i = d → i ≤ a.length → ∀ (out : List Int), okL out → out.length = a.length + b.length →
    (∀ j, i + b.length ≤ j → out.getD j 0 = 0) → val out = val (a.take i) * val b → ∀ k, d * (b.length + 3) + (a.length + b.length) + 3 < k →
    driftnetref01_mul.l0 k a b out (i : Int) = some (limbs (val a * val b)) := by
  intro d
  induction d with
  | zero =>
    intro i hd hi out ho hl hz hv k hk
    obtain ⟨k, rfl⟩ : ∃ m, k = m + 1 := ⟨k - 1, by omega⟩
    obtain rfl : i = a.length := by omega
    simp only [driftnetref01_mul.l0]
    have ht := rtrim_run out ho (by omega) out.length (Nat.le_refl _) k (by omega)
    rw [List.take_length] at ht
    rw [if_neg (by omega), driftnetref01_trim.f, ht, hv, List.take_of_length_le (Nat.le_refl _)]
    rfl
  | succ d ih =>
    intro i hd hi out ho hl hz hv k hk
    obtain ⟨k, rfl⟩ : ∃ m, k = m + 1 := ⟨k - 1, by omega⟩
    obtain ⟨x, hx, hx2⟩ := nat_of_ok ha i
    have hk2 : d * (b.length + 3) + (b.length + 3) + (a.length + b.length) + 3 < k + 1 := by rw [Nat.succ_mul] at hk; omega
    simp only [driftnetref01_mul.l0]
    rw [if_pos (by omega)]
    refine rmul_l1 a b hb hnb i x hx2 hx (by omega) (val out) _ (d * (b.length + 3) + (a.length + b.length) + 3) ?_ (by omega) b.length 0 (by omega) (by omega) out 0 ⟨ho, by omega, by simp [val]⟩ hl hz k (by omega)
    intro out2 t h hl2 hz2 k2 hk2
    have ho2 : okL (out2.set (i + b.length) (t : Int)) := okL_set h.ok _ ⟨by omega, by have := h.lt; omega⟩
    refine ih (i + 1) (by omega) (by omega) (out2.set (i + b.length) (t : Int)) ho2 (by rw [List.length_set]; exact hl2) (fun j hj => by rw [getD_set_ne _ (by omega)]; exact hz2 j (by omega)) ?_ k2 hk2
    rw [set_val (by omega) (hz2 _ (Nat.le_refl _)), h.v, List.take_of_length_le (Nat.le_refl _), hv, val_take_succ, hx, Nat.add_mul]
    simp only [Int.toNat_natCast]
    congr 1
    rw [Nat.mul_assoc, Nat.mul_assoc, Nat.mul_comm (val b)]
theorem rmul_ev {a b : List Int} (ha : okL a) (hb : okL b) (hna : a.length < 1099511627776) (hnb : b.length < 1099511627776) : Ev (fun k => driftnetref01_mul.f k a b) (limbs (val a * val b)) := by
  refine Ev.mk (a.length * (b.length + 3) + (a.length + b.length) + 3) fun k hk => ?_
  unfold driftnetref01_mul.f
  rw [w64 (by omega) (by omega), if_pos (by omega), if_pos (by omega), show ((a.length : Int) + b.length).toNat = a.length + b.length by omega]
  exact rmul_l0 a b ha hb hna hnb a.length 0 (by omega) (by omega) _ (okL_replicate _) (by simp) (fun j _ => getD_zeros _ _) (by simp [val_zeros, val]) k hk

theorem u64n {q : Nat} (h : q < 18446744073709551616) : IntKind.u64.wrap (q : Int) = q := u64w (by omega) (by omega)
theorem limb_nat {q : Nat} (h : q < 4294967296) : 0 ≤ (q : Int) ∧ (q : Int) < 4294967296 := by omega
/-- What holds of a quotient that is written from above: at place i. -/
structure ShortAt (a : List Int) (by' i : Nat) (out : List Int) (r : Nat) : Prop where
  ok : okL out
  lt : r < by'
  z : ∀ j, j < i → out.getD j 0 = 0
  v : val (a.drop i) * 4294967296 ^ i = by' * val out + r * 4294967296 ^ i
theorem ShortAt.step {a out : List Int} {d i r x : Nat} (h : ShortAt a d (i + 1) out r) (hd : d < 4294967297) (hi : i < a.length) (hl : out.length = a.length) (hx : a.getD i 0 = (x : Int)) (hx2 : x < 4294967296) :
    ShortAt a d i (out.set i (((r * 4294967296 + x) / d : Nat) : Int)) ((r * 4294967296 + x) % d) := by
  have hr := h.lt
  have hq : (r * 4294967296 + x) / d < 4294967296 := by
    rw [Nat.div_lt_iff_lt_mul (by omega)]
    have : (r + 1) * 4294967296 ≤ d * 4294967296 := Nat.mul_le_mul_right _ (by omega)
    omega
  refine ⟨okL_set h.ok _ (limb_nat hq), Nat.mod_lt _ (by omega), fun j hj => by rw [getD_set_ne _ (by omega)]; exact h.z j (by omega), ?_⟩
  have h1 := h.v
  have hio : i < out.length := by omega
  have hz := h.z i (by omega)
  rw [set_val hio hz, val_drop_succ a i hi, hx]
  simp only [Int.toNat_natCast]
  have e0 := Nat.div_add_mod (r * 4294967296 + x) d
  clear hq hio hz hx hx2 hl hr h
  revert h1 e0
  generalize (r * 4294967296 + x) / d = q
  generalize (r * 4294967296 + x) % d = s
  intro h1 e0
  rw [Nat.pow_succ] at h1
  have e1 : (x + 4294967296 * val (a.drop (i + 1))) * 4294967296 ^ i = x * 4294967296 ^ i + val (a.drop (i + 1)) * (4294967296 ^ i * 4294967296) := by
    rw [Nat.add_mul, Nat.mul_comm 4294967296 (val _), Nat.mul_assoc, Nat.mul_comm 4294967296 (4294967296 ^ i)]
  have e2 : r * (4294967296 ^ i * 4294967296) + x * 4294967296 ^ i = (d * q + s) * 4294967296 ^ i := by
    rw [e0, Nat.add_mul, Nat.mul_assoc r, Nat.mul_comm 4294967296 (4294967296 ^ i)]
  rw [e1, h1, Nat.mul_add]
  rw [Nat.add_mul, Nat.mul_assoc d q] at e2
  rw [Nat.add_left_comm, Nat.add_comm (x * _) (r * _), e2, ← Nat.add_assoc]
theorem ShortAt.done {a out : List Int} {d r : Nat} (h : ShortAt a d 0 out r) : val out = val a / d ∧ r = val a % d := by
  have hv := h.v
  simp at hv
  have hr := h.lt
  have h1 : val a / d = val out := by
    rw [hv, Nat.mul_add_div (by omega), Nat.div_eq_of_lt hr]; rfl
  have h2 : val a % d = r := by
    rw [hv, Nat.mul_add_mod, Nat.mod_eq_of_lt hr]
  exact ⟨h1.symm, h2.symm⟩
theorem ShortAt.start (a : List Int) {d : Nat} (hd : 0 < d) : ShortAt a d a.length (List.replicate a.length 0) 0 :=
  ⟨okL_replicate _, hd, fun j _ => getD_zeros _ _, by simp [val_zeros, val]⟩
theorem div32 {r x d : Nat} (hr : r < d) (hx : x < 4294967296) (hd : d < 4294967296) : bits_Div32.f (r : Int) (x : Int) (d : Int) = some ((((r * 4294967296 + x) / d : Nat) : Int), (((r * 4294967296 + x) % d : Nat) : Int)) := by
  unfold bits_Div32.f
  rw [if_pos (by omega)]
  congr 2
theorem short_run (a : List Int) (ha : okL a) (hn : a.length < 1099511627776) (d : Nat) (hd : d < 4294967296) : ∀ (i : Nat), i ≤ a.length → ∀ (out : List Int) (r : Nat), ShortAt a d i out r → out.length = a.length → ∀ k, i + a.length + 3 < k →
    nat_short.l0 k a (d : Int) out (r : Int) ((i : Int) - 1) = some (limbs (val a / d), ((val a % d : Nat) : Int)) := by
  intro i
  induction i with
  | zero =>
    intro _ out r h hl k hk
    obtain ⟨k, rfl⟩ : ∃ m, k = m + 1 := ⟨k - 1, by omega⟩
    simp only [nat_short.l0]
    rw [if_neg (by omega), nat_trim.f, trim_run _ out rfl h.ok (by omega) k (by omega), h.done.1, ← h.done.2]
    rfl
  | succ i ih =>
    intro hi out r h hl k hk
    obtain ⟨k, rfl⟩ : ∃ m, k = m + 1 := ⟨k - 1, by omega⟩
    obtain ⟨x, hx, hx2⟩ := nat_of_ok ha i
    have hs := h.step (by omega) (by omega) hl hx hx2
    have hr := h.lt
    simp only [nat_short.l0]
    rw [show ((i + 1 : Nat) : Int) - 1 = (i : Int) by omega, if_pos (by omega), if_pos (by omega), if_pos (by omega), rd_nat, hx, div32 hr hx2 hd]
    simp only [Option.bind_some]
    rw [if_pos (by omega), w64 (n := (i : Int) - 1) (by omega) (by omega)]
    exact ih (by omega) _ _ hs (by rw [List.length_set]; exact hl) k (by omega)
theorem short_ev {a : List Int} (ha : okL a) (hn : a.length < 1099511627776) {d : Nat} (h0 : 0 < d) (hd : d < 4294967296) : Ev (fun k => nat_short.f k a (d : Int)) (limbs (val a / d), ((val a % d : Nat) : Int)) := by
  refine Ev.mk (2 * a.length + 3) fun k hk => ?_
  unfold nat_short.f
  rw [if_pos (by omega), if_pos (by omega), show ((a.length : Int)).toNat = a.length by omega, w64 (n := (a.length : Int) - 1) (by omega) (by omega)]
  exact short_run a ha hn d hd a.length (Nat.le_refl _) _ 0 (ShortAt.start a h0) (by simp) k (by omega)
end Go.Proofs.YtbejniapdlgpiaaDoor.E
