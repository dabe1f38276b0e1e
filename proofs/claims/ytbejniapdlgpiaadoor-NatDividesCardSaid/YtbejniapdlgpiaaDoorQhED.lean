/- What the reference's division comes to: bits, times a power of two, the long division, the greatest divisor. -/
import Derived.Test.YtbejniapdlgpiaaDoorQhEC
namespace Go.Proofs.YtbejniapdlgpiaaDoor.E
open Go.RowKit Go.Proofs.YtbejniapdlgpiaaDoorW.PrintWords Go.Proofs.YtbejniapdlgpiaaDoorW.PrintLast Go.Proofs.YtbejniapdlgpiaaDoorW.PrintMore Go.Proofs.YtbejniapdlgpiaaDoor.M Go.Proofs.YtbejniapdlgpiaaDoor.P

theorem base_pow (m : Nat) : 4294967296 ^ m = 2 ^ (32 * m) := by
  rw [Nat.pow_mul]

theorem shr32 {x s : Nat} (hs : s ≤ 32) : shr .u32 (x : Int) (s : Int) = ((x / 2 ^ s : Nat) : Int) := by
  unfold shr
  simp [IntKind.bits, Nat.min_eq_left hs]
theorem rbits_run (l : List Int) (n : Nat) (hn : l.length = n + 1) (hn2 : n < 1099511627776) (x : Nat) (hx : l.getD n 0 = (x : Int)) (hx0 : 0 < x) : ∀ (s : Nat), s ≤ 31 → x < 2 ^ (s + 1) → ∀ k, s < k →
    ∃ t, t ≤ 31 ∧ 2 ^ t ≤ x ∧ x < 2 ^ (t + 1) ∧ driftnetref01_bits.l0 k l (((32 * n + s + 1 : Nat)) : Int) = some (((32 * n + t + 1 : Nat)) : Int) := by
  intro s
  induction s with
  | zero =>
    intro _ hlt k hk
    obtain ⟨k, rfl⟩ : ∃ m, k = m + 1 := ⟨k - 1, by omega⟩
    refine ⟨0, by omega, by omega, hlt, ?_⟩
    simp only [driftnetref01_bits.l0]
    rw [w64 (n := (l.length : Int) - 1) (by omega) (by omega), if_pos (by omega), if_pos (by omega), w64 (n := ((32 * n + 0 + 1 : Nat) : Int) - 1) (by omega) (by omega), w64 (n := 32 * ((l.length : Int) - 1)) (by omega) (by omega), w64 (n := ((32 * n + 0 + 1 : Nat) : Int) - 1 - 32 * ((l.length : Int) - 1)) (by omega) (by omega), if_pos (by omega), rd_at l (j := n) (by omega), hx,
      show ((32 * n + 0 + 1 : Nat) : Int) - 1 - 32 * ((l.length : Int) - 1) = ((0 : Nat) : Int) by omega, shr32 (by omega), if_neg (by simp; omega)]
  | succ s ih =>
    intro hs hlt k hk
    obtain ⟨k, rfl⟩ : ∃ m, k = m + 1 := ⟨k - 1, by omega⟩
    have unf : driftnetref01_bits.l0 (k + 1) l (((32 * n + (s + 1) + 1 : Nat)) : Int) = if (((x / 2 ^ (s + 1) : Nat)) : Int) = 0 then driftnetref01_bits.l0 k l (((32 * n + s + 1 : Nat)) : Int) else some (((32 * n + (s + 1) + 1 : Nat)) : Int) := by
      simp only [driftnetref01_bits.l0]
      rw [w64 (n := (l.length : Int) - 1) (by omega) (by omega), if_pos (by omega), if_pos (by omega), w64 (n := ((32 * n + (s + 1) + 1 : Nat) : Int) - 1) (by omega) (by omega), w64 (n := 32 * ((l.length : Int) - 1)) (by omega) (by omega), w64 (n := ((32 * n + (s + 1) + 1 : Nat) : Int) - 1 - 32 * ((l.length : Int) - 1)) (by omega) (by omega), if_pos (by omega), rd_at l (j := n) (by omega), hx,
        show ((32 * n + (s + 1) + 1 : Nat) : Int) - 1 - 32 * ((l.length : Int) - 1) = ((s + 1 : Nat) : Int) by omega, shr32 (by omega), show ((32 * n + (s + 1) + 1 : Nat) : Int) - 1 = ((32 * n + s + 1 : Nat) : Int) by omega]
    by_cases h : x < 2 ^ (s + 1)
    · obtain ⟨t, h1, h2, h3, h4⟩ := ih (by omega) h k (by omega)
      exact ⟨t, h1, h2, h3, by rw [unf, if_pos (by rw [Nat.div_eq_of_lt h]; rfl), h4]⟩
    · have hp : 0 < x / 2 ^ (s + 1) := Nat.div_pos (by omega) (Nat.two_pow_pos _)
      exact ⟨s + 1, hs, by omega, hlt, by rw [unf, if_neg (by omega)]⟩
theorem rbits_ev {l : List Int} (h : canB l) (h0 : l ≠ []) (hl : l.length < 1099511627776) : ∃ n : Nat, 1 ≤ n ∧ n ≤ 32 * l.length ∧ 2 ^ (n - 1) ≤ val l ∧ val l < 2 ^ n ∧ Ev (fun k => driftnetref01_bits.f k l) (n : Int) := by
  obtain ⟨m, hm⟩ : ∃ m, l.length = m + 1 := ⟨l.length - 1, by have := List.length_pos_iff.2 h0; omega⟩
  obtain ⟨x, hx, hx2⟩ := nat_of_ok h.1 m
  have hx0 : 0 < x := by
    have := canB_last h
    rw [last_rd h0, hm] at this
    simp only [Nat.add_sub_cancel, hx] at this
    rcases Nat.eq_zero_or_pos x with e | e
    · subst e; exact absurd rfl this
    · exact e
  have hrun := rbits_run l m hm (by omega) x hx hx0 31 (by omega) hx2
  obtain ⟨t, h1, h2, h3, _⟩ := hrun 32 (by omega)
  have hv : val l = val (l.take m) + 2 ^ (32 * m) * x := by
    have e1 := val_take_succ l m
    rw [← hm, List.take_length, hx] at e1
    rw [e1, ← base_pow, Nat.mul_comm]; rfl
  have hlt : val (l.take m) < 2 ^ (32 * m) := by
    have := val_lt (okL_take h.1 m)
    rw [List.length_take, Nat.min_eq_left (by omega), base_pow] at this
    exact this
  refine ⟨32 * m + t + 1, by omega, by omega, ?_, ?_, ⟨32, fun k hk => ?_⟩⟩
  · rw [Nat.add_sub_cancel, Nat.pow_add, hv]
    exact Nat.le_trans (Nat.mul_le_mul_left _ h2) (by omega)
  · rw [Nat.add_assoc, Nat.pow_add, hv]
    have : 2 ^ (32 * m) * (x + 1) ≤ 2 ^ (32 * m) * 2 ^ (t + 1) := Nat.mul_le_mul_left _ h3
    rw [Nat.mul_add] at this
    omega
  · obtain ⟨t', h1', h2', h3', h4'⟩ := hrun k (by omega)
    have : t' = t := by
      have a1 : t' < t + 1 := (Nat.pow_lt_pow_iff_right (a := 2) (by omega)).1 (Nat.lt_of_le_of_lt h2' h3)
      have a2 : t < t' + 1 := (Nat.pow_lt_pow_iff_right (a := 2) (by omega)).1 (Nat.lt_of_le_of_lt h2 h3')
      omega
    subst this
    show driftnetref01_bits.f k l = _
    unfold driftnetref01_bits.f
    rw [if_neg (by omega), w64 (n := 32 * (l.length : Int)) (by omega) (by omega), show 32 * (l.length : Int) = ((32 * m + 31 + 1 : Nat) : Int) by omega, h4']

theorem or_low {o x s : Nat} (ho : o < 2 ^ s) (hs : s ≤ 32) (hx : x % 2 ^ s = 0) (hx2 : x < 4294967296) : Go.bits .or .u32 (o : Int) (x : Int) = ((o + x : Nat) : Int) := by
  have h1 : o < 2 ^ 32 := Nat.lt_of_lt_of_le ho (Nat.pow_le_pow_right (by omega) hs)
  rw [(bits_nat .u32 32 (by decide) (fun n h0 h => by rw [IntKind.wrap_u32]; omega) o x h1 hx2).2, Nat.or_comm]
  have hq : x = 2 ^ s * (x / 2 ^ s) := by have := Nat.div_add_mod x (2 ^ s); omega
  rw [hq, ← Nat.two_pow_add_eq_or_of_lt ho, Nat.add_comm]
theorem shl64 {x s : Nat} (hx : x < 4294967296) (hs : s < 32) : shl .u64 (IntKind.u64.wrap (x : Int)) (s : Int) = ((x * 2 ^ s : Nat) : Int) := by
  have hb : x * 2 ^ s < 4294967296 * 2 ^ 32 := Nat.mul_lt_mul_of_lt_of_le hx (Nat.pow_le_pow_right (by omega) (by omega)) (Nat.two_pow_pos _)
  rw [u64n (by omega)]
  unfold shl
  have e : (x : Int) * 2 ^ min ((s : Int)).toNat (IntKind.u64.bits) = ((x * 2 ^ s : Nat) : Int) := by
    simp [IntKind.bits, Nat.min_eq_left (show s ≤ 64 by omega)]
  rw [e, u64n (by omega)]
/-- What holds of a row that is moved up: at limb i, by q limbs and s bits. -/
structure UpAt (a : List Int) (q s i : Nat) (out : List Int) : Prop where
  ok : okL out
  top : out.getD (i + q) 0 < 2 ^ s
  z : ∀ j, i + q < j → out.getD j 0 = 0
  v : val out = val (a.take i) * 2 ^ s * 4294967296 ^ q
theorem UpAt.step {a out : List Int} {q s i x o : Nat} (h : UpAt a q s i out) (hs : s < 32) (hl : i + q + 1 < out.length) (hx : a.getD i 0 = (x : Int)) (hx2 : x < 4294967296) (ho : out.getD (i + q) 0 = (o : Int)) :
    o + (x * 2 ^ s) % 4294967296 < 4294967296 ∧ (x * 2 ^ s) / 4294967296 < 2 ^ s ∧ ((x * 2 ^ s) % 4294967296) % 2 ^ s = 0 ∧ o < 2 ^ s ∧
    UpAt a q s (i + 1) ((out.set (i + q) ((o + (x * 2 ^ s) % 4294967296 : Nat) : Int)).set (i + q + 1) (((x * 2 ^ s) / 4294967296 : Nat) : Int)) := by
  have ho2 : o < 2 ^ s := by have := h.top; rw [ho] at this; exact_mod_cast this
  have hB : 4294967296 = 2 ^ s * 2 ^ (32 - s) := by rw [← Nat.pow_add, show s + (32 - s) = 32 by omega]
  have hpos := Nat.two_pow_pos s
  have h1 : ((x * 2 ^ s) % 4294967296) % 2 ^ s = 0 := by
    rw [hB, Nat.mod_mul_right_mod, Nat.mul_mod_left]
  have h2 : (x * 2 ^ s) / 4294967296 < 2 ^ s := by
    rw [Nat.div_lt_iff_lt_mul (by omega), Nat.mul_comm (2 ^ s)]
    exact Nat.mul_lt_mul_of_pos_right hx2 hpos
  have h3 : o + (x * 2 ^ s) % 4294967296 < 4294967296 := by
    have hm : (x * 2 ^ s) % 4294967296 < 4294967296 := Nat.mod_lt _ (by omega)
    generalize (x * 2 ^ s) % 4294967296 = y at h1 hm
    obtain ⟨z, rfl⟩ : ∃ z, y = 2 ^ s * z := ⟨y / 2 ^ s, by have := Nat.div_add_mod y (2 ^ s); omega⟩
    rw [hB] at hm
    have hz := Nat.lt_of_mul_lt_mul_left hm
    have : 2 ^ s * (z + 1) ≤ 2 ^ s * 2 ^ (32 - s) := Nat.mul_le_mul_left _ hz
    rw [← hB, Nat.mul_add] at this
    omega
  have hB2 : 2 ^ s ≤ 2 ^ 31 := Nat.pow_le_pow_right (by omega) (by omega)
  refine ⟨h3, h2, h1, ho2, okL_set (okL_set h.ok _ (limb_nat h3)) _ (limb_nat (Nat.lt_trans h2 (by omega))), ?_, fun j hj => ?_, ?_⟩
  · rw [show i + 1 + q = i + q + 1 by omega, getD_lt (by simp only [List.length_set]; exact hl)]
    simp only [List.getElem_set_self]
    exact_mod_cast h2
  · rw [getD_set_ne _ (by omega), getD_set_ne _ (by omega)]; exact h.z j (by omega)
  · have hz : (out.set (i + q) ((o + (x * 2 ^ s) % 4294967296 : Nat) : Int)).getD (i + q + 1) 0 = 0 := by rw [getD_set_ne _ (by omega)]; exact h.z _ (by omega)
    rw [set_val (by simp only [List.length_set]; exact hl) hz]
    have hv := val_set (l := out) (p := i + q) (by omega) ((o + (x * 2 ^ s) % 4294967296 : Nat) : Int)
    rw [ho, h.v] at hv
    simp only [Int.toNat_natCast] at hv
    rw [Nat.add_mul] at hv
    rw [val_take_succ, hx, Nat.pow_succ]
    simp only [Int.toNat_natCast]
    have e0 := Nat.div_add_mod (x * 2 ^ s) 4294967296
    clear h1 h2 h3 hz hB hB2 ho ho2 hx hx2 h hl
    revert hv e0
    generalize (x * 2 ^ s) % 4294967296 = lo
    generalize (x * 2 ^ s) / 4294967296 = hi
    generalize val (out.set _ _) = V
    intro hv e0
    have e1 : hi * (4294967296 ^ (i + q) * 4294967296) = 4294967296 * hi * 4294967296 ^ (i + q) := by rw [Nat.mul_comm 4294967296 hi, Nat.mul_assoc, Nat.mul_comm (4294967296 ^ (i + q))]
    have e2 : V = val (a.take i) * 2 ^ s * 4294967296 ^ q + lo * 4294967296 ^ (i + q) := by
      have := hv
      rw [Nat.add_comm (o * _), ← Nat.add_assoc] at this
      exact Nat.add_right_cancel this
    have e3 : (val (a.take i) + x * 4294967296 ^ i) * 2 ^ s * 4294967296 ^ q = val (a.take i) * 2 ^ s * 4294967296 ^ q + x * 2 ^ s * 4294967296 ^ (i + q) := by
      rw [Nat.add_mul, Nat.add_mul, Nat.pow_add]
      congr 1
      rw [Nat.mul_assoc x, Nat.mul_comm (4294967296 ^ i) (2 ^ s), ← Nat.mul_assoc x, Nat.mul_assoc (x * 2 ^ s)]
    rw [e1, e2, e3, ← e0, Nat.add_mul, Nat.add_assoc, Nat.add_comm (lo * _)]
theorem rtimes_run (a : List Int) (ha : okL a) (q s : Nat) (hs : s < 32) (hn : a.length + q < 1099511627776) : ∀ (d i : Nat), a.length - i = d → i ≤ a.length → ∀ (out : List Int), UpAt a q s i out → out.length = a.length + q + 1 → ∀ k, d + a.length + q + 3 < k →
    driftnetref01_times.l0 k a ((32 * q + s : Nat) : Int) out (i : Int) = some (limbs (val a * 2 ^ (32 * q + s))) := by
  intro d
  induction d with
  | zero =>
    intro i hd hi out h hl k hk
    obtain ⟨k, rfl⟩ : ∃ m, k = m + 1 := ⟨k - 1, by omega⟩
    obtain rfl : i = a.length := by omega
    have ht := rtrim_run out h.ok (by omega) out.length (Nat.le_refl _) k (by omega)
    rw [List.take_length] at ht
    simp only [driftnetref01_times.l0]
    rw [if_neg (by omega), driftnetref01_trim.f, ht, h.v, List.take_of_length_le (Nat.le_refl _), base_pow, Nat.mul_assoc, ← Nat.pow_add, Nat.add_comm s]
    rfl
  | succ d ih =>
    intro i hd hi out h hl k hk
    obtain ⟨k, rfl⟩ : ∃ m, k = m + 1 := ⟨k - 1, by omega⟩
    obtain ⟨x, hx, hx2⟩ := nat_of_ok ha i
    obtain ⟨o, ho, _⟩ := nat_of_ok h.ok (i + q)
    obtain ⟨h3, h2, h1, ho2, hs2⟩ := h.step hs (by omega) hx hx2 ho
    have et : Int.tmod ((32 * q + s : Nat) : Int) 32 = (s : Int) := by
      rw [show Int.tmod ((32 * q + s : Nat) : Int) 32 = (((32 * q + s) % 32 : Nat) : Int) from rfl]; omega
    have eq : Int.tdiv ((32 * q + s : Nat) : Int) 32 = (q : Int) := by
      rw [show Int.tdiv ((32 * q + s : Nat) : Int) 32 = (((32 * q + s) / 32 : Nat) : Int) from rfl]; omega
    have hB2 : 2 ^ s ≤ 2 ^ 31 := Nat.pow_le_pow_right (by omega) (by omega)
    have hlo : (x * 2 ^ s) % 4294967296 < 4294967296 := Nat.mod_lt _ (by omega)
    have hor := or_low ho2 (by omega) h1 hlo
    have hhi : (x * 2 ^ s) / 4294967296 < 4294967296 := Nat.lt_trans h2 (by omega)
    simp only [driftnetref01_times.l0]
    rw [et, eq, if_pos (by omega), if_pos (by omega), if_pos (by omega), w64 (n := (q : Int)) (by omega) (by omega), w64 (n := (i : Int) + q) (by omega) (by omega), if_pos (by omega), if_pos (by omega), w64 (n := (i : Int) + q + 1) (by omega) (by omega), if_pos (by omega), if_pos (by omega), w64 (n := (i : Int) + 1) (by omega) (by omega), rd_nat, hx, shl64 hx2 hs,
      rd_at out (j := i + q) (by omega), ho, show (((x * 2 ^ s : Nat) : Int)) % 4294967296 = (((x * 2 ^ s) % 4294967296 : Nat) : Int) from rfl, hor, show (((x * 2 ^ s : Nat) : Int)) / 4294967296 = (((x * 2 ^ s) / 4294967296 : Nat) : Int) from rfl, nat_emod hhi, show ((i : Int) + q).toNat = i + q by omega, show ((i : Int) + q + 1).toNat = i + q + 1 by omega, show (i : Int) + 1 = ((i + 1 : Nat) : Int) by omega]
    exact ih (i + 1) (by omega) (by omega) _ hs2 (by simp only [List.length_set]; exact hl) k (by omega)
theorem rtimes_ev {a : List Int} (ha : okL a) (p : Nat) (hn : a.length + p < 1099511627776) : Ev (fun k => driftnetref01_times.f k a (p : Int)) (limbs (val a * 2 ^ p)) := by
  obtain ⟨q, s, hs, rfl⟩ : ∃ q s, s < 32 ∧ p = 32 * q + s := ⟨p / 32, p % 32, Nat.mod_lt _ (by omega), by omega⟩
  refine Ev.mk (a.length + a.length + q + 3) fun k hk => ?_
  have eq : Int.tdiv ((32 * q + s : Nat) : Int) 32 = (q : Int) := by
    rw [show Int.tdiv ((32 * q + s : Nat) : Int) 32 = (((32 * q + s) / 32 : Nat) : Int) from rfl]; omega
  unfold driftnetref01_times.f
  rw [eq, w64 (n := (q : Int)) (by omega) (by omega), w64 (n := (a.length : Int) + q) (by omega) (by omega), w64 (by omega) (by omega), if_pos (by omega), if_pos (by omega), show ((a.length : Int) + q + 1).toNat = a.length + q + 1 by omega]
  exact rtimes_run a ha q s hs (by omega) a.length 0 (by omega) (by omega) _ ⟨okL_replicate _, by rw [getD_zeros]; exact_mod_cast Nat.two_pow_pos s, fun j _ => getD_zeros _ _, by simp [val_zeros, val]⟩ (by simp) k (by omega)
end Go.Proofs.YtbejniapdlgpiaaDoor.E
