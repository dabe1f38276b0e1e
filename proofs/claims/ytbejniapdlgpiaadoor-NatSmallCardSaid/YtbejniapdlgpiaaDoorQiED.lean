/- What the reference's division comes to: bits, times a power of two, the long division, the greatest divisor. -/
import Derived.Test.YtbejniapdlgpiaaDoorQiEC
namespace Go.Proofs.YtbejniapdlgpiaaDoor.E
open Go.RowKit Go.Proofs.YtbejniapdlgpiaaDoorW.PrintWords Go.Proofs.YtbejniapdlgpiaaDoorW.PrintLast Go.Proofs.YtbejniapdlgpiaaDoorW.PrintMore Go.Proofs.YtbejniapdlgpiaaDoor.M Go.Proofs.YtbejniapdlgpiaaDoor.P

theorem or_low {o x s : Nat} (ho : o < 2 ^ s) (hs : s ≤ 32) (hx : x % 2 ^ s = 0) (hx2 : x < 4294967296) : Go.bits .or .u32 (o : Int) (x : Int) = ((o + x : Nat) : Int) := by
  have h1 : o < 2 ^ 32 := Nat.lt_of_lt_of_le ho (Nat.pow_le_pow_right (by omega) hs)
  rw [(bits_nat .u32 32 (by decide) (fun n h0 h => by rw [IntKind.wrap_u32]; omega) o x h1 hx2).2, Nat.or_comm]
  have hq : x = 2 ^ s * (x / 2 ^ s) := by have := Nat.div_add_mod x (2 ^ s); omega
  rw [hq, ← Nat.two_pow_add_eq_or_of_lt ho, Nat.add_comm]
theorem shl64 {x s : Nat} (hx : x < 4294967296) (hs : s < 32) : shl .u64 (IntKind.u64.wrap (x : Int)) (s : Int) = ((x * 2 ^ s : Nat) : Int) := by
  have hb : x * 2 ^ s < 4294967296 * 2 ^ 32 := Nat.mul_lt_mul_of_lt_of_le hx (Nat.pow_le_pow_right (by omega) (by omega)) (Nat.two_pow_pos _)
  rw [u64n (by omega)]
  unfold shl
  have e : (x : Int) * 2 ^ min ((s : Int)).toNat (IntKind.u64.bits) = ((x * 2 ^ s : Nat) : Int) := by
    simp [IntKind.bits, Nat.min_eq_left (show s ≤ 64 by omega)]
  rw [e, u64n (by omega)]
/-- What holds of a row that is moved up: at limb i, by q limbs and s bits. -/
structure UpAt (a : List Int) (q s i : Nat) (out : List Int) : Prop where
  ok : okL out
  top : out.getD (i + q) 0 < 2 ^ s
  z : ∀ j, i + q < j → out.getD j 0 = 0
  v : val out = val (a.take i) * 2 ^ s * 4294967296 ^ q
theorem UpAt.step {a out : List Int} {q s i x o : Nat} (h : UpAt a q s i out) (hs : s < 32) (hl : i + q + 1 < out.length) (hx : a.getD i 0 = (x : Int)) (hx2 : x < 4294967296) (ho : out.getD (i + q) 0 = (o : Int)) :
    o + (x * 2 ^ s) % 4294967296 < 4294967296 ∧ (x * 2 ^ s) / 4294967296 < 2 ^ s ∧ ((x * 2 ^ s) % 4294967296) % 2 ^ s = 0 ∧ o < 2 ^ s ∧
    UpAt a q s (i + 1) ((out.set (i + q) ((o + (x * 2 ^ s) % 4294967296 : Nat) : Int)).set (i + q + 1) (((x * 2 ^ s) / 4294967296 : Nat) : Int)) := by
  have ho2 : o < 2 ^ s := by have := h.top; rw [ho] at this; exact_mod_cast this
  have hB : 4294967296 = 2 ^ s * 2 ^ (32 - s) := by rw [← Nat.pow_add, show s + (32 - s) = 32 by omega]
  have hpos := Nat.two_pow_pos s
  have h1 : ((x * 2 ^ s) % 4294967296) % 2 ^ s = 0 := by
    rw [hB, Nat.mod_mul_right_mod, Nat.mul_mod_left]
  have h2 : (x * 2 ^ s) / 4294967296 < 2 ^ s := by
    rw [Nat.div_lt_iff_lt_mul (by omega), Nat.mul_comm (2 ^ s)]
    exact Nat.mul_lt_mul_of_pos_right hx2 hpos
  have h3 : o + (x * 2 ^ s) % 4294967296 < 4294967296 := by
    have hm : (x * 2 ^ s) % 4294967296 < 4294967296 := Nat.mod_lt _ (by omega)
    generalize (x * 2 ^ s) % 4294967296 = y at h1 hm
    obtain ⟨z, rfl⟩ : ∃ z, y = 2 ^ s * z := ⟨y / 2 ^ s, by have := Nat.div_add_mod y (2 ^ s); omega⟩
    rw [hB] at hm
    have hz := Nat.lt_of_mul_lt_mul_left hm
    have : 2 ^ s * (z + 1) ≤ 2 ^ s * 2 ^ (32 - s) := Nat.mul_le_mul_left _ hz
    rw [← hB, Nat.mul_add] at this
    omega
  have hB2 : 2 ^ s ≤ 2 ^ 31 := Nat.pow_le_pow_right (by omega) (by omega)
  refine ⟨h3, h2, h1, ho2, okL_set (okL_set h.ok _ (limb_nat h3)) _ (limb_nat (Nat.lt_trans h2 (by omega))), ?_, fun j hj => ?_, ?_⟩
  · rw [show i + 1 + q = i + q + 1 by omega, getD_lt (by simp only [List.length_set]; exact hl)]
    simp only [List.getElem_set_self]
    exact_mod_cast h2
  · rw [getD_set_ne _ (by omega), getD_set_ne _ (by omega)]; exact h.z j (by omega)
  · have hz : (out.set (i + q) ((o + (x * 2 ^ s) % 4294967296 : Nat) : Int)).getD (i + q + 1) 0 = 0 := by rw [getD_set_ne _ (by omega)]; exact h.z _ (by omega)
    rw [set_val (by simp only [List.length_set]; exact hl) hz]
    have hv := val_set (l := out) (p := i + q) (by omega) ((o + (x * 2 ^ s) % 4294967296 : Nat) : Int)
    rw [ho, h.v] at hv
    simp only [Int.toNat_natCast] at hv
    rw [Nat.add_mul] at hv
    rw [val_take_succ, hx, Nat.pow_succ]
    simp only [Int.toNat_natCast]
    have e0 := Nat.div_add_mod (x * 2 ^ s) 4294967296
    clear h1 h2 h3 hz hB hB2 ho ho2 hx hx2 h hl
    revert hv e0
    generalize (x * 2 ^ s) % 4294967296 = lo
    generalize (x * 2 ^ s) / 4294967296 = hi
    generalize val (out.set _ _) = V
    intro hv e0
    have e1 : hi * (4294967296 ^ (i + q) * 4294967296) = 4294967296 * hi * 4294967296 ^ (i + q) := by rw [Nat.mul_comm 4294967296 hi, Nat.mul_assoc, Nat.mul_comm (4294967296 ^ (i + q))]
    have e2 : V = val (a.take i) * 2 ^ s * 4294967296 ^ q + lo * 4294967296 ^ (i + q) := by
      have := hv
      rw [Nat.add_comm (o * _), ← Nat.add_assoc] at this
      exact Nat.add_right_cancel this
    have e3 : (val (a.take i) + x * 4294967296 ^ i) * 2 ^ s * 4294967296 ^ q = val (a.take i) * 2 ^ s * 4294967296 ^ q + x * 2 ^ s * 4294967296 ^ (i + q) := by
      rw [Nat.add_mul, Nat.add_mul, Nat.pow_add]
      congr 1
      rw [Nat.mul_assoc x, Nat.mul_comm (4294967296 ^ i) (2 ^ s), ← Nat.mul_assoc x, Nat.mul_assoc (x * 2 ^ s)]
    rw [e1, e2, e3, ← e0, Nat.add_mul, Nat.add_assoc, Nat.add_comm (lo * _)]
end Go.Proofs.YtbejniapdlgpiaaDoor.E
