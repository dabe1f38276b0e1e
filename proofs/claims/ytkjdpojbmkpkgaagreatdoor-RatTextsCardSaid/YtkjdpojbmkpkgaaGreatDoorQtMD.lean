/- Decimal digits: what a row of them is worth, and the one row without noughts ahead that a number has. No program is in sight here. -/
import Derived.Test.YtkjdpojbmkpkgaaGreatDoorQtM
import Derived.Lib.Strings
namespace Go.Proofs.YtkjdpojbmkpkgaaGreatDoor.M
def nv (l : List UInt8) : Nat := l.foldl (fun a c => 10 * a + (c.toNat - 48)) 0
def isD (c : UInt8) : Bool := decide (48 ≤ c.toNat) && decide (c.toNat ≤ 57)
def allD (l : List UInt8) : Bool := l.all isD
def decL (n : Nat) : List UInt8 := if _h : n = 0 then [] else decL (n / 10) ++ [UInt8.ofNat (48 + n % 10)]
termination_by n
decreasing_by omega
def textL (n : Nat) : List UInt8 := if n = 0 then [48] else decL n
def numeral (l : List UInt8) : Bool := !l.isEmpty && allD l && (l.length == 1 || l.head? != some 48)
theorem nv_nil : nv [] = 0 := rfl
theorem nv_snoc (l : List UInt8) (c : UInt8) : nv (l ++ [c]) = 10 * nv l + (c.toNat - 48) := by simp [nv]
theorem decL_zero : decL 0 = [] := by rw [decL]; simp
theorem decL_pos {n : Nat} (h : n ≠ 0) : decL n = decL (n / 10) ++ [UInt8.ofNat (48 + n % 10)] := by rw [decL]; simp [h]
theorem digit_toNat (n : Nat) : (UInt8.ofNat (48 + n % 10)).toNat = 48 + n % 10 := by
  rw [UInt8.toNat_ofNat']; omega
theorem isD_digit (n : Nat) : isD (UInt8.ofNat (48 + n % 10)) = true := by
  unfold isD; rw [digit_toNat]; simp; omega
theorem allD_append {a b : List UInt8} : allD (a ++ b) = (allD a && allD b) := by unfold allD; rw [List.all_append]
theorem decL_eq_nil {n : Nat} : decL n = [] ↔ n = 0 := by
  constructor
  · intro h
    by_cases h0 : n = 0
    · exact h0
    · rw [decL_pos h0] at h; simp at h
  · rintro rfl; exact decL_zero
theorem u8_of_nat {c : UInt8} {n : Nat} (h : c.toNat = n) : c = UInt8.ofNat n := by rw [← h, UInt8.ofNat_toNat]
theorem isD_iff {c : UInt8} : isD c = true ↔ 48 ≤ c.toNat ∧ c.toNat ≤ 57 := by unfold isD; simp
theorem not_zero_iff {c : UInt8} : c ≠ 48 ↔ c.toNat ≠ 48 := by
  constructor
  · intro h e; exact h (by rw [u8_of_nat e]; rfl)
  · rintro h rfl; exact h rfl
theorem decL_nv {l : List UInt8} (h : allD l = true) : decL (nv l) = l.dropWhile (· == 48) := by
  have key : ∀ (n : Nat) (l : List UInt8), l.length = n → allD l = true → decL (nv l) = l.dropWhile (· == 48) := by
    intro n
    induction n with
    | zero => intro l hl _; obtain rfl := List.eq_nil_of_length_eq_zero hl; rw [nv_nil, decL_zero]; rfl
    | succ n ih =>
      intro l hl hd
      obtain ⟨a, c, rfl⟩ : ∃ a c, l = a ++ [c] := by
        have hne : l ≠ [] := by rintro rfl; simp at hl
        exact ⟨l.dropLast, l.getLast hne, (List.dropLast_concat_getLast hne).symm⟩
      rw [allD_append, Bool.and_eq_true] at hd
      have hc := isD_iff.1 (show isD c = true by have := hd.2; simpa [allD] using this)
      have iha := ih a (by simp at hl; exact hl) hd.1
      rw [nv_snoc, List.dropWhile_append]
      by_cases h0 : nv a = 0
      · have he : a.dropWhile (· == 48) = [] := by rw [← iha, h0, decL_zero]
        rw [h0, he]
        by_cases hc0 : c = 48
        · subst hc0; simp [decL_zero]
        · have := not_zero_iff.1 hc0
          rw [decL_pos (by omega), show (10 * 0 + (c.toNat - 48)) / 10 = 0 by omega, decL_zero, show 48 + (10 * 0 + (c.toNat - 48)) % 10 = c.toNat by omega, UInt8.ofNat_toNat]
          simp [hc0]
      · have he : a.dropWhile (· == 48) ≠ [] := by rw [← iha]; intro e; exact h0 (decL_eq_nil.1 e)
        rw [decL_pos (by omega), show (10 * nv a + (c.toNat - 48)) / 10 = nv a by omega, iha, show 48 + (10 * nv a + (c.toNat - 48)) % 10 = c.toNat by omega, UInt8.ofNat_toNat]
        simp [he]
  exact key l.length l rfl h
theorem nv_lt (l : List UInt8) (h : allD l = true) : nv l < 10 ^ l.length := by
  have key : ∀ (n : Nat) (l : List UInt8), l.length = n → allD l = true → nv l < 10 ^ l.length := by
    intro n
    induction n with
    | zero => intro l hl _; obtain rfl := List.eq_nil_of_length_eq_zero hl; simp [nv]
    | succ n ih =>
      intro l hl hd
      obtain ⟨a, c, rfl⟩ : ∃ a c, l = a ++ [c] := by
        have hne : l ≠ [] := by rintro rfl; simp at hl
        exact ⟨l.dropLast, l.getLast hne, (List.dropLast_concat_getLast hne).symm⟩
      rw [allD_append, Bool.and_eq_true] at hd
      have hc := isD_iff.1 (show isD c = true by have := hd.2; simpa [allD] using this)
      have := ih a (by simp at hl; exact hl) hd.1
      rw [nv_snoc, List.length_append, List.length_singleton, Nat.pow_succ]
      omega
  exact key l.length l rfl h
theorem decL_length_le {n m : Nat} (h : n < 10 ^ m) : (decL n).length ≤ m := by
  induction m generalizing n with
  | zero => have : n = 0 := by simpa using h
            subst this; simp [decL_zero]
  | succ m ih =>
    by_cases h0 : n = 0
    · subst h0; simp [decL_zero]
    · rw [decL_pos h0, List.length_append, List.length_singleton]
      have := ih (n := n / 10) (by rw [Nat.pow_succ] at h; omega)
      omega
def str (l : List UInt8) : ByteArray := ⟨l.toArray⟩
theorem str_data (l : List UInt8) : (str l).data.toList = l := by simp [str]
theorem str_toList (l : List UInt8) : (str l).toList = l := by rw [Lib.toList_data, str_data]
theorem str_size (l : List UInt8) : (str l).size = l.length := by simp [str, ByteArray.size]
theorem eq_str {s : ByteArray} {l : List UInt8} (h : s.data.toList = l) : s = str l := by
  subst h; rfl
theorem str_append (a b : List UInt8) : str a ++ str b = str (a ++ b) := by
  apply eq_str
  rw [ByteArray.data_append, Array.toList_append, str_data, str_data]
end Go.Proofs.YtkjdpojbmkpkgaaGreatDoor.M
