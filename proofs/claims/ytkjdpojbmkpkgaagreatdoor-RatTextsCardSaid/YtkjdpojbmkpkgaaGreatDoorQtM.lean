/- Plain numbers as rows of limbs of 32 bits: what they are worth, and the one row that a number has. No program is in sight here. -/
import Derived.Lib.SlTrimSet
import Derived.Lib.Repeat
namespace Go.Proofs.YtkjdpojbmkpkgaaGreatDoor.M
def okL (l : List Int) : Prop := ∀ x ∈ l, 0 ≤ x ∧ x < 4294967296
def val : List Int → Nat
  | [] => 0
  | x :: l => x.toNat + 4294967296 * val l
def limbs (n : Nat) : List Int := if h : n = 0 then [] else ((n % 4294967296 : Nat) : Int) :: limbs (n / 4294967296)
termination_by n
decreasing_by omega
def canB (l : List Int) : Prop := okL l ∧ limbs (val l) = l
instance (l : List Int) : Decidable (okL l) := by unfold okL; infer_instance
instance (l : List Int) : Decidable (canB l) := by unfold canB; infer_instance
theorem okL_nil : okL [] := fun _ h => by simp at h
theorem okL_cons {x : Int} {l : List Int} : okL (x :: l) ↔ (0 ≤ x ∧ x < 4294967296) ∧ okL l := by
  unfold okL; simp
theorem okL_append {a b : List Int} : okL (a ++ b) ↔ okL a ∧ okL b := by
  unfold okL
  simp only [List.mem_append]
  exact ⟨fun h => ⟨fun x hx => h x (.inl hx), fun x hx => h x (.inr hx)⟩, fun h x hx => hx.elim (h.1 x) (h.2 x)⟩
theorem okL_take {l : List Int} (h : okL l) (n : Nat) : okL (l.take n) := fun x hx => h x (List.mem_of_mem_take hx)
theorem okL_drop {l : List Int} (h : okL l) (n : Nat) : okL (l.drop n) := fun x hx => h x (List.mem_of_mem_drop hx)
theorem okL_replicate (n : Nat) : okL (List.replicate n 0) := fun x hx => by
  obtain ⟨_, rfl⟩ := List.mem_replicate.1 hx; omega
theorem okL_set {l : List Int} (h : okL l) (p : Nat) {v : Int} (hv : 0 ≤ v ∧ v < 4294967296) : okL (l.set p v) := fun x hx => by
  rcases List.mem_or_eq_of_mem_set hx with hx | rfl
  · exact h x hx
  · exact hv
theorem okL_get {l : List Int} (h : okL l) (p : Nat) : 0 ≤ l.getD p 0 ∧ l.getD p 0 < 4294967296 := by
  by_cases hp : p < l.length
  · rw [List.getD_eq_getElem?_getD, List.getElem?_eq_getElem hp]; exact h _ (List.getElem_mem hp)
  · rw [List.getD_eq_getElem?_getD, List.getElem?_eq_none (by omega)]; simp
theorem getD_ge {l : List Int} {p : Nat} (h : l.length ≤ p) : l.getD p 0 = 0 := by
  rw [List.getD_eq_getElem?_getD, List.getElem?_eq_none h]; rfl
theorem getD_lt {l : List Int} {p : Nat} (h : p < l.length) : l.getD p 0 = l[p] := by
  rw [List.getD_eq_getElem?_getD, List.getElem?_eq_getElem h]; rfl
theorem val_nil : val [] = 0 := rfl
theorem val_cons (x : Int) (l : List Int) : val (x :: l) = x.toNat + 4294967296 * val l := rfl
theorem val_append (a b : List Int) : val (a ++ b) = val a + 4294967296 ^ a.length * val b := by
  induction a with
  | nil => simp [val]
  | cons x a ih =>
    simp only [List.cons_append, val, ih, List.length_cons, Nat.pow_succ, Nat.mul_add]
    rw [show 4294967296 * (4294967296 ^ a.length * val b) = 4294967296 ^ a.length * 4294967296 * val b by rw [← Nat.mul_assoc, Nat.mul_comm 4294967296]]
    omega
theorem val_snoc (a : List Int) (x : Int) : val (a ++ [x]) = val a + 4294967296 ^ a.length * x.toNat := by
  rw [val_append]; simp [val]
theorem val_lt {l : List Int} (h : okL l) : val l < 4294967296 ^ l.length := by
  induction l with
  | nil => simp [val]
  | cons x l ih =>
    have := ih (okL_cons.1 h).2
    have hx := (okL_cons.1 h).1
    simp only [val, List.length_cons, Nat.pow_succ]
    omega
theorem val_zeros (n : Nat) : val (List.replicate n 0) = 0 := by
  induction n with
  | zero => rfl
  | succ n ih => rw [List.replicate_succ, val_cons, ih]; rfl
theorem val_set {l : List Int} {p : Nat} (hp : p < l.length) (v : Int) : val (l.set p v) + (l.getD p 0).toNat * 4294967296 ^ p = val l + v.toNat * 4294967296 ^ p := by
  induction l generalizing p with
  | nil => simp at hp
  | cons x l ih =>
    cases p with
    | zero => simp [val]; omega
    | succ p =>
      have := ih (p := p) (by simpa using hp)
      simp only [List.set_cons_succ, val, List.getD_cons_succ, Nat.pow_succ]
      have e1 : (l.getD p 0).toNat * (4294967296 ^ p * 4294967296) = 4294967296 * ((l.getD p 0).toNat * 4294967296 ^ p) := by
        rw [← Nat.mul_assoc, Nat.mul_comm]
      have e2 : v.toNat * (4294967296 ^ p * 4294967296) = 4294967296 * (v.toNat * 4294967296 ^ p) := by
        rw [← Nat.mul_assoc, Nat.mul_comm]
      rw [e1, e2]
      omega
theorem val_take_succ (l : List Int) (i : Nat) : val (l.take (i + 1)) = val (l.take i) + (l.getD i 0).toNat * 4294967296 ^ i := by
  by_cases h : i < l.length
  · rw [List.take_succ_eq_append_getElem h, val_snoc, getD_lt h, List.length_take, Nat.min_eq_left (by omega), Nat.mul_comm]
  · rw [List.take_of_length_le (by omega), List.take_of_length_le (by omega), getD_ge (by omega)]; simp
theorem val_take_drop (l : List Int) (i : Nat) (h : i ≤ l.length) : val l = val (l.take i) + 4294967296 ^ i * val (l.drop i) := by
  conv => lhs; rw [← List.take_append_drop i l]
  rw [val_append, List.length_take, Nat.min_eq_left h]
theorem val_drop_succ (l : List Int) (i : Nat) (h : i < l.length) : val (l.drop i) = (l.getD i 0).toNat + 4294967296 * val (l.drop (i + 1)) := by
  rw [List.drop_eq_getElem_cons h, val_cons, getD_lt h]
theorem limbs_zero : limbs 0 = [] := by rw [limbs]; simp
theorem limbs_pos {n : Nat} (h : n ≠ 0) : limbs n = ((n % 4294967296 : Nat) : Int) :: limbs (n / 4294967296) := by rw [limbs]; simp [h]
theorem z15 (n : Nat) : val (limbs n) = n := by
  induction n using Nat.strongRecOn with
  | _ n ih =>
    by_cases h : n = 0
    · subst h; rw [limbs_zero]; rfl
    · rw [limbs_pos h, val_cons, ih _ (by omega)]; omega
theorem okL_limbs (n : Nat) : okL (limbs n) := by
  induction n using Nat.strongRecOn with
  | _ n ih =>
    by_cases h : n = 0
    · subst h; rw [limbs_zero]; exact okL_nil
    · rw [limbs_pos h, okL_cons]; exact ⟨by omega, ih _ (by omega)⟩
theorem canB_limbs (n : Nat) : canB (limbs n) := ⟨okL_limbs n, by rw [z15]⟩
theorem canB_nil : canB [] := ⟨okL_nil, limbs_zero⟩
theorem limbs_inj {m n : Nat} (h : limbs m = limbs n) : m = n := by have := congrArg val h; rwa [z15, z15] at this
theorem limbs_eq_nil {n : Nat} : limbs n = [] ↔ n = 0 := ⟨fun h => limbs_inj (h.trans limbs_zero.symm), fun h => by rw [h, limbs_zero]⟩
theorem canB_val_zero {l : List Int} (h : canB l) : val l = 0 ↔ l = [] := ⟨fun e => by rw [← h.2, e, limbs_zero], fun e => by rw [e]; rfl⟩
theorem limbs_length_le {n m : Nat} (h : n < 4294967296 ^ m) : (limbs n).length ≤ m := by
  induction m generalizing n with
  | zero => have : n = 0 := by simpa using h
            subst this; simp [limbs_zero]
  | succ m ih =>
    by_cases h0 : n = 0
    · subst h0; simp [limbs_zero]
    · rw [limbs_pos h0, List.length_cons]
      have := ih (n := n / 4294967296) (by rw [Nat.pow_succ] at h; omega)
      omega
theorem limbs_length_ge {n m : Nat} (h : 4294967296 ^ m ≤ n) : m < (limbs n).length := by
  have := val_lt (okL_limbs n)
  rw [z15] at this
  exact (Nat.pow_lt_pow_iff_right (a := 4294967296) (by omega)).1 (Nat.lt_of_le_of_lt h this)
theorem limbs_length_lt_iff {n m : Nat} : (limbs n).length ≤ m ↔ n < 4294967296 ^ m := by
  constructor
  · intro h
    by_cases h1 : n < 4294967296 ^ m
    · exact h1
    · have := limbs_length_ge (n := n) (m := m) (by omega); omega
  · exact limbs_length_le
theorem length_le_of_val {l : List Int} (h : canB l) {m : Nat} (hm : val l < 4294967296 ^ m) : l.length ≤ m := by
  rw [← h.2]; exact limbs_length_le hm
theorem val_lt_of_length {l : List Int} (h : okL l) {m : Nat} (hm : l.length ≤ m) : val l < 4294967296 ^ m :=
  Nat.lt_of_lt_of_le (val_lt h) (Nat.pow_le_pow_right (by omega) hm)
theorem val_ge_of_length {l : List Int} (h : canB l) {m : Nat} (hm : m < l.length) : 4294967296 ^ m ≤ val l := by
  by_cases hv : val l < 4294967296 ^ m
  · have := length_le_of_val h hv; omega
  · omega
theorem canB_length_lt {a b : List Int} (ha : canB a) (hb : canB b) (h : a.length < b.length) : val a < val b :=
  Nat.lt_of_lt_of_le (val_lt_of_length ha.1 (Nat.le_refl _)) (val_ge_of_length hb h)
theorem canB_of_last {l : List Int} (h : okL l) (hl : l.getLast? ≠ some 0) : canB l := by
  refine ⟨h, ?_⟩
  induction l with
  | nil => exact limbs_zero
  | cons x l ih =>
    have hx := (okL_cons.1 h).1
    by_cases hn : l = []
    · subst hn
      have h0 : x ≠ 0 := by simpa using hl
      rw [val_cons, limbs_pos (by simp [val]; omega)]
      have e1 : (x.toNat + 4294967296 * val []) % 4294967296 = x.toNat := by simp only [val]; omega
      have e2 : (x.toNat + 4294967296 * val []) / 4294967296 = 0 := by simp only [val]; omega
      rw [e1, e2, limbs_zero]; congr 1; omega
    · have e : (x :: l).getLast? = l.getLast? := by
        rw [List.getLast?_cons_of_ne_nil hn]
      have := ih (okL_cons.1 h).2 (by rwa [e] at hl)
      have h0 : val l ≠ 0 := fun h0 => by rw [h0, limbs_zero] at this; exact hn this.symm
      rw [val_cons, limbs_pos (by omega)]
      have e1 : (x.toNat + 4294967296 * val l) % 4294967296 = x.toNat := by omega
      have e2 : (x.toNat + 4294967296 * val l) / 4294967296 = val l := by omega
      rw [e1, e2, this]; congr 1; omega
theorem canB_last {l : List Int} (h : canB l) : l.getLast? ≠ some 0 := by
  intro hl
  obtain ⟨a, rfl⟩ : ∃ a, l = a ++ [0] := by
    rw [List.getLast?_eq_some_iff] at hl
    exact hl
  have h1 := val_snoc a 0
  have h2 := val_ge_of_length h (m := a.length) (by simp)
  have h3 := val_lt (okL_append.1 h.1).1
  simp at h1
  omega
theorem canB_iff {l : List Int} : canB l ↔ okL l ∧ l.getLast? ≠ some 0 := ⟨fun h => ⟨h.1, canB_last h⟩, fun h => canB_of_last h.1 h.2⟩
def chk (l : List Int) : Int := if l.length > 64 then 5 else if l.getLast? = some 0 then 2 else 0
theorem chk_zero {l : List Int} (h : okL l) : chk l = 0 ↔ l.length ≤ 64 ∧ canB l := by
  unfold chk
  rw [canB_iff]
  by_cases h1 : l.length > 64
  · simp [h1]; omega
  · by_cases h2 : l.getLast? = some 0
    · simp [h1, h2]
    · simp [h1, h2, h]; omega
def cmpI (m n : Nat) : Int := if m < n then -1 else if n < m then 1 else 0
end Go.Proofs.YtkjdpojbmkpkgaaGreatDoor.M
