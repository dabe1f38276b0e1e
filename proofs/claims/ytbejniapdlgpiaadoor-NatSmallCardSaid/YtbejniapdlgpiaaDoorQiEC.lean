/- What the reference's functions on limbs come to: sums, differences, products; quotients by one limb. -/
import Derived.Test.YtbejniapdlgpiaaDoorQiEB
namespace Go.Proofs.YtbejniapdlgpiaaDoor.E
open Go.RowKit Go.Proofs.YtbejniapdlgpiaaDoorW.PrintWords Go.Proofs.YtbejniapdlgpiaaDoorW.PrintLast Go.Proofs.YtbejniapdlgpiaaDoorW.PrintMore Go.Proofs.YtbejniapdlgpiaaDoor.M Go.Proofs.YtbejniapdlgpiaaDoor.P

theorem nat_emod {q : Nat} (h : q < 4294967296) : (q : Int) % 4294967296 = q := by omega
theorem u64n {q : Nat} (h : q < 18446744073709551616) : IntKind.u64.wrap (q : Int) = q := u64w (by omega) (by omega)
theorem limb_nat {q : Nat} (h : q < 4294967296) : 0 ≤ (q : Int) ∧ (q : Int) < 4294967296 := by omega
/-- What holds of a quotient that is written from above: at place i. -/
structure ShortAt (a : List Int) (by' i : Nat) (out : List Int) (r : Nat) : Prop where
  ok : okL out
  lt : r < by'
  z : ∀ j, j < i → out.getD j 0 = 0
  v : val (a.drop i) * 4294967296 ^ i = by' * val out + r * 4294967296 ^ i
theorem ShortAt.step {a out : List Int} {d i r x : Nat} (h : ShortAt a d (i + 1) out r) (hd : d < 4294967297) (hi : i < a.length) (hl : out.length = a.length) (hx : a.getD i 0 = (x : Int)) (hx2 : x < 4294967296) :
    ShortAt a d i (out.set i (((r * 4294967296 + x) / d : Nat) : Int)) ((r * 4294967296 + x) % d) := by
  have hr := h.lt
  have hq : (r * 4294967296 + x) / d < 4294967296 := by
    rw [Nat.div_lt_iff_lt_mul (by omega)]
    have : (r + 1) * 4294967296 ≤ d * 4294967296 := Nat.mul_le_mul_right _ (by omega)
    omega
  refine ⟨okL_set h.ok _ (limb_nat hq), Nat.mod_lt _ (by omega), fun j hj => by rw [getD_set_ne _ (by omega)]; exact h.z j (by omega), ?_⟩
  have h1 := h.v
  have hio : i < out.length := by omega
  have hz := h.z i (by omega)
  rw [set_val hio hz, val_drop_succ a i hi, hx]
  simp only [Int.toNat_natCast]
  have e0 := Nat.div_add_mod (r * 4294967296 + x) d
  clear hq hio hz hx hx2 hl hr h
  revert h1 e0
  generalize (r * 4294967296 + x) / d = q
  generalize (r * 4294967296 + x) % d = s
  intro h1 e0
  rw [Nat.pow_succ] at h1
  have e1 : (x + 4294967296 * val (a.drop (i + 1))) * 4294967296 ^ i = x * 4294967296 ^ i + val (a.drop (i + 1)) * (4294967296 ^ i * 4294967296) := by
    rw [Nat.add_mul, Nat.mul_comm 4294967296 (val _), Nat.mul_assoc, Nat.mul_comm 4294967296 (4294967296 ^ i)]
  have e2 : r * (4294967296 ^ i * 4294967296) + x * 4294967296 ^ i = (d * q + s) * 4294967296 ^ i := by
    rw [e0, Nat.add_mul, Nat.mul_assoc r, Nat.mul_comm 4294967296 (4294967296 ^ i)]
  rw [e1, h1, Nat.mul_add]
  rw [Nat.add_mul, Nat.mul_assoc d q] at e2
  rw [Nat.add_left_comm, Nat.add_comm (x * _) (r * _), e2, ← Nat.add_assoc]
theorem ShortAt.done {a out : List Int} {d r : Nat} (h : ShortAt a d 0 out r) : val out = val a / d ∧ r = val a % d := by
  have hv := h.v
  simp at hv
  have hr := h.lt
  have h1 : val a / d = val out := by
    rw [hv, Nat.mul_add_div (by omega), Nat.div_eq_of_lt hr]; rfl
  have h2 : val a % d = r := by
    rw [hv, Nat.mul_add_mod, Nat.mod_eq_of_lt hr]
  exact ⟨h1.symm, h2.symm⟩
theorem ShortAt.start (a : List Int) {d : Nat} (hd : 0 < d) : ShortAt a d a.length (List.replicate a.length 0) 0 :=
  ⟨okL_replicate _, hd, fun j _ => getD_zeros _ _, by simp [val_zeros, val]⟩
theorem div32 {r x d : Nat} (hr : r < d) (hx : x < 4294967296) (hd : d < 4294967296) : bits_Div32.f (r : Int) (x : Int) (d : Int) = some ((((r * 4294967296 + x) / d : Nat) : Int), (((r * 4294967296 + x) % d : Nat) : Int)) := by
  unfold bits_Div32.f
  rw [if_pos (by omega)]
  congr 2
theorem short_run (a : List Int) (ha : okL a) (hn : a.length < 1099511627776) (d : Nat) (hd : d < 4294967296) : ∀ (i : Nat), i ≤ a.length → ∀ (out : List Int) (r : Nat), ShortAt a d i out r → out.length = a.length → ∀ k, i + a.length + 3 < k →
    nat_short.l0 k a (d : Int) out (r : Int) ((i : Int) - 1) = some (limbs (val a / d), ((val a % d : Nat) : Int)) := by
  intro i
  induction i with
  | zero =>
    intro _ out r h hl k hk
    obtain ⟨k, rfl⟩ : ∃ m, k = m + 1 := ⟨k - 1, by omega⟩
    simp only [nat_short.l0]
    rw [if_neg (by omega), nat_trim.f, trim_run _ out rfl h.ok (by omega) k (by omega), h.done.1, ← h.done.2]
    rfl
  | succ i ih =>
    intro hi out r h hl k hk
    obtain ⟨k, rfl⟩ : ∃ m, k = m + 1 := ⟨k - 1, by omega⟩
    obtain ⟨x, hx, hx2⟩ := nat_of_ok ha i
    have hs := h.step (by omega) (by omega) hl hx hx2
    have hr := h.lt
    simp only [nat_short.l0]
    rw [show ((i + 1 : Nat) : Int) - 1 = (i : Int) by omega, if_pos (by omega), if_pos (by omega), if_pos (by omega), rd_nat, hx, div32 hr hx2 hd]
    simp only [Option.bind_some]
    rw [if_pos (by omega), w64 (n := (i : Int) - 1) (by omega) (by omega)]
    exact ih (by omega) _ _ hs (by rw [List.length_set]; exact hl) k (by omega)
theorem short_ev {a : List Int} (ha : okL a) (hn : a.length < 1099511627776) {d : Nat} (h0 : 0 < d) (hd : d < 4294967296) : Ev (fun k => nat_short.f k a (d : Int)) (limbs (val a / d), ((val a % d : Nat) : Int)) := by
  refine Ev.mk (2 * a.length + 3) fun k hk => ?_
  unfold nat_short.f
  rw [if_pos (by omega), if_pos (by omega), show ((a.length : Int)).toNat = a.length by omega, w64 (n := (a.length : Int) - 1) (by omega) (by omega)]
  exact short_run a ha hn d hd a.length (Nat.le_refl _) _ 0 (ShortAt.start a h0) (by simp) k (by omega)
end Go.Proofs.YtbejniapdlgpiaaDoor.E
