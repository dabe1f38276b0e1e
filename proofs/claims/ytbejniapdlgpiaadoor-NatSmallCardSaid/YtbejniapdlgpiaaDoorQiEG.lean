/- What is read from a text; small numbers; rows that are the same; the rows near a row. -/
import Derived.Test.YtbejniapdlgpiaaDoorQiEF
namespace Go.Proofs.YtbejniapdlgpiaaDoor.E
open Go.RowKit Go.Proofs.YtbejniapdlgpiaaDoorW.PrintWords Go.Proofs.YtbejniapdlgpiaaDoorW.PrintLast Go.Proofs.YtbejniapdlgpiaaDoorW.PrintMore Go.Proofs.YtbejniapdlgpiaaDoor.M Go.Proofs.YtbejniapdlgpiaaDoor.P

theorem bt_at (s : List UInt8) {i : Nat} (h : i < s.length) : bt (str s) (i : Int) = ((s[i]).toNat : Int) := by
  unfold bt
  rw [dif_pos (by rw [str_size]; simpa using h)]
  rfl
theorem extract_str (s : List UInt8) (a b : Nat) : (str s).extract a b = str ((s.drop a).take (b - a)) := by
  refine eq_str ?_
  have := Lib.extract_toList (str s) a b
  rw [Lib.toList_data, str_data] at this
  exact this
theorem dw_nil {p : UInt8 → Bool} : ∀ {l : List UInt8}, l.dropWhile p = [] ↔ ∀ x ∈ l, p x = true
  | [] => by simp
  | a :: t => by
    rw [List.dropWhile_cons]
    by_cases h : p a = true
    · rw [if_pos h, dw_nil]; simp [h]
    · rw [if_neg h]; simp [h]
set_option maxRecDepth 20000 in
theorem dg : ∀ x : UInt8, [48, 49, 50, 51, 52, 53, 54, 55, 56, 57].contains x = isD x := by
  intro x
  have h : ∀ n : Fin 256, ([48, 49, 50, 51, 52, 53, 54, 55, 56, 57] : List UInt8).contains (UInt8.ofNat n.val) = isD (UInt8.ofNat n.val) := by decide
  have := h ⟨x.toNat, UInt8.toNat_lt x⟩
  rwa [UInt8.ofNat_toNat] at this
theorem trim_digits (s : List UInt8) : Lib.trimS s [48, 49, 50, 51, 52, 53, 54, 55, 56, 57] = [] ↔ allD s = true := by
  unfold Lib.trimS Lib.trimLeftS Lib.trimRightS
  simp only [dg]
  unfold allD
  constructor
  · intro h
    have h1 : ∀ x ∈ (s.reverse.dropWhile isD).reverse, isD x = true := by
      intro x hx
      have := dw_nil.1 h x hx
      exact this
    have h2 : s.reverse.dropWhile isD = [] := by
      cases e : s.reverse.dropWhile isD with
      | nil => rfl
      | cons a t =>
        have h3 : isD a = true := h1 a (by rw [e]; simp)
        have h4 := List.head?_dropWhile_not isD s.reverse
        rw [e] at h4
        simp at h4
        rw [h3] at h4
        simp at h4
    rw [List.all_eq_true]
    intro x hx
    exact dw_nil.1 h2 x (List.mem_reverse.2 hx)
  · intro h
    rw [List.all_eq_true] at h
    have h2 : s.reverse.dropWhile isD = [] := dw_nil.2 fun x hx => h x (List.mem_reverse.1 hx)
    rw [show List.dropWhile (fun x => isD x) s.reverse = [] from h2]
    rfl
/-- What is read. -/
def readS (s : List UInt8) : List Int × Int := if s.length > 600 then ([], 5) else if numeral s = true then (limbs (nv s), 0) else ([], 4)
theorem nv_take {s : List UInt8} {i : Nat} (h : i < s.length) : nv (s.take (i + 1)) = 10 * nv (s.take i) + ((s[i]).toNat - 48) := by
  rw [List.take_succ_eq_append_getElem h, nv_snoc]
theorem len_of_dec {v m M : Nat} (h : v < 10 ^ m) (hm : m ≤ M) : (limbs v).length ≤ M := by
  refine limbs_length_le (Nat.lt_of_lt_of_le h ?_)
  exact Nat.le_trans (Nat.pow_le_pow_right (by decide) hm) (Nat.pow_le_pow_left (by decide) M)
theorem len_mul {v c M : Nat} (h : (limbs v).length ≤ M) (hc : c < 4294967296) : (limbs (v * c)).length ≤ M + 1 := by
  refine limbs_length_le ?_
  rw [limbs_length_lt_iff] at h
  rw [Nat.pow_succ]
  exact Nat.mul_lt_mul_of_lt_of_le h (by omega) (by decide)
theorem nv_limbs_len {s : List UInt8} (h : allD s = true) (hl : s.length ≤ 600) (i : Nat) : (limbs (nv (s.take i))).length < 1000 := by
  have h1 : allD (s.take i) = true := by
    unfold allD at *; rw [List.all_eq_true] at *
    exact fun x hx => h x (List.mem_of_mem_take hx)
  have h4 := len_of_dec (M := 600) (nv_lt _ h1) (by rw [List.length_take]; omega)
  omega
theorem allD_at {s : List UInt8} (h : allD s = true) {i : Nat} (hi : i < s.length) : 48 ≤ (s[i]).toNat ∧ (s[i]).toNat ≤ 57 := by
  unfold allD at h; rw [List.all_eq_true] at h
  exact isD_iff.1 (h _ (List.getElem_mem hi))
theorem contains_f (s : List UInt8) {i : Nat} (hi : i < s.length) : strings_Contains.f (⟨#[48, 49, 50, 51, 52, 53, 54, 55, 56, 57]⟩ : ByteArray) ((str s).extract i (i + 1)) = some (isD s[i]) := by
  rw [extract_str, Nat.add_sub_cancel_left, List.drop_eq_getElem_cons hi]
  unfold strings_Contains.f
  rw [if_pos (by rw [str_size]; rfl), str_data]
  simp only [List.take_succ_cons, List.take_zero, List.getD_cons_zero]
  have := dg s[i]
  rw [← this]
  congr 1
  simp
theorem sub48 {c : Nat} (h1 : 48 ≤ c) (h2 : c ≤ 57) : ((c : Int) - 48) % 256 = ((c - 48 : Nat) : Int) := by omega
theorem limbs_small_len {n : Nat} (h : n < 4294967296) : (limbs n).length ≤ 1 := limbs_length_le (m := 1) (by simpa using h)
theorem read_run (s : List UInt8) (h : allD s = true) (hl : s.length ≤ 600) : ∀ (d i : Nat), s.length - i = d → i ≤ s.length →
    Ev (fun k => nat_Read.l0 k (str s) (limbs (nv (s.take i))) ((str s).size : Int) (i : Int)) (limbs (nv s), 0) := by
  intro d
  induction d with
  | zero =>
    intro i hd hi
    have e : i = s.length := by omega
    subst e
    refine Ev.steps (f := fun _ => some (limbs (nv s), 0)) (fun k => ?_) (Ev.const rfl)
    simp only [nat_Read.l0]
    rw [if_neg (by rw [str_size]; omega), List.take_length]
  | succ d ih =>
    intro i hd hi
    have hil : i < s.length := by omega
    obtain ⟨h1, h2⟩ := allD_at h hil
    have hc : isD s[i] = true := isD_iff.2 ⟨h1, h2⟩
    have hlen := nv_limbs_len h hl i
    refine Ev.steps (f := fun k => (nat_Of.f k 10).bind fun t191 => (nat_times.f k (limbs (nv (s.take i))) t191).bind fun t194 => (nat_Of.f k (((s[i]).toNat - 48 : Nat) : Int)).bind fun t197 => (nat_plus.f k t194 t197).bind fun t200 => nat_Read.l0 k (str s) t200 ((str s).size : Int) ((i + 1 : Nat) : Int)) (fun k => ?_) ?_
    · have e1 : wrap64 ((i : Int) + 1) = ((i + 1 : Nat) : Int) := by rw [w64 (by omega) (by omega)]; rfl
      have hz : (str s).size = s.length := str_size s
      have e2 : ((i : Int)).toNat = i := rfl
      have e3 : (((i + 1 : Nat) : Int)).toNat = i + 1 := rfl
      simp only [nat_Read.l0]
      rw [e1, if_pos (by omega), if_pos (by omega), if_pos (by omega), if_pos (by omega), e2, e3, contains_f s hil, hc]
      simp only [Option.bind_some, if_true]
      simp only [if_pos (show (i : Int) < ((str s).size : Int) by omega), bt_at s hil, sub48 h1 h2]
    · refine Ev.bind (of_ev (by decide) (by decide)) ?_
      refine Ev.bind (times_ev (okL_limbs _) (okL_limbs _) (by omega) (Nat.lt_of_le_of_lt (limbs_small_len (by decide)) (by decide))) ?_
      refine Ev.bind (of_ev (by omega) (by omega)) ?_
      have ha : val (limbs (val (limbs (nv (s.take i))) * val (limbs (10 : Int).toNat))) = 10 * nv (s.take i) := by
        rw [val_limbs, val_limbs, val_limbs]; exact Nat.mul_comm _ _
      have hb : val (limbs ((((s[i]).toNat - 48 : Nat) : Int)).toNat) = (s[i]).toNat - 48 := by rw [val_limbs]; rfl
      refine Ev.bind (plus_ev (okL_limbs _) (okL_limbs _) ?_ ?_) ?_
      · have h3 := len_mul (v := nv (s.take i)) (c := 10) (M := 1000) (by omega) (by decide)
        rw [val_limbs, val_limbs]
        exact Nat.lt_of_le_of_lt h3 (by decide)
      · have h3 : (limbs ((((s[i]).toNat - 48 : Nat) : Int)).toNat).length ≤ 1 := limbs_small_len (by omega)
        omega
      · rw [ha, hb, ← nv_take hil]
        exact ih (i + 1) (by omega) (by omega)
theorem numeral_iff (s : List UInt8) : numeral s = true ↔ s ≠ [] ∧ allD s = true ∧ (s.length = 1 ∨ s.head? ≠ some 48) := by
  unfold numeral
  cases s with
  | nil => simp
  | cons a t => simp
theorem head_bt {s : List UInt8} (h : 0 < s.length) : (bt (str s) 0 = 48) ↔ s.head? = some 48 := by
  have := bt_at s h
  rw [show ((0 : Nat) : Int) = 0 from rfl] at this
  rw [this]
  cases s with
  | nil => simp at h
  | cons a t =>
    simp only [List.getElem_cons_zero, List.head?_cons, Option.some.injEq]
    constructor
    · intro e
      have e2 : a.toNat = 48 := by omega
      exact (u8_of_nat e2)
    · intro e; rw [e]; rfl
theorem trim_f {s : List UInt8} (hl : s.length ≤ 600) : strings_Trim.f (str s) (⟨#[48, 49, 50, 51, 52, 53, 54, 55, 56, 57]⟩ : ByteArray) = some (str (Lib.trimS s [48, 49, 50, 51, 52, 53, 54, 55, 56, 57])) := by
  unfold strings_Trim.f
  rw [if_pos ⟨by rw [str_size]; omega, by decide, by rw [Lib.toList_data]; decide⟩, str_data]
  rfl
theorem Read_ev (s : List UInt8) : Ev (fun k => nat_Read.f k (str s)) (readS s) := by
  have hz : (str s).size = s.length := str_size s
  unfold nat_Read.f readS
  by_cases h1 : s.length > 600
  · refine Ev.congr (f := fun _ => some (([] : List Int), 5)) (fun k => by rw [if_pos (by omega)]) ?_
    rw [if_pos h1]; exact Ev.const rfl
  · rw [if_neg h1]
    by_cases h0 : s = []
    · subst h0
      exact Ev.congr (f := fun _ => some (([] : List Int), (4 : Int))) (fun k => by rw [if_neg (by rw [str_size]; simp), if_pos (str_toList [])]) (Ev.const rfl)
    · have hp := List.length_pos_iff.2 h0
      have ht := trim_f (s := s) (by omega)
      have hk : ∀ k, ((strings_Trim.f (str s) (⟨#[48, 49, 50, 51, 52, 53, 54, 55, 56, 57]⟩ : ByteArray)).bind fun t => if t.toList = ([] : List UInt8) then nat_Read.j0 k (str s) else some (([] : List Int), 4)) = if allD s = true then nat_Read.j0 k (str s) else some (([] : List Int), 4) := by
        intro k
        rw [ht, Option.bind_some, str_toList]
        by_cases h : allD s = true
        · rw [if_pos h, if_pos ((trim_digits s).2 h)]
        · rw [if_neg h, if_neg (fun e => h ((trim_digits s).1 e))]
      refine Ev.congr (f := fun k => if s.length > 1 ∧ s.head? = some 48 then some (([] : List Int), 4) else if allD s = true then nat_Read.j0 k (str s) else some (([] : List Int), 4)) (fun k => ?_) ?_
      · rw [if_neg (by omega), if_neg (by rw [str_toList]; exact h0)]
        by_cases h2 : s.length > 1
        · rw [if_pos (by omega), if_pos (by omega)]
          by_cases h3 : s.head? = some 48
          · rw [if_pos ((head_bt hp).2 h3), if_pos ⟨h2, h3⟩]
          · rw [if_neg (fun e => h3 ((head_bt hp).1 e)), if_neg (fun e => h3 e.2)]
            exact hk k
        · rw [if_neg (by omega), if_neg (fun e => h2 e.1)]
          exact hk k
      · by_cases h2 : s.length > 1 ∧ s.head? = some 48
        · have : ¬ numeral s = true := by
            rw [numeral_iff]
            rintro ⟨_, _, h | h⟩
            · omega
            · exact h h2.2
          simp only [if_pos h2, if_neg this]
          exact Ev.const rfl
        · by_cases h3 : allD s = true
          · have : numeral s = true := by
              rw [numeral_iff]
              refine ⟨h0, h3, ?_⟩
              by_cases h4 : s.length = 1
              · exact .inl h4
              · exact .inr fun e => h2 ⟨by omega, e⟩
            simp only [if_neg h2, if_pos h3, if_pos this]
            refine Ev.steps (f := fun k => nat_Read.l0 k (str s) (limbs (nv (s.take 0))) ((str s).size : Int) ((0 : Nat) : Int)) (fun k => by simp only [nat_Read.j0]; rw [List.take_zero, nv_nil, limbs_zero]; rfl) ?_
            exact read_run s h3 (by omega) s.length 0 (by omega) (by omega)
          · have : ¬ numeral s = true := by
              rw [numeral_iff]
              exact fun h => h3 h.2.1
            simp only [if_neg h2, if_neg h3, if_neg this]
            exact Ev.const rfl
end Go.Proofs.YtbejniapdlgpiaaDoor.E
