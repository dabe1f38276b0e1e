/- Texts of numbers, and what is read; small numbers; rows that are the same. -/
import Derived.Test.YtbejniapdlgpiaaDoorQiEE
import Derived.Test.YtbejniapdlgpiaaDoorQiMD
namespace Go.Proofs.YtbejniapdlgpiaaDoor.E
open Go.RowKit Go.Proofs.YtbejniapdlgpiaaDoorW.PrintWords Go.Proofs.YtbejniapdlgpiaaDoorW.PrintLast Go.Proofs.YtbejniapdlgpiaaDoorW.PrintMore Go.Proofs.YtbejniapdlgpiaaDoor.M Go.Proofs.YtbejniapdlgpiaaDoor.P

theorem nv_append (a b : List UInt8) : nv (a ++ b) = nv a * 10 ^ b.length + nv b := by
  have key : ∀ (n : Nat) (b : List UInt8), b.length = n → nv (a ++ b) = nv a * 10 ^ b.length + nv b := by
    intro n
    induction n with
    | zero => intro b hb; obtain rfl := List.eq_nil_of_length_eq_zero hb; simp [nv]
    | succ n ih =>
      intro b hb
      obtain ⟨c, d, rfl⟩ : ∃ c d, b = c ++ [d] := by
        have hne : b ≠ [] := by rintro rfl; simp at hb
        exact ⟨b.dropLast, b.getLast hne, (List.dropLast_concat_getLast hne).symm⟩
      have := ih c (by simp at hb; exact hb)
      rw [← List.append_assoc, nv_snoc, nv_snoc, this, List.length_append, List.length_singleton, Nat.pow_succ, Nat.mul_add, ← Nat.mul_assoc (nv a), Nat.mul_comm _ 10, Nat.add_assoc]
  exact key b.length b rfl
theorem nv_cons (c : UInt8) (l : List UInt8) : nv (c :: l) = (c.toNat - 48) * 10 ^ l.length + nv l := by
  have := nv_append [c] l
  simpa [nv] using this

theorem rd_mid (L : List Int) (a : Int) (R : List Int) {i : Int} (h : i = L.length) : rd (L ++ a :: R) i = a := by
  rw [rd_at _ (j := L.length) h, List.getD_eq_getElem?_getD, List.getElem?_append_right (Nat.le_refl _)]; simp
theorem set_mid (L : List Int) (a v : Int) (R : List Int) {i : Nat} (h : i = L.length) : (L ++ a :: R).set i v = L ++ v :: R := by
  subst h
  rw [List.set_append_right _ _ (Nat.le_refl _)]; simp
theorem rev_run : ∀ (n : Nat) (L M R : List Int), M.length = n → (L ++ M ++ R).length < 4611686018427387904 → ∀ k, n < k →
    slices_Reverse_byte_byte.l0 k (L ++ M ++ R) (L.length : Int) ((L.length : Int) + M.length - 1) = some (L ++ M.reverse ++ R) := by
  intro n
  induction n using Nat.strongRecOn with
  | _ n ih =>
    intro L M R hn hl k hk
    obtain ⟨k, rfl⟩ : ∃ m, k = m + 1 := ⟨k - 1, by omega⟩
    have hl2 : (L ++ M ++ R).length = L.length + M.length + R.length := by simp [Nat.add_assoc]
    simp only [slices_Reverse_byte_byte.l0]
    by_cases h2 : M.length < 2
    · rw [if_neg (by omega)]
      cases M with
      | nil => rfl
      | cons a M =>
        cases M with
        | nil => rfl
        | cons b M => simp at h2; omega
    · obtain ⟨a, M', b, rfl⟩ : ∃ a M' b, M = a :: (M' ++ [b]) := by
        cases M with
        | nil => simp at h2
        | cons a M =>
          have hne : M ≠ [] := by rintro rfl; simp at h2
          exact ⟨a, M.dropLast, M.getLast hne, by rw [List.dropLast_concat_getLast hne]⟩
      have e1 : L ++ a :: (M' ++ [b]) ++ R = L ++ a :: (M' ++ b :: R) := by simp
      have e2 : L ++ a :: (M' ++ b :: R) = (L ++ a :: M') ++ b :: R := by simp
      have e3 : L ++ b :: (M' ++ b :: R) = (L ++ b :: M') ++ b :: R := by simp
      have e4 : (L ++ b :: M') ++ a :: R = (L ++ [b]) ++ M' ++ (a :: R) := by simp
      have hm : (a :: (M' ++ [b])).length = M'.length + 2 := by simp
      have hr1 : rd (L ++ a :: (M' ++ b :: R)) (L.length : Int) = a := rd_mid L a _ rfl
      have hr2 : rd (L ++ a :: (M' ++ b :: R)) ((L.length : Int) + (a :: (M' ++ [b])).length - 1) = b := by rw [e2]; exact rd_mid _ b R (by rw [hm]; simp; omega)
      rw [if_pos (by rw [hm]; omega), if_pos (by rw [hm]; omega), if_pos (by omega), if_pos (by omega), if_pos (by omega), w64 (n := (L.length : Int) + 1) (by omega) (by omega), w64 (n := (L.length : Int) + (a :: (M' ++ [b])).length - 1 - 1) (by omega) (by omega), e1, hr1, hr2]
      rw [set_mid L a b _ (by omega), e3, set_mid (L ++ b :: M') b a R (by rw [hm]; simp; omega), e4]
      have := ih M'.length (by omega) (L ++ [b]) M' (a :: R) rfl (by rw [hl2, hm] at hl; simp; omega) k (by omega)
      rw [show ((L ++ [b]).length : Int) = (L.length : Int) + 1 by simp] at this
      rw [show (L.length : Int) + (a :: (M' ++ [b])).length - 1 - 1 = (L.length : Int) + 1 + M'.length - 1 by rw [hm]; omega, this]
      simp
theorem rev_ev {l : List Int} (h : l.length < 4611686018427387904) : Ev (fun k => slices_Reverse_byte_byte.f k l) l.reverse := by
  refine Ev.mk l.length fun k hk => ?_
  unfold slices_Reverse_byte_byte.f
  rw [w64 (by omega) (by omega)]
  have := rev_run l.length [] l [] rfl (by simpa using h) k hk
  simpa using this

def nums8 (ds : List UInt8) : List Int := ds.map fun c => (c.toNat : Int)
theorem nums8_append (a b : List UInt8) : nums8 (a ++ b) = nums8 a ++ nums8 b := by simp [nums8]
theorem nums8_reverse (a : List UInt8) : (nums8 a).reverse = nums8 a.reverse := by simp [nums8]
theorem strOfNums_nums8 (ds : List UInt8) : strOfNums (nums8 ds) = str ds := by
  unfold strOfNums nums8 str
  rw [List.map_map]
  congr 2
  conv => rhs; rw [← List.map_id ds]
  refine List.map_congr_left fun c _ => ?_
  simp
theorem bt_digits {d : Nat} (h : d < 10) : bt (⟨#[48, 49, 50, 51, 52, 53, 54, 55, 56, 57]⟩ : ByteArray) (d : Int) = ((48 + d : Nat) : Int) := by
  have : d = 0 ∨ d = 1 ∨ d = 2 ∨ d = 3 ∨ d = 4 ∨ d = 5 ∨ d = 6 ∨ d = 7 ∨ d = 8 ∨ d = 9 := by omega
  rcases this with rfl | rfl | rfl | rfl | rfl | rfl | rfl | rfl | rfl | rfl <;> rfl
/-- What holds of the digits that were written, the lowest first. -/
structure TextAt (V : Nat) (ds : List UInt8) (more : Nat) : Prop where
  d : allD ds = true
  v : nv ds.reverse + 10 ^ ds.length * more = V
theorem TextAt.step {V : Nat} {ds : List UInt8} {x v j : Nat} (h : TextAt V ds (x + 10 ^ (j + 1) * v)) : TextAt V (ds ++ [UInt8.ofNat (48 + x % 10)]) (x / 10 + 10 ^ j * v) := by
  refine ⟨?_, ?_⟩
  · rw [allD_append, h.d]; simp only [allD, List.all_cons, List.all_nil, isD_digit]; rfl
  · have hv := h.v
    rw [List.reverse_append, List.reverse_cons, List.reverse_nil, List.nil_append, List.singleton_append, nv_cons, digit_toNat, List.length_reverse, List.length_append, List.length_singleton, Nat.pow_succ, ← hv, Nat.add_comm (_ * _) (nv _), Nat.add_assoc, Nat.add_sub_cancel_left]
    congr 1
    rw [Nat.mul_comm (x % 10), Nat.mul_assoc, ← Nat.mul_add]
    congr 1
    rw [Nat.pow_succ, Nat.mul_add, Nat.mul_comm (10 ^ j) 10, Nat.mul_assoc, ← Nat.add_assoc]
    congr 1
    omega
theorem text_end (V : Nat) (ds : List UInt8) (h : TextAt V ds 0) (hl : ds.length ≤ 100000) : Ev (fun k => nat_Text.l0 k (nums8 ds) []) (str (textL V), 0) := by
  have hv : nv ds.reverse = V := by have := h.v; omega
  have hr : allD ds.reverse = true := by have := h.d; simpa [allD] using this
  refine Ev.steps (f := fun k => (slices_Reverse_byte_byte.f k (nums8 ds)).bind fun t => (nat_cutLeft.f (strOfNums t) ((⟨#[48, 49, 50, 51, 52, 53, 54, 55, 56, 57]⟩ : ByteArray).extract 0 1)).bind fun u => if u.toList = ([] : List UInt8) then some ((⟨#[48, 49, 50, 51, 52, 53, 54, 55, 56, 57]⟩ : ByteArray).extract 0 1, 0) else some (u, 0)) (fun k => by
    simp only [nat_Text.l0]; rw [if_neg (by simp)]; simp) ?_
  refine Ev.bind (rev_ev (by simp [nums8]; omega)) (Ev.const ?_)
  rw [nums8_reverse, strOfNums_nums8]
  have hc : nat_cutLeft.f (str ds.reverse) ((⟨#[48, 49, 50, 51, 52, 53, 54, 55, 56, 57]⟩ : ByteArray).extract 0 1) = some (str (decL V)) := by
    have ha : ∀ x ∈ (str ds.reverse).toList, x < 128 := by
      intro x hx
      rw [str_toList] at hx
      have := isD_iff.1 (List.all_eq_true.1 hr x hx)
      rw [UInt8.lt_iff_toNat_lt]
      have e : (128 : UInt8).toNat = 128 := rfl
      omega
    have hz : (str ds.reverse).size ≤ 1048576 := by rw [str_size, List.length_reverse]; omega
    unfold nat_cutLeft.f
    rw [if_pos ⟨by decide, ha, by omega⟩, str_toList]
    have e := decL_nv hr
    rw [hv] at e
    rw [e]
    rfl
  rw [hc]
  simp only [Option.bind_some, str_toList]
  unfold textL
  by_cases h0 : V = 0
  · rw [if_pos (decL_eq_nil.2 h0), if_pos h0]; rfl
  · rw [if_neg (fun e => h0 (decL_eq_nil.1 e)), if_neg h0]
theorem text_l1 (V v : Nat) (x6 : List Int) (r : ByteArray × Int) (N : Nat) (hN : N + 9 ≤ 100000) (hnext : ∀ ds : List UInt8, TextAt V ds v → ds.length = N + 9 → Ev (fun k => nat_Text.l0 k (nums8 ds) x6) r) :
    ∀ (j : Nat), j ≤ 9 → ∀ (ds : List UInt8) (x : Nat), x < 10 ^ j → TextAt V ds (x + 10 ^ j * v) → ds.length + j = N + 9 → Ev (fun k => nat_Text.l1 k (nums8 ds) x6 (x : Int) ((9 - j : Nat) : Int)) r := by
  intro j
  induction j with
  | zero =>
    intro _ ds x hx h hl
    obtain rfl : x = 0 := by simpa using hx
    refine Ev.steps (f := fun k => nat_Text.l0 k (nums8 ds) x6) (fun k => by simp only [nat_Text.l1]; rw [if_neg (by omega)]) ?_
    exact hnext ds (by simpa using h) (by omega)
  | succ j ih =>
    intro hj ds x hx h hl
    have et : Int.tmod (x : Int) 10 = ((x % 10 : Nat) : Int) := rfl
    have ed : Int.tdiv (x : Int) 10 = ((x / 10 : Nat) : Int) := rfl
    have hx9 : x < 10 ^ 9 := Nat.lt_of_lt_of_le hx (Nat.pow_le_pow_right (by omega) (by omega))
    have hnl : (nums8 ds).length = ds.length := by simp [nums8]
    refine Ev.steps (f := fun k => nat_Text.l1 k (nums8 (ds ++ [UInt8.ofNat (48 + x % 10)])) x6 ((x / 10 : Nat) : Int) ((9 - j : Nat) : Int)) (fun k => ?_) ?_
    · simp only [nat_Text.l1]
      rw [if_pos (by omega), et, if_pos (by omega), if_pos (by omega), if_pos (by rw [hnl]; omega), ed, bt_digits (Nat.mod_lt _ (by omega)), w64 (n := ((9 - (j + 1) : Nat) : Int) + 1) (by omega) (by omega), nums8_append, show ((9 - (j + 1) : Nat) : Int) + 1 = ((9 - j : Nat) : Int) by omega, show ((x / 10 : Nat) : Int) % 4294967296 = ((x / 10 : Nat) : Int) by omega]
      simp only [nums8, List.map_cons, List.map_nil, digit_toNat]
    · exact ih (by omega) _ _ (by rw [Nat.pow_succ] at hx; omega) h.step (by rw [List.length_append, List.length_singleton]; omega)
theorem text_l0 (V : Nat) : ∀ (m : Nat) (ds : List UInt8) (x : List Int), canB x → x.length < 1000000 → val x < 10 ^ (9 * m) → ds.length + 9 * m ≤ 100000 → TextAt V ds (val x) → Ev (fun k => nat_Text.l0 k (nums8 ds) x) (str (textL V), 0) := by
  intro m
  induction m with
  | zero =>
    intro ds x hx _ hv hl h
    have h0 : val x = 0 := by simpa using hv
    obtain rfl := (canB_val_zero hx).1 h0
    exact text_end V ds (by simpa [val] using h) (by omega)
  | succ m ih =>
    intro ds x hx hxl hv hl h
    by_cases h0 : x = []
    · subst h0
      exact text_end V ds (by simpa [val] using h) (by omega)
    · have hp := List.length_pos_iff.2 h0
      refine Ev.steps (f := fun k => (nat_short.f k x 1000000000).bind fun t => nat_Text.l1 k (nums8 ds) t.1 t.2 0) (fun k => by simp only [nat_Text.l0]; rw [if_pos (by omega)]) ?_
      refine Ev.bind (short_ev hx.1 (by omega) (d := 1000000000) (by omega) (by omega)) ?_
      have hb := text_l1 V (val x / 1000000000) (limbs (val x / 1000000000)) (str (textL V), 0) ds.length (by omega) (fun ds2 h2 hl2 => by
        refine ih ds2 _ (canB_limbs _) ?_ ?_ (by omega) (by rw [val_limbs]; exact h2)
        · refine Nat.lt_of_le_of_lt (limbs_length_le (m := x.length) ?_) hxl
          exact Nat.lt_of_le_of_lt (Nat.div_le_self _ _) (val_lt hx.1)
        · rw [val_limbs, Nat.div_lt_iff_lt_mul (by omega)]
          rw [show 9 * (m + 1) = 9 * m + 9 by omega, Nat.pow_add] at hv
          exact hv) 9 (by omega) ds (val x % 1000000000) (Nat.mod_lt _ (by omega)) (by
          have : val x % 1000000000 + 10 ^ 9 * (val x / 1000000000) = val x := Nat.mod_add_div _ _
          rw [this]; exact h) (by omega)
      exact hb
def textS (a : List Int) : ByteArray × Int := if chk a = 0 then (str (textL (val a)), 0) else (str [], chk a)
theorem big_dec (m e : Nat) (h : 10 * m < e) : (4294967296 : Nat) ^ m < 10 ^ e := by
  have h1 : (4294967296 : Nat) ^ m ≤ (10 ^ 10) ^ m := Nat.pow_le_pow_left (by omega) m
  rw [← Nat.pow_mul] at h1
  exact Nat.lt_of_le_of_lt h1 (Nat.pow_lt_pow_right (by omega) h)
theorem val_big {a : List Int} (ha : okL a) (h : a.length ≤ 64) (e : Nat) (he : 10 * 64 < e) : val a < 10 ^ e := Nat.lt_trans (val_lt_of_length ha h) (big_dec 64 e he)
theorem Text_ev {a : List Int} (ha : okL a) : Ev (fun k => nat_Text.f k a) (textS a) := by
  refine Ev.congr (f := fun k => if chk a = 0 then nat_Text.l0 k [] a else some ((⟨#[]⟩ : ByteArray), chk a)) (fun k => by unfold nat_Text.f; rw [check]; rfl) ?_
  refine ev_ite (fun h => ?_) (fun _ => Ev.const rfl)
  obtain ⟨h1, h2⟩ := (chk_zero ha).1 h
  obtain ⟨m, hm⟩ : ∃ m : Nat, m = 72 := ⟨72, rfl⟩
  exact text_l0 (val a) m [] a h2 (by omega) (val_big ha h1 (9 * m) (by omega)) (by simp; omega) ⟨rfl, by simp [nv]⟩
end Go.Proofs.YtbejniapdlgpiaaDoor.E
