/- Of the laws of nat: NatBack holds in plain numbers. -/
import Derived.Test.YtbejniapdlgpiaaDoorQdEK
namespace Go.Proofs.YtbejniapdlgpiaaDoor.E
open Go.RowKit Go.Proofs.YtbejniapdlgpiaaDoorW.PrintWords Go.Proofs.YtbejniapdlgpiaaDoorW.PrintLast Go.Proofs.YtbejniapdlgpiaaDoorW.PrintMore Go.Proofs.YtbejniapdlgpiaaDoor.M Go.Proofs.YtbejniapdlgpiaaDoor.P

theorem dec_lt {v m M : Nat} (h : v < 10 ^ m) (hm : m ≤ 9 * M) : Lt M v := by
  unfold Lt
  refine Nat.lt_of_lt_of_le h (Nat.le_trans (Nat.pow_le_pow_right (by decide) hm) ?_)
  rw [Nat.pow_mul]
  exact Nat.pow_le_pow_left (by decide) M
theorem textL_len {x : Nat} (hx : Lt 16 x) : (textL x).length ≤ 600 := by
  unfold textL
  by_cases h : x = 0
  · rw [if_pos h]; decide
  · rw [if_neg h]
    have := decL_length_le (n := x) (m := 161) (Nat.lt_trans hx (big_dec 16 161 (by decide)))
    omega
theorem readS_num {s : List UInt8} (h : numeral s = true) (hl : s.length ≤ 600) : readS s = (limbs (nv s), 0) := by
  unfold readS; rw [if_neg (by omega), if_pos h]
theorem trimLeft_f {t : List UInt8} (hl : t.length ≤ 1000) : strings_TrimLeft.f (str t) (⟨#[48]⟩ : ByteArray) = some (str (t.dropWhile (· == 48))) := by
  unfold strings_TrimLeft.f
  rw [if_pos ⟨by rw [str_size]; omega, by decide, by rw [Lib.toList_data]; decide⟩, str_data]
  have : (fun x : UInt8 => ([48] : List UInt8).contains x) = fun x => x == 48 := by
    funext x; rw [Bool.eq_iff_iff]; simp
  unfold Lib.trimLeftS
  show some (str (t.dropWhile (fun x : UInt8 => ([48] : List UInt8).contains x))) = _
  rw [this]
theorem back_j2 {t : List UInt8} (ht : allD t = true) (hl : t.length ≤ 300) : Ev (fun k => driftnetlaw01_NatBack.j2 k (str t)) true := by
  obtain ⟨u, hu⟩ : ∃ u, u = t.dropWhile (· == 48) := ⟨_, rfl⟩
  have hsub : u.Sublist t := by rw [hu]; exact List.dropWhile_sublist _
  have hul : u.length ≤ 300 := Nat.le_trans hsub.length_le hl
  have hud : allD u = true := by
    unfold allD at *; rw [List.all_eq_true] at *
    exact fun x hx => ht x (hsub.subset hx)
  have hh : u.head? ≠ some 48 := by
    have := List.head?_dropWhile_not (fun x : UInt8 => x == 48) t
    rw [← hu] at this
    intro e
    rw [e] at this
    simp at this
  refine Ev.steps (f := fun k => if u = ([] : List UInt8) then some true else ((nat_Read.f k (str u)).bind fun bt712 => ((nat_Text.f k bt712.1).bind fun bt716 => ((nat_Read.f k (str (u ++ [48]))).bind fun bt718 => ((nat_Of.f k 10).bind fun t722 => ((nat_Mul.f k bt712.1 t722).bind fun bt725 => (if bt712.2 = 0 then (if bt716.2 = 0 then (if bt716.1.toList = u then (if bt718.2 = 0 then (if bt725.2 = 0 then ((driftnetref01_Eq.f k bt718.1 bt725.1).bind fun t729 => (some t729)) else (none)) else (none)) else (none)) else (none)) else (none)))))))) (fun k => ?_) ?_
  · simp only [driftnetlaw01_NatBack.j2]
    rw [trimLeft_f (by omega), ← hu]
    have hsz : (str u).size + 1 ≤ 9223372036854775807 := by rw [str_size]; omega
    have hap : str u ++ (⟨#[48]⟩ : ByteArray) = str (u ++ [48]) := str_append u [48]
    simp only [Option.bind_some, str_toList, if_pos hsz, hap]
  · by_cases h0 : u = []
    · simp only [if_pos h0]; exact Ev.const rfl
    · simp only [if_neg h0]
      have hp := List.length_pos_iff.2 h0
      have hnum : numeral u = true := (numeral_iff u).2 ⟨h0, hud, .inr hh⟩
      have hd2 : allD (u ++ [48]) = true := by rw [allD_append, hud]; rfl
      have hnum2 : numeral (u ++ [48]) = true := (numeral_iff _).2 ⟨by simp, hd2, .inr (by
        cases u with
        | nil => exact absurd rfl h0
        | cons a r => simpa using hh)⟩
      have hv2 : nv (u ++ [48]) = nv u * 10 := by rw [nv_snoc, Nat.mul_comm]; rfl
      have hlt : Lt 63 (nv u) := dec_lt (nv_lt u hud) (by omega)
      have r1 := Read_ev u
      have r2 := Read_ev (u ++ [48])
      rw [readS_num hnum (by omega)] at r1
      rw [readS_num hnum2 (by simp; omega), hv2] at r2
      refine Ev.bind r1 (Ev.bind (Text_l (hlt.up (by decide))) (Ev.bind r2 (Ev.bind (Of_n 10 (by decide)) (Ev.bind (Mul_l (hlt.up (by decide)) (lt_lit (by decide) (by decide))) ?_))))
      simp only [if_true, str_toList, textL_nv hnum]
      exact Ev.bind (Eq_s ((hlt.mul (lt_one (n := 10) (by decide)) (l := 64) (by decide)).up (by decide))) (Ev.const rfl)
theorem back_l0 {l : List Int} (hw : ∀ x ∈ l, 0 ≤ x ∧ x < 256) (_hl : l.length < 4611686018427387904) : ∀ (d i : Nat) (t : List UInt8), 300 - i = d → i ≤ 300 → t.length = i → allD t = true → Ev (fun k => driftnetlaw01_NatBack.l0 k l (str t) (i : Int)) true := by
  intro d
  induction d with
  | zero =>
    intro i t hd hi ht ha
    refine Ev.steps (f := fun k => driftnetlaw01_NatBack.j2 k (str t)) (fun k => ?_) (back_j2 ha (by omega))
    simp only [driftnetlaw01_NatBack.l0]
    rw [if_neg (show ¬ ((i : Int) < 300) by omega)]
    simp
  | succ d ih =>
    intro i t hd hi ht ha
    by_cases h : i < l.length
    · obtain ⟨v, hv, hv2⟩ : ∃ v : Nat, l.getD i 0 = v ∧ v < 256 := by
        have := hw (l.getD i 0) (by rw [getD_lt h]; exact List.getElem_mem h)
        exact ⟨(l.getD i 0).toNat, by omega, by omega⟩
      have e1 : (48 + Int.tmod (rd l (i : Int)) 10) % 256 = ((48 + v % 10 : Nat) : Int) := by
        rw [rd_nat, hv]
        have : Int.tmod (v : Int) 10 = ((v % 10 : Nat) : Int) := rfl
        rw [this]; omega
      have e2 : strOfNums [((48 + v % 10 : Nat) : Int)] = str [UInt8.ofNat (48 + v % 10)] := by
        have := strOfNums_nums8 [UInt8.ofNat (48 + v % 10)]
        simp only [nums8, List.map_cons, List.map_nil, digit_toNat] at this
        exact this
      have hsz : (str t).size + (str [UInt8.ofNat (48 + v % 10)]).size ≤ 9223372036854775807 := by rw [str_size, str_size]; simp; omega
      refine Ev.steps (f := fun k => driftnetlaw01_NatBack.l0 k l (str (t ++ [UInt8.ofNat (48 + v % 10)])) ((i + 1 : Nat) : Int)) (fun k => ?_) ?_
      · simp only [driftnetlaw01_NatBack.l0]
        rw [if_pos (by omega), if_pos (by omega), if_pos (by omega), e1, w64 (by omega) (by omega)]
        simp only [Option.bind_some, e2, if_pos hsz, str_append]
        rfl
      · refine ih (i + 1) _ (by omega) (by omega) (by simp; omega) ?_
        rw [allD_append, ha]; simp only [allD, List.all_cons, List.all_nil, isD_digit]; rfl
    · refine Ev.steps (f := fun k => driftnetlaw01_NatBack.j2 k (str t)) (fun k => ?_) (back_j2 ha (by omega))
      simp only [driftnetlaw01_NatBack.l0]
      rw [if_neg (by omega)]
theorem u8_wf {l : List Int} (h : ∀ x ∈ l, (Lit.int .u8 x).wf = true) : ∀ x ∈ l, 0 ≤ x ∧ x < 256 := fun x hx => by
  have h2 := h x hx
  simp [Lit.wf] at h2
  exact ⟨h2.1, Int.lt_of_le_of_lt h2.2 (by decide)⟩
theorem NatBack_pure : driftnetlaw01_NatBack.Pure := by
  intro l0 l1 _ h0 w0 _ h1 w1
  obtain ⟨x, hx, ex⟩ := near_l h0 w0
  have hx' : Lt 64 x := hx.up (by decide)
  have hnum := numeral_textL x
  have r1 := Read_ev (textL x)
  rw [readS_num hnum (textL_len hx), nv_textL] at r1
  have hp : 0 < (textL x).length := List.length_pos_iff.2 (textL_ne x)
  have hsz : 0 < ((str (textL x)).size : Int) := by rw [str_size]; omega
  have hj : Ev (fun k => driftnetlaw01_NatBack.j0 k l1 false) true := by
    refine Ev.steps (f := fun k => driftnetlaw01_NatBack.l0 k l1 (str []) ((0 : Nat) : Int)) (fun k => by simp only [driftnetlaw01_NatBack.j0]; rfl) ?_
    exact back_l0 (u8_wf w1) (by omega) 300 0 [] (by omega) (by omega) rfl rfl
  refine Ev.some ?_
  unfold driftnetlaw01_NatBack.f
  refine Ev.bind works_ev ?_
  simp only [if_true]
  refine Ev.bind ex (Ev.bind (Text_l hx') (Ev.bind r1 ?_))
  simp only [if_true]
  refine Ev.bind (Eq_s (hx.up (by decide))) ?_
  simp only [if_true, str_toList, if_neg (textL_ne x), if_pos hsz]
  by_cases h : x = 0
  · subst h
    have e1 : bt (str (textL 0)) 0 = 48 := by
      rw [head_bt hp]; rfl
    have e2 : (textL 0 != [48]) = false := by decide
    simp only [if_pos e1, e2]
    exact hj
  · have e1 : ¬ bt (str (textL x)) 0 = 48 := by
      rw [head_bt hp]
      unfold textL; rw [if_neg h]; exact head_decL
    simp only [if_neg e1]
    exact hj
end Go.Proofs.YtbejniapdlgpiaaDoor.E
