/- Rows that are the same, the rows near a row, small numbers, the reference's Read, and what works. -/
import Derived.Test.YtbejniapdlgpiaaDoorQaEG
namespace Go.Proofs.YtbejniapdlgpiaaDoor.E
open Go.RowKit Go.Proofs.YtbejniapdlgpiaaDoorW.PrintWords Go.Proofs.YtbejniapdlgpiaaDoorW.PrintLast Go.Proofs.YtbejniapdlgpiaaDoorW.PrintMore Go.Proofs.YtbejniapdlgpiaaDoor.M Go.Proofs.YtbejniapdlgpiaaDoor.P

theorem not_digit {s : List UInt8} {i : Nat} (hi : i < s.length) (h : isD s[i] = false) : ¬ allD s = true := by
  intro ha
  have h2 := allD_at ha hi
  have := isD_iff.2 h2
  rw [h] at this
  simp at this
theorem rread_run (s : List UInt8) (hl : s.length ≤ 600) : ∀ (d i : Nat), s.length - i = d → i ≤ s.length → allD (s.take i) = true →
    Ev (fun k => driftnetref01_Read.l0 k (str s) (limbs (nv (s.take i))) (i : Int)) (if allD s = true then (limbs (nv s), 0) else ([], 4)) := by
  intro d
  induction d with
  | zero =>
    intro i hd hi ht
    have e : i = s.length := by omega
    subst e
    rw [List.take_length] at ht
    rw [if_pos ht]
    refine Ev.steps (f := fun _ => some (limbs (nv s), 0)) (fun k => ?_) (Ev.const rfl)
    simp only [driftnetref01_Read.l0]
    rw [if_neg (by rw [str_size]; omega), List.take_length]
  | succ d ih =>
    intro i hd hi ht
    have hil : i < s.length := by omega
    have hz : (str s).size = s.length := str_size s
    have e1 : wrap64 ((i : Int) + 1) = ((i + 1 : Nat) : Int) := by rw [w64 (by omega) (by omega)]; rfl
    refine Ev.steps (f := fun k => driftnetref01_Read.j2 k (str s) (limbs (nv (s.take i))) (i : Int) (!isD s[i])) (fun k => ?_) ?_
    · simp only [driftnetref01_Read.l0]
      rw [if_pos (by omega), if_pos (by omega), bt_at s hil]
      by_cases h1 : ((s[i]).toNat : Int) < 48
      · rw [if_pos h1]
        have : isD s[i] = false := by unfold isD; simp; omega
        rw [this]; rfl
      · rw [if_neg h1]
        congr 1
        unfold isD
        rw [show decide (48 ≤ (s[i]).toNat) = true from decide_eq_true (by omega), Bool.true_and]
        by_cases h2 : (s[i]).toNat ≤ 57
        · rw [decide_eq_true h2]; simp; omega
        · rw [decide_eq_false h2]; simp; omega
    · cases hc : isD s[i] with
      | false =>
        rw [if_neg (not_digit hil hc)]
        exact Ev.steps (f := fun _ => some (([] : List Int), 4)) (fun k => by simp only [driftnetref01_Read.j2]; rfl) (Ev.const rfl)
      | true =>
        obtain ⟨h1, h2⟩ := isD_iff.1 hc
        have ht2 : allD (s.take (i + 1)) = true := by
          rw [List.take_succ_eq_append_getElem hil, allD_append, ht, Bool.true_and]
          unfold allD; simp [hc]
        have hlen : (limbs (nv (s.take i))).length ≤ 600 := len_of_dec (nv_lt _ ht) (by rw [List.length_take]; omega)
        refine Ev.steps (f := fun k => (driftnetref01_mul.f k (limbs (nv (s.take i))) ([10] : List Int)).bind fun t491 => (driftnetref01_Of.f k (((s[i]).toNat - 48 : Nat) : Int)).bind fun t494 => (driftnetref01_add.f k t491 t494).bind fun t497 => driftnetref01_Read.l0 k (str s) t497 ((i + 1 : Nat) : Int)) (fun k => ?_) ?_
        · simp only [driftnetref01_Read.j2, Bool.not_true, Bool.false_eq_true, if_false]
          congr 1; funext t
          rw [if_pos (by omega), if_pos (by omega), bt_at s hil, sub48 h1 h2, e1]
        · have h10 : okL [10] := by intro x hx; simp at hx; omega
          refine Ev.bind (rmul_ev (okL_limbs _) h10 (by omega) (by decide)) ?_
          refine Ev.bind (rof_ev (by omega) (by omega)) ?_
          have ha : val (limbs (val (limbs (nv (s.take i))) * val [10])) = 10 * nv (s.take i) := by
            rw [val_limbs, val_limbs]; exact Nat.mul_comm _ _
          have hb : val (limbs ((((s[i]).toNat - 48 : Nat) : Int)).toNat) = (s[i]).toNat - 48 := by rw [val_limbs]; rfl
          refine Ev.bind (radd_ev (okL_limbs _) (okL_limbs _) ?_ ?_) ?_
          · have h3 := len_mul (v := nv (s.take i)) (c := 10) (M := 600) hlen (by decide)
            rw [val_limbs]
            exact Nat.lt_of_le_of_lt h3 (by decide)
          · have h3 : (limbs ((((s[i]).toNat - 48 : Nat) : Int)).toNat).length ≤ 1 := limbs_small_len (by omega)
            omega
          · rw [ha, hb, ← nv_take hil]
            exact ih (i + 1) (by omega) (by omega) ht2
theorem rRead_ev (s : List UInt8) : Ev (fun k => driftnetref01_Read.f k (str s)) (readS s) := by
  have hz : (str s).size = s.length := str_size s
  unfold driftnetref01_Read.f readS
  have hrun : s.length ≤ 600 → Ev (fun k => driftnetref01_Read.j0 k (str s) false) (if allD s = true then (limbs (nv s), 0) else ([], 4)) := fun hl => by
    refine Ev.steps (f := fun k => driftnetref01_Read.l0 k (str s) (limbs (nv (s.take 0))) ((0 : Nat) : Int)) (fun k => by simp only [driftnetref01_Read.j0]; rw [List.take_zero, nv_nil, limbs_zero]; rfl) ?_
    exact rread_run s hl s.length 0 (by omega) (by omega) (by rw [List.take_zero]; rfl)
  have hbad : Ev (fun k => driftnetref01_Read.j0 k (str s) true) (([] : List Int), (4 : Int)) :=
    Ev.steps (f := fun _ => some (([] : List Int), 4)) (fun k => by simp only [driftnetref01_Read.j0]; rfl) (Ev.const rfl)
  by_cases h1 : s.length > 600
  · refine Ev.congr (f := fun _ => some (([] : List Int), 5)) (fun k => by rw [if_pos (by omega)]) ?_
    rw [if_pos h1]; exact Ev.const rfl
  · rw [if_neg h1]
    by_cases h0 : s = []
    · subst h0
      exact Ev.congr (f := fun k => driftnetref01_Read.j0 k (str []) true) (fun k => by rw [if_neg (by omega), if_pos (str_toList [])]) hbad
    · have hp := List.length_pos_iff.2 h0
      by_cases h2 : s.length > 1 ∧ s.head? = some 48
      · have : ¬ numeral s = true := by
          rw [numeral_iff]
          rintro ⟨_, _, h | h⟩
          · omega
          · exact h h2.2
        rw [if_neg this]
        refine Ev.congr (f := fun k => driftnetref01_Read.j0 k (str s) true) (fun k => ?_) hbad
        rw [if_neg (by omega), if_neg (by rw [str_toList]; exact h0), if_pos (by omega), if_pos (by omega), (head_bt hp).2 h2.2]; rfl
      · have e : (if numeral s = true then (limbs (nv s), (0 : Int)) else ([], 4)) = if allD s = true then (limbs (nv s), (0 : Int)) else ([], 4) := by
          by_cases h3 : allD s = true
          · rw [if_pos h3, if_pos]
            rw [numeral_iff]
            refine ⟨h0, h3, ?_⟩
            by_cases h4 : s.length = 1
            · exact .inl h4
            · exact .inr fun e => h2 ⟨by omega, e⟩
          · rw [if_neg h3, if_neg]
            rw [numeral_iff]
            exact fun h => h3 h.2.1
        rw [e]
        refine Ev.congr (f := fun k => driftnetref01_Read.j0 k (str s) false) (fun k => ?_) (hrun (by omega))
        rw [if_neg (by omega), if_neg (by rw [str_toList]; exact h0)]
        by_cases h4 : s.length > 1
        · rw [if_pos (by omega), if_pos (by omega)]
          have : ¬ bt (str s) 0 = 48 := fun e => h2 ⟨h4, (head_bt hp).1 e⟩
          rw [show (bt (str s) 0 == 48) = false by simpa using this]
        · rw [if_neg (by omega)]

theorem same_run (a b : List Int) (hl : a.length = b.length) (hn : a.length < 4611686018427387904) : ∀ (d i : Nat), a.length - i = d → i ≤ a.length → ∀ k, d < k → driftnetlaw01_same.l0 k a b (i : Int) = some (decide (a.drop i = b.drop i)) := by
  intro d
  induction d with
  | zero =>
    intro i hd hi k hk
    obtain ⟨k, rfl⟩ : ∃ m, k = m + 1 := ⟨k - 1, by omega⟩
    have e : i = a.length := by omega
    simp only [driftnetlaw01_same.l0]
    rw [if_neg (by omega), List.drop_of_length_le (by omega), List.drop_of_length_le (by omega)]
    simp
  | succ d ih =>
    intro i hd hi k hk
    obtain ⟨k, rfl⟩ : ∃ m, k = m + 1 := ⟨k - 1, by omega⟩
    have hi2 : i < a.length := by omega
    have hi3 : i < b.length := by omega
    simp only [driftnetlaw01_same.l0]
    rw [if_pos (by omega), if_pos (by omega), if_pos (by omega), rd_nat, rd_nat, getD_lt hi2, getD_lt hi3, w64 (n := (i : Int) + 1) (by omega) (by omega), show (i : Int) + 1 = ((i + 1 : Nat) : Int) from rfl, ih (i + 1) (by omega) (by omega) k (by omega)]
    have e : a.drop i = b.drop i ↔ a[i] = b[i] ∧ a.drop (i + 1) = b.drop (i + 1) := by rw [List.drop_eq_getElem_cons hi2, List.drop_eq_getElem_cons hi3, List.cons.injEq]
    by_cases h : a[i] = b[i]
    · rw [if_pos h]
      exact congrArg some (decide_eq_decide.2 ⟨fun h2 => e.2 ⟨h, h2⟩, fun h2 => (e.1 h2).2⟩)
    · rw [if_neg h]
      exact congrArg some (decide_eq_false fun h2 => h (e.1 h2).1).symm
theorem same_ev {a b : List Int} (hn : a.length < 4611686018427387904) : Ev (fun k => driftnetlaw01_same.f k a b) (decide (a = b)) := by
  unfold driftnetlaw01_same.f
  by_cases h : a.length = b.length
  · refine Ev.mk a.length fun k hk => ?_
    rw [if_pos (by omega)]
    exact same_run a b h hn a.length 0 (by omega) (by omega) k hk
  · refine Ev.mk 0 fun k hk => ?_
    rw [if_neg (by omega), decide_eq_false (fun e => h (by rw [e]))]
theorem is_ev {a b : List Int} (hn : a.length < 4611686018427387904) : Ev (fun k => driftnetlaw01_is.f k a 0 b) (decide (a = b)) := by
  unfold driftnetlaw01_is.f
  simp only [if_true]
  exact Ev.bind (same_ev hn) (Ev.const rfl)
end Go.Proofs.YtbejniapdlgpiaaDoor.E
