/- Of the laws of nat: NatTexts holds in plain numbers. -/
import Derived.Test.YtbejniapdlgpiaaDoorQaEJ
namespace Go.Proofs.YtbejniapdlgpiaaDoor.E
open Go.RowKit Go.Proofs.YtbejniapdlgpiaaDoorW.PrintWords Go.Proofs.YtbejniapdlgpiaaDoorW.PrintLast Go.Proofs.YtbejniapdlgpiaaDoorW.PrintMore Go.Proofs.YtbejniapdlgpiaaDoor.M Go.Proofs.YtbejniapdlgpiaaDoor.P

theorem lt_zero (j : Nat) : Lt j 0 := Nat.pow_pos (by decide)
theorem Eq_s {n : Nat} (hn : Lt 1000 n) : Ev (fun k => driftnetref01_Eq.f k (limbs n) (limbs n)) true := Eq_t hn rfl
theorem len_lt {v M : Nat} (h : (limbs v).length ≤ M) : Lt M v := limbs_length_lt_iff.1 h
theorem readS_form (s : List UInt8) : ∃ n e, Lt 1000 n ∧ readS s = (limbs n, e) := by
  unfold readS
  by_cases h1 : s.length > 600
  · exact ⟨0, 5, lt_zero _, by rw [if_pos h1, limbs_zero]⟩
  · by_cases h2 : numeral s = true
    · refine ⟨nv s, 0, ?_, by rw [if_neg h1, if_pos h2]⟩
      have h3 := nv_lt s ((numeral_iff s).1 h2).2.1
      exact len_lt (len_of_dec h3 (by omega))
    · exact ⟨0, 4, lt_zero _, by rw [if_neg h1, if_neg h2, limbs_zero]⟩
theorem mn_le (a b : Int) : mn a b ≤ a ∧ mn a b ≤ b := by unfold mn; split <;> omega
theorem mn_nn {a b : Int} (ha : 0 ≤ a) (hb : 0 ≤ b) : 0 ≤ mn a b := by unfold mn; split <;> omega
theorem NatTexts_pure : driftnetlaw01_NatTexts.Pure := by
  intro l0 a1 _ h0 w0 _
  obtain ⟨L, hL⟩ : ∃ L, L = l0.take (mn (l0.length : Int) 12).toNat := ⟨_, rfl⟩
  obtain ⟨S, hS⟩ : ∃ S, S = (a1.extract 0 (mn (a1.size : Int) 700).toNat).toList := ⟨_, rfl⟩
  have hS' : a1.extract 0 (mn (a1.size : Int) 700).toNat = str S := by rw [hS, toList_str]
  have ok : okL L := by rw [hL]; exact okL_take (okL_wf w0) _
  obtain ⟨n, e, hn, hr⟩ := readS_form S
  have er := Read_ev S
  have er2 := rRead_ev S
  rw [hr] at er er2
  refine Ev.some ?_
  unfold driftnetlaw01_NatTexts.f
  have c1 : 0 ≤ mn (l0.length : Int) 12 := mn_nn (by omega) (by decide)
  have c2 : mn (l0.length : Int) 12 ≤ (l0.length : Int) := (mn_le _ _).1
  have c3 : 0 ≤ mn (a1.size : Int) 700 := mn_nn (by omega) (by decide)
  have c4 : mn (a1.size : Int) 700 ≤ (a1.size : Int) := (mn_le _ _).1
  simp only [if_pos c1, if_pos c2, if_pos c3, if_pos c4, hS', ← hL]
  refine Ev.bind (Text_ev ok) (Ev.bind (rText_ev ok) (Ev.bind er (Ev.bind er2 ?_)))
  simp only [if_true]
  refine Ev.bind (Eq_s hn) ?_
  simp only [if_true]
  exact Ev.bind works_ev (Ev.const rfl)

end Go.Proofs.YtbejniapdlgpiaaDoor.E
