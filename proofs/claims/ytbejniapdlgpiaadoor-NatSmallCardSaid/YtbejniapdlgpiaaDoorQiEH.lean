/- Rows that are the same, the rows near a row, small numbers, the reference's Read, and what works. -/
import Derived.Test.YtbejniapdlgpiaaDoorQiEG
namespace Go.Proofs.YtbejniapdlgpiaaDoor.E
open Go.RowKit Go.Proofs.YtbejniapdlgpiaaDoorW.PrintWords Go.Proofs.YtbejniapdlgpiaaDoorW.PrintLast Go.Proofs.YtbejniapdlgpiaaDoorW.PrintMore Go.Proofs.YtbejniapdlgpiaaDoor.M Go.Proofs.YtbejniapdlgpiaaDoor.P

theorem same_run (a b : List Int) (hl : a.length = b.length) (hn : a.length < 4611686018427387904) : ∀ (d i : Nat), a.length - i = d → i ≤ a.length → ∀ k, d < k → driftnetlaw01_same.l0 k a b (i : Int) = some (decide (a.drop i = b.drop i)) := by
  intro d
  induction d with
  | zero =>
    intro i hd hi k hk
    obtain ⟨k, rfl⟩ : ∃ m, k = m + 1 := ⟨k - 1, by omega⟩
    have e : i = a.length := by omega
    simp only [driftnetlaw01_same.l0]
    rw [if_neg (by omega), List.drop_of_length_le (by omega), List.drop_of_length_le (by omega)]
    simp
  | succ d ih =>
    intro i hd hi k hk
    obtain ⟨k, rfl⟩ : ∃ m, k = m + 1 := ⟨k - 1, by omega⟩
    have hi2 : i < a.length := by omega
    have hi3 : i < b.length := by omega
    simp only [driftnetlaw01_same.l0]
    rw [if_pos (by omega), if_pos (by omega), if_pos (by omega), rd_nat, rd_nat, getD_lt hi2, getD_lt hi3, w64 (n := (i : Int) + 1) (by omega) (by omega), show (i : Int) + 1 = ((i + 1 : Nat) : Int) from rfl, ih (i + 1) (by omega) (by omega) k (by omega)]
    have e : a.drop i = b.drop i ↔ a[i] = b[i] ∧ a.drop (i + 1) = b.drop (i + 1) := by rw [List.drop_eq_getElem_cons hi2, List.drop_eq_getElem_cons hi3, List.cons.injEq]
    by_cases h : a[i] = b[i]
    · rw [if_pos h]
      exact congrArg some (decide_eq_decide.2 ⟨fun h2 => e.2 ⟨h, h2⟩, fun h2 => (e.1 h2).2⟩)
    · rw [if_neg h]
      exact congrArg some (decide_eq_false fun h2 => h (e.1 h2).1).symm
theorem same_ev {a b : List Int} (hn : a.length < 4611686018427387904) : Ev (fun k => driftnetlaw01_same.f k a b) (decide (a = b)) := by
  unfold driftnetlaw01_same.f
  by_cases h : a.length = b.length
  · refine Ev.mk a.length fun k hk => ?_
    rw [if_pos (by omega)]
    exact same_run a b h hn a.length 0 (by omega) (by omega) k hk
  · refine Ev.mk 0 fun k hk => ?_
    rw [if_neg (by omega), decide_eq_false (fun e => h (by rw [e]))]
theorem is_ev {a b : List Int} (hn : a.length < 4611686018427387904) : Ev (fun k => driftnetlaw01_is.f k a 0 b) (decide (a = b)) := by
  unfold driftnetlaw01_is.f
  simp only [if_true]
  exact Ev.bind (same_ev hn) (Ev.const rfl)
end Go.Proofs.YtbejniapdlgpiaaDoor.E
