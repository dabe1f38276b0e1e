/- Of the laws of nat: NatRest, NatDivides and NatSmall hold in plain numbers. -/
import Derived.Test.YtbejniapdlgpiaaDoorQiEK
import Derived.Test.YtbejniapdlgpiaaDoorQiEN
namespace Go.Proofs.YtbejniapdlgpiaaDoor.E
open Go.RowKit Go.Proofs.YtbejniapdlgpiaaDoorW.PrintWords Go.Proofs.YtbejniapdlgpiaaDoorW.PrintLast Go.Proofs.YtbejniapdlgpiaaDoorW.PrintMore Go.Proofs.YtbejniapdlgpiaaDoor.M Go.Proofs.YtbejniapdlgpiaaDoor.P

theorem NatSmall_pure : driftnetlaw01_NatSmall.Pure := by
  intro a0 a1 w0 w1
  obtain ⟨u0, u1⟩ := u64_wf w0
  obtain ⟨v0, v1⟩ := u64_wf w1
  obtain ⟨n, rfl⟩ : ∃ n : Nat, a0 = n := ⟨a0.toNat, by omega⟩
  obtain ⟨m, rfl⟩ : ∃ n : Nat, a1 = n := ⟨a1.toNat, by omega⟩
  have hn : n < 18446744073709551616 := by omega
  have hm : m < 18446744073709551616 := by omega
  have i1 : (n : Int) / 2 = ((n / 2 : Nat) : Int) := rfl
  have i2 : (m : Int) / 2 = ((m / 2 : Nat) : Int) := rfl
  have i3 : (n : Int) / 4294967296 = ((n / 4294967296 : Nat) : Int) := rfl
  have i4 : (m : Int) / 4294967296 = ((m / 4294967296 : Nat) : Int) := rfl
  have b1 : n / 2 < 9223372036854775808 := by omega
  have b2 : m / 2 < 9223372036854775808 := by omega
  have b3 : n / 4294967296 < 4294967296 := by omega
  have b4 : m / 4294967296 < 4294967296 := by omega
  have b5 : n / 4294967296 * (m / 4294967296) < 18446744073709551616 := Nat.mul_lt_mul'' b3 b4
  have k1 : IntKind.u64.wrap (((n / 2 : Nat) : Int) + ((m / 2 : Nat) : Int)) = ((n / 2 + m / 2 : Nat) : Int) := by
    rw [← Int.natCast_add]; exact u64n (by omega)
  have k2 : IntKind.u64.wrap (((n / 4294967296 : Nat) : Int) * ((m / 4294967296 : Nat) : Int)) = ((n / 4294967296 * (m / 4294967296) : Nat) : Int) := by
    rw [← Int.natCast_mul]; exact u64n b5
  have ln : Lt 64 n := lt_lit hn (by decide)
  have lm : Lt 64 m := lt_lit hm (by decide)
  have ev : Ev (fun k => driftnetlaw01_NatSmall.f k (n : Int) (m : Int)) true := by
    unfold driftnetlaw01_NatSmall.f
    rw [i1, i2, i3, i4, k1, k2]
    refine Ev.bind works_ev ?_
    simp only [if_true]
    refine Ev.bind (Of_n n hn) (Ev.bind (Of_n m hm) (Ev.bind (Small_l hn) ?_))
    refine Ev.bind (Of_n _ (by omega)) (Ev.bind (Of_n _ (by omega)) (Ev.bind (Add_l (lt_lit (by omega) (by decide)) (lt_lit (by omega) (by decide))) ?_))
    refine Ev.bind (Of_n _ (by omega)) (Ev.bind (Of_n _ (by omega)) (Ev.bind (Mul_l (lt_lit (by omega) (by decide)) (lt_lit (by omega) (by decide))) ?_))
    simp only [if_true]
    refine Ev.bind (Of_n _ (by omega)) (Ev.bind (Eq_s (lt_lit (by omega) (by decide))) ?_)
    simp only [if_true]
    refine Ev.bind (Of_n _ b5) (Ev.bind (Eq_s (lt_lit b5 (by decide))) ?_)
    simp only [if_true]
    by_cases h : m = 0
    · subst h
      exact Ev.congr (fun k => if_pos rfl) (Ev.const rfl)
    · have h' : ¬ ((m : Int) = 0) := by omega
      simp only [if_neg h']
      refine Ev.bind (Div_l ln lm h) ?_
      simp only [if_true]
      have j1 : Int.tdiv (n : Int) (m : Int) = ((n / m : Nat) : Int) := rfl
      have j2 : Int.tmod (n : Int) (m : Int) = ((n % m : Nat) : Int) := rfl
      have d1 : n / m < 18446744073709551616 := Nat.lt_of_le_of_lt (Nat.div_le_self _ _) hn
      have d2 : n % m < 18446744073709551616 := Nat.lt_of_le_of_lt (Nat.mod_le _ _) hn
      rw [j1, j2, u64n d1]
      refine Ev.bind (Of_n _ d1) (Ev.bind (Eq_s (lt_lit d1 (by decide))) ?_)
      simp only [if_true]
      refine Ev.bind (Of_n _ d2) (Ev.bind (Eq_s (lt_lit d2 (by decide))) ?_)
      simp only [if_true]
      refine Ev.bind (Cmp_l ln lm) (Ev.const ?_)
      have : decide (cmpI n m < 0) = decide ((n : Int) < (m : Int)) := decide_eq_decide.2 (by rw [cmpI_neg]; omega)
      rw [this]; simp
  exact Ev.some ev
end Go.Proofs.YtbejniapdlgpiaaDoor.E
