/- The two nat packages' answers on the limbs of numbers; small numbers; what works. -/
import Derived.Test.YtbejniapdlgpiaaDoorQhEH
namespace Go.Proofs.YtbejniapdlgpiaaDoor.E
open Go.RowKit Go.Proofs.YtbejniapdlgpiaaDoorW.PrintWords Go.Proofs.YtbejniapdlgpiaaDoorW.PrintLast Go.Proofs.YtbejniapdlgpiaaDoorW.PrintMore Go.Proofs.YtbejniapdlgpiaaDoor.M Go.Proofs.YtbejniapdlgpiaaDoor.P

/-- Below the j-th power of the base. -/
def Lt (j n : Nat) : Prop := n < 4294967296 ^ j
theorem Lt.up {i j n : Nat} (h : Lt i n) (hij : i ≤ j) : Lt j n := Nat.lt_of_lt_of_le h (Nat.pow_le_pow_right (by decide) hij)
theorem Lt.le {j m n : Nat} (hn : Lt j n) (h : m ≤ n) : Lt j m := Nat.lt_of_le_of_lt h hn
theorem lt_two {n : Nat} (h : n < 18446744073709551616) : Lt 2 n := by unfold Lt; exact Nat.lt_of_lt_of_le h (by decide)
theorem len_l {j n : Nat} (h : Lt j n) : (limbs n).length ≤ j := limbs_length_le h
theorem chk_l {n : Nat} (h : Lt 64 n) : chk (limbs n) = 0 := (chk_zero (okL_limbs n)).2 ⟨len_l h, canB_limbs n⟩
theorem chk2_l {m n : Nat} (hm : Lt 64 m) (hn : Lt 64 n) : chk2 (limbs m) (limbs n) = 0 := chk2_of (canB_limbs _) (canB_limbs _) (len_l hm) (len_l hn)
theorem Sub_l {m n : Nat} (hm : Lt 64 m) (hn : Lt 64 n) (h' : n ≤ m) : Ev (fun k => nat_Sub.f k (limbs m) (limbs n)) (limbs (m - n), 0) := by
  have h := Sub_ev (okL_limbs m) (okL_limbs n)
  unfold subS at h; rwa [if_pos (chk2_l hm hn), val_limbs, val_limbs, if_neg (Nat.not_lt.2 h')] at h
theorem Sub_l9 {m n : Nat} (hm : Lt 64 m) (hn : Lt 64 n) (h' : m < n) : Ev (fun k => nat_Sub.f k (limbs m) (limbs n)) ([], 9) := by
  have h := Sub_ev (okL_limbs m) (okL_limbs n)
  unfold subS at h; rwa [if_pos (chk2_l hm hn), val_limbs, val_limbs, if_pos h'] at h
theorem Gcd_l {m n : Nat} (hm : Lt 64 m) (hn : Lt 64 n) : Ev (fun k => nat_Gcd.f k (limbs m) (limbs n)) (limbs (Nat.gcd m n), 0) := by
  have h := Gcd_ev (okL_limbs m) (okL_limbs n)
  unfold gcdS at h; rwa [if_pos (chk2_l hm (hn.up (by decide))), val_limbs, val_limbs] at h
theorem Div_l {m n : Nat} (hm : Lt 64 m) (hn : Lt 64 n) (h0 : n ≠ 0) : Ev (fun k => nat_Div.f k (limbs m) (limbs n)) (limbs (m / n), limbs (m % n), 0) := by
  have h := Div_ev (okL_limbs m) (okL_limbs n)
  unfold divS at h; rwa [if_pos (chk2_l hm (hn.up (by decide))), val_limbs, val_limbs, if_neg (fun e => h0 (limbs_eq_nil.1 e))] at h
theorem Div_l0 {m : Nat} (hm : Lt 64 m) : Ev (fun k => nat_Div.f k (limbs m) []) ([], [], 21) := by
  have h := Div_ev (okL_limbs m) okL_nil
  have h0 : Lt 64 0 := by unfold Lt; exact Nat.pow_pos (by decide)
  have h2 := chk2_l hm h0
  rw [limbs_zero] at h2
  unfold divS at h; rwa [if_pos h2, if_pos rfl] at h
theorem Eq_l {m n : Nat} (hm : Lt 1000 m) (hn : Lt 1000 n) : Ev (fun k => driftnetref01_Eq.f k (limbs m) (limbs n)) (decide (m = n)) := by
  have h := eq_ev (canB_limbs m) (canB_limbs n) (Nat.lt_of_le_of_lt (len_l hm) (by decide)) (Nat.lt_of_le_of_lt (len_l hn) (by decide))
  rwa [val_limbs, val_limbs] at h
theorem Eq_t {m n : Nat} (hm : Lt 1000 m) (e : m = n) : Ev (fun k => driftnetref01_Eq.f k (limbs m) (limbs n)) true := by
  subst e
  have h := Eq_l hm hm
  rwa [decide_eq_true rfl] at h
theorem Text_l {m : Nat} (hm : Lt 64 m) : Ev (fun k => nat_Text.f k (limbs m)) (str (textL m), 0) := by
  have h := Text_ev (okL_limbs m)
  unfold textS at h; rwa [if_pos (chk_l hm), val_limbs] at h
theorem Of_n (n : Nat) (h : n < 18446744073709551616) : Ev (fun k => nat_Of.f k (n : Int)) (limbs n) := of_ev (by omega) (by omega)
theorem same_l {m n : Nat} (hm : Lt 1000 m) (e : m = n) : Ev (fun k => driftnetlaw01_same.f k (limbs m) (limbs n)) true := by
  subst e
  have h := same_ev (a := limbs m) (b := limbs m) (Nat.lt_of_le_of_lt (len_l hm) (by decide))
  rwa [decide_eq_true rfl] at h
theorem is_l {m n : Nat} (hm : Lt 1000 m) (e : m = n) : Ev (fun k => driftnetlaw01_is.f k (limbs m) 0 (limbs n)) true := by
  subst e
  have h := is_ev (a := limbs m) (b := limbs m) (Nat.lt_of_le_of_lt (len_l hm) (by decide))
  rwa [decide_eq_true rfl] at h
theorem canB_cons1 {x : Int} (h : 0 < x) (h2 : x < 4294967296) : [x] = limbs x.toNat := by
  have hc : canB [x] := canB_of_last (by intro y hy; simp at hy; omega) (by simp; omega)
  have := hc.2
  simpa [val] using this.symm
theorem two_limbs : ([0, 1] : List Int) = limbs 4294967296 := by
  have hc : canB [0, 1] := canB_of_last (by intro y hy; simp at hy; omega) (by simp)
  exact hc.2.symm
theorem lt_lit {n : Nat} (h : n < 18446744073709551616) {j : Nat} (hj : 2 ≤ j) : Lt j n := (lt_two h).up hj
theorem text_big : textL 4294967296 = [52, 50, 57, 52, 57, 54, 55, 50, 57, 54] := by
  have h := textL_nv (l := [52, 50, 57, 52, 57, 54, 55, 50, 57, 54]) (by decide)
  exact h
theorem works_ev : Ev (fun k => driftnetlaw01_works.f k) true := by
  unfold driftnetlaw01_works.f
  refine Ev.bind (Of_n 1 (by decide)) ?_
  refine Ev.bind (Of_n 4294967296 (by decide)) ?_
  refine Ev.bind (Text_l (lt_lit (by decide) (by decide))) ?_
  refine Ev.bind (Sub_l (lt_lit (by decide) (by decide)) (lt_lit (by decide) (by decide)) (by decide)) ?_
  refine Ev.bind (Of_n 100 (by decide)) ?_
  refine Ev.bind (Of_n 7 (by decide)) ?_
  refine Ev.bind (Div_l (m := 100) (n := 7) (lt_lit (by decide) (by decide)) (lt_lit (by decide) (by decide)) (by decide)) ?_
  refine Ev.bind (Of_n 12 (by decide)) ?_
  refine Ev.bind (Of_n 18 (by decide)) ?_
  refine Ev.bind (Gcd_l (lt_lit (by decide) (by decide)) (lt_lit (by decide) (by decide))) ?_
  refine Ev.bind (Read_ev [48, 48, 55]) ?_
  refine Ev.bind (Read_ev []) ?_
  refine Ev.bind (Of_n 2 (by decide)) ?_
  refine Ev.bind (Sub_l9 (m := 1) (n := 2) (lt_lit (by decide) (by decide)) (lt_lit (by decide) (by decide)) (by decide)) ?_
  refine Ev.bind (Div_l0 (m := 1) (lt_lit (by decide) (by decide))) ?_
  refine Ev.bind (Of_n 0 (by decide)) ?_
  rw [limbs_zero, two_limbs, canB_cons1 (x := 4294967295) (by decide) (by decide), canB_cons1 (x := 14) (by decide) (by decide), canB_cons1 (x := 2) (by decide) (by decide), canB_cons1 (x := 6) (by decide) (by decide)]
  simp only [List.length_nil, Int.natCast_zero, if_true, str_toList, text_big]
  refine Ev.bind (same_l (lt_lit (by decide) (by decide)) rfl) ?_
  simp only [if_true]
  refine Ev.bind (is_l (lt_lit (by decide) (by decide)) (by decide)) ?_
  simp only [if_true]
  refine Ev.bind (is_l (lt_lit (by decide) (by decide)) (by decide)) ?_
  simp only [if_true]
  refine Ev.bind (same_l (lt_lit (by decide) (by decide)) (by decide)) ?_
  simp only [if_true]
  refine Ev.bind (is_l (lt_lit (by decide) (by decide)) (by decide)) ?_
  exact Ev.const (by decide)
end Go.Proofs.YtbejniapdlgpiaaDoor.E
