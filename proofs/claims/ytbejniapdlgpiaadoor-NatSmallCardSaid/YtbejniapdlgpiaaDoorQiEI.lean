/- The two nat packages' answers on the limbs of numbers; small numbers; what works. -/
import Derived.Test.YtbejniapdlgpiaaDoorQiEH
namespace Go.Proofs.YtbejniapdlgpiaaDoor.E
open Go.RowKit Go.Proofs.YtbejniapdlgpiaaDoorW.PrintWords Go.Proofs.YtbejniapdlgpiaaDoorW.PrintLast Go.Proofs.YtbejniapdlgpiaaDoorW.PrintMore Go.Proofs.YtbejniapdlgpiaaDoor.M Go.Proofs.YtbejniapdlgpiaaDoor.P

/-- Below the j-th power of the base. -/
def Lt (j n : Nat) : Prop := n < 4294967296 ^ j
theorem Lt.up {i j n : Nat} (h : Lt i n) (hij : i ≤ j) : Lt j n := Nat.lt_of_lt_of_le h (Nat.pow_le_pow_right (by decide) hij)
theorem lt_two {n : Nat} (h : n < 18446744073709551616) : Lt 2 n := by unfold Lt; exact Nat.lt_of_lt_of_le h (by decide)
theorem len_l {j n : Nat} (h : Lt j n) : (limbs n).length ≤ j := limbs_length_le h
theorem chk_l {n : Nat} (h : Lt 64 n) : chk (limbs n) = 0 := (chk_zero (okL_limbs n)).2 ⟨len_l h, canB_limbs n⟩
theorem chk2_l {m n : Nat} (hm : Lt 64 m) (hn : Lt 64 n) : chk2 (limbs m) (limbs n) = 0 := chk2_of (canB_limbs _) (canB_limbs _) (len_l hm) (len_l hn)
theorem Add_l {m n : Nat} (hm : Lt 64 m) (hn : Lt 64 n) : Ev (fun k => nat_Add.f k (limbs m) (limbs n)) (limbs (m + n), 0) := by
  have h := Add_ev (okL_limbs m) (okL_limbs n)
  unfold addS at h; rwa [if_pos (chk2_l hm hn), val_limbs, val_limbs] at h
theorem Mul_l {m n : Nat} (hm : Lt 64 m) (hn : Lt 64 n) : Ev (fun k => nat_Mul.f k (limbs m) (limbs n)) (limbs (m * n), 0) := by
  have h := Mul_ev (okL_limbs m) (okL_limbs n)
  unfold mulS at h; rwa [if_pos (chk2_l hm hn), val_limbs, val_limbs] at h
theorem Sub_l {m n : Nat} (hm : Lt 64 m) (hn : Lt 64 n) (h' : n ≤ m) : Ev (fun k => nat_Sub.f k (limbs m) (limbs n)) (limbs (m - n), 0) := by
  have h := Sub_ev (okL_limbs m) (okL_limbs n)
  unfold subS at h; rwa [if_pos (chk2_l hm hn), val_limbs, val_limbs, if_neg (Nat.not_lt.2 h')] at h
theorem Sub_l9 {m n : Nat} (hm : Lt 64 m) (hn : Lt 64 n) (h' : m < n) : Ev (fun k => nat_Sub.f k (limbs m) (limbs n)) ([], 9) := by
  have h := Sub_ev (okL_limbs m) (okL_limbs n)
  unfold subS at h; rwa [if_pos (chk2_l hm hn), val_limbs, val_limbs, if_pos h'] at h
theorem Gcd_l {m n : Nat} (hm : Lt 64 m) (hn : Lt 64 n) : Ev (fun k => nat_Gcd.f k (limbs m) (limbs n)) (limbs (Nat.gcd m n), 0) := by
  have h := Gcd_ev (okL_limbs m) (okL_limbs n)
  unfold gcdS at h; rwa [if_pos (chk2_l hm (hn.up (by decide))), val_limbs, val_limbs] at h
theorem Cmp_l {m n : Nat} (hm : Lt 64 m) (hn : Lt 64 n) : Ev (fun k => nat_Cmp.f k (limbs m) (limbs n)) (cmpI m n) := by
  have h := Cmp_ev (okL_limbs m) (okL_limbs n)
  unfold cmpS at h; rwa [if_pos (chk2_l hm hn), val_limbs, val_limbs] at h
theorem Div_l {m n : Nat} (hm : Lt 64 m) (hn : Lt 64 n) (h0 : n ≠ 0) : Ev (fun k => nat_Div.f k (limbs m) (limbs n)) (limbs (m / n), limbs (m % n), 0) := by
  have h := Div_ev (okL_limbs m) (okL_limbs n)
  unfold divS at h; rwa [if_pos (chk2_l hm (hn.up (by decide))), val_limbs, val_limbs, if_neg (fun e => h0 (limbs_eq_nil.1 e))] at h
theorem Div_l0 {m : Nat} (hm : Lt 64 m) : Ev (fun k => nat_Div.f k (limbs m) []) ([], [], 21) := by
  have h := Div_ev (okL_limbs m) okL_nil
  have h0 : Lt 64 0 := by unfold Lt; exact Nat.pow_pos (by decide)
  have h2 := chk2_l hm h0
  rw [limbs_zero] at h2
  unfold divS at h; rwa [if_pos h2, if_pos rfl] at h
theorem Eq_l {m n : Nat} (hm : Lt 1000 m) (hn : Lt 1000 n) : Ev (fun k => driftnetref01_Eq.f k (limbs m) (limbs n)) (decide (m = n)) := by
  have h := eq_ev (canB_limbs m) (canB_limbs n) (Nat.lt_of_le_of_lt (len_l hm) (by decide)) (Nat.lt_of_le_of_lt (len_l hn) (by decide))
  rwa [val_limbs, val_limbs] at h
theorem Eq_t {m n : Nat} (hm : Lt 1000 m) (e : m = n) : Ev (fun k => driftnetref01_Eq.f k (limbs m) (limbs n)) true := by
  subst e
  have h := Eq_l hm hm
  rwa [decide_eq_true rfl] at h
theorem Text_l {m : Nat} (hm : Lt 64 m) : Ev (fun k => nat_Text.f k (limbs m)) (str (textL m), 0) := by
  have h := Text_ev (okL_limbs m)
  unfold textS at h; rwa [if_pos (chk_l hm), val_limbs] at h
theorem Of_n (n : Nat) (h : n < 18446744073709551616) : Ev (fun k => nat_Of.f k (n : Int)) (limbs n) := of_ev (by omega) (by omega)
theorem same_l {m n : Nat} (hm : Lt 1000 m) (e : m = n) : Ev (fun k => driftnetlaw01_same.f k (limbs m) (limbs n)) true := by
  subst e
  have h := same_ev (a := limbs m) (b := limbs m) (Nat.lt_of_le_of_lt (len_l hm) (by decide))
  rwa [decide_eq_true rfl] at h
theorem is_l {m n : Nat} (hm : Lt 1000 m) (e : m = n) : Ev (fun k => driftnetlaw01_is.f k (limbs m) 0 (limbs n)) true := by
  subst e
  have h := is_ev (a := limbs m) (b := limbs m) (Nat.lt_of_le_of_lt (len_l hm) (by decide))
  rwa [decide_eq_true rfl] at h
theorem canB_cons1 {x : Int} (h : 0 < x) (h2 : x < 4294967296) : [x] = limbs x.toNat := by
  have hc : canB [x] := canB_of_last (by intro y hy; simp at hy; omega) (by simp; omega)
  have := hc.2
  simpa [val] using this.symm
theorem shl32 {x : Nat} (hx : x < 4294967296) : shl .u64 (IntKind.u64.wrap (x : Int)) 32 = ((x * 4294967296 : Nat) : Int) := by
  rw [u64n (by omega)]
  unfold shl
  have e : (x : Int) * 2 ^ min ((32 : Int)).toNat (IntKind.u64.bits) = ((x * 4294967296 : Nat) : Int) := by
    simp [IntKind.bits]
  rw [e, u64n (by omega)]
theorem shl00 {x : Nat} (hx : x < 4294967296) : shl .u64 (IntKind.u64.wrap (x : Int)) 0 = (x : Int) := by
  rw [u64n (by omega)]
  unfold shl
  have e : (x : Int) * 2 ^ min ((0 : Int)).toNat (IntKind.u64.bits) = (x : Int) := by
    simp
  rw [e, u64n (by omega)]
theorem or64 {o x : Nat} (ho : o < 4294967296) (hx : x % 4294967296 = 0) (hx2 : x < 18446744073709551616) : Go.bits .or .u64 (o : Int) (x : Int) = ((o + x : Nat) : Int) := by
  rw [(bits_nat .u64 64 (by decide) (fun n h0 h => u64w h0 (by omega)) o x (by omega) hx2).2, Nat.or_comm]
  have ho' : o < 2 ^ 32 := ho
  have hq : x = 2 ^ 32 * (x / 2 ^ 32) := by omega
  rw [hq, ← Nat.two_pow_add_eq_or_of_lt ho', Nat.add_comm]
theorem or00 {n : Nat} (hn : n < 4294967296) : Go.bits .or .u64 (0 : Int) (n : Int) = n := by
  have h := (bits_nat .u64 64 (by decide) (fun n h0 h => u64w h0 (by omega)) 0 n (by decide) (by omega)).2
  rw [Nat.zero_or] at h
  exact h
def smallS (a : List Int) : Int × Bool := if chk a = 0 ∧ a.length ≤ 2 then ((val a : Int), true) else (0, false)
theorem limb_of {a : List Int} (ha : okL a) {x : Int} (hx : x ∈ a) : ∃ n : Nat, x = (n : Int) ∧ n < 4294967296 := by
  have := ha x hx
  exact ⟨x.toNat, by omega, by omega⟩
theorem Small_run {a : List Int} (ha : okL a) (hl : a.length ≤ 2) : Ev (fun k => nat_Small.l0 k 0 a (a.length : Int) 0) ((val a : Int), true) := by
  refine Ev.mk 3 fun k hk => ?_
  obtain ⟨k, rfl⟩ : ∃ m, k = m + 3 := ⟨k - 3, by omega⟩
  rcases a with _ | ⟨x, _ | ⟨y, _ | ⟨z, t⟩⟩⟩
  · rfl
  · obtain ⟨n, rfl, hn⟩ := limb_of ha (x := x) (by simp)
    have e1 : wrap64 (32 * 0) = 0 := by unfold wrap64; simp
    have e2 : rd [(n : Int)] 0 = n := rfl
    have e3 : Go.bits .or .u64 (0 : Int) (n : Int) = n := by
      exact or00 hn
    simp only [nat_Small.l0, List.length_singleton]
    rw [if_pos (by decide), if_pos (by decide), if_pos (by decide), e1, if_pos (by decide), e2, shl00 hn, e3, show wrap64 (0 + 1) = 1 by (unfold wrap64; simp), if_neg (by decide)]
    simp [val]
  · obtain ⟨n, rfl, hn⟩ := limb_of ha (x := x) (by simp)
    obtain ⟨m, rfl, hm⟩ := limb_of ha (x := y) (by simp)
    have e1 : wrap64 (32 * 0) = 0 := by unfold wrap64; simp
    have e2 : rd [(n : Int), (m : Int)] 0 = n := rfl
    have e3 : Go.bits .or .u64 (0 : Int) (n : Int) = n := by
      exact or00 hn
    have e4 : wrap64 (0 + 1) = 1 := by unfold wrap64; simp
    have e5 : wrap64 (32 * 1) = 32 := by unfold wrap64; simp
    have e6 : rd [(n : Int), (m : Int)] 1 = m := rfl
    have hl2 : (([(n : Int), (m : Int)].length : Nat) : Int) = 2 := rfl
    have e7 : wrap64 (1 + 1) = 2 := by unfold wrap64; simp
    simp only [nat_Small.l0, hl2]
    rw [if_pos (by decide), if_pos (by decide), if_pos (by decide), e1, if_pos (by decide), e2, shl00 hn, e3, e4, if_pos (by decide), if_pos (by decide), if_pos (by decide), e5, if_pos (by decide), e6, shl32 hm, or64 hn (by omega) (by omega), e7, if_neg (by decide)]
    simp only [val, Int.toNat_natCast]
    exact congrArg (fun z : Int => some (z, true)) (by omega)
  · simp at hl
theorem Small_ev {a : List Int} (ha : okL a) : Ev (fun k => nat_Small.f k a) (smallS a) := by
  unfold nat_Small.f smallS
  rw [check]
  simp only [Option.bind_some]
  by_cases h : chk a = 0
  · by_cases h2 : a.length ≤ 2
    · refine Ev.congr (f := fun k => nat_Small.j0 k a 0 false) (fun k => by rw [if_pos h, decide_eq_false (by omega)]) ?_
      rw [if_pos ⟨h, h2⟩]
      exact Ev.steps (f := fun k => nat_Small.l0 k 0 a (a.length : Int) 0) (fun k => by simp only [nat_Small.j0]; rfl) (Small_run ha h2)
    · refine Ev.congr (f := fun k => nat_Small.j0 k a 0 true) (fun k => by rw [if_pos h, decide_eq_true (by omega)]) ?_
      rw [if_neg (fun e => h2 e.2)]
      exact Ev.steps (f := fun k => some (0, false)) (fun k => by simp only [nat_Small.j0]; rfl) (Ev.const rfl)
  · refine Ev.congr (f := fun k => nat_Small.j0 k a 0 true) (fun k => by rw [if_neg h]) ?_
    rw [if_neg (fun e => h e.1)]
    exact Ev.steps (f := fun k => some (0, false)) (fun k => by simp only [nat_Small.j0]; rfl) (Ev.const rfl)
theorem Small_l {n : Nat} (h : n < 18446744073709551616) : Ev (fun k => nat_Small.f k (limbs n)) ((n : Int), true) := by
  have e := Small_ev (okL_limbs n)
  unfold smallS at e
  have h2 := lt_two h
  rwa [if_pos ⟨chk_l (h2.up (by decide)), len_l h2⟩, val_limbs] at e
theorem two_limbs : ([0, 1] : List Int) = limbs 4294967296 := by
  have hc : canB [0, 1] := canB_of_last (by intro y hy; simp at hy; omega) (by simp)
  exact hc.2.symm
theorem lt_lit {n : Nat} (h : n < 18446744073709551616) {j : Nat} (hj : 2 ≤ j) : Lt j n := (lt_two h).up hj
theorem text_big : textL 4294967296 = [52, 50, 57, 52, 57, 54, 55, 50, 57, 54] := by
  have h := textL_nv (l := [52, 50, 57, 52, 57, 54, 55, 50, 57, 54]) (by decide)
  exact h
theorem works_ev : Ev (fun k => driftnetlaw01_works.f k) true := by
  unfold driftnetlaw01_works.f
  refine Ev.bind (Of_n 1 (by decide)) ?_
  refine Ev.bind (Of_n 4294967296 (by decide)) ?_
  refine Ev.bind (Text_l (lt_lit (by decide) (by decide))) ?_
  refine Ev.bind (Sub_l (lt_lit (by decide) (by decide)) (lt_lit (by decide) (by decide)) (by decide)) ?_
  refine Ev.bind (Of_n 100 (by decide)) ?_
  refine Ev.bind (Of_n 7 (by decide)) ?_
  refine Ev.bind (Div_l (m := 100) (n := 7) (lt_lit (by decide) (by decide)) (lt_lit (by decide) (by decide)) (by decide)) ?_
  refine Ev.bind (Of_n 12 (by decide)) ?_
  refine Ev.bind (Of_n 18 (by decide)) ?_
  refine Ev.bind (Gcd_l (lt_lit (by decide) (by decide)) (lt_lit (by decide) (by decide))) ?_
  refine Ev.bind (Read_ev [48, 48, 55]) ?_
  refine Ev.bind (Read_ev []) ?_
  refine Ev.bind (Of_n 2 (by decide)) ?_
  refine Ev.bind (Sub_l9 (m := 1) (n := 2) (lt_lit (by decide) (by decide)) (lt_lit (by decide) (by decide)) (by decide)) ?_
  refine Ev.bind (Div_l0 (m := 1) (lt_lit (by decide) (by decide))) ?_
  refine Ev.bind (Of_n 0 (by decide)) ?_
  rw [limbs_zero, two_limbs, canB_cons1 (x := 4294967295) (by decide) (by decide), canB_cons1 (x := 14) (by decide) (by decide), canB_cons1 (x := 2) (by decide) (by decide), canB_cons1 (x := 6) (by decide) (by decide)]
  simp only [List.length_nil, Int.natCast_zero, if_true, str_toList, text_big]
  refine Ev.bind (same_l (lt_lit (by decide) (by decide)) rfl) ?_
  simp only [if_true]
  refine Ev.bind (is_l (lt_lit (by decide) (by decide)) (by decide)) ?_
  simp only [if_true]
  refine Ev.bind (is_l (lt_lit (by decide) (by decide)) (by decide)) ?_
  simp only [if_true]
  refine Ev.bind (same_l (lt_lit (by decide) (by decide)) (by decide)) ?_
  simp only [if_true]
  refine Ev.bind (is_l (lt_lit (by decide) (by decide)) (by decide)) ?_
  exact Ev.const (by decide)
end Go.Proofs.YtbejniapdlgpiaaDoor.E
