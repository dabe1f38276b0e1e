/- Of the laws of nat: NatKnown holds in plain numbers. -/
import Derived.Test.YtbejniapdlgpiaaDoorQeEL
namespace Go.Proofs.YtbejniapdlgpiaaDoor.E
open Go.RowKit Go.Proofs.YtbejniapdlgpiaaDoorW.PrintWords Go.Proofs.YtbejniapdlgpiaaDoorW.PrintLast Go.Proofs.YtbejniapdlgpiaaDoorW.PrintMore Go.Proofs.YtbejniapdlgpiaaDoor.M Go.Proofs.YtbejniapdlgpiaaDoor.P

theorem val_ones (n : Nat) : val (List.replicate n 4294967295) + 1 = 4294967296 ^ n := by
  induction n with
  | zero => rfl
  | succ n ih =>
    rw [List.replicate_succ, val_cons, Nat.pow_succ]
    have : (4294967295 : Int).toNat = 4294967295 := rfl
    omega
theorem okL_ones (n : Nat) : okL (List.replicate n 4294967295) := fun x hx => by
  rw [List.eq_of_mem_replicate hx]; omega
theorem canB_ones (n : Nat) : canB (List.replicate n 4294967295) := by
  refine canB_of_last (okL_ones n) ?_
  rw [List.getLast?_replicate]
  split <;> simp
theorem ones_l (n : Nat) : List.replicate n (4294967295 : Int) = limbs (4294967296 ^ n - 1) := by
  rw [← (canB_ones n).2]
  congr 1
  have := val_ones n
  omega
theorem pow_l (n : Nat) : limbs (4294967296 ^ n) = List.replicate n 0 ++ [1] := by
  refine canB_eq (canB_limbs _) (canB_of_last (okL_append.2 ⟨okL_replicate n, by intro y hy; simp at hy; omega⟩) (by simp)) ?_
  rw [val_limbs, val_append, val_zeros, List.length_replicate]
  simp [val]
theorem sq_arith {P : Nat} (hP : 0 < P) : 1 + 4294967296 * P * (4294967294 + 4294967296 * (P - 1)) = (4294967296 * P - 1) * (4294967296 * P - 1) := by
  obtain ⟨K, hK⟩ : ∃ K, 4294967296 * P = K + 2 := ⟨4294967296 * P - 2, by omega⟩
  have h1 : 4294967294 + 4294967296 * (P - 1) = K := by omega
  have h2 : 4294967296 * P - 1 = K + 1 := by omega
  rw [h1, h2, hK]
  simp only [Nat.add_mul, Nat.mul_add]
  omega
def sqL (n : Nat) : List Int := 1 :: (List.replicate n 0 ++ 4294967294 :: List.replicate n 4294967295)
theorem sq_l (n : Nat) : limbs ((4294967296 ^ (n + 1) - 1) * (4294967296 ^ (n + 1) - 1)) = sqL n := by
  have ok : okL (sqL n) := by
    unfold sqL
    rw [okL_cons, okL_append, okL_cons]
    exact ⟨by omega, okL_replicate n, by omega, okL_ones n⟩
  refine canB_eq (canB_limbs _) (canB_of_last ok ?_) ?_
  · unfold sqL
    rw [List.getLast?_cons, List.getLast?_append, List.getLast?_cons, List.getLast?_replicate]
    by_cases h : n = 0
    · subst h; simp
    · simp [h]
  · rw [val_limbs]
    unfold sqL
    rw [val_cons, val_append, val_zeros, List.length_replicate, val_cons, Nat.pow_succ]
    have h1 := val_ones n
    have h2 : val (List.replicate n 4294967295) = 4294967296 ^ n - 1 := by omega
    have h3 := sq_arith (P := 4294967296 ^ n) (Nat.pow_pos (by decide))
    rw [h2, Nat.mul_comm (4294967296 ^ n) 4294967296, ← h3, Nat.zero_add, Nat.mul_assoc]
    rfl
theorem repeat_f {l : List UInt8} {n : Nat} (h : n ≤ 1000000) (hl : l.length ≤ 1000000) : strings_Repeat.f (str l) (n : Int) = some (str (Lib.repeatL l n)) := by
  unfold strings_Repeat.f
  rw [if_pos ⟨by omega, by omega, by rw [str_size]; exact hl⟩, str_data]
  rfl
theorem rep_nine (n : Nat) : Lib.repeatL [57] n = List.replicate n 57 := by
  induction n with
  | zero => rfl
  | succ n ih => rw [Lib.repeatL, ih]; rfl
theorem nv_nine (n : Nat) : nv (List.replicate n 57) + 1 = 10 ^ n := by
  induction n with
  | zero => rfl
  | succ n ih =>
    rw [List.replicate_succ', nv_snoc, Nat.pow_succ]
    have : (57 : UInt8).toNat - 48 = 9 := rfl
    omega
theorem num_nine {n : Nat} (h : 0 < n) : numeral (List.replicate n 57) = true := by
  rw [numeral_iff]
  refine ⟨?_, ?_, .inr ?_⟩
  · intro e
    have := congrArg List.length e
    simp at this; omega
  · unfold allD; rw [List.all_eq_true]
    intro x hx
    rw [List.eq_of_mem_replicate hx]; rfl
  · rw [List.head?_replicate]; split <;> simp
theorem nine_up (m : Nat) : (10 : Nat) ^ (86 * m) ≤ 4294967296 ^ (9 * m) := by
  rw [Nat.pow_mul, Nat.pow_mul]
  exact Nat.pow_le_pow_left (by decide) m
theorem nine_low (m : Nat) : (4294967296 : Nat) ^ (3 * m + 2) < 10 ^ (29 * m + 20) := by
  rw [Nat.pow_add, Nat.pow_add, Nat.pow_mul, Nat.pow_mul]
  exact Nat.mul_lt_mul_of_le_of_lt (Nat.pow_le_pow_left (by decide) m) (by decide) (Nat.pow_pos (by decide))
theorem nines_len (n m q : Nat) (hn : n = 29 * m + 20) (hm : m = 20) (hq : q = 7) : (limbs (10 ^ n - 1)).length = 63 := by
  have h1 := nine_low m
  have h2 := nine_up q
  have h3 : (10 : Nat) ^ n ≤ 10 ^ (86 * q) := Nat.pow_le_pow_right (by decide) (by omega)
  rw [← hn] at h1
  have h4 : (limbs (10 ^ n - 1)).length ≤ 9 * q := limbs_length_le (by
    have : 0 < 10 ^ n := Nat.pow_pos (by decide)
    exact Nat.lt_of_lt_of_le (Nat.sub_lt this (by decide)) (Nat.le_trans h3 h2))
  have h5 : 3 * m + 2 < (limbs (10 ^ n - 1)).length := limbs_length_ge (Nat.le_sub_one_of_lt h1)
  omega

def badL : List ByteArray := [(⟨#[]⟩ : ByteArray), (⟨#[45, 49]⟩ : ByteArray), (⟨#[48, 48]⟩ : ByteArray), (⟨#[48, 49]⟩ : ByteArray), (⟨#[49, 32]⟩ : ByteArray), (⟨#[49, 97]⟩ : ByteArray), (⟨#[43, 49]⟩ : ByteArray), (⟨#[239, 188, 145]⟩ : ByteArray)]
theorem bad_read : ∀ i : Nat, i < 8 → ∃ s : List UInt8, rdOf ByteArray.empty badL (i : Int) = str s ∧ (readS s).2 = 4 := by
  intro i hi
  have : i = 0 ∨ i = 1 ∨ i = 2 ∨ i = 3 ∨ i = 4 ∨ i = 5 ∨ i = 6 ∨ i = 7 := by omega
  rcases this with rfl | rfl | rfl | rfl | rfl | rfl | rfl | rfl
  · exact ⟨[], rfl, by decide⟩
  · exact ⟨[45, 49], rfl, by decide⟩
  · exact ⟨[48, 48], rfl, by decide⟩
  · exact ⟨[48, 49], rfl, by decide⟩
  · exact ⟨[49, 32], rfl, by decide⟩
  · exact ⟨[49, 97], rfl, by decide⟩
  · exact ⟨[43, 49], rfl, by decide⟩
  · exact ⟨[239, 188, 145], rfl, by decide⟩
theorem chk_one_zero : chk [1, 0] = 2 := by decide
theorem known_l1 {x1 x3 x22 x24 x26 x32 : List Int} (k1 : chk x1 = 5) (k3 : chk x3 = 0) (h1 : x22.length = 65) (h2 : rd x22 64 = 1) (h3 : rd x22 0 = 0) (h4 : x24.length = 128) (h5 : rd x24 0 = 1) (h6 : rd x24 127 = 4294967295) (h7 : x26.length = 0) (h8 : x32.length = 63) :
    ∀ (d i : Nat), 8 - i = d → i ≤ 8 → Ev (fun k => driftnetlaw01_NatKnown.l1 k x1 [1, 0] x3 2 5 2 2 5 2 false false x22 0 x24 0 x26 0 5 5 x32 0 badL (i : Int)) true := by
  intro d
  induction d with
  | zero =>
    intro i hd hi
    have e : i = 8 := by omega
    subst e
    refine Ev.steps (f := fun k => (driftnetlaw01_works.f k).bind fun t943 => if t943 = true then (nat_Cmp.f k [1, 0] ([] : List Int)).bind fun t947 => some (t947 == 0) else none) (fun k => ?_) ?_
    · have a1 : (x22.length : Int) = 65 := by omega
      have a2 : (64 : Int) < (x22.length : Int) := by omega
      have a3 : (0 : Int) < (x22.length : Int) := by omega
      have a4 : (x24.length : Int) = 128 := by omega
      have a5 : (0 : Int) < (x24.length : Int) := by omega
      have a6 : (127 : Int) < (x24.length : Int) := by omega
      have a7 : (x26.length : Int) = 0 := by omega
      have a8 : (x32.length : Int) = 63 := by omega
      have a9 : ¬ (((8 : Nat) : Int) < (badL.length : Int)) := by decide
      simp only [driftnetlaw01_NatKnown.l1]
      simp only [if_neg a9, if_pos a1, if_pos a2, if_pos h2, if_pos a3, if_pos h3, if_pos a4, if_pos a5, if_pos h5, if_pos a6, if_pos h6, if_pos a7, if_pos a8, check, k1, k3, chk_one_zero, Option.bind_some, if_true, Bool.false_eq_true, if_false]
    · refine Ev.bind works_ev ?_
      simp only [if_true]
      have ok : okL [1, 0] := by intro y hy; simp at hy; omega
      refine Ev.bind (Cmp_ev ok okL_nil) (Ev.const ?_)
      have : chk2 [1, 0] [] = 2 := by decide
      unfold cmpS
      rw [this]; rfl
  | succ d ih =>
    intro i hd hi
    obtain ⟨s, hs, hr⟩ := bad_read i (by omega)
    have hb : (i : Int) < (badL.length : Int) := by
      have : badL.length = 8 := rfl
      omega
    refine Ev.steps (f := fun k => (nat_Read.f k (str s)).bind fun bt => if bt.2 = 4 then driftnetlaw01_NatKnown.l1 k x1 [1, 0] x3 2 5 2 2 5 2 false false x22 0 x24 0 x26 0 5 5 x32 0 badL ((i + 1 : Nat) : Int) else none) (fun k => ?_) ?_
    · simp only [driftnetlaw01_NatKnown.l1]
      rw [if_pos hb, if_pos (by omega), hs, w64 (by omega) (by omega)]
      rfl
    · refine Ev.bind (Read_ev s) ?_
      simp only [if_pos hr]
      exact ih (i + 1) (by omega) (by omega)
theorem known_l0 {x1 : List Int} (k1 : chk x1 = 5) (ok1 : okL x1) : ∀ (d i : Nat), 64 - i = d → i ≤ 64 → Ev (fun k => driftnetlaw01_NatKnown.l0 k x1 [1, 0] (List.replicate i 4294967295 ++ List.replicate (64 - i) 0) (i : Int)) true := by
  intro d
  induction d with
  | zero =>
    intro i hd hi
    have e : i = 64 := by omega
    subst e
    have ok : okL [1, 0] := by intro y hy; simp at hy; omega
    have ok3 : okL [1, 2, 3] := by intro y hy; simp at hy; omega
    have c21 : chk2 [1, 0] x1 = 2 := by unfold chk2; rw [chk_one_zero]; rfl
    have c12 : chk2 x1 [1, 0] = 5 := by unfold chk2; rw [k1]; decide
    have cn2 : chk2 [] [1, 0] = 2 := by decide
    have c2n : chk2 [1, 0] [] = 2 := by decide
    have cn1 : chk2 [] x1 = 5 := by unfold chk2; rw [k1]; decide
    have d2n : Ev (fun k => nat_Div.f k [1, 0] []) ([], [], 2) := by
      have e := Div_ev ok okL_nil (fun _ => Nat.zero_le _); unfold divS at e; rwa [c2n] at e
    have M : Lt 64 (4294967296 ^ 64 - 1) := Nat.sub_lt (Nat.pow_pos (by decide)) (by decide)
    have M1 : 4294967296 ^ 64 - 1 + 1 = 4294967296 ^ 64 := Nat.sub_add_cancel (Nat.pow_pos (by decide))
    have n64 : (4294967296 ^ 64 - 1 : Nat) = 4294967296 ^ (63 + 1) - 1 := rfl
    have e1 : Ev (fun k => nat_Add.f k [1, 0] x1) ([], 2) := by have e := Add_ev ok ok1; unfold addS at e; rwa [c21] at e
    have e2 : Ev (fun k => nat_Add.f k x1 [1, 0]) ([], 5) := by have e := Add_ev ok1 ok; unfold addS at e; rwa [c12] at e
    have e3 : Ev (fun k => nat_Mul.f k [] [1, 0]) ([], 2) := by have e := Mul_ev okL_nil ok; unfold mulS at e; rwa [cn2] at e
    have e4 : Ev (fun k => nat_Gcd.f k [] x1) ([], 5) := by have e := Gcd_ev okL_nil ok1 (fun h => absurd (cn1.symm.trans h) (by decide)); unfold gcdS at e; rwa [cn1] at e
    have e5 : Ev (fun k => nat_Text.f k [1, 0]) (str [], 2) := by have e := Text_ev ok; unfold textS at e; rwa [chk_one_zero] at e
    have e6 : Ev (fun k => nat_Small.f k [1, 0]) (0, false) := by have e := Small_ev ok; unfold smallS at e; rwa [if_neg (by rw [chk_one_zero]; decide)] at e
    have e7 : Ev (fun k => nat_Small.f k [1, 2, 3]) (0, false) := by have e := Small_ev ok3; unfold smallS at e; rwa [if_neg (by decide)] at e
    have e8 := Add_l M (lt_lit (n := 1) (j := 64) (by decide) (by decide))
    have e9 := Mul_l M M
    have e10 := Gcd_l (lt_zero 64) (lt_zero 1)
    rw [M1, pow_l, ← ones_l 64] at e8
    rw [n64, sq_l 63, ← ones_l (63 + 1)] at e9
    rw [limbs_zero, Nat.gcd_self, limbs_zero] at e10
    obtain ⟨n, hn⟩ : ∃ n : Nat, n = 600 := ⟨600, rfl⟩
    have e11 := Read_ev (Lib.repeatL [49] 601)
    have e12 := Read_ev (Lib.repeatL [120] 601)
    have e13 := Read_ev (List.replicate n 57)
    have v1 : readS (Lib.repeatL [49] 601) = ([], 5) := by unfold readS; rw [if_pos (by rw [Lib.repeatL_length]; decide)]
    have v2 : readS (Lib.repeatL [120] 601) = ([], 5) := by unfold readS; rw [if_pos (by rw [Lib.repeatL_length]; decide)]
    have v3 : nv (List.replicate n 57) = 10 ^ n - 1 := by have := nv_nine n; omega
    have hlen := nines_len n 20 7 (by omega) rfl rfl
    rw [v1] at e11
    rw [v2] at e12
    rw [readS_num (num_nine (by omega)) (by rw [List.length_replicate]; omega), v3] at e13
    have f1 := repeat_f (l := [49]) (n := 601) (by decide) (by decide)
    have f2 := repeat_f (l := [120]) (n := 601) (by decide) (by decide)
    have f3 := repeat_f (l := [57]) (n := n) (by omega) (by decide)
    rw [rep_nine] at f3
    have hn2 : ((n : Nat) : Int) = 600 := by omega
    rw [hn2] at f3
    have k3 : chk (List.replicate 64 4294967295) = 0 := by rw [ones_l]; exact chk_l M
    have hx3 : List.replicate 64 (4294967295 : Int) ++ List.replicate (64 - 64) 0 = List.replicate 64 4294967295 := by simp
    have hi64 : ¬ (((64 : Nat) : Int) < 64) := by decide
    rw [hx3]
    refine Ev.steps (f := fun k => driftnetlaw01_NatKnown.l0 (k + 1) x1 [1, 0] (List.replicate 64 4294967295) ((64 : Nat) : Int)) (fun _ => rfl) ?_
    simp only [driftnetlaw01_NatKnown.l0, if_neg hi64]
    refine Ev.bind e1 (Ev.bind e2 (Ev.bind e3 (Ev.bind d2n (Ev.bind e4 (Ev.bind e5 (Ev.bind e6 (Ev.bind e7 (Ev.bind (Of_n 1 (by decide)) (Ev.bind e8 (Ev.bind e9 (Ev.bind e10 ?_)))))))))))
    refine Ev.bind (Ev.const f1) (Ev.bind e11 (Ev.bind (Ev.const f2) (Ev.bind e12 (Ev.bind (Ev.const f3) (Ev.bind e13 ?_)))))
    have hh1 : (List.replicate 64 (0 : Int) ++ [1]).length = 65 := by simp
    have hh2 : rd (List.replicate 64 (0 : Int) ++ [1]) 64 = 1 := rd_mid _ _ _ (by simp)
    have hh3 : rd (List.replicate 64 (0 : Int) ++ [1]) 0 = 0 := rfl
    have hh4 : (sqL 63).length = 128 := by unfold sqL; simp
    have hh5 : rd (sqL 63) 0 = 1 := rfl
    have hh6 : rd (sqL 63) 127 = 4294967295 := rfl
    exact known_l1 k1 k3 hh1 hh2 hh3 hh4 hh5 hh6 rfl hlen 8 0 (by decide) (by decide)
  | succ d ih =>
    intro i hd hi
    refine Ev.steps (f := fun k => driftnetlaw01_NatKnown.l0 k x1 [1, 0] (List.replicate (i + 1) 4294967295 ++ List.replicate (64 - (i + 1)) 0) ((i + 1 : Nat) : Int)) (fun k => ?_) (ih (i + 1) (by omega) (by omega))
    have e : List.replicate (64 - i) (0 : Int) = 0 :: List.replicate (64 - (i + 1)) 0 := by
      rw [show 64 - i = (64 - (i + 1)) + 1 by omega]; rfl
    have hl : (List.replicate i (4294967295 : Int) ++ List.replicate (64 - i) 0).length = 64 := by simp; omega
    simp only [driftnetlaw01_NatKnown.l0]
    rw [if_pos (by omega), if_pos (by omega), if_pos (by rw [hl]; omega), w64 (by omega) (by omega), e, set_mid _ _ _ _ (by simp)]
    rw [List.replicate_succ', List.append_assoc]
    rfl
theorem NatKnown_pure : driftnetlaw01_NatKnown.Pure := by
  have hx : (List.replicate 65 (0 : Int)).set 64 1 = List.replicate 64 0 ++ [1] := by
    rw [List.replicate_succ']
    exact set_mid _ _ _ _ (by simp)
  have hl : (64 : Int) < ((List.replicate 65 (0 : Int)).length : Int) := by rw [List.length_replicate]; decide
  have e64 : ((64 : Int)).toNat = 64 := rfl
  refine Ev.some ?_
  unfold driftnetlaw01_NatKnown.f
  simp only [Option.bind_some, if_pos hl, if_pos (show 65 ≤ 70368744177664 by decide), if_pos (show 64 ≤ 70368744177664 by decide), e64, hx]
  have := known_l0 (x1 := List.replicate 64 0 ++ [1]) (by unfold chk; rw [if_pos (by simp)]) (okL_append.2 ⟨okL_replicate _, by intro y hy; simp at hy; omega⟩) 64 0 (by decide) (by decide)
  simpa using this
end Go.Proofs.YtbejniapdlgpiaaDoor.E
