/- Printed functions in the evaluator's terms (printed by extgen.py). -/
import Derived.Test.YtkjdpojbmkpkgaaGreatDoorQuP1
import Derived.Test.YtkjdpojbmkpkgaaGreatDoorQuP3
import Derived.Test.YtkjdpojbmkpkgaaGreatDoorQuP4
import Derived.Test.YtkjdpojbmkpkgaaGreatDoorQuP5
import Derived.Test.YtkjdpojbmkpkgaaGreatDoorQuP6
import Derived.Test.YtkjdpojbmkpkgaaGreatDoorQuP7
import Derived.Test.YtkjdpojbmkpkgaaGreatDoorQuP9
import Derived.Test.YtkjdpojbmkpkgaaGreatDoorQuP10
import Derived.Test.YtkjdpojbmkpkgaaGreatDoorQuP12
import Derived.Test.YtkjdpojbmkpkgaaGreatDoorQuA1
import Derived.Test.YtkjdpojbmkpkgaaGreatDoorProg
import Derived.KernelRfl
import Derived.Test.YtkjdpojbmkpkgaaGreatDoorQuE0
namespace Go.Proofs.YtkjdpojbmkpkgaaGreatDoor.AV
open Go Go.RowKit Go.Proofs.YtkjdpojbmkpkgaaGreatDoorW.PrintWords Go.Proofs.YtkjdpojbmkpkgaaGreatDoor.P
def x_nat_Gcd (k : Nat) : List PV → Option PV
 | [p_l0, p_l1] =>
  (match rowOf .u32 p_l0 with | none => none | some l0 => (match rowOf .u32 p_l1 with | none => none | some l1 => (match nat_Gcd.f k l0 l1 with | none => none | some (r1, r2) => some (.tup [row .u32 r1, .int .i64 r2]))))
 | _ => none
theorem x_nat_Gcd_call {k : Nat} {ps : List PV} {r_ : PV} (h : x_nat_Gcd k ps = some r_) : ExtCall Tryz.prog 60 ps r_ := by
 unfold x_nat_Gcd at h
 split at h <;> first | (cases h; done) | skip
 rename_i p_l0 p_l1
 split at h <;> first | (cases h; done) | skip
 rename_i l0 q_l0
 split at h <;> first | (cases h; done) | skip
 rename_i l1 q_l1
 split at h <;> first | (cases h; done) | skip
 rename_i r1 r2 hf
 cases h
 intro F w vs hF hl hr
 obtain ⟨u0, u1, rfl⟩ := two_args hl
 obtain ⟨A0, c0, rfl, C_l0, R_l0, V_l0⟩ := row_in q_l0 (hr 0 _ rfl)
 obtain ⟨A1, c1, rfl, C_l1, R_l1, V_l1⟩ := row_in q_l1 (hr 1 _ rfl)
 refine (nat_Gcd.calls k A0 c0 l0 A1 c1 l1 r1 r2 w R_l0 C_l0 R_l1 C_l1 hf).mono ?_
 rintro e w' ⟨v0_, rfl, K_v0_, hB⟩
 obtain ⟨D_v0_, E_v0_, M_v0_⟩ := row_out K_v0_
 refine ⟨_, (fun b o => F b o ∨ D_v0_ b o), rfl, (tup_mk2 (M_v0_ _ (fun _ _ h => .inr h)) (.int _ _)), hB, fun _ _ h => .inl h, fun b o h => ?_⟩
 rcases h with h | h
 ·exact .inl h
 ·exact .inr (E_v0_ _ _ h)
def x_nat_Div (k : Nat) : List PV → Option PV
 | [p_l0, p_l1] =>
  (match rowOf .u32 p_l0 with | none => none | some l0 => (match rowOf .u32 p_l1 with | none => none | some l1 => (match nat_Div.f k l0 l1 with | none => none | some (r1, r2, r3) => some (.tup [row .u32 r1, row .u32 r2, .int .i64 r3]))))
 | _ => none
theorem x_nat_Div_call {k : Nat} {ps : List PV} {r_ : PV} (h : x_nat_Div k ps = some r_) : ExtCall Tryz.prog 67 ps r_ := by
 unfold x_nat_Div at h
 split at h <;> first | (cases h; done) | skip
 rename_i p_l0 p_l1
 split at h <;> first | (cases h; done) | skip
 rename_i l0 q_l0
 split at h <;> first | (cases h; done) | skip
 rename_i l1 q_l1
 split at h <;> first | (cases h; done) | skip
 rename_i r1 r2 r3 hf
 cases h
 intro F w vs hF hl hr
 obtain ⟨u0, u1, rfl⟩ := two_args hl
 obtain ⟨A0, c0, rfl, C_l0, R_l0, V_l0⟩ := row_in q_l0 (hr 0 _ rfl)
 obtain ⟨A1, c1, rfl, C_l1, R_l1, V_l1⟩ := row_in q_l1 (hr 1 _ rfl)
 refine (nat_Div.calls k A0 c0 l0 A1 c1 l1 r1 r2 r3 w R_l0 C_l0 R_l1 C_l1 hf).mono ?_
 rintro e w' ⟨v0_, v1_, rfl, K_v0_, K_v1_, hB⟩
 obtain ⟨D_v0_, E_v0_, M_v0_⟩ := row_out K_v0_
 obtain ⟨D_v1_, E_v1_, M_v1_⟩ := row_out K_v1_
 refine ⟨_, (fun b o => F b o ∨ D_v0_ b o ∨ D_v1_ b o), rfl, (tup_mk3 (M_v0_ _ (fun _ _ h => .inr (.inl h))) (M_v1_ _ (fun _ _ h => .inr (.inr h))) (.int _ _)), hB, fun _ _ h => .inl h, fun b o h => ?_⟩
 rcases h with h | h | h
 ·exact .inl h
 ·exact .inr (E_v0_ _ _ h)
 ·exact .inr (E_v1_ _ _ h)
def x_nat_Add (k : Nat) : List PV → Option PV
 | [p_l0, p_l1] =>
  (match rowOf .u32 p_l0 with | none => none | some l0 => (match rowOf .u32 p_l1 with | none => none | some l1 => (match nat_Add.f k l0 l1 with | none => none | some (r1, r2) => some (.tup [row .u32 r1, .int .i64 r2]))))
 | _ => none
theorem x_nat_Add_call {k : Nat} {ps : List PV} {r_ : PV} (h : x_nat_Add k ps = some r_) : ExtCall Tryz.prog 68 ps r_ := by
 unfold x_nat_Add at h
 split at h <;> first | (cases h; done) | skip
 rename_i p_l0 p_l1
 split at h <;> first | (cases h; done) | skip
 rename_i l0 q_l0
 split at h <;> first | (cases h; done) | skip
 rename_i l1 q_l1
 split at h <;> first | (cases h; done) | skip
 rename_i r1 r2 hf
 cases h
 intro F w vs hF hl hr
 obtain ⟨u0, u1, rfl⟩ := two_args hl
 obtain ⟨A0, c0, rfl, C_l0, R_l0, V_l0⟩ := row_in q_l0 (hr 0 _ rfl)
 obtain ⟨A1, c1, rfl, C_l1, R_l1, V_l1⟩ := row_in q_l1 (hr 1 _ rfl)
 refine (nat_Add.calls k A0 c0 l0 A1 c1 l1 r1 r2 w R_l0 C_l0 R_l1 C_l1 hf).mono ?_
 rintro e w' ⟨v0_, rfl, K_v0_, hB⟩
 obtain ⟨D_v0_, E_v0_, M_v0_⟩ := row_out K_v0_
 refine ⟨_, (fun b o => F b o ∨ D_v0_ b o), rfl, (tup_mk2 (M_v0_ _ (fun _ _ h => .inr h)) (.int _ _)), hB, fun _ _ h => .inl h, fun b o h => ?_⟩
 rcases h with h | h
 ·exact .inl h
 ·exact .inr (E_v0_ _ _ h)
def x_nat_Sub (k : Nat) : List PV → Option PV
 | [p_l0, p_l1] =>
  (match rowOf .u32 p_l0 with | none => none | some l0 => (match rowOf .u32 p_l1 with | none => none | some l1 => (match nat_Sub.f k l0 l1 with | none => none | some (r1, r2) => some (.tup [row .u32 r1, .int .i64 r2]))))
 | _ => none
theorem x_nat_Sub_call {k : Nat} {ps : List PV} {r_ : PV} (h : x_nat_Sub k ps = some r_) : ExtCall Tryz.prog 76 ps r_ := by
 unfold x_nat_Sub at h
 split at h <;> first | (cases h; done) | skip
 rename_i p_l0 p_l1
 split at h <;> first | (cases h; done) | skip
 rename_i l0 q_l0
 split at h <;> first | (cases h; done) | skip
 rename_i l1 q_l1
 split at h <;> first | (cases h; done) | skip
 rename_i r1 r2 hf
 cases h
 intro F w vs hF hl hr
 obtain ⟨u0, u1, rfl⟩ := two_args hl
 obtain ⟨A0, c0, rfl, C_l0, R_l0, V_l0⟩ := row_in q_l0 (hr 0 _ rfl)
 obtain ⟨A1, c1, rfl, C_l1, R_l1, V_l1⟩ := row_in q_l1 (hr 1 _ rfl)
 refine (nat_Sub.calls k A0 c0 l0 A1 c1 l1 r1 r2 w R_l0 C_l0 R_l1 C_l1 hf).mono ?_
 rintro e w' ⟨v0_, rfl, K_v0_, hB⟩
 obtain ⟨D_v0_, E_v0_, M_v0_⟩ := row_out K_v0_
 refine ⟨_, (fun b o => F b o ∨ D_v0_ b o), rfl, (tup_mk2 (M_v0_ _ (fun _ _ h => .inr h)) (.int _ _)), hB, fun _ _ h => .inl h, fun b o h => ?_⟩
 rcases h with h | h
 ·exact .inl h
 ·exact .inr (E_v0_ _ _ h)
def x_nat_Cmp (k : Nat) : List PV → Option PV
 | [p_l0, p_l1] =>
  (match rowOf .u32 p_l0 with | none => none | some l0 => (match rowOf .u32 p_l1 with | none => none | some l1 => (match nat_Cmp.f k l0 l1 with | none => none | some r => some (.int .i64 r))))
 | _ => none
theorem x_nat_Cmp_call {k : Nat} {ps : List PV} {r_ : PV} (h : x_nat_Cmp k ps = some r_) : ExtCall Tryz.prog 75 ps r_ := by
 unfold x_nat_Cmp at h
 split at h <;> first | (cases h; done) | skip
 rename_i p_l0 p_l1
 split at h <;> first | (cases h; done) | skip
 rename_i l0 q_l0
 split at h <;> first | (cases h; done) | skip
 rename_i l1 q_l1
 split at h <;> first | (cases h; done) | skip
 rename_i r hf
 cases h
 intro F w vs hF hl hr
 obtain ⟨u0, u1, rfl⟩ := two_args hl
 obtain ⟨A0, c0, rfl, C_l0, R_l0, V_l0⟩ := row_in q_l0 (hr 0 _ rfl)
 obtain ⟨A1, c1, rfl, C_l1, R_l1, V_l1⟩ := row_in q_l1 (hr 1 _ rfl)
 refine (nat_Cmp.calls k A0 c0 l0 A1 c1 l1 r w R_l0 C_l0 R_l1 C_l1 hf).mono ?_
 rintro e w' ⟨rfl, hB⟩
 refine ⟨_, (fun b o => F b o), rfl, (.int _ _), hB, fun _ _ h => h, fun b o h => ?_⟩
 exact .inl h
def x_nat_Mul (k : Nat) : List PV → Option PV
 | [p_l0, p_l1] =>
  (match rowOf .u32 p_l0 with | none => none | some l0 => (match rowOf .u32 p_l1 with | none => none | some l1 => (match nat_Mul.f k l0 l1 with | none => none | some (r1, r2) => some (.tup [row .u32 r1, .int .i64 r2]))))
 | _ => none
theorem x_nat_Mul_call {k : Nat} {ps : List PV} {r_ : PV} (h : x_nat_Mul k ps = some r_) : ExtCall Tryz.prog 77 ps r_ := by
 unfold x_nat_Mul at h
 split at h <;> first | (cases h; done) | skip
 rename_i p_l0 p_l1
 split at h <;> first | (cases h; done) | skip
 rename_i l0 q_l0
 split at h <;> first | (cases h; done) | skip
 rename_i l1 q_l1
 split at h <;> first | (cases h; done) | skip
 rename_i r1 r2 hf
 cases h
 intro F w vs hF hl hr
 obtain ⟨u0, u1, rfl⟩ := two_args hl
 obtain ⟨A0, c0, rfl, C_l0, R_l0, V_l0⟩ := row_in q_l0 (hr 0 _ rfl)
 obtain ⟨A1, c1, rfl, C_l1, R_l1, V_l1⟩ := row_in q_l1 (hr 1 _ rfl)
 refine (nat_Mul.calls k A0 c0 l0 A1 c1 l1 r1 r2 w R_l0 C_l0 R_l1 C_l1 hf).mono ?_
 rintro e w' ⟨v0_, rfl, K_v0_, hB⟩
 obtain ⟨D_v0_, E_v0_, M_v0_⟩ := row_out K_v0_
 refine ⟨_, (fun b o => F b o ∨ D_v0_ b o), rfl, (tup_mk2 (M_v0_ _ (fun _ _ h => .inr h)) (.int _ _)), hB, fun _ _ h => .inl h, fun b o h => ?_⟩
 rcases h with h | h
 ·exact .inl h
 ·exact .inr (E_v0_ _ _ h)
def x_nat_Of (k : Nat) : List PV → Option PV
 | [.int .u64 a0] =>
  (match nat_Of.f k a0 with | none => none | some r => some (row .u32 r))
 | _ => none
theorem x_nat_Of_call {k : Nat} {ps : List PV} {r_ : PV} (h : x_nat_Of k ps = some r_) : ExtCall Tryz.prog 73 ps r_ := by
 unfold x_nat_Of at h
 split at h <;> first | (cases h; done) | skip
 rename_i a0
 split at h <;> first | (cases h; done) | skip
 rename_i r hf
 cases h
 intro F w vs hF hl hr
 obtain ⟨u0, rfl⟩ := one_arg hl
 cases int_in (hr 0 _ rfl)
 refine (nat_Of.calls k a0 r w hf).mono ?_
 rintro e w' ⟨v0_, rfl, K_v0_, hB⟩
 obtain ⟨D_v0_, E_v0_, M_v0_⟩ := row_out K_v0_
 refine ⟨_, (fun b o => F b o ∨ D_v0_ b o), rfl, (M_v0_ _ (fun _ _ h => .inr h)), hB, fun _ _ h => .inl h, fun b o h => ?_⟩
 rcases h with h | h
 ·exact .inl h
 ·exact .inr (E_v0_ _ _ h)
def x_nat_Check (_k : Nat) : List PV → Option PV
 | [p_l0] =>
  (match rowOf .u32 p_l0 with | none => none | some l0 => (match nat_Check.f l0 with | none => none | some r => some (.int .i64 r)))
 | _ => none
theorem x_nat_Check_call {k : Nat} {ps : List PV} {r_ : PV} (h : x_nat_Check k ps = some r_) : ExtCall Tryz.prog 64 ps r_ := by
 unfold x_nat_Check at h
 split at h <;> first | (cases h; done) | skip
 rename_i p_l0
 split at h <;> first | (cases h; done) | skip
 rename_i l0 q_l0
 split at h <;> first | (cases h; done) | skip
 rename_i r hf
 cases h
 intro F w vs hF hl hr
 obtain ⟨u0, rfl⟩ := one_arg hl
 obtain ⟨A0, c0, rfl, C_l0, R_l0, V_l0⟩ := row_in q_l0 (hr 0 _ rfl)
 refine (nat_Check.calls A0 c0 l0 r w R_l0 C_l0 hf).mono ?_
 rintro e w' ⟨rfl, hB⟩
 replace hB := drawn_below hB
 refine ⟨_, (fun b o => F b o), rfl, (.int _ _), hB, fun _ _ h => h, fun b o h => ?_⟩
 exact .inl h
def x_nat_Read (k : Nat) : List PV → Option PV
 | [.str a0] =>
  (match nat_Read.f k (bytes a0) with | none => none | some (r1, r2) => some (.tup [row .u32 r1, .int .i64 r2]))
 | _ => none
theorem x_nat_Read_call {k : Nat} {ps : List PV} {r_ : PV} (h : x_nat_Read k ps = some r_) : ExtCall Tryz.prog 59 ps r_ := by
 unfold x_nat_Read at h
 split at h <;> first | (cases h; done) | skip
 rename_i a0
 split at h <;> first | (cases h; done) | skip
 rename_i r1 r2 hf
 cases h
 intro F w vs hF hl hr
 obtain ⟨u0, rfl⟩ := one_arg hl
 cases str_in (hr 0 _ rfl)
 refine (nat_Read.calls k (bytes a0) r1 r2 w hf).mono ?_
 rintro e w' ⟨v0_, rfl, K_v0_, hB⟩
 obtain ⟨D_v0_, E_v0_, M_v0_⟩ := row_out K_v0_
 refine ⟨_, (fun b o => F b o ∨ D_v0_ b o), rfl, (tup_mk2 (M_v0_ _ (fun _ _ h => .inr h)) (.int _ _)), hB, fun _ _ h => .inl h, fun b o h => ?_⟩
 rcases h with h | h
 ·exact .inl h
 ·exact .inr (E_v0_ _ _ h)
def x_nat_Text (k : Nat) : List PV → Option PV
 | [p_l0] =>
  (match rowOf .u32 p_l0 with | none => none | some l0 => (match nat_Text.f k l0 with | none => none | some (r1, r2) => some (.tup [strP r1, .int .i64 r2])))
 | _ => none
theorem x_nat_Text_call {k : Nat} {ps : List PV} {r_ : PV} (h : x_nat_Text k ps = some r_) : ExtCall Tryz.prog 52 ps r_ := by
 unfold x_nat_Text at h
 split at h <;> first | (cases h; done) | skip
 rename_i p_l0
 split at h <;> first | (cases h; done) | skip
 rename_i l0 q_l0
 split at h <;> first | (cases h; done) | skip
 rename_i r1 r2 hf
 cases h
 intro F w vs hF hl hr
 obtain ⟨u0, rfl⟩ := one_arg hl
 obtain ⟨A0, c0, rfl, C_l0, R_l0, V_l0⟩ := row_in q_l0 (hr 0 _ rfl)
 refine (nat_Text.calls k (fun _ => True) A0 c0 l0 r1 r2 w (V_l0 30 _ _ (fun _ => trivial)) hf).mono ?_
 rintro e w' ⟨rfl, hB⟩
 refine ⟨_, (fun b o => F b o), rfl, (tup_mk2 (str_out _) (.int _ _)), hB, fun _ _ h => h, fun b o h => ?_⟩
 exact .inl h
def x_nat_Small (k : Nat) : List PV → Option PV
 | [p_l0] =>
  (match rowOf .u32 p_l0 with | none => none | some l0 => (match nat_Small.f k l0 with | none => none | some (r1, r2) => some (.tup [.int .u64 r1, .bool r2])))
 | _ => none
theorem x_nat_Small_call {k : Nat} {ps : List PV} {r_ : PV} (h : x_nat_Small k ps = some r_) : ExtCall Tryz.prog 71 ps r_ := by
 unfold x_nat_Small at h
 split at h <;> first | (cases h; done) | skip
 rename_i p_l0
 split at h <;> first | (cases h; done) | skip
 rename_i l0 q_l0
 split at h <;> first | (cases h; done) | skip
 rename_i r1 r2 hf
 cases h
 intro F w vs hF hl hr
 obtain ⟨u0, rfl⟩ := one_arg hl
 obtain ⟨A0, c0, rfl, C_l0, R_l0, V_l0⟩ := row_in q_l0 (hr 0 _ rfl)
 refine (nat_Small.calls k A0 c0 l0 r1 r2 w R_l0 C_l0 hf).mono ?_
 rintro e w' ⟨rfl, hB⟩
 replace hB := drawn_below hB
 refine ⟨_, (fun b o => F b o), rfl, (tup_mk2 (.int _ _) (.bool _)), hB, fun _ _ h => h, fun b o h => ?_⟩
 exact .inl h
def x_slices_Equal_uint32_uint32 (k : Nat) : List PV → Option PV
 | [p_l0, p_l1] =>
  (match rowOf .u32 p_l0 with | none => none | some l0 => (match rowOf .u32 p_l1 with | none => none | some l1 => (match slices_Equal_uint32_uint32.f k l0 l1 with | none => none | some r => some (.bool r))))
 | _ => none
theorem x_slices_Equal_uint32_uint32_call {k : Nat} {ps : List PV} {r_ : PV} (h : x_slices_Equal_uint32_uint32 k ps = some r_) : ExtCall Tryz.prog 53 ps r_ := by
 unfold x_slices_Equal_uint32_uint32 at h
 split at h <;> first | (cases h; done) | skip
 rename_i p_l0 p_l1
 split at h <;> first | (cases h; done) | skip
 rename_i l0 q_l0
 split at h <;> first | (cases h; done) | skip
 rename_i l1 q_l1
 split at h <;> first | (cases h; done) | skip
 rename_i r hf
 cases h
 intro F w vs hF hl hr
 obtain ⟨u0, u1, rfl⟩ := two_args hl
 obtain ⟨A0, c0, rfl, C_l0, R_l0, V_l0⟩ := row_in q_l0 (hr 0 _ rfl)
 obtain ⟨A1, c1, rfl, C_l1, R_l1, V_l1⟩ := row_in q_l1 (hr 1 _ rfl)
 refine (slices_Equal_uint32_uint32.calls k A0 c0 l0 A1 c1 l1 r w R_l0 C_l0 R_l1 C_l1 hf).mono ?_
 rintro e w' ⟨rfl, hB⟩
 replace hB := drawn_below hB
 refine ⟨_, (fun b o => F b o), rfl, (.bool _), hB, fun _ _ h => h, fun b o h => ?_⟩
 exact .inl h
def x_slices_Clone_uint32_uint32 (_k : Nat) : List PV → Option PV
 | [p_l0] =>
  (match rowOf .u32 p_l0 with | none => none | some l0 => (match slices_Clone_uint32_uint32.f l0 with | none => none | some r => some (row .u32 r)))
 | _ => none
theorem x_slices_Clone_uint32_uint32_call {k : Nat} {ps : List PV} {r_ : PV} (h : x_slices_Clone_uint32_uint32 k ps = some r_) : ExtCall Tryz.prog 66 ps r_ := by
 unfold x_slices_Clone_uint32_uint32 at h
 split at h <;> first | (cases h; done) | skip
 rename_i p_l0
 split at h <;> first | (cases h; done) | skip
 rename_i l0 q_l0
 split at h <;> first | (cases h; done) | skip
 rename_i r hf
 cases h
 intro F w vs hF hl hr
 obtain ⟨u0, rfl⟩ := one_arg hl
 obtain ⟨A0, c0, rfl, C_l0, R_l0, V_l0⟩ := row_in q_l0 (hr 0 _ rfl)
 refine (slices_Clone_uint32_uint32.calls A0 c0 l0 r w R_l0 C_l0 hf).mono ?_
 rintro e w' ⟨v0_, rfl, K_v0_, hB⟩
 obtain ⟨D_v0_, E_v0_, M_v0_⟩ := row_out K_v0_
 refine ⟨_, (fun b o => F b o ∨ D_v0_ b o), rfl, (M_v0_ _ (fun _ _ h => .inr h)), hB, fun _ _ h => .inl h, fun b o h => ?_⟩
 rcases h with h | h
 ·exact .inl h
 ·exact .inr (E_v0_ _ _ h)
def x_strings_Cut (_k : Nat) : List PV → Option PV
 | [.str a0, .str a1] =>
  (match strings_Cut.f (bytes a0) (bytes a1) with | none => none | some (r1, r2, r3) => some (.tup [strP r1, strP r2, .bool r3]))
 | _ => none
theorem x_strings_Cut_call {k : Nat} {ps : List PV} {r_ : PV} (h : x_strings_Cut k ps = some r_) : ExtCall Tryz.prog 58 ps r_ := by
 unfold x_strings_Cut at h
 split at h <;> first | (cases h; done) | skip
 rename_i a0 a1
 split at h <;> first | (cases h; done) | skip
 rename_i r1 r2 r3 hf
 cases h
 intro F w vs hF hl hr
 obtain ⟨u0, u1, rfl⟩ := two_args hl
 cases str_in (hr 0 _ rfl)
 cases str_in (hr 1 _ rfl)
 refine (strings_Cut.calls (bytes a0) (bytes a1) r1 r2 r3 w hf).mono ?_
 rintro e w' ⟨rfl, hB⟩
 replace hB := drawn_below hB
 refine ⟨_, (fun b o => F b o), rfl, (tup_mk3 (str_out _) (str_out _) (.bool _)), hB, fun _ _ h => h, fun b o h => ?_⟩
 exact .inl h
def x_strings_CutPrefix (_k : Nat) : List PV → Option PV
 | [.str a0, .str a1] =>
  (match strings_CutPrefix.f (bytes a0) (bytes a1) with | none => none | some (r1, r2) => some (.tup [strP r1, .bool r2]))
 | _ => none
theorem x_strings_CutPrefix_call {k : Nat} {ps : List PV} {r_ : PV} (h : x_strings_CutPrefix k ps = some r_) : ExtCall Tryz.prog 57 ps r_ := by
 unfold x_strings_CutPrefix at h
 split at h <;> first | (cases h; done) | skip
 rename_i a0 a1
 split at h <;> first | (cases h; done) | skip
 rename_i r1 r2 hf
 cases h
 intro F w vs hF hl hr
 obtain ⟨u0, u1, rfl⟩ := two_args hl
 cases str_in (hr 0 _ rfl)
 cases str_in (hr 1 _ rfl)
 refine (strings_CutPrefix.calls (bytes a0) (bytes a1) r1 r2 w hf).mono ?_
 rintro e w' ⟨rfl, hB⟩
 replace hB := drawn_below hB
 refine ⟨_, (fun b o => F b o), rfl, (tup_mk2 (str_out _) (.bool _)), hB, fun _ _ h => h, fun b o h => ?_⟩
 exact .inl h
def x_driftnetref01_Gcd (k : Nat) : List PV → Option PV
 | [p_l0, p_l1] =>
  (match rowOf .u32 p_l0 with | none => none | some l0 => (match rowOf .u32 p_l1 with | none => none | some l1 => (match driftnetref01_Gcd.f k l0 l1 with | none => none | some (r1, r2) => some (.tup [row .u32 r1, .int .i64 r2]))))
 | _ => none
theorem x_driftnetref01_Gcd_call {k : Nat} {ps : List PV} {r_ : PV} (h : x_driftnetref01_Gcd k ps = some r_) : ExtCall Tryz.prog 95 ps r_ := by
 unfold x_driftnetref01_Gcd at h
 split at h <;> first | (cases h; done) | skip
 rename_i p_l0 p_l1
 split at h <;> first | (cases h; done) | skip
 rename_i l0 q_l0
 split at h <;> first | (cases h; done) | skip
 rename_i l1 q_l1
 split at h <;> first | (cases h; done) | skip
 rename_i r1 r2 hf
 cases h
 intro F w vs hF hl hr
 obtain ⟨u0, u1, rfl⟩ := two_args hl
 obtain ⟨A0, c0, rfl, C_l0, R_l0, V_l0⟩ := row_in q_l0 (hr 0 _ rfl)
 obtain ⟨A1, c1, rfl, C_l1, R_l1, V_l1⟩ := row_in q_l1 (hr 1 _ rfl)
 refine (driftnetref01_Gcd.calls k A0 c0 l0 A1 c1 l1 r1 r2 w R_l0 C_l0 R_l1 C_l1 hf).mono ?_
 rintro e w' ⟨v0_, rfl, K_v0_, hB⟩
 obtain ⟨D_v0_, E_v0_, M_v0_⟩ := row_out K_v0_
 refine ⟨_, (fun b o => F b o ∨ D_v0_ b o), rfl, (tup_mk2 (M_v0_ _ (fun _ _ h => .inr h)) (.int _ _)), hB, fun _ _ h => .inl h, fun b o h => ?_⟩
 rcases h with h | h
 ·exact .inl h
 ·exact .inr (E_v0_ _ _ h)
def x_driftnetref01_Div (k : Nat) : List PV → Option PV
 | [p_l0, p_l1] =>
  (match rowOf .u32 p_l0 with | none => none | some l0 => (match rowOf .u32 p_l1 with | none => none | some l1 => (match driftnetref01_Div.f k l0 l1 with | none => none | some (r1, r2, r3) => some (.tup [row .u32 r1, row .u32 r2, .int .i64 r3]))))
 | _ => none
theorem x_driftnetref01_Div_call {k : Nat} {ps : List PV} {r_ : PV} (h : x_driftnetref01_Div k ps = some r_) : ExtCall Tryz.prog 96 ps r_ := by
 unfold x_driftnetref01_Div at h
 split at h <;> first | (cases h; done) | skip
 rename_i p_l0 p_l1
 split at h <;> first | (cases h; done) | skip
 rename_i l0 q_l0
 split at h <;> first | (cases h; done) | skip
 rename_i l1 q_l1
 split at h <;> first | (cases h; done) | skip
 rename_i r1 r2 r3 hf
 cases h
 intro F w vs hF hl hr
 obtain ⟨u0, u1, rfl⟩ := two_args hl
 obtain ⟨A0, c0, rfl, C_l0, R_l0, V_l0⟩ := row_in q_l0 (hr 0 _ rfl)
 obtain ⟨A1, c1, rfl, C_l1, R_l1, V_l1⟩ := row_in q_l1 (hr 1 _ rfl)
 refine (driftnetref01_Div.calls k A0 c0 l0 A1 c1 l1 r1 r2 r3 w R_l0 C_l0 R_l1 C_l1 hf).mono ?_
 rintro e w' ⟨v0_, v1_, rfl, K_v0_, K_v1_, hB⟩
 obtain ⟨D_v0_, E_v0_, M_v0_⟩ := row_out K_v0_
 obtain ⟨D_v1_, E_v1_, M_v1_⟩ := row_out K_v1_
 refine ⟨_, (fun b o => F b o ∨ D_v0_ b o ∨ D_v1_ b o), rfl, (tup_mk3 (M_v0_ _ (fun _ _ h => .inr (.inl h))) (M_v1_ _ (fun _ _ h => .inr (.inr h))) (.int _ _)), hB, fun _ _ h => .inl h, fun b o h => ?_⟩
 rcases h with h | h | h
 ·exact .inl h
 ·exact .inr (E_v0_ _ _ h)
 ·exact .inr (E_v1_ _ _ h)
def x_driftnetref01_Add (k : Nat) : List PV → Option PV
 | [p_l0, p_l1] =>
  (match rowOf .u32 p_l0 with | none => none | some l0 => (match rowOf .u32 p_l1 with | none => none | some l1 => (match driftnetref01_Add.f k l0 l1 with | none => none | some (r1, r2) => some (.tup [row .u32 r1, .int .i64 r2]))))
 | _ => none
theorem x_driftnetref01_Add_call {k : Nat} {ps : List PV} {r_ : PV} (h : x_driftnetref01_Add k ps = some r_) : ExtCall Tryz.prog 70 ps r_ := by
 unfold x_driftnetref01_Add at h
 split at h <;> first | (cases h; done) | skip
 rename_i p_l0 p_l1
 split at h <;> first | (cases h; done) | skip
 rename_i l0 q_l0
 split at h <;> first | (cases h; done) | skip
 rename_i l1 q_l1
 split at h <;> first | (cases h; done) | skip
 rename_i r1 r2 hf
 cases h
 intro F w vs hF hl hr
 obtain ⟨u0, u1, rfl⟩ := two_args hl
 obtain ⟨A0, c0, rfl, C_l0, R_l0, V_l0⟩ := row_in q_l0 (hr 0 _ rfl)
 obtain ⟨A1, c1, rfl, C_l1, R_l1, V_l1⟩ := row_in q_l1 (hr 1 _ rfl)
 refine (driftnetref01_Add.calls k A0 c0 l0 A1 c1 l1 r1 r2 w R_l0 C_l0 R_l1 C_l1 hf).mono ?_
 rintro e w' ⟨v0_, rfl, K_v0_, hB⟩
 obtain ⟨D_v0_, E_v0_, M_v0_⟩ := row_out K_v0_
 refine ⟨_, (fun b o => F b o ∨ D_v0_ b o), rfl, (tup_mk2 (M_v0_ _ (fun _ _ h => .inr h)) (.int _ _)), hB, fun _ _ h => .inl h, fun b o h => ?_⟩
 rcases h with h | h
 ·exact .inl h
 ·exact .inr (E_v0_ _ _ h)
def x_driftnetref01_Of (k : Nat) : List PV → Option PV
 | [.int .u64 a0] =>
  (match driftnetref01_Of.f k a0 with | none => none | some r => some (row .u32 r))
 | _ => none
theorem x_driftnetref01_Of_call {k : Nat} {ps : List PV} {r_ : PV} (h : x_driftnetref01_Of k ps = some r_) : ExtCall Tryz.prog 74 ps r_ := by
 unfold x_driftnetref01_Of at h
 split at h <;> first | (cases h; done) | skip
 rename_i a0
 split at h <;> first | (cases h; done) | skip
 rename_i r hf
 cases h
 intro F w vs hF hl hr
 obtain ⟨u0, rfl⟩ := one_arg hl
 cases int_in (hr 0 _ rfl)
 refine (driftnetref01_Of.calls k a0 r w hf).mono ?_
 rintro e w' ⟨v0_, rfl, K_v0_, hB⟩
 obtain ⟨D_v0_, E_v0_, M_v0_⟩ := row_out K_v0_
 refine ⟨_, (fun b o => F b o ∨ D_v0_ b o), rfl, (M_v0_ _ (fun _ _ h => .inr h)), hB, fun _ _ h => .inl h, fun b o h => ?_⟩
 rcases h with h | h
 ·exact .inl h
 ·exact .inr (E_v0_ _ _ h)
def x_driftnetref01_Check (_k : Nat) : List PV → Option PV
 | [p_l0] =>
  (match rowOf .u32 p_l0 with | none => none | some l0 => (match driftnetref01_Check.f l0 with | none => none | some r => some (.int .i64 r)))
 | _ => none
theorem x_driftnetref01_Check_call {k : Nat} {ps : List PV} {r_ : PV} (h : x_driftnetref01_Check k ps = some r_) : ExtCall Tryz.prog 65 ps r_ := by
 unfold x_driftnetref01_Check at h
 split at h <;> first | (cases h; done) | skip
 rename_i p_l0
 split at h <;> first | (cases h; done) | skip
 rename_i l0 q_l0
 split at h <;> first | (cases h; done) | skip
 rename_i r hf
 cases h
 intro F w vs hF hl hr
 obtain ⟨u0, rfl⟩ := one_arg hl
 obtain ⟨A0, c0, rfl, C_l0, R_l0, V_l0⟩ := row_in q_l0 (hr 0 _ rfl)
 refine (driftnetref01_Check.calls A0 c0 l0 r w R_l0 C_l0 hf).mono ?_
 rintro e w' ⟨rfl, hB⟩
 replace hB := drawn_below hB
 refine ⟨_, (fun b o => F b o), rfl, (.int _ _), hB, fun _ _ h => h, fun b o h => ?_⟩
 exact .inl h
def x_driftnetref01_Small (k : Nat) : List PV → Option PV
 | [p_l0] =>
  (match rowOf .u32 p_l0 with | none => none | some l0 => (match driftnetref01_Small.f k l0 with | none => none | some (r1, r2) => some (.tup [.int .u64 r1, .bool r2])))
 | _ => none
theorem x_driftnetref01_Small_call {k : Nat} {ps : List PV} {r_ : PV} (h : x_driftnetref01_Small k ps = some r_) : ExtCall Tryz.prog 72 ps r_ := by
 unfold x_driftnetref01_Small at h
 split at h <;> first | (cases h; done) | skip
 rename_i p_l0
 split at h <;> first | (cases h; done) | skip
 rename_i l0 q_l0
 split at h <;> first | (cases h; done) | skip
 rename_i r1 r2 hf
 cases h
 intro F w vs hF hl hr
 obtain ⟨u0, rfl⟩ := one_arg hl
 obtain ⟨A0, c0, rfl, C_l0, R_l0, V_l0⟩ := row_in q_l0 (hr 0 _ rfl)
 refine (driftnetref01_Small.calls k A0 c0 l0 r1 r2 w R_l0 C_l0 hf).mono ?_
 rintro e w' ⟨rfl, hB⟩
 replace hB := drawn_below hB
 refine ⟨_, (fun b o => F b o), rfl, (tup_mk2 (.int _ _) (.bool _)), hB, fun _ _ h => h, fun b o h => ?_⟩
 exact .inl h
def x_driftnetref01_Copy (_k : Nat) : List PV → Option PV
 | [p_l0] =>
  (match rowOf .u32 p_l0 with | none => none | some l0 => (match driftnetref01_Copy.f l0 with | none => none | some r => some (row .u32 r)))
 | _ => none
theorem x_driftnetref01_Copy_call {k : Nat} {ps : List PV} {r_ : PV} (h : x_driftnetref01_Copy k ps = some r_) : ExtCall Tryz.prog 39 ps r_ := by
 unfold x_driftnetref01_Copy at h
 split at h <;> first | (cases h; done) | skip
 rename_i p_l0
 split at h <;> first | (cases h; done) | skip
 rename_i l0 q_l0
 split at h <;> first | (cases h; done) | skip
 rename_i r hf
 cases h
 intro F w vs hF hl hr
 obtain ⟨u0, rfl⟩ := one_arg hl
 obtain ⟨A0, c0, rfl, C_l0, R_l0, V_l0⟩ := row_in q_l0 (hr 0 _ rfl)
 refine (driftnetref01_Copy.calls A0 c0 l0 r w R_l0 C_l0 hf).mono ?_
 rintro e w' ⟨v0_, rfl, K_v0_, hB⟩
 obtain ⟨D_v0_, E_v0_, M_v0_⟩ := row_out K_v0_
 refine ⟨_, (fun b o => F b o ∨ D_v0_ b o), rfl, (M_v0_ _ (fun _ _ h => .inr h)), hB, fun _ _ h => .inl h, fun b o h => ?_⟩
 rcases h with h | h
 ·exact .inl h
 ·exact .inr (E_v0_ _ _ h)
def x_driftnetref02_same (k : Nat) : List PV → Option PV
 | [p_l0, p_l1] =>
  (match rowOf .u32 p_l0 with | none => none | some l0 => (match rowOf .u32 p_l1 with | none => none | some l1 => (match driftnetref02_same.f k l0 l1 with | none => none | some r => some (.bool r))))
 | _ => none
theorem x_driftnetref02_same_call {k : Nat} {ps : List PV} {r_ : PV} (h : x_driftnetref02_same k ps = some r_) : ExtCall Tryz.prog 48 ps r_ := by
 unfold x_driftnetref02_same at h
 split at h <;> first | (cases h; done) | skip
 rename_i p_l0 p_l1
 split at h <;> first | (cases h; done) | skip
 rename_i l0 q_l0
 split at h <;> first | (cases h; done) | skip
 rename_i l1 q_l1
 split at h <;> first | (cases h; done) | skip
 rename_i r hf
 cases h
 intro F w vs hF hl hr
 obtain ⟨u0, u1, rfl⟩ := two_args hl
 obtain ⟨A0, c0, rfl, C_l0, R_l0, V_l0⟩ := row_in q_l0 (hr 0 _ rfl)
 obtain ⟨A1, c1, rfl, C_l1, R_l1, V_l1⟩ := row_in q_l1 (hr 1 _ rfl)
 refine (driftnetref02_same.calls k A0 c0 l0 A1 c1 l1 r w R_l0 C_l0 R_l1 C_l1 hf).mono ?_
 rintro e w' ⟨rfl, hB⟩
 replace hB := drawn_below hB
 refine ⟨_, (fun b o => F b o), rfl, (.bool _), hB, fun _ _ h => h, fun b o h => ?_⟩
 exact .inl h
def dom : FuncId → Bool := fun f => f == 60 || f == 67 || f == 68 || f == 76 || f == 75 || f == 77 || f == 73 || f == 64 || f == 59 || f == 52 || f == 71 || f == 53 || f == 66 || f == 58 || f == 57 || f == 95 || f == 96 || f == 70 || f == 74 || f == 65 || f == 72 || f == 39 || f == 48
def ext (k : Nat) (f : FuncId) (ps : List PV) : Option PV :=
 if f = 60 then x_nat_Gcd k ps else
 if f = 67 then x_nat_Div k ps else
 if f = 68 then x_nat_Add k ps else
 if f = 76 then x_nat_Sub k ps else
 if f = 75 then x_nat_Cmp k ps else
 if f = 77 then x_nat_Mul k ps else
 if f = 73 then x_nat_Of k ps else
 if f = 64 then x_nat_Check k ps else
 if f = 59 then x_nat_Read k ps else
 if f = 52 then x_nat_Text k ps else
 if f = 71 then x_nat_Small k ps else
 if f = 53 then x_slices_Equal_uint32_uint32 k ps else
 if f = 66 then x_slices_Clone_uint32_uint32 k ps else
 if f = 58 then x_strings_Cut k ps else
 if f = 57 then x_strings_CutPrefix k ps else
 if f = 95 then x_driftnetref01_Gcd k ps else
 if f = 96 then x_driftnetref01_Div k ps else
 if f = 70 then x_driftnetref01_Add k ps else
 if f = 74 then x_driftnetref01_Of k ps else
 if f = 65 then x_driftnetref01_Check k ps else
 if f = 72 then x_driftnetref01_Small k ps else
 if f = 39 then x_driftnetref01_Copy k ps else
 if f = 48 then x_driftnetref02_same k ps else none
theorem ext_none : ∀ f, dom f = false → ∀ k ps, ext k f ps = none := by
 intro f h k ps
 unfold ext
 rw [if_neg (fun e : f = 60 => by subst e; exact absurd h (by decide))]
 rw [if_neg (fun e : f = 67 => by subst e; exact absurd h (by decide))]
 rw [if_neg (fun e : f = 68 => by subst e; exact absurd h (by decide))]
 rw [if_neg (fun e : f = 76 => by subst e; exact absurd h (by decide))]
 rw [if_neg (fun e : f = 75 => by subst e; exact absurd h (by decide))]
 rw [if_neg (fun e : f = 77 => by subst e; exact absurd h (by decide))]
 rw [if_neg (fun e : f = 73 => by subst e; exact absurd h (by decide))]
 rw [if_neg (fun e : f = 64 => by subst e; exact absurd h (by decide))]
 rw [if_neg (fun e : f = 59 => by subst e; exact absurd h (by decide))]
 rw [if_neg (fun e : f = 52 => by subst e; exact absurd h (by decide))]
 rw [if_neg (fun e : f = 71 => by subst e; exact absurd h (by decide))]
 rw [if_neg (fun e : f = 53 => by subst e; exact absurd h (by decide))]
 rw [if_neg (fun e : f = 66 => by subst e; exact absurd h (by decide))]
 rw [if_neg (fun e : f = 58 => by subst e; exact absurd h (by decide))]
 rw [if_neg (fun e : f = 57 => by subst e; exact absurd h (by decide))]
 rw [if_neg (fun e : f = 95 => by subst e; exact absurd h (by decide))]
 rw [if_neg (fun e : f = 96 => by subst e; exact absurd h (by decide))]
 rw [if_neg (fun e : f = 70 => by subst e; exact absurd h (by decide))]
 rw [if_neg (fun e : f = 74 => by subst e; exact absurd h (by decide))]
 rw [if_neg (fun e : f = 65 => by subst e; exact absurd h (by decide))]
 rw [if_neg (fun e : f = 72 => by subst e; exact absurd h (by decide))]
 rw [if_neg (fun e : f = 39 => by subst e; exact absurd h (by decide))]
 rw [if_neg (fun e : f = 48 => by subst e; exact absurd h (by decide))]
theorem ext_ok : ExtOk Tryz.prog ext := by
 intro k f ps r h
 unfold ext at h
 by_cases e : f = 60
 ·rw [if_pos e] at h; subst e; exact ⟨fnThere (by kernel_rfl), x_nat_Gcd_call h⟩
 rw [if_neg e] at h; clear e
 by_cases e : f = 67
 ·rw [if_pos e] at h; subst e; exact ⟨fnThere (by kernel_rfl), x_nat_Div_call h⟩
 rw [if_neg e] at h; clear e
 by_cases e : f = 68
 ·rw [if_pos e] at h; subst e; exact ⟨fnThere (by kernel_rfl), x_nat_Add_call h⟩
 rw [if_neg e] at h; clear e
 by_cases e : f = 76
 ·rw [if_pos e] at h; subst e; exact ⟨fnThere (by kernel_rfl), x_nat_Sub_call h⟩
 rw [if_neg e] at h; clear e
 by_cases e : f = 75
 ·rw [if_pos e] at h; subst e; exact ⟨fnThere (by kernel_rfl), x_nat_Cmp_call h⟩
 rw [if_neg e] at h; clear e
 by_cases e : f = 77
 ·rw [if_pos e] at h; subst e; exact ⟨fnThere (by kernel_rfl), x_nat_Mul_call h⟩
 rw [if_neg e] at h; clear e
 by_cases e : f = 73
 ·rw [if_pos e] at h; subst e; exact ⟨fnThere (by kernel_rfl), x_nat_Of_call h⟩
 rw [if_neg e] at h; clear e
 by_cases e : f = 64
 ·rw [if_pos e] at h; subst e; exact ⟨fnThere (by kernel_rfl), x_nat_Check_call h⟩
 rw [if_neg e] at h; clear e
 by_cases e : f = 59
 ·rw [if_pos e] at h; subst e; exact ⟨fnThere (by kernel_rfl), x_nat_Read_call h⟩
 rw [if_neg e] at h; clear e
 by_cases e : f = 52
 ·rw [if_pos e] at h; subst e; exact ⟨fnThere (by kernel_rfl), x_nat_Text_call h⟩
 rw [if_neg e] at h; clear e
 by_cases e : f = 71
 ·rw [if_pos e] at h; subst e; exact ⟨fnThere (by kernel_rfl), x_nat_Small_call h⟩
 rw [if_neg e] at h; clear e
 by_cases e : f = 53
 ·rw [if_pos e] at h; subst e; exact ⟨fnThere (by kernel_rfl), x_slices_Equal_uint32_uint32_call h⟩
 rw [if_neg e] at h; clear e
 by_cases e : f = 66
 ·rw [if_pos e] at h; subst e; exact ⟨fnThere (by kernel_rfl), x_slices_Clone_uint32_uint32_call h⟩
 rw [if_neg e] at h; clear e
 by_cases e : f = 58
 ·rw [if_pos e] at h; subst e; exact ⟨fnThere (by kernel_rfl), x_strings_Cut_call h⟩
 rw [if_neg e] at h; clear e
 by_cases e : f = 57
 ·rw [if_pos e] at h; subst e; exact ⟨fnThere (by kernel_rfl), x_strings_CutPrefix_call h⟩
 rw [if_neg e] at h; clear e
 by_cases e : f = 95
 ·rw [if_pos e] at h; subst e; exact ⟨fnThere (by kernel_rfl), x_driftnetref01_Gcd_call h⟩
 rw [if_neg e] at h; clear e
 by_cases e : f = 96
 ·rw [if_pos e] at h; subst e; exact ⟨fnThere (by kernel_rfl), x_driftnetref01_Div_call h⟩
 rw [if_neg e] at h; clear e
 by_cases e : f = 70
 ·rw [if_pos e] at h; subst e; exact ⟨fnThere (by kernel_rfl), x_driftnetref01_Add_call h⟩
 rw [if_neg e] at h; clear e
 by_cases e : f = 74
 ·rw [if_pos e] at h; subst e; exact ⟨fnThere (by kernel_rfl), x_driftnetref01_Of_call h⟩
 rw [if_neg e] at h; clear e
 by_cases e : f = 65
 ·rw [if_pos e] at h; subst e; exact ⟨fnThere (by kernel_rfl), x_driftnetref01_Check_call h⟩
 rw [if_neg e] at h; clear e
 by_cases e : f = 72
 ·rw [if_pos e] at h; subst e; exact ⟨fnThere (by kernel_rfl), x_driftnetref01_Small_call h⟩
 rw [if_neg e] at h; clear e
 by_cases e : f = 39
 ·rw [if_pos e] at h; subst e; exact ⟨fnThere (by kernel_rfl), x_driftnetref01_Copy_call h⟩
 rw [if_neg e] at h; clear e
 by_cases e : f = 48
 ·rw [if_pos e] at h; subst e; exact ⟨fnThere (by kernel_rfl), x_driftnetref02_same_call h⟩
 rw [if_neg e] at h; clear e
 cases h
theorem ext_nat_Gcd (k : Nat) (ps : List PV) : ext k 60 ps = x_nat_Gcd k ps := by kernel_rfl
theorem ext_nat_Div (k : Nat) (ps : List PV) : ext k 67 ps = x_nat_Div k ps := by kernel_rfl
theorem ext_nat_Add (k : Nat) (ps : List PV) : ext k 68 ps = x_nat_Add k ps := by kernel_rfl
theorem ext_nat_Sub (k : Nat) (ps : List PV) : ext k 76 ps = x_nat_Sub k ps := by kernel_rfl
theorem ext_nat_Cmp (k : Nat) (ps : List PV) : ext k 75 ps = x_nat_Cmp k ps := by kernel_rfl
theorem ext_nat_Mul (k : Nat) (ps : List PV) : ext k 77 ps = x_nat_Mul k ps := by kernel_rfl
theorem ext_nat_Of (k : Nat) (ps : List PV) : ext k 73 ps = x_nat_Of k ps := by kernel_rfl
theorem ext_nat_Check (k : Nat) (ps : List PV) : ext k 64 ps = x_nat_Check k ps := by kernel_rfl
theorem ext_nat_Read (k : Nat) (ps : List PV) : ext k 59 ps = x_nat_Read k ps := by kernel_rfl
theorem ext_nat_Text (k : Nat) (ps : List PV) : ext k 52 ps = x_nat_Text k ps := by kernel_rfl
theorem ext_nat_Small (k : Nat) (ps : List PV) : ext k 71 ps = x_nat_Small k ps := by kernel_rfl
theorem ext_slices_Equal_uint32_uint32 (k : Nat) (ps : List PV) : ext k 53 ps = x_slices_Equal_uint32_uint32 k ps := by kernel_rfl
theorem ext_slices_Clone_uint32_uint32 (k : Nat) (ps : List PV) : ext k 66 ps = x_slices_Clone_uint32_uint32 k ps := by kernel_rfl
theorem ext_strings_Cut (k : Nat) (ps : List PV) : ext k 58 ps = x_strings_Cut k ps := by kernel_rfl
theorem ext_strings_CutPrefix (k : Nat) (ps : List PV) : ext k 57 ps = x_strings_CutPrefix k ps := by kernel_rfl
theorem ext_driftnetref01_Gcd (k : Nat) (ps : List PV) : ext k 95 ps = x_driftnetref01_Gcd k ps := by kernel_rfl
theorem ext_driftnetref01_Div (k : Nat) (ps : List PV) : ext k 96 ps = x_driftnetref01_Div k ps := by kernel_rfl
theorem ext_driftnetref01_Add (k : Nat) (ps : List PV) : ext k 70 ps = x_driftnetref01_Add k ps := by kernel_rfl
theorem ext_driftnetref01_Of (k : Nat) (ps : List PV) : ext k 74 ps = x_driftnetref01_Of k ps := by kernel_rfl
theorem ext_driftnetref01_Check (k : Nat) (ps : List PV) : ext k 65 ps = x_driftnetref01_Check k ps := by kernel_rfl
theorem ext_driftnetref01_Small (k : Nat) (ps : List PV) : ext k 72 ps = x_driftnetref01_Small k ps := by kernel_rfl
theorem ext_driftnetref01_Copy (k : Nat) (ps : List PV) : ext k 39 ps = x_driftnetref01_Copy k ps := by kernel_rfl
theorem ext_driftnetref02_same (k : Nat) (ps : List PV) : ext k 48 ps = x_driftnetref02_same k ps := by kernel_rfl
open Go Go.RowKit Go.Proofs.YtkjdpojbmkpkgaaGreatDoorW.PrintWords
abbrev g0 : Nat → Option (List PV) := fun _ => none
def Evc (f : FuncId) (ps : List PV) (r : PV) : Prop := ∃ K, ∀ k, K ≤ k → ∃ H', ev Tryz.prog g0 ext k f (ps.map .pv) [] = some (.pv r, H')
def Owed : Item → Prop
 | .call f ps r => Evc f ps r
 | .len t x n => lenA Tryz.prog t x = some n ∧ n ≤ 9223372036854775807
 | .cut t x l h m r => sliceA Tryz.prog t x l h m = some r
 | .test b v => b = v
 | .bin op t a b yc r => binA Tryz.prog op t a b yc = some r
 | .loop c s e s' => ∃ K, ∀ k, K ≤ k → codeA Tryz.prog g0 (ev Tryz.prog g0 ext k) k (.loop c) s = some (e, s')
theorem good_up {K K' : Nat} (h : K ≤ K') {i : Item} (hg : Good Tryz.prog g0 ext K i) : Good Tryz.prog g0 ext K' i := by
 cases i with
 | call f ps r => exact fun k hk => hg k (by omega)
 | loop c s e s' => exact fun k hk => hg k (by omega)
 | _ => exact hg
theorem owed_good : ∀ (L : List Item), (∀ i ∈ L, Owed i) → ∃ K, ∀ i ∈ L, Good Tryz.prog g0 ext K i
 | [], _ => ⟨0, fun _ h => by cases h⟩
 | i :: L, h => by
  obtain ⟨K, hK⟩ := owed_good L (fun j hj => h j (List.mem_cons_of_mem _ hj))
  have ⟨K2, hK2⟩ : ∃ K2, Good Tryz.prog g0 ext K2 i := by
   have := h i (List.mem_cons_self ..)
   cases i with
   | call f ps r => exact this
   | loop c s e s' => exact this
   | _ => exact ⟨0, this⟩
  refine ⟨max K K2, fun j hj => ?_⟩
  rcases List.mem_cons.1 hj with rfl | hj
  ·exact good_up (by omega) hK2
  ·exact good_up (by omega) (hK j hj)
theorem all?_pvs : ∀ ps : List PV, all? AV.pv? (ps.map .pv) = some ps
 | [] => rfl
 | p :: ps => by simp only [List.map_cons, all?, AV.pv?, all?_pvs ps]
theorem evc_ext {f : FuncId} {ps : List PV} {r : PV} (h : ∃ K, ∀ k, K ≤ k → ext k f ps = some r) : Evc f ps r := by
 obtain ⟨K, hK⟩ := h
 refine ⟨K + 1, fun k hk => ?_⟩
 obtain ⟨k, rfl⟩ : ∃ j, k = j + 1 := ⟨k - 1, by omega⟩
 refine ⟨[], ?_⟩
 simp only [ev]
 rw [all?_pvs]
 simp only [hK k (by omega)]
def ran : Option (AV × HS × SS) → Option (AV × SS)
 | some (r, _, q) => some (r, q)
 | none => none
theorem evc_script {known : FuncId → Bool} {fl : Flags} {n : Nat} {f : FuncId} {ps : List PV} {r : PV} {L : List Item} (h : ran (evS Tryz.prog g0 known fl dom n f (ps.map .pv) [] ⟨L, []⟩) = some (.pv r, ⟨[], L.reverse⟩)) (hg : ∀ i ∈ L, Owed i) : Evc f ps r := by
 obtain ⟨K, hK⟩ := owed_good L hg
 unfold ran at h
 split at h <;> first | (cases h; done) | skip
 rename_i H' q h2
 cases h
 replace h := h2
 refine ⟨K + n, fun k hk => ⟨H', ?_⟩⟩
 exact ((evS_sound (glob := g0) (known := known) (fl := fl) (K := K) ext_none n hk).1 _ _ _ _ _ _ _ h).2 (fun i hi => hK i (by simpa using hi))
theorem owed_nil : ∀ i ∈ ([] : List Item), Owed i := fun _ h => by cases h
theorem z18 {i : Item} {L : List Item} (h : Owed i) (hL : ∀ j ∈ L, Owed j) : ∀ j ∈ i :: L, Owed j := fun j hj => by
 rcases List.mem_cons.1 hj with rfl | hj
 ·exact h
 ·exact hL j hj
structure OI where
 i : Item
 h : Owed i
def oc {f : FuncId} {ps : List PV} {r : PV} (h : Evc f ps r) : OI := ⟨.call f ps r, h⟩
def oo {i : Item} (h : Owed i) : OI := ⟨i, h⟩
def ll (t : TypeId) (x : AV) (n : Nat) (h : (match lenA Tryz.prog t x with | some m => m == n && decide (n ≤ 9223372036854775807) | none => false) = true := by kernel_rfl) : OI :=
 ⟨.len t x n, by
  split at h
  ·rename_i m hm
   rw [Bool.and_eq_true, beq_iff_eq, decide_eq_true_eq] at h
   exact ⟨by rw [hm, h.1], h.2⟩
  ·cases h⟩
def bl (op : BinOp) (t : TypeId) (a b : AV) (yc : Bool) (r : AV) (h : binA Tryz.prog op t a b yc = some r := by kernel_rfl) : OI := ⟨.bin op t a b yc r, h⟩
theorem es {known : FuncId → Bool} {f : FuncId} {ps : List PV} {r : PV} (fl : Flags) (n : Nat) (L : List OI) (h : ran (evS Tryz.prog g0 known fl dom n f (ps.map .pv) [] ⟨L.map OI.i, []⟩) = some (.pv r, ⟨[], (L.map OI.i).reverse⟩)) : Evc f ps r :=
 evc_script h (fun i hi => by obtain ⟨x, _, rfl⟩ := List.mem_map.1 hi; exact x.h)
theorem prog_funcs : FuncsOk Tryz.prog := funcsOk_of (by kernel_rfl)
theorem prog_mixed : Tryz.prog.follows .mixedOrders = true := by kernel_rfl
theorem law_of {f : FuncId} {ps : List PV} (h : Evc f ps (.bool true)) {W : World} {vs : List Value} (hl : vs.length = ps.length) (hr : ∀ (j : Nat) (p : PV), ps[j]? = some p → Rep (fun b _ => b < W.heap.size) W p (vs.getD j Go.undef)) :
  Calls Tryz.prog f vs.toArray W fun e W' => e = .returned (.bool true) ∧ Below W.heap.size W W' := by
 obtain ⟨K, hK⟩ := h
 obtain ⟨H', h2⟩ := hK K (Nat.le_refl _)
 exact law_calls (glob := g0) ext_ok prog_mixed prog_funcs h2 hl hr (fun g cs h => by cases h)
open Go Go.RowKit Go.Proofs.YtkjdpojbmkpkgaaGreatDoorW.PrintWords Go.Proofs.YtkjdpojbmkpkgaaGreatDoorW.PrintLast Go.Proofs.YtkjdpojbmkpkgaaGreatDoorW.PrintMore Go.Proofs.YtkjdpojbmkpkgaaGreatDoor.M Go.Proofs.YtkjdpojbmkpkgaaGreatDoor.P Go.Proofs.YtkjdpojbmkpkgaaGreatDoor.E
def rowZ (l : List Int) : PV := row .u32 l
def rowL (n : Nat) : PV := rowZ (limbs n)
def e0 : PV := .int .i64 0
def nilR : PV := .sl (some false) 0 []
def rz (s : Bool) (a b : List Int) : PV := .agg [.bool s, rowZ a, rowZ b]
def rp (s : Bool) (n d : Nat) : PV := .agg [.bool s, rowL n, rowL d]
def zeroR : PV := .agg [.bool false, nilR, nilR]
def okP (p : PV) : PV := .tup [p, .int .i64 0]
def noP (e : Int) : PV := .tup [zeroR, .int .i64 e]
def intP (n : Int) : PV := .int .i64 n
def pairP (m n : Nat) : PV := .sl (some true) 1 [rowL m, rowL n]
theorem rowOf_Z {l : List Int} (h : l.length ≤ 1000) : rowOf .u32 (rowZ l) = some l := rowOf_row (Nat.le_trans h (by decide))
theorem k64 {n : Nat} (h : Lt 64 n) : Lt 1000 n := h.up (by decide)
theorem k1 {j n : Nat} (h : Lt j n) (hj : j ≤ 1000) : (limbs n).length ≤ 1000 := Nat.le_trans (len_l h) hj
theorem Gcd_p {p q : PV} {a b : List Int} (hp : rowOf .u32 p = some a) (hq : rowOf .u32 q = some b) (ha : okL a) (hb : okL b) : Evc 60 [p, q] (.tup [rowZ (gcdS a b).1, .int .i64 (gcdS a b).2]) := by
 refine evc_ext ?_
 obtain ⟨K, hK⟩ := Gcd_ev ha hb
 refine ⟨K, fun k hk => ?_⟩
 rw [ext_nat_Gcd]
 simp only [x_nat_Gcd, hp, hq, hK k hk]
 first | done | rfl
theorem Gcd_z {a b : List Int} (ha : okL a) (hb : okL b) (la : a.length ≤ 1000) (lb : b.length ≤ 1000) : Evc 60 [rowZ a, rowZ b] (.tup [rowZ (gcdS a b).1, .int .i64 (gcdS a b).2]) := Gcd_p (rowOf_Z la) (rowOf_Z lb) ha hb
theorem Add_p {p q : PV} {a b : List Int} (hp : rowOf .u32 p = some a) (hq : rowOf .u32 q = some b) (ha : okL a) (hb : okL b) : Evc 68 [p, q] (.tup [rowZ (addS a b).1, .int .i64 (addS a b).2]) := by
 refine evc_ext ?_
 obtain ⟨K, hK⟩ := Add_ev ha hb
 refine ⟨K, fun k hk => ?_⟩
 rw [ext_nat_Add]
 simp only [x_nat_Add, hp, hq, hK k hk]
 first | done | rfl
theorem Add_z {a b : List Int} (ha : okL a) (hb : okL b) (la : a.length ≤ 1000) (lb : b.length ≤ 1000) : Evc 68 [rowZ a, rowZ b] (.tup [rowZ (addS a b).1, .int .i64 (addS a b).2]) := Add_p (rowOf_Z la) (rowOf_Z lb) ha hb
theorem Mul_p {p q : PV} {a b : List Int} (hp : rowOf .u32 p = some a) (hq : rowOf .u32 q = some b) (ha : okL a) (hb : okL b) : Evc 77 [p, q] (.tup [rowZ (mulS a b).1, .int .i64 (mulS a b).2]) := by
 refine evc_ext ?_
 obtain ⟨K, hK⟩ := Mul_ev ha hb
 refine ⟨K, fun k hk => ?_⟩
 rw [ext_nat_Mul]
 simp only [x_nat_Mul, hp, hq, hK k hk]
 first | done | rfl
theorem Mul_z {a b : List Int} (ha : okL a) (hb : okL b) (la : a.length ≤ 1000) (lb : b.length ≤ 1000) : Evc 77 [rowZ a, rowZ b] (.tup [rowZ (mulS a b).1, .int .i64 (mulS a b).2]) := Mul_p (rowOf_Z la) (rowOf_Z lb) ha hb
theorem Sub_p {p q : PV} {a b : List Int} (hp : rowOf .u32 p = some a) (hq : rowOf .u32 q = some b) (ha : okL a) (hb : okL b) : Evc 76 [p, q] (.tup [rowZ (subS a b).1, .int .i64 (subS a b).2]) := by
 refine evc_ext ?_
 obtain ⟨K, hK⟩ := Sub_ev ha hb
 refine ⟨K, fun k hk => ?_⟩
 rw [ext_nat_Sub]
 simp only [x_nat_Sub, hp, hq, hK k hk]
 first | done | rfl
theorem Sub_z {a b : List Int} (ha : okL a) (hb : okL b) (la : a.length ≤ 1000) (lb : b.length ≤ 1000) : Evc 76 [rowZ a, rowZ b] (.tup [rowZ (subS a b).1, .int .i64 (subS a b).2]) := Sub_p (rowOf_Z la) (rowOf_Z lb) ha hb
theorem Div_p {p q : PV} {a b : List Int} (hp : rowOf .u32 p = some a) (hq : rowOf .u32 q = some b) (ha : okL a) (hb : okL b) : Evc 67 [p, q] (.tup [rowZ (divS a b).1, rowZ (divS a b).2.1, .int .i64 (divS a b).2.2]) := by
 refine evc_ext ?_
 obtain ⟨K, hK⟩ := Div_ev ha hb
 refine ⟨K, fun k hk => ?_⟩
 rw [ext_nat_Div]
 simp only [x_nat_Div, hp, hq, hK k hk]
 first | done | rfl
theorem Div_z {a b : List Int} (ha : okL a) (hb : okL b) (la : a.length ≤ 1000) (lb : b.length ≤ 1000) : Evc 67 [rowZ a, rowZ b] (.tup [rowZ (divS a b).1, rowZ (divS a b).2.1, .int .i64 (divS a b).2.2]) := Div_p (rowOf_Z la) (rowOf_Z lb) ha hb
theorem NCmp_p {p q : PV} {a b : List Int} (hp : rowOf .u32 p = some a) (hq : rowOf .u32 q = some b) (ha : okL a) (hb : okL b) : Evc 75 [p, q] (.int .i64 (cmpS a b)) := by
 refine evc_ext ?_
 obtain ⟨K, hK⟩ := Cmp_ev ha hb
 refine ⟨K, fun k hk => ?_⟩
 rw [ext_nat_Cmp]
 simp only [x_nat_Cmp, hp, hq, hK k hk]
 first | done | rfl
theorem NCmp_z {a b : List Int} (ha : okL a) (hb : okL b) (la : a.length ≤ 1000) (lb : b.length ≤ 1000) : Evc 75 [rowZ a, rowZ b] (.int .i64 (cmpS a b)) := NCmp_p (rowOf_Z la) (rowOf_Z lb) ha hb
theorem NText_z {a : List Int} (ha : okL a) (la : a.length ≤ 1000) : Evc 52 [rowZ a] (.tup [strP (textS a).1, .int .i64 (textS a).2]) := by
 refine evc_ext ?_
 obtain ⟨K, hK⟩ := Text_ev ha
 refine ⟨K, fun k hk => ?_⟩
 rw [ext_nat_Text]
 simp only [x_nat_Text, rowOf_Z la, hK k hk]
 first | done | rfl
theorem NSmall_z {a : List Int} (ha : okL a) (la : a.length ≤ 1000) : Evc 71 [rowZ a] (.tup [.int .u64 (smallS a).1, .bool (smallS a).2]) := by
 refine evc_ext ?_
 obtain ⟨K, hK⟩ := Small_ev ha
 refine ⟨K, fun k hk => ?_⟩
 rw [ext_nat_Small]
 simp only [x_nat_Small, rowOf_Z la, hK k hk]
 first | done | rfl
theorem NCheck_z {a : List Int} (la : a.length ≤ 1000) : Evc 64 [rowZ a] (.int .i64 (chk a)) := by
 refine evc_ext ⟨0, fun k _ => ?_⟩
 rw [ext_nat_Check]
 simp only [x_nat_Check, rowOf_Z la, check]
theorem NOf_c (n : Nat) (h : n < 18446744073709551616) : Evc 73 [.int .u64 n] (rowL n) := by
 refine evc_ext ?_
 obtain ⟨K, hK⟩ := of_ev (n := (n : Int)) (by omega) (by omega)
 refine ⟨K, fun k hk => ?_⟩
 rw [ext_nat_Of]
 simp only [x_nat_Of, hK k hk, Int.toNat_natCast]
 rfl
theorem NRead_c (s : List UInt8) : Evc 59 [.str s] (.tup [row .u32 (readS s).1, .int .i64 (readS s).2]) := by
 refine evc_ext ?_
 obtain ⟨K, hK⟩ := Read_ev s
 refine ⟨K, fun k hk => ?_⟩
 rw [ext_nat_Read]
 have h := hK k hk
 simp only [x_nat_Read]
 show (match nat_Read.f k (str s) with | none => none | some (r1, r2) => some (PV.tup [row .u32 r1, PV.int .i64 r2])) = _
 rw [show nat_Read.f k (str s) = some (readS s) from h]
theorem rGcd_p {p q : PV} {a b : List Int} (hp : rowOf .u32 p = some a) (hq : rowOf .u32 q = some b) (ha : okL a) (hb : okL b) : Evc 95 [p, q] (.tup [rowZ (gcdS a b).1, .int .i64 (gcdS a b).2]) := by
 refine evc_ext ?_
 obtain ⟨K, hK⟩ := rGcd_ev ha hb
 refine ⟨K, fun k hk => ?_⟩
 rw [ext_driftnetref01_Gcd]
 simp only [x_driftnetref01_Gcd, hp, hq, hK k hk]
 first | done | rfl
theorem rGcd_z {a b : List Int} (ha : okL a) (hb : okL b) (la : a.length ≤ 1000) (lb : b.length ≤ 1000) : Evc 95 [rowZ a, rowZ b] (.tup [rowZ (gcdS a b).1, .int .i64 (gcdS a b).2]) := rGcd_p (rowOf_Z la) (rowOf_Z lb) ha hb
theorem rAdd_p {p q : PV} {a b : List Int} (hp : rowOf .u32 p = some a) (hq : rowOf .u32 q = some b) (ha : okL a) (hb : okL b) : Evc 70 [p, q] (.tup [rowZ (addS a b).1, .int .i64 (addS a b).2]) := by
 refine evc_ext ?_
 obtain ⟨K, hK⟩ := rAdd_ev ha hb
 refine ⟨K, fun k hk => ?_⟩
 rw [ext_driftnetref01_Add]
 simp only [x_driftnetref01_Add, hp, hq, hK k hk]
 first | done | rfl
theorem rDiv_p {p q : PV} {a b : List Int} (hp : rowOf .u32 p = some a) (hq : rowOf .u32 q = some b) (ha : okL a) (hb : okL b) : Evc 96 [p, q] (.tup [rowZ (divS a b).1, rowZ (divS a b).2.1, .int .i64 (divS a b).2.2]) := by
 refine evc_ext ?_
 obtain ⟨K, hK⟩ := rDiv_ev ha hb
 refine ⟨K, fun k hk => ?_⟩
 rw [ext_driftnetref01_Div]
 simp only [x_driftnetref01_Div, hp, hq, hK k hk]
 first | done | rfl
theorem rDiv_z {a b : List Int} (ha : okL a) (hb : okL b) (la : a.length ≤ 1000) (lb : b.length ≤ 1000) : Evc 96 [rowZ a, rowZ b] (.tup [rowZ (divS a b).1, rowZ (divS a b).2.1, .int .i64 (divS a b).2.2]) := rDiv_p (rowOf_Z la) (rowOf_Z lb) ha hb
theorem rNSmall_z {a : List Int} (ha : okL a) (la : a.length ≤ 1000) : Evc 72 [rowZ a] (.tup [.int .u64 (smallS a).1, .bool (smallS a).2]) := by
 refine evc_ext ?_
 obtain ⟨K, hK⟩ := rSmall_ev ha
 refine ⟨K, fun k hk => ?_⟩
 rw [ext_driftnetref01_Small]
 simp only [x_driftnetref01_Small, rowOf_Z la, hK k hk]
 first | done | rfl
theorem rNCheck_z {a : List Int} (la : a.length ≤ 1000) : Evc 65 [rowZ a] (.int .i64 (chk a)) := by
 refine evc_ext ⟨0, fun k _ => ?_⟩
 rw [ext_driftnetref01_Check]
 simp only [x_driftnetref01_Check, rowOf_Z la, check']
theorem rNOf_c (n : Nat) (h : n < 18446744073709551616) : Evc 74 [.int .u64 n] (rowL n) := by
 refine evc_ext ?_
 obtain ⟨K, hK⟩ := rof_ev (n := (n : Int)) (by omega) (by omega)
 refine ⟨K, fun k hk => ?_⟩
 rw [ext_driftnetref01_Of]
 simp only [x_driftnetref01_Of, hK k hk, Int.toNat_natCast]
 rfl
theorem gcdS_l {m n : Nat} (hm : Lt 64 m) (hn : Lt 64 n) : gcdS (limbs m) (limbs n) = (limbs (Nat.gcd m n), 0) := by rw [gcdS, if_pos (chk2_l hm hn), val_limbs, val_limbs]
theorem addS_l {m n : Nat} (hm : Lt 64 m) (hn : Lt 64 n) : addS (limbs m) (limbs n) = (limbs (m + n), 0) := by rw [addS, if_pos (chk2_l hm hn), val_limbs, val_limbs]
theorem mulS_l {m n : Nat} (hm : Lt 64 m) (hn : Lt 64 n) : mulS (limbs m) (limbs n) = (limbs (m * n), 0) := by rw [mulS, if_pos (chk2_l hm hn), val_limbs, val_limbs]
theorem subS_l {m n : Nat} (hm : Lt 64 m) (hn : Lt 64 n) (h : n ≤ m) : subS (limbs m) (limbs n) = (limbs (m - n), 0) := by rw [subS, if_pos (chk2_l hm hn), val_limbs, val_limbs, if_neg (by omega)]
theorem divS_l {m n : Nat} (hm : Lt 64 m) (hn : Lt 64 n) (h : n ≠ 0) : divS (limbs m) (limbs n) = (limbs (m / n), limbs (m % n), 0) := by rw [divS, if_pos (chk2_l hm hn), val_limbs, val_limbs, if_neg (fun e => h (limbs_eq_nil.1 e))]
theorem cmpS_l {m n : Nat} (hm : Lt 64 m) (hn : Lt 64 n) : cmpS (limbs m) (limbs n) = cmpI m n := by rw [cmpS, if_pos (chk2_l hm hn), val_limbs, val_limbs]
theorem textS_l {m : Nat} (hm : Lt 64 m) : textS (limbs m) = (str (textL m), 0) := by rw [textS, if_pos (chk_l hm), val_limbs]
theorem Gcd_c {m n : Nat} (hm : Lt 64 m) (hn : Lt 64 n) : Evc 60 [rowL m, rowL n] (okP (rowL (Nat.gcd m n))) := by
 have q := Gcd_z (okL_limbs m) (okL_limbs n) (k1 hm (by decide)) (k1 hn (by decide))
 rw [gcdS_l hm hn] at q
 exact q
theorem Add_c {m n : Nat} (hm : Lt 64 m) (hn : Lt 64 n) : Evc 68 [rowL m, rowL n] (okP (rowL (m + n))) := by
 have q := Add_z (okL_limbs m) (okL_limbs n) (k1 hm (by decide)) (k1 hn (by decide))
 rw [addS_l hm hn] at q
 exact q
theorem Mul_c {m n : Nat} (hm : Lt 64 m) (hn : Lt 64 n) : Evc 77 [rowL m, rowL n] (okP (rowL (m * n))) := by
 have q := Mul_z (okL_limbs m) (okL_limbs n) (k1 hm (by decide)) (k1 hn (by decide))
 rw [mulS_l hm hn] at q
 exact q
theorem Sub_c {m n : Nat} (hm : Lt 64 m) (hn : Lt 64 n) (h : n ≤ m) : Evc 76 [rowL m, rowL n] (okP (rowL (m - n))) := by
 have q := Sub_z (okL_limbs m) (okL_limbs n) (k1 hm (by decide)) (k1 hn (by decide))
 rw [subS_l hm hn h] at q
 exact q
theorem Div_c {m n : Nat} (hm : Lt 64 m) (hn : Lt 64 n) (h0 : n ≠ 0) : Evc 67 [rowL m, rowL n] (.tup [rowL (m / n), rowL (m % n), e0]) := by
 have q := Div_z (okL_limbs m) (okL_limbs n) (k1 hm (by decide)) (k1 hn (by decide))
 rw [divS_l hm hn h0] at q
 exact q
theorem NCmp_c {m n : Nat} (hm : Lt 64 m) (hn : Lt 64 n) {c : Int} (hc : cmpI m n = c) : Evc 75 [rowL m, rowL n] (intP c) := by
 have q := NCmp_z (okL_limbs m) (okL_limbs n) (k1 hm (by decide)) (k1 hn (by decide))
 rw [cmpS_l hm hn, hc] at q
 exact q
theorem NText_c {m : Nat} (hm : Lt 64 m) : Evc 52 [rowL m] (okP (.str (textL m))) := by
 have q := NText_z (okL_limbs m) (k1 hm (by decide))
 rw [textS_l hm] at q
 exact q
theorem rGcd_c {m n : Nat} (hm : Lt 64 m) (hn : Lt 64 n) : Evc 95 [rowL m, rowL n] (okP (rowL (Nat.gcd m n))) := by
 have q := rGcd_z (okL_limbs m) (okL_limbs n) (k1 hm (by decide)) (k1 hn (by decide))
 rw [gcdS_l hm hn] at q
 exact q
theorem rDiv_c {m n : Nat} (hm : Lt 64 m) (hn : Lt 64 n) (h0 : n ≠ 0) : Evc 96 [rowL m, rowL n] (.tup [rowL (m / n), rowL (m % n), e0]) := by
 have q := rDiv_z (okL_limbs m) (okL_limbs n) (k1 hm (by decide)) (k1 hn (by decide))
 rw [divS_l hm hn h0] at q
 exact q
theorem Equal_z {a b : List Int} (la : a.length ≤ 1000) (lb : b.length ≤ 1000) : Evc 53 [rowZ a, rowZ b] (.bool (decide (a = b))) := by
 refine evc_ext ?_
 obtain ⟨K, hK⟩ := equal_ev (a := a) (b := b) (Nat.lt_of_le_of_lt la (by decide))
 refine ⟨K, fun k hk => ?_⟩
 rw [ext_slices_Equal_uint32_uint32]
 simp only [x_slices_Equal_uint32_uint32, rowOf_Z la, rowOf_Z lb, hK k hk]
theorem rsame_p {p q : PV} {a b : List Int} (hp : rowOf .u32 p = some a) (hq : rowOf .u32 q = some b) (la : a.length ≤ 1000) : Evc 48 [p, q] (.bool (decide (a = b))) := by
 refine evc_ext ?_
 obtain ⟨K, hK⟩ := same_ev (a := a) (b := b) (Nat.lt_of_le_of_lt la (by decide))
 refine ⟨K, fun k hk => ?_⟩
 rw [ext_driftnetref02_same]
 simp only [x_driftnetref02_same, hp, hq, hK k hk]
theorem rsame_z {a b : List Int} (la : a.length ≤ 1000) (lb : b.length ≤ 1000) : Evc 48 [rowZ a, rowZ b] (.bool (decide (a = b))) := rsame_p (rowOf_Z la) (rowOf_Z lb) la
def oneP : PV := .sl (some true) 1 [.int .u32 1]
theorem rowOf_oneP : rowOf .u32 oneP = some (limbs 1) := by
 rw [show limbs 1 = [1] from (canB_cons1 (x := 1) (by decide) (by decide)).symm]
 rfl
theorem rowOf_L {n : Nat} (h : Lt 1000 n) : rowOf .u32 (rowL n) = some (limbs n) := rowOf_Z (len_l h)
theorem limbs_dec {m n : Nat} : decide (limbs m = limbs n) = decide (m = n) := decide_eq_decide.2 ⟨limbs_inj, fun e => by rw [e]⟩
theorem Equal_c {m n : Nat} (hm : Lt 1000 m) (hn : Lt 1000 n) {b : Bool} (h : decide (m = n) = b) : Evc 53 [rowL m, rowL n] (.bool b) := by
 have q := Equal_z (len_l hm) (len_l hn)
 rw [limbs_dec, h] at q
 exact q
theorem Clone_z {a : List Int} (la : a.length ≤ 1000) : Evc 66 [rowZ a] (rowZ a) := by
 refine evc_ext ⟨0, fun k _ => ?_⟩
 rw [ext_slices_Clone_uint32_uint32]
 simp only [x_slices_Clone_uint32_uint32, rowOf_Z la, clone_f (Nat.lt_of_le_of_lt la (by decide))]
 rfl
theorem rCopy_z {a : List Int} (la : a.length ≤ 1000) : Evc 39 [rowZ a] (rowZ a) := by
 refine evc_ext ⟨0, fun k _ => ?_⟩
 rw [ext_driftnetref01_Copy]
 simp only [x_driftnetref01_Copy, rowOf_Z la, copy_f (Nat.lt_of_le_of_lt la (by decide))]
 rfl
theorem Cut_c (s : List UInt8) (hs : s.length < 1000000) : Evc 58 [.str s, .str [47]] (.tup [.str (cutS s).1, .str (cutS s).2.1, .bool (cutS s).2.2]) := by
 refine evc_ext ⟨0, fun k _ => ?_⟩
 rw [ext_strings_Cut]
 simp only [x_strings_Cut]
 show (match strings_Cut.f (str s) (⟨#[47]⟩ : ByteArray) with | none => none | some (r1, r2, r3) => some (PV.tup [strP r1, strP r2, PV.bool r3])) = _
 rw [cut_f s hs]
 rfl
theorem CutPrefix_c (s : List UInt8) {t : List UInt8} {neg : Bool} (h : (if s.head? = some 45 then (s.tail, true) else (s, false)) = (t, neg)) : Evc 57 [.str s, .str [45]] (.tup [.str t, .bool neg]) := by
 refine evc_ext ⟨0, fun k _ => ?_⟩
 rw [ext_strings_CutPrefix]
 simp only [x_strings_CutPrefix]
 show (match strings_CutPrefix.f (str s) (⟨#[45]⟩ : ByteArray) with | none => none | some (r1, r2) => some (PV.tup [strP r1, PV.bool r2])) = _
 rw [cutPrefix_f]
 by_cases hh : s.head? = some 45
 ·rw [if_pos hh] at h ⊢
  cases h
  rfl
 ·rw [if_neg hh] at h ⊢
  cases h
  rfl
def known : FuncId → Bool := fun f => dom f || [3, 4, 5, 6, 7, 8, 9, 10, 11, 12, 13, 14, 15, 16, 17, 18, 19, 20, 21, 22, 23, 24, 25, 26, 27, 28, 29, 30, 31, 32, 33, 34, 35, 36, 37, 38, 40, 41, 42, 43, 44, 45, 46, 47, 48, 49, 50, 51, 54, 56, 61, 63, 69].contains f
def fl0 : Flags := { len := true, bin := fun _ t _ _ => t == 3 || t == 9 }
theorem ez {f : FuncId} {ps : List PV} {r : PV} (L : List OI) (h : ran (evS Tryz.prog g0 known fl0 dom 3 f (ps.map .pv) [] ⟨L.map OI.i, []⟩) = some (.pv r, ⟨[], (L.map OI.i).reverse⟩) := by kernel_rfl) : Evc f ps r := es fl0 3 L h
theorem ey {f : FuncId} {ps : List PV} {r : PV} (fl : Flags) (n : Nat) (L : List OI) (h : ran (evS Tryz.prog g0 known fl dom n f (ps.map .pv) [] ⟨L.map OI.i, []⟩) = some (.pv r, ⟨[], (L.map OI.i).reverse⟩) := by kernel_rfl) : Evc f ps r := es fl n L h
theorem z20 {x y : Int} {b : Bool} (h : decide (x > y) = b) (yc : Bool := true) : Owed (.bin .gtr 3 (.pv (.int .i64 x)) (.pv (.int .i64 y)) yc (.pv (.bool b))) := by
 subst h
 show binA Tryz.prog .gtr 3 _ _ _ = _
 simp only [binA, intOp, ne_eq, not_true, if_false]
theorem bin_lss {x y : Int} {b : Bool} (h : decide (x < y) = b) (yc : Bool := true) : Owed (.bin .lss 3 (.pv (.int .i64 x)) (.pv (.int .i64 y)) yc (.pv (.bool b))) := by
 subst h
 show binA Tryz.prog .lss 3 _ _ _ = _
 simp only [binA, intOp, ne_eq, not_true, if_false]
theorem bin_eql {x y : Int} {b : Bool} (h : (x == y) = b) (yc : Bool := true) : Owed (.bin .eql 3 (.pv (.int .i64 x)) (.pv (.int .i64 y)) yc (.pv (.bool b))) := by
 subst h
 show binA Tryz.prog .eql 3 _ _ _ = _
 simp only [binA, intOp, ne_eq, not_true, if_false]
theorem und22 : Tryz.prog.underlying 22 = some (.slice 30) := by kernel_rfl
theorem lenZ {a : List Int} (h : a.length ≤ 1000) : Owed (.len 22 (.pv (rowZ a)) a.length) := by
 refine ⟨?_, Nat.le_trans h (by decide)⟩
 simp only [lenA, und22, AV.pure?, rowZ, row, List.length_map]
theorem lenL {n : Nat} (h : Lt 1000 n) : Owed (.len 22 (.pv (rowL n)) (limbs n).length) := lenZ (len_l h)
theorem g16f {n : Nat} (h : Lt 16 n) : decide ((((limbs n).length : Nat) : Int) > 16) = false := decide_eq_false (fun e => len16.1 e h)
theorem g16t {n : Nat} (h : ¬ Lt 16 n) : decide ((((limbs n).length : Nat) : Int) > 16) = true := decide_eq_true (len16.2 h)
theorem l0f {n : Nat} (h : n ≠ 0) : ((((limbs n).length : Nat) : Int) == 0) = false := beq_eq_false_iff_ne.2 fun e => h (limbs_eq_nil.1 (List.eq_nil_of_length_eq_zero (by omega)))
theorem l0t {n : Nat} (h : n = 0) : ((((limbs n).length : Nat) : Int) == 0) = true := by subst h; rw [limbs_zero]; rfl
theorem lt1 : Lt 1000 1 := lt_lit (by decide) (by decide)
theorem lt1' : Lt 64 1 := lt_lit (by decide) (by decide)
theorem one_c : Evc 54 [] (rowL 1) :=
 ez [oc (NOf_c 1 (by decide))]
theorem rgcd_p {p : PV} {m n : Nat} (hp : rowOf .u32 p = some (limbs n)) (hm : Lt 64 m) (hn : Lt 64 n) : Evc 63 [rowL m, p] (rowL (Nat.gcd m n)) := by
 have q := rGcd_p (rowOf_L (k64 hm)) hp (okL_limbs m) (okL_limbs n)
 rw [gcdS_l hm hn] at q
 exact ez [oc q]
theorem rdiv_p {p : PV} {m n : Nat} (hp : rowOf .u32 p = some (limbs m)) (hm : Lt 64 m) (hn : Lt 64 n) (h0 : n ≠ 0) : Evc 69 [p, rowL n] (.tup [rowL (m / n), rowL (m % n)]) := by
 have q := rDiv_p hp (rowOf_L (k64 hn)) (okL_limbs m) (okL_limbs n)
 rw [divS_l hm hn h0] at q
 exact ez [oc q]
theorem rgcd_c {m n : Nat} (hm : Lt 64 m) (hn : Lt 64 n) : Evc 63 [rowL m, rowL n] (rowL (Nat.gcd m n)) :=
 ez [oc (rGcd_c hm hn)]
theorem rdiv_c {m n : Nat} (hm : Lt 64 m) (hn : Lt 64 n) (h0 : n ≠ 0) : Evc 69 [rowL m, rowL n] (.tup [rowL (m / n), rowL (m % n)]) :=
 ez [oc (rDiv_c hm hn h0)]
def lenI (n : Nat) : Item := .len 22 (.pv (rowL n)) (limbs n).length
def gtrI (n : Nat) (m : Int) (b : Bool) : Item := .bin .gtr 3 (.pv (.int .i64 ((limbs n).length : Nat))) (.pv (.int .i64 m)) true (.pv (.bool b))
def eqlI (n : Nat) (b : Bool) : Item := .bin .eql 3 (.pv (.int .i64 ((limbs n).length : Nat))) (.pv (.int .i64 0)) true (.pv (.bool b))
theorem und24 : Tryz.prog.underlying 22 = some (.slice 30) := by kernel_rfl
theorem lenI_owed {n : Nat} (h : Lt 1000 n) : Owed (lenI n) := by
 refine ⟨?_, Nat.le_trans (len_l h) (by decide)⟩
 simp only [lenA, und24, AV.pure?, rowL, rowZ, row, List.length_map]
theorem gtrI_owed {n : Nat} {m : Int} {b : Bool} (h : decide (((limbs n).length : Int) > m) = b) : Owed (gtrI n m b) := by
 subst h
 show binA Tryz.prog .gtr 3 _ _ _ = _
 simp only [binA, intOp, ne_eq, not_true, if_false]
theorem eqlI_owed {n : Nat} {b : Bool} (h : (((limbs n).length : Int) == 0) = b) : Owed (eqlI n b) := by
 subst h
 show binA Tryz.prog .eql 3 _ _ _ = _
 simp only [binA, intOp, ne_eq, not_true, if_false]
theorem gt16 {n : Nat} (h : Lt 16 n) : Owed (gtrI n 16 false) := gtrI_owed (decide_eq_false (fun e => len16.1 e h))
theorem gt16t {n : Nat} (h : ¬ Lt 16 n) : Owed (gtrI n 16 true) := gtrI_owed (decide_eq_true (len16.2 h))
theorem eq0 {n : Nat} (h : n ≠ 0) : Owed (eqlI n false) := eqlI_owed (beq_eq_false_iff_ne.2 fun e => h (limbs_eq_nil.1 (List.eq_nil_of_length_eq_zero (by omega))))
theorem eq0t {n : Nat} (h : n = 0) : Owed (eqlI n true) := eqlI_owed (by subst h; rw [limbs_zero]; rfl)
theorem gt0 {n : Nat} : Owed (gtrI n 0 (decide (0 < n))) := gtrI_owed lenpos
theorem Check_c {s : Bool} {n d : Nat} (h : CanR s n d) : Evc 34 [rp s n d] e0 := by
 have hn : Lt 16 n := h.n16
 have hd : Lt 16 d := h.d16
 have gc : Evc 60 [rowL n, rowL d] (okP (rowL 1)) := by
  have := Gcd_c (hn.up (j := 64) (by decide)) (hd.up (j := 64) (by decide))
  rwa [h.g] at this
 cases s with
 | false =>
  refine evc_script (known := known) (fl := fl0) (n := 3) (L := [lenI n, gtrI n 16 false, lenI d, gtrI d 16 false, .call 60 [rowL n, rowL d] (okP (rowL 1)), lenI d, eqlI d false, .call 54 [] (rowL 1), .call 53 [rowL 1, rowL 1] (.bool true)]) (by kernel_rfl) ?_
  exact z18 (lenI_owed (hn.up (by decide))) (z18 (gt16 hn) (z18 (lenI_owed (hd.up (by decide))) (z18 (gt16 hd) (z18 gc (z18 (lenI_owed (hd.up (by decide))) (z18 (eq0 h.d0) (z18 one_c (z18 (Equal_c lt1 lt1 rfl) owed_nil))))))))
 | true =>
  refine evc_script (known := known) (fl := fl0) (n := 3) (L := [lenI n, gtrI n 16 false, lenI d, gtrI d 16 false, .call 60 [rowL n, rowL d] (okP (rowL 1)), lenI d, eqlI d false, lenI n, eqlI n false, .call 54 [] (rowL 1), .call 53 [rowL 1, rowL 1] (.bool true)]) (by kernel_rfl) ?_
  exact z18 (lenI_owed (hn.up (by decide))) (z18 (gt16 hn) (z18 (lenI_owed (hd.up (by decide))) (z18 (gt16 hd) (z18 gc (z18 (lenI_owed (hd.up (by decide))) (z18 (eq0 h.d0) (z18 (lenI_owed (hn.up (by decide))) (z18 (eq0 (h.neg rfl)) (z18 one_c (z18 (Equal_c lt1 lt1 rfl) owed_nil))))))))))
theorem both_c {s1 : Bool} {n1 d1 : Nat} (h1 : CanR s1 n1 d1) {s2 : Bool} {n2 d2 : Nat} (h2 : CanR s2 n2 d2) : Evc 40 [rp s1 n1 d1, rp s2 n2 d2] e0 :=
 ey {} 3 [oc (Check_c h1), oc (Check_c h2)]
theorem product_c {m n : Nat} (hm : Lt 64 m) (hn : Lt 64 n) : Evc 42 [pairP m n] (rowL (m * n)) := by
 refine evc_script (known := known) (fl := {}) (n := 9) (L := [.call 54 [] (rowL 1), .call 77 [rowL 1, rowL m] (okP (rowL m)), .call 77 [rowL m, rowL n] (okP (rowL (m * n)))]) (by kernel_rfl) ?_
 refine z18 one_c (z18 ?_ (z18 (Mul_c hm hn) owed_nil))
 have := Mul_c lt1' hm
 rwa [Nat.one_mul] at this
theorem sum_c (a : Bool) {m : Nat} (b : Bool) {n : Nat} (hm : Lt 64 m) (hn : Lt 64 n) : Evc 41 [.bool a, rowL m, .bool b, rowL n] (.tup [.bool (sumR a m b n).1, rowL (sumR a m b n).2]) := by
 unfold sumR
 by_cases hab : a = b
 ·rw [if_pos hab]
  subst hab
  cases a <;> exact ey {} 3 [oc (Add_c hm hn)]
 ·rw [if_neg hab]
  by_cases hl : m < n
  ·rw [if_pos hl]
   have hc : cmpI m n = -1 := if_pos hl
   cases a <;> cases b <;> first
    | exact absurd rfl hab
    | exact ey {} 3 [oc (NCmp_c hm hn hc), oc (Sub_c hn hm (Nat.le_of_lt hl))]
  ·rw [if_neg hl]
   by_cases he : n < m
   ·have hc : cmpI m n = 1 := by unfold cmpI; rw [if_neg hl, if_pos he]
    cases a <;> cases b <;> first
     | exact absurd rfl hab
     | exact ey {} 3 [oc (NCmp_c hm hn hc), ⟨.call 76 [rowL m, rowL n] (okP (rowL (m - n))), Sub_c hm hn (by omega)⟩]
   ·have hc : cmpI m n = 0 := by unfold cmpI; rw [if_neg hl, if_neg he]
    cases a <;> cases b <;> first
     | exact absurd rfl hab
     | exact ey {} 3 [oc (NCmp_c hm hn hc), ⟨.call 76 [rowL m, rowL n] (okP (rowL (m - n))), Sub_c hm hn (by omega)⟩]
def redP (s : Bool) (n d : Nat) : PV :=
 if n / Nat.gcd n d < 4294967296 ^ 16 ∧ d / Nat.gcd n d < 4294967296 ^ 16 then okP (rp (s && decide (0 < n / Nat.gcd n d)) (n / Nat.gcd n d) (d / Nat.gcd n d)) else .tup [zeroR, .int .i64 20]
theorem reduced_c (s : Bool) {n d : Nat} (hn : Lt 64 n) (hd : Lt 64 d) (h0 : d ≠ 0) : Evc 43 [.bool s, rowL n, rowL d] (redP s n d) := by
 have hg0 : Nat.gcd n d ≠ 0 := fun e => h0 (Nat.eq_zero_of_gcd_eq_zero_right e)
 have hg : Lt 64 (Nat.gcd n d) := hd.le (Nat.le_of_dvd (Nat.pos_of_ne_zero h0) (Nat.gcd_dvd_right n d))
 have a1 := Gcd_c hn hd
 have a2 := Div_c hn hg hg0
 have a3 := Div_c hd hg hg0
 unfold redP
 have l1 : Lt 64 (n / Nat.gcd n d) := hn.le (Nat.div_le_self _ _)
 have l2 : Lt 64 (d / Nat.gcd n d) := hd.le (Nat.div_le_self _ _)
 generalize n % Nat.gcd n d = r1 at *
 generalize d % Nat.gcd n d = r2 at *
 generalize n / Nat.gcd n d = n' at *
 generalize d / Nat.gcd n d = d' at *
 generalize Nat.gcd n d = g at *
 by_cases c1 : n' < 4294967296 ^ 16
 ·by_cases c2 : d' < 4294967296 ^ 16
  ·rw [if_pos ⟨c1, c2⟩]
   cases s with
   | false =>
    exact ez [oc a1, oc a2, oc a3, oo (lenI_owed (k64 l1)), oo (gt16 c1), oo (lenI_owed (k64 l2)), oo (gt16 c2)]
   | true =>
    exact ez [oc a1, oc a2, oc a3, oo (lenI_owed (k64 l1)), oo (gt16 c1), oo (lenI_owed (k64 l2)), oo (gt16 c2), oo (lenI_owed (k64 l1)), ⟨gtrI n' 0 (decide (0 < n')), gt0⟩]
  ·rw [if_neg (fun h => c2 h.2)]
   cases s <;> exact ez [oc a1, oc a2, oc a3, oo (lenI_owed (k64 l1)), oo (gt16 c1), oo (lenI_owed (k64 l2)), oo (gt16t c2)]
 ·rw [if_neg (fun h => c1 h.1)]
  cases s <;> exact ez [oc a1, oc a2, oc a3, oo (lenI_owed (k64 l1)), oo (gt16t c1)]
def ratP (q : Rat) : PV := rp (decide (q.num < 0)) q.num.natAbs q.den
def Fits (q : Rat) : Prop := q.num.natAbs < 4294967296 ^ 16 ∧ q.den < 4294967296 ^ 16
theorem Fits.can {q : Rat} (h : Fits q) : CanR (decide (q.num < 0)) q.num.natAbs q.den :=
 ⟨h.1, h.2, q.den_nz, q.reduced, fun h => by have := of_decide_eq_true h; omega⟩
def sg (s : Bool) (n : Nat) : Int := if s = true then -(n : Int) else n
theorem sg_num (z : Int) (d : Nat) : sg (decide (z < 0)) (z.natAbs * d) = z * d := by
 unfold sg
 by_cases h : z < 0
 ·rw [if_pos (decide_eq_true h)]
  push_cast
  rw [show ((z.natAbs : Nat) : Int) = -z by omega]
  grind
 ·rw [if_neg (by simpa using h)]
  push_cast
  rw [show ((z.natAbs : Nat) : Int) = z by omega]
theorem sg_not (s : Bool) (n : Nat) : sg (!s) n = - sg s n := by
 unfold sg
 cases s <;> simp
theorem sg_sumR (a : Bool) (m : Nat) (b : Bool) (n : Nat) : sg (sumR a m b n).1 (sumR a m b n).2 = sg a m + sg b n := by
 unfold sumR sg
 cases a <;> cases b <;> simp <;> (try split) <;> (try simp) <;> omega
theorem redP_rat {s : Bool} {n d : Nat} {q : Rat} (hd : d ≠ 0) (hq : mkRat (sg s n) d = q) (hf : Fits q) : redP s n d = okP (ratP q) := by
 have hg : Nat.gcd n d ≠ 0 := fun e => hd (Nat.eq_zero_of_gcd_eq_zero_right e)
 have hga : (sg s n).natAbs = n := by unfold sg; split <;> simp
 have hden : q.den = d / Nat.gcd n d := by rw [← hq, Rat.den_mkRat, if_neg hd, hga, Nat.gcd_comm]
 have hnum : q.num = sg s n / (Nat.gcd n d : Nat) := by rw [← hq, Rat.num_mkRat, if_neg hd, hga, Nat.gcd_comm]
 obtain ⟨m, hm⟩ := Nat.gcd_dvd_left n d
 have hdiv : n / Nat.gcd n d = m := by
  have := Nat.mul_div_cancel_left m (Nat.pos_of_ne_zero hg)
  rwa [← hm] at this
 have hnum2 : q.num = sg s m := by
  rw [hnum]
  have hgz : ((Nat.gcd n d : Nat) : Int) ≠ 0 := by omega
  unfold sg
  split
  ·rw [show (-(n : Int)) = (Nat.gcd n d : Nat) * (-(m : Int)) by
    have : (n : Int) = (Nat.gcd n d : Nat) * (m : Int) := by exact_mod_cast hm
    rw [Int.mul_neg, ← this]]
   exact Int.mul_ediv_cancel_left _ hgz
  ·rw [show (n : Int) = (Nat.gcd n d : Nat) * (m : Int) by exact_mod_cast hm]
   exact Int.mul_ediv_cancel_left _ hgz
 have hna : q.num.natAbs = m := by rw [hnum2]; unfold sg; split <;> simp
 unfold redP
 rw [hdiv, ← hden]
 rw [if_pos ⟨by rw [← hna]; exact hf.1, hf.2⟩]
 unfold ratP
 rw [hna]
 have hb : (s && decide (0 < m)) = decide (q.num < 0) := by
  rw [hnum2]
  unfold sg
  cases s <;> simp <;> omega
 rw [hb]
def cmpQ (p q : Rat) : Int := if p < q then -1 else if q < p then 1 else 0
theorem lt16 {n : Nat} (h : n < 4294967296 ^ 16) : Lt 16 n := h
theorem up64 {n : Nat} (h : n < 4294967296 ^ 16) : Lt 64 n := (lt16 h).up (by decide)
theorem up1000 {n : Nat} (h : n < 4294967296 ^ 16) : Lt 1000 n := (lt16 h).up (by decide)
theorem mul32 {m n : Nat} (hm : m < 4294967296 ^ 16) (hn : n < 4294967296 ^ 16) : Lt 32 (m * n) := (lt16 hm).mul (lt16 hn) (by decide)
theorem mul64 {m n : Nat} (hm : m < 4294967296 ^ 16) (hn : n < 4294967296 ^ 16) : Lt 64 (m * n) := (mul32 hm hn).up (by decide)
theorem sumR_lt' {a : Bool} {m : Nat} {b : Bool} {n : Nat} (hm : Lt 32 m) (hn : Lt 32 n) : Lt 64 (sumR a m b n).2 := by
 unfold sumR
 split
 ·exact (hm.add hn (j := 33) (by decide)).up (by decide)
 ·split
  ·exact (hn.le (Nat.sub_le _ _)).up (by decide)
  ·exact (hm.le (Nat.sub_le _ _)).up (by decide)
theorem Add_evc {p q : Rat} (hp : Fits p) (hq : Fits q) (hs : Fits (p + q)) : Evc 8 [ratP p, ratP q] (okP (ratP (p + q))) := by
 have hd : p.den * q.den ≠ 0 := Nat.mul_ne_zero p.den_nz q.den_nz
 have r := reduced_c (sumR (decide (p.num < 0)) (p.num.natAbs * q.den) (decide (q.num < 0)) (q.num.natAbs * p.den)).1 (sumR_lt' (a := decide (p.num < 0)) (b := decide (q.num < 0)) (mul32 hp.1 hq.2) (mul32 hq.1 hp.2)) (mul64 hp.2 hq.2) hd
 rw [redP_rat (q := p + q) hd (by rw [sg_sumR, sg_num, sg_num, Rat.add_def']) hs] at r
 have b := both_c hp.can hq.can
 have s := sum_c (decide (p.num < 0)) (decide (q.num < 0)) (mul64 hp.1 hq.2) (mul64 hq.1 hp.2)
 generalize sumR (decide (p.num < 0)) (p.num.natAbs * q.den) (decide (q.num < 0)) (q.num.natAbs * p.den) = S at *
 exact ey {} 3 [oc b, oc (product_c (up64 hp.1) (up64 hq.2)), oc (product_c (up64 hq.1) (up64 hp.2)), oc s, oc (product_c (up64 hp.2) (up64 hq.2)), oc r]
theorem Sub_evc {p q : Rat} (hp : Fits p) (hq : Fits q) (hs : Fits (p - q)) : Evc 11 [ratP p, ratP q] (okP (ratP (p - q))) := by
 have hd : p.den * q.den ≠ 0 := Nat.mul_ne_zero p.den_nz q.den_nz
 have r := reduced_c (sumR (decide (p.num < 0)) (p.num.natAbs * q.den) (!decide (q.num < 0)) (q.num.natAbs * p.den)).1 (sumR_lt' (a := decide (p.num < 0)) (b := !decide (q.num < 0)) (mul32 hp.1 hq.2) (mul32 hq.1 hp.2)) (mul64 hp.2 hq.2) hd
 rw [redP_rat (q := p - q) hd (by rw [sg_sumR, sg_not, sg_num, sg_num, Rat.sub_def', Int.sub_eq_add_neg]) hs] at r
 have b := both_c hp.can hq.can
 have s := sum_c (decide (p.num < 0)) (!decide (q.num < 0)) (mul64 hp.1 hq.2) (mul64 hq.1 hp.2)
 generalize sumR (decide (p.num < 0)) (p.num.natAbs * q.den) (!decide (q.num < 0)) (q.num.natAbs * p.den) = S at *
 exact ey {} 3 [oc b, oc (product_c (up64 hp.1) (up64 hq.2)), oc (product_c (up64 hq.1) (up64 hp.2)), oc s, oc (product_c (up64 hp.2) (up64 hq.2)), oc r]
theorem sg_mul (z y : Int) : sg (decide (z < 0) != decide (y < 0)) (z.natAbs * y.natAbs) = z * y := by
 unfold sg
 have hz : ((z.natAbs : Nat) : Int) = if z < 0 then -z else z := by split <;> omega
 have hy : ((y.natAbs : Nat) : Int) = if y < 0 then -y else y := by split <;> omega
 push_cast
 rw [hz, hy]
 by_cases h : z < 0 <;> by_cases h2 : y < 0 <;> simp [h, h2] <;> grind
theorem Mul_evc {p q : Rat} (hp : Fits p) (hq : Fits q) (hs : Fits (p * q)) : Evc 13 [ratP p, ratP q] (okP (ratP (p * q))) := by
 have hd : p.den * q.den ≠ 0 := Nat.mul_ne_zero p.den_nz q.den_nz
 have r := reduced_c (decide (p.num < 0) != decide (q.num < 0)) (mul64 hp.1 hq.1) (mul64 hp.2 hq.2) hd
 rw [redP_rat (q := p * q) hd (by rw [sg_mul, Rat.mul_def']) hs] at r
 exact ey {} 3 [oc (both_c hp.can hq.can), oc (product_c (up64 hp.1) (up64 hq.1)), oc (product_c (up64 hp.2) (up64 hq.2)), oc r]
theorem div_mk {p q : Rat} (h : q.num ≠ 0) : mkRat (sg (decide (p.num < 0) != decide (q.num < 0)) (p.num.natAbs * q.den)) (p.den * q.num.natAbs) = p / q := by
 have hq : q ≠ 0 := fun e => h (by rw [e]; rfl)
 have hx : mkRat (sg (decide (p.num < 0) != decide (q.num < 0)) (p.num.natAbs * q.den)) (p.den * q.num.natAbs) * q = p := by
  conv => lhs; arg 2; rw [← Rat.mkRat_self q]
  conv => rhs; rw [← Rat.mkRat_self p]
  rw [Rat.mkRat_mul_mkRat, Rat.mkRat_eq_iff (Nat.mul_ne_zero (Nat.mul_ne_zero p.den_nz (by omega)) q.den_nz) p.den_nz]
  have hz : ((p.num.natAbs : Nat) : Int) = if p.num < 0 then -p.num else p.num := by split <;> omega
  have hy : ((q.num.natAbs : Nat) : Int) = if q.num < 0 then -q.num else q.num := by split <;> omega
  unfold sg
  push_cast
  rw [hz, hy]
  by_cases h1 : p.num < 0 <;> by_cases h2 : q.num < 0 <;> simp [h1, h2] <;> grind
 conv => rhs; rw [← hx]
 rw [Rat.mul_div_cancel hq]
theorem Div_evc {p q : Rat} (hp : Fits p) (hq : Fits q) (h0 : q ≠ 0) (hs : Fits (p / q)) : Evc 15 [ratP p, ratP q] (okP (ratP (p / q))) := by
 have hn : q.num ≠ 0 := fun e => h0 (Rat.num_eq_zero.1 e)
 have hd : p.den * q.num.natAbs ≠ 0 := Nat.mul_ne_zero p.den_nz (by omega)
 have r := reduced_c (decide (p.num < 0) != decide (q.num < 0)) (mul64 hp.1 hq.2) (mul64 hp.2 hq.1) hd
 rw [redP_rat (q := p / q) hd (div_mk hn) hs] at r
 exact ez [oc (both_c hp.can hq.can), oo (lenI_owed (up1000 hq.1)), ⟨eqlI q.num.natAbs false, eq0 (by omega)⟩, oc (product_c (up64 hp.1) (up64 hq.2)), oc (product_c (up64 hp.2) (up64 hq.1)), oc r]
theorem Cmp_evc {p q : Rat} (hp : Fits p) (hq : Fits q) : Evc 17 [ratP p, ratP q] (okP (intP (cmpQ p q))) := by
 have hs : sg (sumR (decide (p.num < 0)) (p.num.natAbs * q.den) (!decide (q.num < 0)) (q.num.natAbs * p.den)).1 (sumR (decide (p.num < 0)) (p.num.natAbs * q.den) (!decide (q.num < 0)) (q.num.natAbs * p.den)).2 = p.num * q.den - q.num * p.den := by
  rw [sg_sumR, sg_not, sg_num, sg_num, Int.sub_eq_add_neg]
 have e : (if (sumR (decide (p.num < 0)) (p.num.natAbs * q.den) (!decide (q.num < 0)) (q.num.natAbs * p.den)).2 = 0 then (0 : Int) else if (sumR (decide (p.num < 0)) (p.num.natAbs * q.den) (!decide (q.num < 0)) (q.num.natAbs * p.den)).1 = true then (-1) else 1) = cmpQ p q := by
  unfold cmpQ
  simp only [Rat.lt_iff]
  generalize p.num * (q.den : Int) = X at hs ⊢
  generalize q.num * (p.den : Int) = Y at hs ⊢
  unfold sg at hs
  split
  ·rename_i h0
   rw [h0] at hs
   have : X = Y := by split at hs <;> omega
   rw [if_neg (by omega), if_neg (by omega)]
  ·split
   ·rename_i h1
    rw [if_pos h1] at hs
    rw [if_pos (by omega)]
   ·rename_i h1
    rw [if_neg h1] at hs
    rw [if_neg (by omega), if_pos (by omega)]
 rw [← e]
 clear e hs
 have l := sumR_lt' (a := decide (p.num < 0)) (b := !decide (q.num < 0)) (mul32 hp.1 hq.2) (mul32 hq.1 hp.2)
 have s := sum_c (decide (p.num < 0)) (!decide (q.num < 0)) (mul64 hp.1 hq.2) (mul64 hq.1 hp.2)
 generalize sumR (decide (p.num < 0)) (p.num.natAbs * q.den) (!decide (q.num < 0)) (q.num.natAbs * p.den) = S at *
 obtain ⟨b, m⟩ := S
 by_cases h0 : m = 0
 ·simp only [if_pos h0]
  exact ez [oc (both_c hp.can hq.can), oc (product_c (up64 hp.1) (up64 hq.2)), oc (product_c (up64 hq.1) (up64 hp.2)), oc s, ⟨lenI m, lenI_owed (l.up (by decide))⟩, oo (eq0t h0)]
 ·simp only [if_neg h0]
  cases b with
  | false =>
   exact ez [oc (both_c hp.can hq.can), oc (product_c (up64 hp.1) (up64 hq.2)), oc (product_c (up64 hq.1) (up64 hp.2)), oc s, ⟨lenI m, lenI_owed (l.up (by decide))⟩, oo (eq0 h0)]
  | true =>
   exact ez [oc (both_c hp.can hq.can), oc (product_c (up64 hp.1) (up64 hq.2)), oc (product_c (up64 hq.1) (up64 hp.2)), oc s, ⟨lenI m, lenI_owed (l.up (by decide))⟩, oo (eq0 h0)]
def lssI (n : Int) (b : Bool) : Item := .bin .lss 3 (.pv (.int .i64 n)) (.pv (.int .i64 0)) true (.pv (.bool b))
theorem lssI_owed {n : Int} {b : Bool} (h : decide (n < 0) = b) : Owed (lssI n b) := by
 subst h
 show binA Tryz.prog .lss 3 _ _ _ = _
 simp only [binA, intOp, ne_eq, not_true, if_false]
theorem Of_evc {n : Int} (h0 : -9223372036854775808 ≤ n) (h1 : n < 9223372036854775808) : Evc 35 [intP n] (ratP (n : Rat)) := by
 unfold ratP
 rw [Rat.num_intCast, Rat.den_intCast]
 by_cases h : n < 0
 ·rw [decide_eq_true h]
  have e : IntKind.u64.wrap (0 - IntKind.u64.wrap n) = ((n.natAbs : Nat) : Int) := by
   simp only [IntKind.wrap, IntKind.bits, IntKind.signed]
   simp
   omega
  refine ez [oo (lssI_owed (decide_eq_true h)), oo (lssI_owed (decide_eq_true h)), ⟨.call 73 [.int .u64 (IntKind.u64.wrap (0 - IntKind.u64.wrap n))] (rowL n.natAbs), ?_⟩, oc one_c]
  rw [e]
  exact NOf_c _ (by omega)
 ·rw [decide_eq_false h]
  have e : IntKind.u64.wrap n = ((n.natAbs : Nat) : Int) := by
   simp only [IntKind.wrap, IntKind.bits, IntKind.signed]
   simp
   omega
  refine ez [oo (lssI_owed (decide_eq_false h)), oo (lssI_owed (decide_eq_false h)), ⟨.call 73 [.int .u64 (IntKind.u64.wrap n)] (rowL n.natAbs), ?_⟩, oc one_c]
  rw [e]
  exact NOf_c _ (by omega)
theorem Floor_evc {p : Rat} (hp : Fits p) (hs : Fits (p.floor : Rat)) : Evc 29 [ratP p] (okP (ratP (p.floor : Rat))) := by
 have hd := p.den_nz
 have e : mkRat (sg (decide (p.num < 0)) (if decide (p.num < 0) = true ∧ p.num.natAbs % p.den ≠ 0 then p.num.natAbs / p.den + 1 else p.num.natAbs / p.den)) 1 = (p.floor : Rat) := by
  have : sg (decide (p.num < 0)) (if decide (p.num < 0) = true ∧ p.num.natAbs % p.den ≠ 0 then p.num.natAbs / p.den + 1 else p.num.natAbs / p.den) = p.floor := by
   rw [Rat.floor_def]
   have hdm := Nat.div_add_mod p.num.natAbs p.den
   have hml := Nat.mod_lt p.num.natAbs (Nat.pos_of_ne_zero hd)
   generalize p.num.natAbs / p.den = Q at *
   generalize p.num.natAbs % p.den = R at *
   symm
   unfold sg
   by_cases hn : p.num < 0
   ·rw [if_pos (decide_eq_true hn)]
    have hz : p.num = -((p.den * Q + R : Nat) : Int) := by omega
    by_cases hr : R ≠ 0
    ·rw [if_pos ⟨decide_eq_true hn, hr⟩]
     rw [Int.ediv_eq_iff_of_pos (by omega)]
     rw [hz]; push_cast
     constructor <;> grind
    ·rw [if_neg (fun h => hr h.2)]
     rw [Int.ediv_eq_iff_of_pos (by omega)]
     rw [hz]; push_cast
     constructor <;> grind
   ·rw [if_neg (by simpa using hn), if_neg (by simp [hn])]
    have hz : p.num = ((p.den * Q + R : Nat) : Int) := by omega
    rw [Int.ediv_eq_iff_of_pos (by omega)]
    rw [hz]; push_cast
    constructor <;> grind
  rw [this]
  apply Rat.ext
  ·rw [Rat.num_mkRat]; simp
  ·rw [Rat.den_mkRat]; simp
 have lq : Lt 64 (p.num.natAbs / p.den) := (up64 hp.1).le (Nat.div_le_self _ _)
 have lq1 : Lt 64 (p.num.natAbs / p.den + 1) := (((lt16 hp.1).le (Nat.div_le_self _ _)).add (lt_lit (by decide) (by decide) : Lt 16 1) (j := 64) (by decide))
 have lr : Lt 64 (p.num.natAbs % p.den) := (up64 hp.1).le (Nat.mod_le _ _)
 have a2 := Div_c (up64 hp.1) (up64 hp.2) hd
 have ck := Check_c hp.can
 have hr : ∀ m, m = (if decide (p.num < 0) = true ∧ p.num.natAbs % p.den ≠ 0 then p.num.natAbs / p.den + 1 else p.num.natAbs / p.den) → Lt 64 m → Evc 43 [.bool (decide (p.num < 0)), rowL m, rowL 1] (okP (ratP (p.floor : Rat))) := fun m hm lm => by
  have := reduced_c (decide (p.num < 0)) lm lt1' (by decide)
  rwa [redP_rat (q := (p.floor : Rat)) (by decide) (by rw [hm]; exact e) hs] at this
 clear e
 generalize (p.floor : Rat) = fl at *
 show Evc _ [rp (decide (p.num < 0)) p.num.natAbs p.den] _
 generalize p.num.natAbs / p.den = Q at *
 generalize p.num.natAbs % p.den = R at *
 by_cases hn : p.num < 0
 ·rw [decide_eq_true hn] at hr ck ⊢
  by_cases h0 : R = 0
  ·exact ez [oc ck, oc a2, oo (lenI_owed (k64 lr)), ⟨gtrI R 0 false, by have := gt0 (n := R); rwa [decide_eq_false (by omega : ¬ 0 < R)] at this⟩, oc one_c, ⟨.call 43 [.bool true, rowL Q, rowL 1] (okP (ratP fl)), hr Q (by rw [if_neg (fun h => h.2 h0)]) lq⟩]
  ·exact ez [oc ck, oc a2, oo (lenI_owed (k64 lr)), ⟨gtrI R 0 true, by have := gt0 (n := R); rwa [decide_eq_true (by omega : 0 < R)] at this⟩, oc one_c, oc (Add_c lq lt1'), oc one_c, ⟨.call 43 [.bool true, rowL (Q + 1), rowL 1] (okP (ratP fl)), hr (Q + 1) (by rw [if_pos ⟨rfl, h0⟩]) lq1⟩]
 ·rw [decide_eq_false hn] at hr ck ⊢
  exact ez [oc ck, oc a2, oc one_c, ⟨.call 43 [.bool false, rowL Q, rowL 1] (okP (ratP fl)), hr Q (by rw [if_neg (fun h => by cases h.1)]) lq⟩]
theorem Check_evc {p : Rat} (hp : Fits p) : Evc 34 [ratP p] e0 := Check_c hp.can
def readP (a : List UInt8) : PV := .tup [row .u32 (readS a).1, .int .i64 (readS a).2]
theorem readP_ok {a : List UInt8} {n : Nat} (h : readS a = (limbs n, 0)) : readP a = okP (rowL n) := by unfold readP; rw [h]; rfl
structure RS (s t a b : List UInt8) (neg has : Bool) : Prop where
 h1 : (if s.head? = some 45 then (s.tail, true) else (s, false)) = (t, neg)
 h2 : cutS t = (a, b, has)
 hs : s.length < 1000000
def readPre (s t a b : List UInt8) (neg has : Bool) (pa pb : PV) : List Item :=
 [.call 57 [.str s, .str [45]] (.tup [.str t, .bool neg]), .call 58 [.str t, .str [47]] (.tup [.str a, .str b, .bool has]), .call 59 [.str a] pa, .call 54 [] (rowL 1)] ++ (if has then [.call 59 [.str b] pb] else [])
theorem owed_app {L M : List Item} (h1 : ∀ i ∈ L, Owed i) (h2 : ∀ i ∈ M, Owed i) : ∀ i ∈ L ++ M, Owed i := fun i hi => (List.mem_append.1 hi).elim (h1 i) (h2 i)
theorem readPre_owed {s t a b : List UInt8} {neg has : Bool} (h : RS s t a b neg has) {pa pb : PV} (ha : readP a = pa) (hb : has = true → readP b = pb) : ∀ i ∈ readPre s t a b neg has pa pb, Owed i := by
 have lt : t.length ≤ s.length := by
  have := h.h1
  split at this
  ·rw [Prod.mk.injEq] at this; rw [← this.1]; simp
  ·rw [Prod.mk.injEq] at this; rw [← this.1]; exact Nat.le_refl _
 have hcut := Cut_c t (Nat.lt_of_le_of_lt lt h.hs)
 rw [h.h2] at hcut
 have e1 : Evc 59 [.str a] pa := by rw [← ha]; exact NRead_c a
 refine owed_app (z18 (CutPrefix_c s h.h1) (z18 hcut (z18 e1 (z18 one_c owed_nil)))) ?_
 cases has with
 | false => exact owed_nil
 | true => exact z18 (by rw [← hb rfl]; exact NRead_c b) owed_nil
def readAns (neg has : Bool) (n d : Nat) : PV := if d = 0 ∨ (has = true ∧ d = 1) ∨ (neg = true ∧ n = 0) ∨ Nat.gcd n d ≠ 1 then noP 4 else redP neg n d
theorem Read_c {s t a b : List UInt8} {neg has : Bool} (h : RS s t a b neg has) {n d : Nat} (hn : readS a = (limbs n, 0)) (hd : (if has = true then readS b else (limbs 1, 0)) = (limbs d, 0)) (ln : Lt 64 n) (ld : Lt 64 d) :
  Evc 23 [.str s] (readAns neg has n d) := by
 have pre := readPre_owed h (readP_ok hn) (pb := okP (rowL d)) (fun e => readP_ok (by rwa [if_pos e] at hd))
 have hd1 : has = false → d = 1 := fun e => by
  rw [if_neg (by rw [e]; decide)] at hd
  exact (limbs_inj (by injection hd)).symm
 have ld0 := lenI_owed (k64 ld)
 have ln0 := lenI_owed (k64 ln)
 unfold readAns
 by_cases c0 : d = 0
 ·rw [if_pos (.inl c0)]
  cases has with
  | false => exact absurd (hd1 rfl) (by omega)
  | true => cases neg <;> exact evc_script (known := known) (fl := fl0) (n := 3) (L := readPre s t a b _ true (okP (rowL n)) (okP (rowL d)) ++ [lenI d, eqlI d true]) (by kernel_rfl) (owed_app pre (z18 ld0 (z18 (eq0t c0) owed_nil)))
 ·have hg : Lt 64 (Nat.gcd n d) := ld.le (Nat.le_of_dvd (Nat.pos_of_ne_zero c0) (Nat.gcd_dvd_right n d))
  have hgc := Gcd_c ln ld
  have hred := fun neg => reduced_c neg ln ld c0
  by_cases c1 : has = true ∧ d = 1
  ·rw [if_pos (.inr (.inl c1))]
   obtain ⟨rfl, c1⟩ := c1
   cases neg <;> exact evc_script (known := known) (fl := fl0) (n := 3) (L := readPre s t a b _ true (okP (rowL n)) (okP (rowL d)) ++ [lenI d, eqlI d false, .call 54 [] (rowL 1), .call 53 [rowL d, rowL 1] (.bool true)]) (by kernel_rfl) (owed_app pre (z18 ld0 (z18 (eq0 c0) (z18 one_c (z18 (Equal_c (k64 ld) lt1 (decide_eq_true c1)) owed_nil)))))
  ·have hmid : ∃ M, (has = true → M = [.call 54 [] (rowL 1), .call 53 [rowL d, rowL 1] (.bool false)]) ∧ (has = false → M = []) ∧ ∀ i ∈ M, Owed i := by
    cases has with
    | false => exact ⟨[], fun e => (by cases e), fun _ => rfl, owed_nil⟩
    | true => exact ⟨_, fun _ => rfl, fun e => (by cases e), z18 one_c (z18 (Equal_c (k64 ld) lt1 (decide_eq_false fun e => c1 ⟨rfl, e⟩)) owed_nil)⟩
   obtain ⟨M, m1, m2, m3⟩ := hmid
   by_cases c2 : neg = true ∧ n = 0
   ·rw [if_pos (.inr (.inr (.inl c2)))]
    obtain ⟨rfl, c2⟩ := c2
    cases has with
    | false => rw [m2 rfl] at m3; exact evc_script (known := known) (fl := fl0) (n := 3) (L := readPre s t a b true false (okP (rowL n)) (okP (rowL d)) ++ ([lenI 1, eqlI 1 false] ++ ([] ++ [lenI n, eqlI n true]))) (by kernel_rfl) (owed_app pre (owed_app (z18 (lenI_owed lt1) (z18 (eq0 (by decide)) owed_nil)) (owed_app m3 (z18 ln0 (z18 (eq0t c2) owed_nil)))))
    | true => rw [m1 rfl] at m3; exact evc_script (known := known) (fl := fl0) (n := 3) (L := readPre s t a b true true (okP (rowL n)) (okP (rowL d)) ++ ([lenI d, eqlI d false] ++ ([.call 54 [] (rowL 1), .call 53 [rowL d, rowL 1] (.bool false)] ++ [lenI n, eqlI n true]))) (by kernel_rfl) (owed_app pre (owed_app (z18 ld0 (z18 (eq0 c0) owed_nil)) (owed_app m3 (z18 ln0 (z18 (eq0t c2) owed_nil)))))
   ·have hneg : ∃ N, (neg = true → N = [lenI n, eqlI n false]) ∧ (neg = false → N = []) ∧ ∀ i ∈ N, Owed i := by
     cases neg with
     | false => exact ⟨[], fun e => (by cases e), fun _ => rfl, owed_nil⟩
     | true => exact ⟨_, fun _ => rfl, fun e => (by cases e), z18 ln0 (z18 (eq0 fun e => c2 ⟨rfl, e⟩) owed_nil)⟩
    obtain ⟨N, n1, n2, n3⟩ := hneg
    by_cases c3 : Nat.gcd n d = 1
    ·rw [if_neg (by rintro (e | e | e | e); exact c0 e; exact c1 e; exact c2 e; exact e c3)]
     have tail : ∀ i ∈ [Item.call 60 [rowL n, rowL d] (okP (rowL 1)), .call 54 [] (rowL 1), .call 53 [rowL 1, rowL 1] (.bool true), .call 43 [.bool neg, rowL n, rowL d] (redP neg n d)], Owed i :=
      z18 (by rw [c3] at hgc; exact hgc) (z18 one_c (z18 (Equal_c lt1 lt1 rfl) (z18 (hred neg) owed_nil)))
     have hr : ∃ r e, redP neg n d = .tup [r, .int .i64 e] ∧ ∃ bo r1 r2, r = .agg [.bool bo, r1, r2] ∧ r1.one = true ∧ r2.one = true := by
      unfold redP
      split
      ·exact ⟨_, _, rfl, _, _, _, rfl, rfl, rfl⟩
      ·exact ⟨_, _, rfl, _, _, _, rfl, rfl, rfl⟩
     have hred2 : (∃ bo l1 l2 e, redP neg n d = .tup [.agg [.bool bo, rowL l1, rowL l2], .int .i64 e]) ∨ redP neg n d = noP 20 := by
      unfold redP
      split
      ·exact .inl ⟨_, _, _, _, rfl⟩
      ·exact .inr rfl
     rcases hred2 with ⟨bo, l1, l2, e, hr2⟩ | hr2 <;> rw [hr2] at tail ⊢ <;> cases has <;> cases neg
     ·rw [m2 rfl] at m3; rw [n2 rfl] at n3; obtain rfl := hd1 rfl; exact evc_script (known := known) (fl := fl0) (n := 3) (L := readPre s t a b false false (okP (rowL n)) (okP (rowL 1)) ++ ([lenI 1, eqlI 1 false] ++ ([] ++ ([] ++ _)))) (by kernel_rfl) (owed_app pre (owed_app (z18 ld0 (z18 (eq0 c0) owed_nil)) (owed_app m3 (owed_app n3 tail))))
     ·rw [m2 rfl] at m3; rw [n1 rfl] at n3; obtain rfl := hd1 rfl; exact evc_script (known := known) (fl := fl0) (n := 3) (L := readPre s t a b true false (okP (rowL n)) (okP (rowL 1)) ++ ([lenI 1, eqlI 1 false] ++ ([] ++ ([lenI n, eqlI n false] ++ _)))) (by kernel_rfl) (owed_app pre (owed_app (z18 ld0 (z18 (eq0 c0) owed_nil)) (owed_app m3 (owed_app n3 tail))))
     ·rw [m1 rfl] at m3; rw [n2 rfl] at n3; exact evc_script (known := known) (fl := fl0) (n := 3) (L := readPre s t a b false true (okP (rowL n)) (okP (rowL d)) ++ ([lenI d, eqlI d false] ++ (_ ++ ([] ++ _)))) (by kernel_rfl) (owed_app pre (owed_app (z18 ld0 (z18 (eq0 c0) owed_nil)) (owed_app m3 (owed_app n3 tail))))
     ·rw [m1 rfl] at m3; rw [n1 rfl] at n3; exact evc_script (known := known) (fl := fl0) (n := 3) (L := readPre s t a b true true (okP (rowL n)) (okP (rowL d)) ++ ([lenI d, eqlI d false] ++ (_ ++ ([lenI n, eqlI n false] ++ _)))) (by kernel_rfl) (owed_app pre (owed_app (z18 ld0 (z18 (eq0 c0) owed_nil)) (owed_app m3 (owed_app n3 tail))))
     ·rw [m2 rfl] at m3; rw [n2 rfl] at n3; obtain rfl := hd1 rfl; exact evc_script (known := known) (fl := fl0) (n := 3) (L := readPre s t a b false false (okP (rowL n)) (okP (rowL 1)) ++ ([lenI 1, eqlI 1 false] ++ ([] ++ ([] ++ _)))) (by kernel_rfl) (owed_app pre (owed_app (z18 ld0 (z18 (eq0 c0) owed_nil)) (owed_app m3 (owed_app n3 tail))))
     ·rw [m2 rfl] at m3; rw [n1 rfl] at n3; obtain rfl := hd1 rfl; exact evc_script (known := known) (fl := fl0) (n := 3) (L := readPre s t a b true false (okP (rowL n)) (okP (rowL 1)) ++ ([lenI 1, eqlI 1 false] ++ ([] ++ ([lenI n, eqlI n false] ++ _)))) (by kernel_rfl) (owed_app pre (owed_app (z18 ld0 (z18 (eq0 c0) owed_nil)) (owed_app m3 (owed_app n3 tail))))
     ·rw [m1 rfl] at m3; rw [n2 rfl] at n3; exact evc_script (known := known) (fl := fl0) (n := 3) (L := readPre s t a b false true (okP (rowL n)) (okP (rowL d)) ++ ([lenI d, eqlI d false] ++ (_ ++ ([] ++ _)))) (by kernel_rfl) (owed_app pre (owed_app (z18 ld0 (z18 (eq0 c0) owed_nil)) (owed_app m3 (owed_app n3 tail))))
     ·rw [m1 rfl] at m3; rw [n1 rfl] at n3; exact evc_script (known := known) (fl := fl0) (n := 3) (L := readPre s t a b true true (okP (rowL n)) (okP (rowL d)) ++ ([lenI d, eqlI d false] ++ (_ ++ ([lenI n, eqlI n false] ++ _)))) (by kernel_rfl) (owed_app pre (owed_app (z18 ld0 (z18 (eq0 c0) owed_nil)) (owed_app m3 (owed_app n3 tail))))
    ·rw [if_pos (.inr (.inr (.inr c3)))]
     have tail : ∀ i ∈ [Item.call 60 [rowL n, rowL d] (okP (rowL (Nat.gcd n d))), .call 54 [] (rowL 1), .call 53 [rowL (Nat.gcd n d), rowL 1] (.bool false)], Owed i :=
      z18 hgc (z18 one_c (z18 (Equal_c (k64 hg) lt1 (decide_eq_false c3)) owed_nil))
     cases has <;> cases neg
     ·rw [m2 rfl] at m3; rw [n2 rfl] at n3; obtain rfl := hd1 rfl; exact evc_script (known := known) (fl := fl0) (n := 3) (L := readPre s t a b false false (okP (rowL n)) (okP (rowL 1)) ++ ([lenI 1, eqlI 1 false] ++ ([] ++ ([] ++ _)))) (by kernel_rfl) (owed_app pre (owed_app (z18 ld0 (z18 (eq0 c0) owed_nil)) (owed_app m3 (owed_app n3 tail))))
     ·rw [m2 rfl] at m3; rw [n1 rfl] at n3; obtain rfl := hd1 rfl; exact evc_script (known := known) (fl := fl0) (n := 3) (L := readPre s t a b true false (okP (rowL n)) (okP (rowL 1)) ++ ([lenI 1, eqlI 1 false] ++ ([] ++ ([lenI n, eqlI n false] ++ _)))) (by kernel_rfl) (owed_app pre (owed_app (z18 ld0 (z18 (eq0 c0) owed_nil)) (owed_app m3 (owed_app n3 tail))))
     ·rw [m1 rfl] at m3; rw [n2 rfl] at n3; exact evc_script (known := known) (fl := fl0) (n := 3) (L := readPre s t a b false true (okP (rowL n)) (okP (rowL d)) ++ ([lenI d, eqlI d false] ++ (_ ++ ([] ++ _)))) (by kernel_rfl) (owed_app pre (owed_app (z18 ld0 (z18 (eq0 c0) owed_nil)) (owed_app m3 (owed_app n3 tail))))
     ·rw [m1 rfl] at m3; rw [n1 rfl] at n3; exact evc_script (known := known) (fl := fl0) (n := 3) (L := readPre s t a b true true (okP (rowL n)) (okP (rowL d)) ++ ([lenI d, eqlI d false] ++ (_ ++ ([lenI n, eqlI n false] ++ _)))) (by kernel_rfl) (owed_app pre (owed_app (z18 ld0 (z18 (eq0 c0) owed_nil)) (owed_app m3 (owed_app n3 tail))))
def textQ (neg : Bool) (n d : Nat) : List UInt8 := (if neg = true then [45] else []) ++ textL n ++ (if d = 1 then [] else [47] ++ textL d)
theorem textL_len {m : Nat} (hm : Lt 16 m) : (textL m).length < 1000 := by
 have h1 : m < 10 ^ 200 := Nat.lt_trans hm (by decide)
 unfold textL
 split
 ·simp
 ·exact Nat.lt_of_le_of_lt (decL_length_le h1) (by decide)
def addI (a b : List UInt8) (yc : Bool) : Item := .bin .add 9 (.pv (.str a)) (.pv (.str b)) yc (.pv (.str (a ++ b)))
theorem addI_owed {a b : List UInt8} {yc : Bool} (h : a.length + b.length ≤ 100000) : Owed (addI a b yc) := by
 show binA Tryz.prog .add 9 _ _ _ = _
 simp only [binA, strOp]
 rw [if_pos (by omega)]
theorem Text_c {s : Bool} {n d : Nat} (h : CanR s n d) : Evc 21 [rp s n d] (okP (.str (textQ s n d))) := by
 have ck := Check_c h
 have tn := NText_c ((lt16 h.n16).up (j := 64) (by decide))
 have td := NText_c ((lt16 h.d16).up (j := 64) (by decide))
 have ln := textL_len h.n16
 have ld := textL_len h.d16
 have up : Lt 1000 d := (lt16 h.d16).up (by decide)
 unfold textQ
 by_cases h1 : d = 1
 ·rw [if_pos h1]
  have eq := Equal_c up lt1 (decide_eq_true h1)
  cases s with
  | false =>
   rw [if_neg (by decide), List.nil_append, List.append_nil]
   exact ez [oc ck, oc tn, oc one_c, oc eq]
  | true =>
   rw [if_pos rfl, List.append_nil]
   exact ez [oc ck, oc tn, ⟨addI [45] (textL n) false, addI_owed (by simp; omega)⟩, oc one_c, oc eq]
 ·rw [if_neg h1]
  have eq := Equal_c up lt1 (decide_eq_false h1)
  cases s with
  | false =>
   rw [if_neg (by decide), List.nil_append, ← List.append_assoc]
   exact ez [oc ck, oc tn, oc one_c, oc eq, oc td, ⟨addI (textL n) [47] true, addI_owed (by simp; omega)⟩, ⟨addI (textL n ++ [47]) (textL d) false, addI_owed (by simp; omega)⟩]
  | true =>
   rw [if_pos rfl, ← List.append_assoc]
   exact ez [oc ck, oc tn, ⟨addI [45] (textL n) false, addI_owed (by simp; omega)⟩, oc one_c, oc eq, oc td, ⟨addI ([45] ++ textL n) [47] true, addI_owed (by simp; omega)⟩, ⟨addI ([45] ++ textL n ++ [47]) (textL d) false, addI_owed (by simp; omega)⟩]
def textP (q : Rat) : List UInt8 := textQ (decide (q.num < 0)) q.num.natAbs q.den
theorem Text_evc {q : Rat} (h : Fits q) : Evc 21 [ratP q] (okP (.str (textP q))) := Text_c h.can
theorem fits64 {q : Rat} (h1 : q.num.natAbs < 18446744073709551616) (h2 : q.den < 18446744073709551616) : Fits q := ⟨lt_lit h1 (by decide), lt_lit h2 (by decide)⟩
theorem redP_self {q : Rat} (h : Fits q) : redP (decide (q.num < 0)) q.num.natAbs q.den = okP (ratP q) :=
 redP_rat q.den_nz (by rw [show sg (decide (q.num < 0)) q.num.natAbs = q.num from by have := sg_num q.num 1; simpa using this]; exact Rat.mkRat_self q) h
theorem Read_q {s t a b : List UInt8} {has : Bool} {q : Rat} (h : RS s t a b (decide (q.num < 0)) has) (hf : Fits q) (hn : readS a = (limbs q.num.natAbs, 0)) (hd : (if has = true then readS b else (limbs 1, 0)) = (limbs q.den, 0)) (h1 : ¬ (has = true ∧ q.den = 1)) :
  Evc 23 [.str s] (okP (ratP q)) := by
 have := Read_c h hn hd (up64 hf.1) (up64 hf.2)
 have hr := q.reduced
 rwa [readAns, if_neg (by
  rintro (e | e | e | e)
  ·exact q.den_nz e
  ·exact h1 e
  ·have := of_decide_eq_true e.1; omega
  ·exact e hr), redP_self hf] at this
theorem of_c {s : List UInt8} {q : Rat} (h : Evc 23 [.str s] (okP (ratP q))) : Evc 49 [.str s] (ratP q) :=
 ey {} 3 [oc h]
theorem fails_c {s : List UInt8} (h : Evc 23 [.str s] (noP 4)) : Evc 51 [.str s] (.bool true) :=
 ey {} 3 [oc h]
theorem is_c {s : List UInt8} {q : Rat} (hf : Fits q) (h : textP q = s) : Evc 50 [ratP q, e0, .str s] (.bool true) := by
 subst h
 exact ey { bin := fun _ t _ _ => t == 9 } 3 [oc (Text_evc hf), ⟨.bin .eql 9 (.pv (.str (textP q))) (.pv (.str (textP q))) false (.pv (.bool true)), by show binA Tryz.prog .eql 9 _ _ _ = _; simp [binA, strOp]⟩, oc (Check_evc hf)]
theorem of_12 : Evc 49 [.str [49, 47, 50]] (ratP (1/2)) :=
 of_c (Read_q (s := [49, 47, 50]) (t := [49, 47, 50]) (a := [49]) (b := [50]) (has := true) (q := 1/2) ⟨by decide +kernel, by decide +kernel, by decide +kernel⟩ (fits64 (by decide +kernel) (by decide +kernel)) (readS_num (by decide +kernel) (by decide +kernel) (by decide +kernel)) ((if_pos rfl).trans (readS_num (by decide +kernel) (by decide +kernel) (by decide +kernel))) (by decide +kernel))
theorem of_13 : Evc 49 [.str [49, 47, 51]] (ratP (1/3)) :=
 of_c (Read_q (s := [49, 47, 51]) (t := [49, 47, 51]) (a := [49]) (b := [51]) (has := true) (q := 1/3) ⟨by decide +kernel, by decide +kernel, by decide +kernel⟩ (fits64 (by decide +kernel) (by decide +kernel)) (readS_num (by decide +kernel) (by decide +kernel) (by decide +kernel)) ((if_pos rfl).trans (readS_num (by decide +kernel) (by decide +kernel) (by decide +kernel))) (by decide +kernel))
theorem of_23 : Evc 49 [.str [50, 47, 51]] (ratP (2/3)) :=
 of_c (Read_q (s := [50, 47, 51]) (t := [50, 47, 51]) (a := [50]) (b := [51]) (has := true) (q := 2/3) ⟨by decide +kernel, by decide +kernel, by decide +kernel⟩ (fits64 (by decide +kernel) (by decide +kernel)) (readS_num (by decide +kernel) (by decide +kernel) (by decide +kernel)) ((if_pos rfl).trans (readS_num (by decide +kernel) (by decide +kernel) (by decide +kernel))) (by decide +kernel))
theorem of_34 : Evc 49 [.str [51, 47, 52]] (ratP (3/4)) :=
 of_c (Read_q (s := [51, 47, 52]) (t := [51, 47, 52]) (a := [51]) (b := [52]) (has := true) (q := 3/4) ⟨by decide +kernel, by decide +kernel, by decide +kernel⟩ (fits64 (by decide +kernel) (by decide +kernel)) (readS_num (by decide +kernel) (by decide +kernel) (by decide +kernel)) ((if_pos rfl).trans (readS_num (by decide +kernel) (by decide +kernel) (by decide +kernel))) (by decide +kernel))
theorem of_1 : Evc 49 [.str [49]] (ratP (1)) :=
 of_c (Read_q (s := [49]) (t := [49]) (a := [49]) (b := []) (has := false) (q := 1) ⟨by decide +kernel, by decide +kernel, by decide +kernel⟩ (fits64 (by decide +kernel) (by decide +kernel)) (readS_num (by decide +kernel) (by decide +kernel) (by decide +kernel)) rfl (by decide +kernel))
theorem of_m2 : Evc 49 [.str [45, 50]] (ratP (-2)) :=
 of_c (Read_q (s := [45, 50]) (t := [50]) (a := [50]) (b := []) (has := false) (q := -2) ⟨by decide +kernel, by decide +kernel, by decide +kernel⟩ (fits64 (by decide +kernel) (by decide +kernel)) (readS_num (by decide +kernel) (by decide +kernel) (by decide +kernel)) rfl (by decide +kernel))
theorem of_m12 : Evc 49 [.str [45, 49, 47, 50]] (ratP (-1/2)) :=
 of_c (Read_q (s := [45, 49, 47, 50]) (t := [49, 47, 50]) (a := [49]) (b := [50]) (has := true) (q := -1/2) ⟨by decide +kernel, by decide +kernel, by decide +kernel⟩ (fits64 (by decide +kernel) (by decide +kernel)) (readS_num (by decide +kernel) (by decide +kernel) (by decide +kernel)) ((if_pos rfl).trans (readS_num (by decide +kernel) (by decide +kernel) (by decide +kernel))) (by decide +kernel))
theorem textP_of {q : Rat} {s : Bool} {n d : Nat} (h1 : decide (q.num < 0) = s) (h2 : q.num.natAbs = n) (h3 : q.den = d) : textP q = textQ s n d := by unfold textP; rw [h1, h2, h3]
theorem is_56 : Evc 50 [ratP (5/6), e0, .str [53, 47, 54]] (.bool true) := is_c (fits64 (by decide +kernel) (by decide +kernel)) (by rw [textP_of (s := false) (n := 5) (d := 6) (by decide +kernel) (by decide +kernel) (by decide +kernel)]; unfold textQ; rw [textL_digit (by decide +kernel) (by decide +kernel), textL_digit (by decide +kernel) (by decide +kernel)]; rfl)
theorem is_12 : Evc 50 [ratP (1/2), e0, .str [49, 47, 50]] (.bool true) := is_c (fits64 (by decide +kernel) (by decide +kernel)) (by rw [textP_of (s := false) (n := 1) (d := 2) (by decide +kernel) (by decide +kernel) (by decide +kernel)]; unfold textQ; rw [textL_digit (by decide +kernel) (by decide +kernel), textL_digit (by decide +kernel) (by decide +kernel)]; rfl)
theorem is_m12 : Evc 50 [ratP (-1/2), e0, .str [45, 49, 47, 50]] (.bool true) := is_c (fits64 (by decide +kernel) (by decide +kernel)) (by rw [textP_of (s := true) (n := 1) (d := 2) (by decide +kernel) (by decide +kernel) (by decide +kernel)]; unfold textQ; rw [textL_digit (by decide +kernel) (by decide +kernel), textL_digit (by decide +kernel) (by decide +kernel)]; rfl)
theorem is_0 : Evc 50 [ratP (0), e0, .str [48]] (.bool true) := is_c (fits64 (by decide +kernel) (by decide +kernel)) (by rw [textP_of (s := false) (n := 0) (d := 1) (by decide +kernel) (by decide +kernel) (by decide +kernel)]; unfold textQ; rw [if_pos rfl]; rfl)
theorem is_m1 : Evc 50 [ratP (-1), e0, .str [45, 49]] (.bool true) := is_c (fits64 (by decide +kernel) (by decide +kernel)) (by rw [textP_of (s := true) (n := 1) (d := 1) (by decide +kernel) (by decide +kernel) (by decide +kernel)]; unfold textQ; rw [textL_digit (by decide +kernel) (by decide +kernel), if_pos rfl, if_pos rfl]; rfl)
theorem fails_64 : Evc 51 [.str [54, 47, 52]] (.bool true) := by
 have := Read_c (s := [54, 47, 52]) (t := [54, 47, 52]) (a := [54]) (b := [52]) (neg := false) (has := true) (n := 6) (d := 4) ⟨by decide +kernel, by decide +kernel, by decide +kernel⟩ (readS_num (by decide +kernel) (by decide +kernel) (by decide +kernel)) ((if_pos rfl).trans (readS_num (by decide +kernel) (by decide +kernel) (by decide +kernel))) (lt_lit (by decide +kernel) (by decide +kernel)) (lt_lit (by decide +kernel) (by decide +kernel))
 rw [readAns, if_pos (by decide +kernel)] at this
 exact fails_c this
theorem fails_m0 : Evc 51 [.str [45, 48]] (.bool true) := by
 have := Read_c (s := [45, 48]) (t := [48]) (a := [48]) (b := []) (neg := true) (has := false) (n := 0) (d := 1) ⟨by decide +kernel, by decide +kernel, by decide +kernel⟩ (readS_num (by decide +kernel) (by decide +kernel) (by decide +kernel)) rfl (lt_lit (by decide +kernel) (by decide +kernel)) (lt_lit (by decide +kernel) (by decide +kernel))
 rw [readAns, if_pos (by decide +kernel)] at this
 exact fails_c this
theorem fails_31 : Evc 51 [.str [51, 47, 49]] (.bool true) := by
 have := Read_c (s := [51, 47, 49]) (t := [51, 47, 49]) (a := [51]) (b := [49]) (neg := false) (has := true) (n := 3) (d := 1) ⟨by decide +kernel, by decide +kernel, by decide +kernel⟩ (readS_num (by decide +kernel) (by decide +kernel) (by decide +kernel)) ((if_pos rfl).trans (readS_num (by decide +kernel) (by decide +kernel) (by decide +kernel))) (lt_lit (by decide +kernel) (by decide +kernel)) (lt_lit (by decide +kernel) (by decide +kernel))
 rw [readAns, if_pos (by decide +kernel)] at this
 exact fails_c this
theorem fails_30 : Evc 51 [.str [51, 47, 48]] (.bool true) := by
 have := Read_c (s := [51, 47, 48]) (t := [51, 47, 48]) (a := [51]) (b := [48]) (neg := false) (has := true) (n := 3) (d := 0) ⟨by decide +kernel, by decide +kernel, by decide +kernel⟩ (readS_num (by decide +kernel) (by decide +kernel) (by decide +kernel)) ((if_pos rfl).trans (readS_num (by decide +kernel) (by decide +kernel) (by decide +kernel))) (lt_lit (by decide +kernel) (by decide +kernel)) (lt_lit (by decide +kernel) (by decide +kernel))
 rw [readAns, if_pos (by decide +kernel)] at this
 exact fails_c this
theorem works_evc : Evc 20 [] (.bool true) :=
 ey {} 3 [oc of_12, oc of_13, ⟨.call 8 [ratP (1/2), ratP (1/3)] (okP (ratP (5/6))), by have := Add_evc (p := 1/2) (q := 1/3) (fits64 (by decide +kernel) (by decide +kernel)) (fits64 (by decide +kernel) (by decide +kernel)) (fits64 (by decide +kernel) (by decide +kernel)); rw [show ((1/2 : Rat) + (1/3) : Rat) = 5/6 by decide +kernel] at this; exact this⟩, oc of_23, oc of_34, ⟨.call 13 [ratP (2/3), ratP (3/4)] (okP (ratP (1/2))), by have := Mul_evc (p := 2/3) (q := 3/4) (fits64 (by decide +kernel) (by decide +kernel)) (fits64 (by decide +kernel) (by decide +kernel)) (fits64 (by decide +kernel) (by decide +kernel)); rw [show ((2/3 : Rat) * (3/4) : Rat) = 1/2 by decide +kernel] at this; exact this⟩, oc of_1, oc of_m2, ⟨.call 15 [ratP (1), ratP (-2)] (okP (ratP (-1/2))), by have := Div_evc (p := 1) (q := -2) (fits64 (by decide +kernel) (by decide +kernel)) (fits64 (by decide +kernel) (by decide +kernel)) (by decide +kernel) (fits64 (by decide +kernel) (by decide +kernel)); rw [show ((1 : Rat) / (-2) : Rat) = -1/2 by decide +kernel] at this; exact this⟩, oc of_12, oc of_12, ⟨.call 11 [ratP (1/2), ratP (1/2)] (okP (ratP (0))), by have := Sub_evc (p := 1/2) (q := 1/2) (fits64 (by decide +kernel) (by decide +kernel)) (fits64 (by decide +kernel) (by decide +kernel)) (fits64 (by decide +kernel) (by decide +kernel)); rw [show ((1/2 : Rat) - (1/2) : Rat) = 0 by decide +kernel] at this; exact this⟩, oc of_m12, ⟨.call 29 [ratP (-1/2)] (okP (ratP (-1))), by have := Floor_evc (p := -1/2) (fits64 (by decide +kernel) (by decide +kernel)) (fits64 (by decide +kernel) (by decide +kernel)); rw [show ((Rat.floor (-1/2) : Int) : Rat) = -1 by decide +kernel] at this; exact this⟩, oc of_13, oc of_12, ⟨.call 17 [ratP (1/3), ratP (1/2)] (okP (intP (-1))), by have := Cmp_evc (p := 1/3) (q := 1/2) (fits64 (by decide +kernel) (by decide +kernel)) (fits64 (by decide +kernel) (by decide +kernel)); rw [show cmpQ (1/3) (1/2) = -1 by decide +kernel] at this; exact this⟩, oc is_56, oc is_12, oc is_m12, oc is_0, oc is_m1, oc fails_64, oc fails_m0, oc fails_31, oc fails_30]
theorem rone_z : ∀ {a : List Int} (_ : a.length ≤ 1000), Evc 56 [rowZ a] (.bool (decide (a = [1])))
 | [], _ => by
  rw [decide_eq_false (by simp)]
  exact ez [ll 22 (.pv (.sl none 1 [])) 0, bl .eql 3 (.pv (.int .i64 0)) (.pv (.int .i64 1)) true (.pv (.bool false))]
 | [x], _ => by
  rw [show decide ([x] = [1]) = (x == 1) by rw [Bool.eq_iff_iff]; simp]
  exact ez [ll 22 (.pv (.sl none 1 [.int .u32 x])) 1, bl .eql 3 (.pv (.int .i64 1)) (.pv (.int .i64 1)) true (.pv (.bool true))]
 | x :: y :: l, h => by
  rw [decide_eq_false (by simp)]
  exact ez [oo (lenZ h), ⟨.bin .eql 3 (.pv (.int .i64 (((x :: y :: l).length : Nat) : Int))) (.pv (.int .i64 1)) true (.pv (.bool false)), bin_eql (beq_eq_false_iff_ne.2 (by rw [List.length_cons, List.length_cons]; omega))⟩]
theorem rone_c {n : Nat} (h : Lt 1000 n) {b : Bool} (e : decide (n = 1) = b) : Evc 56 [rowL n] (.bool b) := by
 have q := rone_z (len_l h)
 rw [show ([1] : List Int) = limbs 1 from canB_cons1 (x := 1) (by decide) (by decide), limbs_dec, e] at q
 exact q
theorem make2_p (s : Bool) {p : PV} {n d : Nat} (hp : rowOf .u32 p = some (limbs d)) (hn : Lt 64 n) (hd : Lt 64 d) (h0 : d ≠ 0) : Evc 47 [.bool s, rowL n, p] (redP s n d) := by
 have hg0 : Nat.gcd n d ≠ 0 := fun e => h0 (Nat.eq_zero_of_gcd_eq_zero_right e)
 have hg : Lt 64 (Nat.gcd n d) := hd.le (Nat.le_of_dvd (Nat.pos_of_ne_zero h0) (Nat.gcd_dvd_right n d))
 have a1 := rgcd_p hp hn hd
 have a2 := rdiv_c hn hg hg0
 have a3 := rdiv_p hp hd hg hg0
 unfold redP
 have l1 : Lt 64 (n / Nat.gcd n d) := hn.le (Nat.div_le_self _ _)
 have l2 : Lt 64 (d / Nat.gcd n d) := hd.le (Nat.div_le_self _ _)
 generalize n % Nat.gcd n d = r1 at *
 generalize d % Nat.gcd n d = r2 at *
 generalize n / Nat.gcd n d = n' at *
 generalize d / Nat.gcd n d = d' at *
 generalize Nat.gcd n d = g at *
 by_cases c1 : n' < 4294967296 ^ 16
 ·by_cases c2 : d' < 4294967296 ^ 16
  ·rw [if_pos ⟨c1, c2⟩]
   cases s with
   | false => exact ez [oc a1, oc a2, oc a3, oo (lenL (k64 l1)), oo (z20 (g16f c1)), oo (lenL (k64 l2)), oo (z20 (g16f c2))]
   | true => exact ez [oc a1, oc a2, oc a3, oo (lenL (k64 l1)), oo (z20 (g16f c1)), oo (lenL (k64 l2)), oo (z20 (g16f c2)), oo (lenL (k64 l1)), oo (z20 (lenpos (n := n')))]
  ·rw [if_neg (fun h => c2 h.2)]
   cases s with
   | false => exact ez [oc a1, oc a2, oc a3, oo (lenL (k64 l1)), oo (z20 (g16f c1)), oo (lenL (k64 l2)), oo (z20 (g16t c2))]
   | true => exact ez [oc a1, oc a2, oc a3, oo (lenL (k64 l1)), oo (z20 (g16f c1)), oo (lenL (k64 l2)), oo (z20 (g16t c2))]
 ·rw [if_neg (fun h => c1 h.1)]
  cases s with
  | false => exact ez [oc a1, oc a2, oc a3, oo (lenL (k64 l1)), oo (z20 (g16t c1))]
  | true => exact ez [oc a1, oc a2, oc a3, oo (lenL (k64 l1)), oo (z20 (g16t c1))]
theorem Check_n {s : Bool} {m n : Nat} (hm : Lt 16 m) (hn : Lt 16 n) : Evc 34 [rp s m n] (.int .i64 (if n = 0 ∨ (s = true ∧ m = 0) ∨ Nat.gcd m n ≠ 1 then 2 else 0)) := by
 have um : Lt 1000 m := hm.up (by decide)
 have un : Lt 1000 n := hn.up (by decide)
 have pg := Gcd_c (hm.up (j := 64) (by decide)) (hn.up (j := 64) (by decide))
 by_cases hn0 : n = 0
 ·rw [if_pos (.inl hn0)]
  by_cases hm0 : m = 0
  ·cases s with
   | false => exact ez [oo (lenL um), oo (z20 (g16f hm)), oo (lenL un), oo (z20 (g16f hn)), oc pg, oo (lenL un), oo (bin_eql (l0t hn0))]
   | true => exact ez [oo (lenL um), oo (z20 (g16f hm)), oo (lenL un), oo (z20 (g16f hn)), oc pg, oo (lenL un), oo (bin_eql (l0t hn0))]
  ·cases s with
   | false => exact ez [oo (lenL um), oo (z20 (g16f hm)), oo (lenL un), oo (z20 (g16f hn)), oc pg, oo (lenL un), oo (bin_eql (l0t hn0))]
   | true => exact ez [oo (lenL um), oo (z20 (g16f hm)), oo (lenL un), oo (z20 (g16f hn)), oc pg, oo (lenL un), oo (bin_eql (l0t hn0))]
 ·have hg : Lt 1000 (Nat.gcd m n) := un.le (Nat.le_of_dvd (Nat.pos_of_ne_zero hn0) (Nat.gcd_dvd_right m n))
  by_cases hm0 : m = 0
  ·cases s with
   | true =>
    rw [if_pos (.inr (.inl ⟨rfl, hm0⟩))]
    exact ez [oo (lenL um), oo (z20 (g16f hm)), oo (lenL un), oo (z20 (g16f hn)), oc pg, oo (lenL un), oo (bin_eql (l0f hn0)), oo (lenL um), oo (bin_eql (l0t hm0))]
   | false =>
    by_cases g1 : Nat.gcd m n = 1
    ·rw [if_neg (by simp [hn0, g1])]
     have o2 := Equal_c hg lt1 (decide_eq_true g1)
     exact ez [oo (lenL um), oo (z20 (g16f hm)), oo (lenL un), oo (z20 (g16f hn)), oc pg, oo (lenL un), oo (bin_eql (l0f hn0)), oc one_c, oc o2]
    ·rw [if_pos (.inr (.inr g1))]
     have o2 := Equal_c hg lt1 (decide_eq_false g1)
     exact ez [oo (lenL um), oo (z20 (g16f hm)), oo (lenL un), oo (z20 (g16f hn)), oc pg, oo (lenL un), oo (bin_eql (l0f hn0)), oc one_c, oc o2]
  ·by_cases g1 : Nat.gcd m n = 1
   ·rw [if_neg (by simp [hn0, hm0, g1])]
    have o2 := Equal_c hg lt1 (decide_eq_true g1)
    cases s with
    | false => exact ez [oo (lenL um), oo (z20 (g16f hm)), oo (lenL un), oo (z20 (g16f hn)), oc pg, oo (lenL un), oo (bin_eql (l0f hn0)), oc one_c, oc o2]
    | true => exact ez [oo (lenL um), oo (z20 (g16f hm)), oo (lenL un), oo (z20 (g16f hn)), oc pg, oo (lenL un), oo (bin_eql (l0f hn0)), oo (lenL um), oo (bin_eql (l0f hm0)), oc one_c, oc o2]
   ·rw [if_pos (.inr (.inr g1))]
    have o2 := Equal_c hg lt1 (decide_eq_false g1)
    cases s with
    | false => exact ez [oo (lenL um), oo (z20 (g16f hm)), oo (lenL un), oo (z20 (g16f hn)), oc pg, oo (lenL un), oo (bin_eql (l0f hn0)), oc one_c, oc o2]
    | true => exact ez [oo (lenL um), oo (z20 (g16f hm)), oo (lenL un), oo (z20 (g16f hn)), oc pg, oo (lenL un), oo (bin_eql (l0f hn0)), oo (lenL um), oo (bin_eql (l0f hm0)), oc one_c, oc o2]
theorem rCheck_n {s : Bool} {m n : Nat} (hm : Lt 16 m) (hn : Lt 16 n) : Evc 33 [rp s m n] (.int .i64 (if n = 0 ∨ (s = true ∧ m = 0) ∨ Nat.gcd m n ≠ 1 then 2 else 0)) := by
 have um : Lt 1000 m := hm.up (by decide)
 have un : Lt 1000 n := hn.up (by decide)
 have cm := rNCheck_z (k1 hm (by decide))
 have cn := rNCheck_z (k1 hn (by decide))
 rw [chk_l (hm.up (by decide))] at cm
 rw [chk_l (hn.up (by decide))] at cn
 have rg := rgcd_c (hm.up (j := 64) (by decide)) (hn.up (j := 64) (by decide))
 by_cases hn0 : n = 0
 ·rw [if_pos (.inl hn0)]
  by_cases hm0 : m = 0
  ·cases s with
   | false => exact ez [oo (lenL um), oo (z20 (g16f hm)), oo (lenL un), oo (z20 (g16f hn)), oc cm, oc cn, oo (lenL un), oo (bin_eql (l0t hn0))]
   | true => exact ez [oo (lenL um), oo (z20 (g16f hm)), oo (lenL un), oo (z20 (g16f hn)), oc cm, oc cn, oo (lenL un), oo (bin_eql (l0t hn0))]
  ·cases s with
   | false => exact ez [oo (lenL um), oo (z20 (g16f hm)), oo (lenL un), oo (z20 (g16f hn)), oc cm, oc cn, oo (lenL un), oo (bin_eql (l0t hn0))]
   | true => exact ez [oo (lenL um), oo (z20 (g16f hm)), oo (lenL un), oo (z20 (g16f hn)), oc cm, oc cn, oo (lenL un), oo (bin_eql (l0t hn0))]
 ·have hg : Lt 1000 (Nat.gcd m n) := un.le (Nat.le_of_dvd (Nat.pos_of_ne_zero hn0) (Nat.gcd_dvd_right m n))
  by_cases hm0 : m = 0
  ·cases s with
   | true =>
    rw [if_pos (.inr (.inl ⟨rfl, hm0⟩))]
    exact ez [oo (lenL um), oo (z20 (g16f hm)), oo (lenL un), oo (z20 (g16f hn)), oc cm, oc cn, oo (lenL un), oo (bin_eql (l0f hn0)), oo (lenL um), oo (bin_eql (l0t hm0))]
   | false =>
    by_cases g1 : Nat.gcd m n = 1
    ·rw [if_neg (by simp [hn0, g1])]
     have o1 := rone_c hg (decide_eq_true g1)
     exact ez [oo (lenL um), oo (z20 (g16f hm)), oo (lenL un), oo (z20 (g16f hn)), oc cm, oc cn, oo (lenL un), oo (bin_eql (l0f hn0)), oo (lenL um), oo (bin_eql (l0t hm0)), oc rg, oc o1]
    ·rw [if_pos (.inr (.inr g1))]
     have o1 := rone_c hg (decide_eq_false g1)
     exact ez [oo (lenL um), oo (z20 (g16f hm)), oo (lenL un), oo (z20 (g16f hn)), oc cm, oc cn, oo (lenL un), oo (bin_eql (l0f hn0)), oo (lenL um), oo (bin_eql (l0t hm0)), oc rg, oc o1]
  ·by_cases g1 : Nat.gcd m n = 1
   ·rw [if_neg (by simp [hn0, hm0, g1])]
    have o1 := rone_c hg (decide_eq_true g1)
    cases s with
    | false => exact ez [oo (lenL um), oo (z20 (g16f hm)), oo (lenL un), oo (z20 (g16f hn)), oc cm, oc cn, oo (lenL un), oo (bin_eql (l0f hn0)), oo (lenL um), oo (bin_eql (l0f hm0)), oc rg, oc o1]
    | true => exact ez [oo (lenL um), oo (z20 (g16f hm)), oo (lenL un), oo (z20 (g16f hn)), oc cm, oc cn, oo (lenL un), oo (bin_eql (l0f hn0)), oo (lenL um), oo (bin_eql (l0f hm0)), oc rg, oc o1]
   ·rw [if_pos (.inr (.inr g1))]
    have o1 := rone_c hg (decide_eq_false g1)
    cases s with
    | false => exact ez [oo (lenL um), oo (z20 (g16f hm)), oo (lenL un), oo (z20 (g16f hn)), oc cm, oc cn, oo (lenL un), oo (bin_eql (l0f hn0)), oo (lenL um), oo (bin_eql (l0f hm0)), oc rg, oc o1]
    | true => exact ez [oo (lenL um), oo (z20 (g16f hm)), oo (lenL un), oo (z20 (g16f hn)), oc cm, oc cn, oo (lenL un), oo (bin_eql (l0f hn0)), oo (lenL um), oo (bin_eql (l0f hm0)), oc rg, oc o1]
theorem Check_big {s : Bool} {a b : List Int} (la : a.length ≤ 1000) (lb : b.length ≤ 1000) (h : a.length > 16 ∨ b.length > 16) : Evc 34 [rz s a b] (.int .i64 20) := by
 by_cases h1 : a.length > 16
 ·exact ez [oo (lenZ la), ⟨.bin .gtr 3 (.pv (.int .i64 ((a.length : Nat) : Int))) (.pv (.int .i64 16)) true (.pv (.bool true)), z20 (decide_eq_true (by omega))⟩]
 ·have h2 : b.length > 16 := h.resolve_left h1
  exact ez [oo (lenZ la), ⟨.bin .gtr 3 (.pv (.int .i64 ((a.length : Nat) : Int))) (.pv (.int .i64 16)) true (.pv (.bool false)), z20 (decide_eq_false (by omega))⟩, oo (lenZ lb), ⟨.bin .gtr 3 (.pv (.int .i64 ((b.length : Nat) : Int))) (.pv (.int .i64 16)) true (.pv (.bool true)), z20 (decide_eq_true (by omega))⟩]
theorem rCheck_big {s : Bool} {a b : List Int} (la : a.length ≤ 1000) (lb : b.length ≤ 1000) (h : a.length > 16 ∨ b.length > 16) : Evc 33 [rz s a b] (.int .i64 20) := by
 by_cases h1 : a.length > 16
 ·exact ez [oo (lenZ la), ⟨.bin .gtr 3 (.pv (.int .i64 ((a.length : Nat) : Int))) (.pv (.int .i64 16)) true (.pv (.bool true)), z20 (decide_eq_true (by omega))⟩]
 ·have h2 : b.length > 16 := h.resolve_left h1
  exact ez [oo (lenZ la), ⟨.bin .gtr 3 (.pv (.int .i64 ((a.length : Nat) : Int))) (.pv (.int .i64 16)) true (.pv (.bool false)), z20 (decide_eq_false (by omega))⟩, oo (lenZ lb), ⟨.bin .gtr 3 (.pv (.int .i64 ((b.length : Nat) : Int))) (.pv (.int .i64 16)) true (.pv (.bool true)), z20 (decide_eq_true (by omega))⟩]
theorem make2_c (s : Bool) {n d : Nat} (hn : Lt 64 n) (hd : Lt 64 d) (h0 : d ≠ 0) : Evc 47 [.bool s, rowL n, rowL d] (redP s n d) := make2_p s (rowOf_L (k64 hd)) hn hd h0
theorem chk_le {a : List Int} (h : a.length ≤ 64) : chk a = 0 ∨ chk a = 2 := by
 unfold chk
 rw [if_neg (by omega)]
 split
 ·exact .inr rfl
 ·exact .inl rfl
theorem Check_odd {s : Bool} {a b : List Int} (ha : okL a) (hb : okL b) (la : a.length ≤ 16) (lb : b.length ≤ 16) (h : chk2 a b ≠ 0) : Evc 34 [rz s a b] (.int .i64 2) := by
 have la' : a.length ≤ 1000 := by omega
 have lb' : b.length ≤ 1000 := by omega
 have g := Gcd_z ha hb la' lb'
 have e : chk2 a b = 2 := by
  unfold chk2 at h ⊢
  have h1 := chk_le (a := a) (by omega)
  have h2 := chk_le (a := b) (by omega)
  split at h <;> split <;> omega
 rw [gcdS, if_neg h, e] at g
 exact ez [oo (lenZ la'), ⟨.bin .gtr 3 (.pv (.int .i64 ((a.length : Nat) : Int))) (.pv (.int .i64 16)) true (.pv (.bool false)), z20 (decide_eq_false (by omega))⟩, oo (lenZ lb'), ⟨.bin .gtr 3 (.pv (.int .i64 ((b.length : Nat) : Int))) (.pv (.int .i64 16)) true (.pv (.bool false)), z20 (decide_eq_false (by omega))⟩, oc g]
theorem rCheck_odd {s : Bool} {a b : List Int} (la : a.length ≤ 16) (lb : b.length ≤ 16) (h : chk2 a b ≠ 0) : Evc 33 [rz s a b] (.int .i64 2) := by
 have la' : a.length ≤ 1000 := by omega
 have lb' : b.length ≤ 1000 := by omega
 have c1 := rNCheck_z la'
 have c2 := rNCheck_z lb'
 have h1 := chk_le (a := a) (by omega)
 have h2 := chk_le (a := b) (by omega)
 rcases h1 with h1 | h1
 ·rw [chk2, if_pos h1] at h
  rw [h1] at c1
  rw [h2.resolve_left h] at c2
  exact ez [oo (lenZ la'), ⟨.bin .gtr 3 (.pv (.int .i64 ((a.length : Nat) : Int))) (.pv (.int .i64 16)) true (.pv (.bool false)), z20 (decide_eq_false (by omega))⟩, oo (lenZ lb'), ⟨.bin .gtr 3 (.pv (.int .i64 ((b.length : Nat) : Int))) (.pv (.int .i64 16)) true (.pv (.bool false)), z20 (decide_eq_false (by omega))⟩, oc c1, oc c2]
 ·rw [h1] at c1
  exact ez [oo (lenZ la'), ⟨.bin .gtr 3 (.pv (.int .i64 ((a.length : Nat) : Int))) (.pv (.int .i64 16)) true (.pv (.bool false)), z20 (decide_eq_false (by omega))⟩, oo (lenZ lb'), ⟨.bin .gtr 3 (.pv (.int .i64 ((b.length : Nat) : Int))) (.pv (.int .i64 16)) true (.pv (.bool false)), z20 (decide_eq_false (by omega))⟩, oc c1]
theorem may_be {s : Bool} {a b : List Int} (ha : okL a) (hb : okL b) (la : a.length ≤ 1000) (lb : b.length ≤ 1000) : (∃ m n, a = limbs m ∧ b = limbs n ∧ CanR s m n) ∨
  ∃ e : Int, (e = 20 ∨ e = 2) ∧ Evc 34 [rz s a b] (.int .i64 e) ∧ Evc 33 [rz s a b] (.int .i64 e) := by
 by_cases h : a.length > 16 ∨ b.length > 16
 ·exact .inr ⟨20, .inl rfl, Check_big la lb h, rCheck_big la lb h⟩
 ·have l1 : a.length ≤ 16 := by omega
  have l2 : b.length ≤ 16 := by omega
  by_cases hc : chk2 a b = 0
  ·obtain ⟨⟨_, c1⟩, ⟨_, c2⟩⟩ := chk2_zero ha hb hc
   obtain ⟨m, rfl⟩ : ∃ m, a = limbs m := ⟨_, c1.2.symm⟩
   obtain ⟨n, rfl⟩ : ∃ n, b = limbs n := ⟨_, c2.2.symm⟩
   have hm : Lt 16 m := limbs_length_lt_iff.1 l1
   have hn : Lt 16 n := limbs_length_lt_iff.1 l2
   by_cases hbad : n = 0 ∨ (s = true ∧ m = 0) ∨ Nat.gcd m n ≠ 1
   ·have q1 := Check_n (s := s) hm hn
    have q2 := rCheck_n (s := s) hm hn
    rw [if_pos hbad] at q1 q2
    exact .inr ⟨2, .inr rfl, q1, q2⟩
   ·simp only [not_or, not_and, ne_eq, Classical.not_not] at hbad
    exact .inl ⟨m, n, rfl, rfl, hm, hn, hbad.1, hbad.2.2, fun e => hbad.2.1 e⟩
  ·exact .inr ⟨2, .inr rfl, Check_odd ha hb l1 l2 hc, rCheck_odd l1 l2 hc⟩
theorem rCheck_c {s : Bool} {n d : Nat} (h : CanR s n d) : Evc 33 [rp s n d] e0 := by
 have q := rCheck_n (s := s) (lt16 h.n16) (lt16 h.d16)
 rw [if_neg (by
  rintro (e | e | e)
  ·exact h.d0 e
  ·exact h.neg e.1 e.2
  ·exact e h.g)] at q
 exact q
theorem red_form (s : Bool) (n d : Nat) : (∃ bo l1 l2 e, redP s n d = .tup [.agg [.bool bo, rowL l1, rowL l2], .int .i64 e]) ∨ redP s n d = .tup [.agg [.bool false, .sl (some false) 0 [], .sl (some false) 0 []], .int .i64 20] := by
 unfold redP
 split
 ·exact .inl ⟨_, _, _, _, rfl⟩
 ·exact .inr rfl
def fl2 : Flags := { len := true, cut := true, bin := fun op t _ _ => t == 3 || t == 9 || (t == 26 && op == .eql) }
theorem bin_err {x : Int} {yc : Bool} : Owed (.bin .eql 26 (.pv (.int .i64 x)) (.pv (.int .i64 x)) yc (.pv (.bool true))) := by
 show binA Tryz.prog .eql 26 _ _ _ = _
 simp only [binA, intOp, ne_eq, not_true, if_false, beq_self_eq_true]
theorem take_mn {α : Type} {l : List α} {n : Nat} : l.take (min n l.length) = l.take n := by
 by_cases h : n ≤ l.length
 ·rw [Nat.min_eq_left h]
 ·rw [Nat.min_eq_right (by omega), List.take_length, List.take_of_length_le (by omega)]
theorem cut_row {a : List Int} {n : Nat} : Owed (.cut 22 (.pv (rowZ a)) none (some (if ((n : Nat) : Int) < ((a.length : Nat) : Int) then ((n : Nat) : Int) else ((a.length : Nat) : Int))) none (.pv (rowZ (a.take n)))) := by
 show sliceA Tryz.prog _ _ _ _ _ = _
 have e : (if ((n : Nat) : Int) < ((a.length : Nat) : Int) then ((n : Nat) : Int) else ((a.length : Nat) : Int)) = ((min n a.length : Nat) : Int) := by split <;> omega
 rw [e]
 have hz : sizeT Tryz.prog 30 = some 1 := by kernel_rfl
 simp only [sliceA, und22, AV.pure?, rowZ, row, hz, cutB, Option.getD, List.length_map]
 rw [if_neg (by simp), if_pos ⟨by omega, by omega, by omega⟩]
 simp only [Int.toNat_natCast, Int.toNat_zero, List.drop_zero, ← List.map_take, Option.some.injEq, AV.pv.injEq, PV.sl.injEq, true_and]
 rw [take_mn]
theorem lenZ' {a : List Int} (h : a.length ≤ 9223372036854775807) : Owed (.len 22 (.pv (rowZ a)) a.length) := by
 refine ⟨?_, h⟩
 simp only [lenA, und22, AV.pure?, rowZ, row, List.length_map]
theorem small_z {s : Bool} {a b : List Int} (la : a.length ≤ 9223372036854775807) (lb : b.length ≤ 9223372036854775807) : Evc 6 [rz s a b] (rz s (a.take 20) (b.take 20)) :=
 ey fl2 3 [oo (lenZ' la), ⟨.cut 22 (.pv ((rowZ a))) none (some (if 20 < ((a.length : Nat) : Int) then 20 else ((a.length : Nat) : Int))) none (.pv ((rowZ (a.take 20)))), cut_row⟩, oo (lenZ' lb), ⟨.cut 22 (.pv ((rowZ b))) none (some (if 20 < ((b.length : Nat) : Int) then 20 else ((b.length : Nat) : Int))) none (.pv ((rowZ (b.take 20)))), cut_row⟩]
theorem rSame_p {bo : Bool} {n1 n2 n3 n4 : Option Bool} {z1 z2 z3 z4 : Nat} {l1 l2 l3 l4 : List PV} {a b : List Int} (hp : rowOf .u32 (.sl n1 z1 l1) = some a) (hq : rowOf .u32 (.sl n2 z2 l2) = some b) (hp' : rowOf .u32 (.sl n3 z3 l3) = some a) (hq' : rowOf .u32 (.sl n4 z4 l4) = some b) (la : a.length ≤ 1000) (lb : b.length ≤ 1000) :
  Evc 19 [.agg [.bool bo, .sl n1 z1 l1, .sl n2 z2 l2], .agg [.bool bo, .sl n3 z3 l3, .sl n4 z4 l4]] (.bool true) := by
 have h1 := rsame_p hp hp' la
 have h2 := rsame_p hq hq' lb
 rw [decide_eq_true rfl] at h1 h2
 cases bo with
 | false => exact ez [oc h1, oc h2]
 | true => exact ez [oc h1, oc h2]
def Alike (r r' : PV) : Prop := ∃ bo n1 z1 l1 n2 z2 l2 n3 z3 l3 n4 z4 l4 a b, r = .agg [.bool bo, .sl n1 z1 l1, .sl n2 z2 l2] ∧ r' = .agg [.bool bo, .sl n3 z3 l3, .sl n4 z4 l4] ∧ rowOf .u32 (.sl n1 z1 l1) = some a ∧ rowOf .u32 (.sl n2 z2 l2) = some b ∧ rowOf .u32 (.sl n3 z3 l3) = some a ∧ rowOf .u32 (.sl n4 z4 l4) = some b ∧ a.length ≤ 1000 ∧ b.length ≤ 1000
theorem Alike.same {r r' : PV} (h : Alike r r') : Evc 19 [r, r'] (.bool true) := by
 obtain ⟨bo, n1, z1, l1, n2, z2, l2, n3, z3, l3, n4, z4, l4, a, b, rfl, rfl, h1, h2, h3, h4, h5, h6⟩ := h
 exact rSame_p h1 h2 h3 h4 h5 h6
theorem eq_p {r r' : PV} {e : Int} (h : Alike r r') : Evc 10 [r, .int .i64 e, r', .int .i64 e] (.bool true) := by
 have hs := h.same
 obtain ⟨bo, n1, z1, l1, n2, z2, l2, n3, z3, l3, n4, z4, l4, a, b, rfl, rfl, _⟩ := h
 exact ey fl2 3 [oc hs, ⟨.bin .eql 26 (.pv (.int .i64 e)) (.pv (.int .i64 e)) false (.pv (.bool true)), bin_err⟩]
theorem Alike.zero : Alike zeroR zeroR := ⟨false, _, _, _, _, _, _, _, _, _, _, _, _, [], [], rfl, rfl, rfl, rfl, rfl, rfl, by simp, by simp⟩
theorem Alike.rows (s : Bool) {n d : Nat} (hn : Lt 1000 n) (hd : Lt 1000 d) : Alike (rp s n d) (rp s n d) := ⟨s, _, _, _, _, _, _, _, _, _, _, _, _, _, _, rfl, rfl, rowOf_L hn, rowOf_L hd, rowOf_L hn, rowOf_L hd, len_l hn, len_l hd⟩
theorem red_alike (s : Bool) (n d : Nat) : ∃ r e, redP s n d = .tup [r, .int .i64 e] ∧ Alike r r := by
 unfold redP
 split
 ·rename_i h
  exact ⟨_, _, rfl, Alike.rows _ (up1000 h.1) (up1000 h.2)⟩
 ·exact ⟨_, _, rfl, Alike.zero⟩
theorem okL_take {a : List Int} (h : okL a) (n : Nat) : okL (a.take n) := fun x hx => h x (List.mem_of_mem_take hx)
theorem okL_wf {l : List Int} (h : ∀ x ∈ l, (Lit.int .u32 x).wf = true) : okL l := fun x hx => by
 have := h x hx
 simp [Lit.wf, IntKind.min, IntKind.max, IntKind.signed, IntKind.bits] at this
 omega
theorem max_len {α : Type} {l : List α} (h : l.length ≤ maxLen) : l.length ≤ 9223372036854775807 := Nat.le_trans h (by decide)
def Both (f g : FuncId) (ps : List PV) : Prop := ∃ r r' e, Evc f ps (.tup [r, .int .i64 e]) ∧ Evc g ps (.tup [r', .int .i64 e]) ∧ Alike r r'
theorem both_red {f g : FuncId} {ps : List PV} {s : Bool} {n d : Nat} (h1 : Evc f ps (redP s n d)) (h2 : Evc g ps (redP s n d)) : Both f g ps := by
 obtain ⟨r, e, h3, h4⟩ := red_alike s n d
 rw [h3] at h1 h2
 exact ⟨r, r, e, h1, h2, h4⟩
theorem can_of {a : List Int} (ha : okL a) (h : chk a = 0) (j : Nat) (hl : a.length ≤ j) : ∃ m, a = limbs m ∧ Lt j m := by
 have h1 := ((chk_zero ha).1 h).2
 refine ⟨val a, h1.2.symm, ?_⟩
 rw [← h1.2] at hl
 exact limbs_length_lt_iff.1 hl
theorem New_both (s : Bool) {a b : List Int} (ha : okL a) (hb : okL b) (la : a.length ≤ 20) (lb : b.length ≤ 20) : Both 25 26 [.bool s, rowZ a, rowZ b] := by
 have c1 := NCheck_z (a := a) (by omega)
 have c2 := NCheck_z (a := b) (by omega)
 have d1 := rNCheck_z (a := a) (by omega)
 have d2 := rNCheck_z (a := b) (by omega)
 rcases chk_le (a := a) (by omega) with e1 | e1
 ·rcases chk_le (a := b) (by omega) with e2 | e2
  ·obtain ⟨m, rfl, tm⟩ := can_of ha e1 20 la
   obtain ⟨n, rfl, tn⟩ := can_of hb e2 20 lb
   rw [e1] at c1 d1
   rw [e2] at c2 d2
   have hm : Lt 64 m := tm.up (by decide)
   have hn : Lt 64 n := tn.up (by decide)
   by_cases h0 : n = 0
   ·refine ⟨zeroR, zeroR, 21, ?_, ?_, Alike.zero⟩
    ·exact ez [oc c1, oc c2, oo (lenL (k64 hm)), oo (lenL (k64 hn)), ⟨.bin .gtr 3 (.pv (.int .i64 (if (((limbs n).length : Nat) : Int) > (((limbs m).length : Nat) : Int) then (((limbs n).length : Nat) : Int) else (((limbs m).length : Nat) : Int)))) (.pv (.int .i64 32)) true (.pv (.bool false)), z20 (decide_eq_false (by have := len_l tm; have := len_l tn; split <;> omega))⟩, oo (lenL (k64 hn)), oo (bin_eql (l0t h0))]
    ·replace c1 := d1
     replace c2 := d2
     exact ez [oc c1, oc c2, oo (lenL (k64 hm)), ⟨.bin .gtr 3 (.pv (.int .i64 (((limbs m).length : Nat) : Int))) (.pv (.int .i64 32)) true (.pv (.bool false)), z20 (decide_eq_false (by have := len_l tm; omega))⟩, oo (lenL (k64 hn)), ⟨.bin .gtr 3 (.pv (.int .i64 (((limbs n).length : Nat) : Int))) (.pv (.int .i64 32)) true (.pv (.bool false)), z20 (decide_eq_false (by have := len_l tn; omega))⟩, oo (lenL (k64 hn)), oo (bin_eql (l0t h0))]
   ·refine both_red (s := s) (n := m) (d := n) ?_ ?_
    ·have hr := reduced_c s hm hn h0
     rcases red_form s m n with ⟨bo, l1, l2, e, q⟩ | q <;> rw [q] at hr ⊢
     ·exact ez [oc c1, oc c2, oo (lenL (k64 hm)), oo (lenL (k64 hn)), ⟨.bin .gtr 3 (.pv (.int .i64 (if (((limbs n).length : Nat) : Int) > (((limbs m).length : Nat) : Int) then (((limbs n).length : Nat) : Int) else (((limbs m).length : Nat) : Int)))) (.pv (.int .i64 32)) true (.pv (.bool false)), z20 (decide_eq_false (by have := len_l tm; have := len_l tn; split <;> omega))⟩, oo (lenL (k64 hn)), oo (bin_eql (l0f h0)), oc hr]
     ·exact ez [oc c1, oc c2, oo (lenL (k64 hm)), oo (lenL (k64 hn)), ⟨.bin .gtr 3 (.pv (.int .i64 (if (((limbs n).length : Nat) : Int) > (((limbs m).length : Nat) : Int) then (((limbs n).length : Nat) : Int) else (((limbs m).length : Nat) : Int)))) (.pv (.int .i64 32)) true (.pv (.bool false)), z20 (decide_eq_false (by have := len_l tm; have := len_l tn; split <;> omega))⟩, oo (lenL (k64 hn)), oo (bin_eql (l0f h0)), oc hr]
    ·replace c1 := d1
     replace c2 := d2
     have hr := make2_c s hm hn h0
     rcases red_form s m n with ⟨bo, l1, l2, e, q⟩ | q <;> rw [q] at hr ⊢
     ·exact ez [oc c1, oc c2, oo (lenL (k64 hm)), ⟨.bin .gtr 3 (.pv (.int .i64 (((limbs m).length : Nat) : Int))) (.pv (.int .i64 32)) true (.pv (.bool false)), z20 (decide_eq_false (by have := len_l tm; omega))⟩, oo (lenL (k64 hn)), ⟨.bin .gtr 3 (.pv (.int .i64 (((limbs n).length : Nat) : Int))) (.pv (.int .i64 32)) true (.pv (.bool false)), z20 (decide_eq_false (by have := len_l tn; omega))⟩, oo (lenL (k64 hn)), oo (bin_eql (l0f h0)), oc hr]
     ·exact ez [oc c1, oc c2, oo (lenL (k64 hm)), ⟨.bin .gtr 3 (.pv (.int .i64 (((limbs m).length : Nat) : Int))) (.pv (.int .i64 32)) true (.pv (.bool false)), z20 (decide_eq_false (by have := len_l tm; omega))⟩, oo (lenL (k64 hn)), ⟨.bin .gtr 3 (.pv (.int .i64 (((limbs n).length : Nat) : Int))) (.pv (.int .i64 32)) true (.pv (.bool false)), z20 (decide_eq_false (by have := len_l tn; omega))⟩, oo (lenL (k64 hn)), oo (bin_eql (l0f h0)), oc hr]
  ·rw [e1] at c1 d1
   rw [e2] at c2 d2
   refine ⟨zeroR, zeroR, 2, ?_, ?_, Alike.zero⟩
   ·exact ez [oc c1, oc c2]
   ·replace c1 := d1
    replace c2 := d2
    exact ez [oc c1, oc c2]
 ·rw [e1] at c1 d1
  refine ⟨zeroR, zeroR, 2, ?_, ?_, Alike.zero⟩
  ·exact ez [oc c1]
  ·replace c1 := d1
   exact ez [oc c1]
theorem Neg_bad {s : Bool} {a b : List Int} {e : Int} (he : e = 20 ∨ e = 2) (h1 : Evc 34 [rz s a b] (.int .i64 e)) (h2 : Evc 33 [rz s a b] (.int .i64 e)) : Both 27 28 [rz s a b] := by
 refine ⟨zeroR, zeroR, e, ?_, ?_, Alike.zero⟩
 ·rcases he with rfl | rfl
  ·exact ez [oc h1]
  ·exact ez [oc h1]
 ·rcases he with rfl | rfl
  ·exact ez [oc h2]
  ·exact ez [oc h2]
theorem Floor_bad {s : Bool} {a b : List Int} {e : Int} (he : e = 20 ∨ e = 2) (h1 : Evc 34 [rz s a b] (.int .i64 e)) (h2 : Evc 33 [rz s a b] (.int .i64 e)) : Both 29 30 [rz s a b] := by
 refine ⟨zeroR, zeroR, e, ?_, ?_, Alike.zero⟩
 ·rcases he with rfl | rfl
  ·exact ez [oc h1]
  ·exact ez [oc h1]
 ·rcases he with rfl | rfl
  ·exact ez [oc h2]
  ·exact ez [oc h2]
theorem Neg_can {s : Bool} {n d : Nat} (h : CanR s n d) : Both 27 28 [rp s n d] := by
 have un := up1000 h.n16
 have ud := up1000 h.d16
 refine ⟨rp (!s && decide (0 < n)) n d, rp (!s && decide (0 < n)) n d, 0, ?_, ?_, Alike.rows _ un ud⟩
 ·have ck := Check_c h
  have k1 := Clone_z (len_l un)
  have k2 := Clone_z (len_l ud)
  cases s with
  | false => exact ez [oc ck, oo (lenL un), oo (z20 (lenpos (n := n))), oc k1, oc k2]
  | true => exact ez [oc ck, oc k1, oc k2]
 ·have ck := rCheck_c h
  have k1 := rCopy_z (len_l un)
  have k2 := rCopy_z (len_l ud)
  cases s with
  | false => exact ez [oc ck, oo (lenL un), oo (z20 (lenpos (n := n))), oc k1, oc k2]
  | true => exact ez [oc ck, oc k1, oc k2]
theorem rAdd_1 {m : Nat} (hm : Lt 64 m) : Evc 70 [rowL m, oneP] (okP (rowL (m + 1))) := by
 have q := rAdd_p (rowOf_L (k64 hm)) rowOf_oneP (okL_limbs m) (okL_limbs 1)
 rw [addS_l hm lt1'] at q
 exact q
theorem Floor_can {s : Bool} {n d : Nat} (h : CanR s n d) : Evc 29 [rp s n d] (redP s (if s = true ∧ n % d ≠ 0 then n / d + 1 else n / d) 1) := by
 have hn := up64 h.n16
 have hd := up64 h.d16
 have ck := Check_c h
 have dv := Div_c hn hd h.d0
 have lQ : Lt 64 (n / d) := hn.le (Nat.div_le_self _ _)
 have lR : Lt 64 (n % d) := hn.le (Nat.mod_le _ _)
 have lQ1 : Lt 64 (n / d + 1) := (((lt16 h.n16).le (Nat.div_le_self _ _)).add (lt_lit (by decide) (by decide) : Lt 16 1) (j := 64) (by decide))
 generalize n / d = Q at *
 generalize n % d = R at *
 cases s with
 | false =>
  rw [if_neg (fun e => absurd e.1 (by decide))]
  have hr := reduced_c false lQ lt1' (by decide)
  rcases red_form false Q 1 with ⟨bo, l1, l2, e, q⟩ | q <;> rw [q] at hr ⊢
  ·exact ez [oc ck, oc dv, oc one_c, oc hr]
  ·exact ez [oc ck, oc dv, oc one_c, oc hr]
 | true =>
  by_cases h0 : R = 0
  ·rw [if_neg (fun e => e.2 h0)]
   have hr := reduced_c true lQ lt1' (by decide)
   rcases red_form true Q 1 with ⟨bo, l1, l2, e, q⟩ | q <;> rw [q] at hr ⊢
   ·exact ez [oc ck, oc dv, oo (lenL (k64 lR)), ⟨.bin .gtr 3 (.pv (.int .i64 (((limbs R).length : Nat) : Int))) (.pv (.int .i64 0)) true (.pv (.bool false)), z20 (by rw [lenpos]; exact decide_eq_false (by omega))⟩, oc one_c, oc hr]
   ·exact ez [oc ck, oc dv, oo (lenL (k64 lR)), ⟨.bin .gtr 3 (.pv (.int .i64 (((limbs R).length : Nat) : Int))) (.pv (.int .i64 0)) true (.pv (.bool false)), z20 (by rw [lenpos]; exact decide_eq_false (by omega))⟩, oc one_c, oc hr]
  ·rw [if_pos ⟨rfl, h0⟩]
   have ad := Add_c lQ lt1'
   have hr := reduced_c true lQ1 lt1' (by decide)
   rcases red_form true (Q + 1) 1 with ⟨bo, l1, l2, e, q⟩ | q <;> rw [q] at hr ⊢
   ·exact ez [oc ck, oc dv, oo (lenL (k64 lR)), ⟨.bin .gtr 3 (.pv (.int .i64 (((limbs R).length : Nat) : Int))) (.pv (.int .i64 0)) true (.pv (.bool true)), z20 (by rw [lenpos]; exact decide_eq_true (by omega))⟩, oc one_c, oc ad, oc one_c, oc hr]
   ·exact ez [oc ck, oc dv, oo (lenL (k64 lR)), ⟨.bin .gtr 3 (.pv (.int .i64 (((limbs R).length : Nat) : Int))) (.pv (.int .i64 0)) true (.pv (.bool true)), z20 (by rw [lenpos]; exact decide_eq_true (by omega))⟩, oc one_c, oc ad, oc one_c, oc hr]
theorem rFloor_can {s : Bool} {n d : Nat} (h : CanR s n d) : Evc 30 [rp s n d] (redP s (if s = true ∧ n % d ≠ 0 then n / d + 1 else n / d) 1) := by
 have hn := up64 h.n16
 have hd := up64 h.d16
 have ck := rCheck_c h
 have dv := rdiv_c hn hd h.d0
 have lQ : Lt 64 (n / d) := hn.le (Nat.div_le_self _ _)
 have lR : Lt 64 (n % d) := hn.le (Nat.mod_le _ _)
 have lQ1 : Lt 64 (n / d + 1) := (((lt16 h.n16).le (Nat.div_le_self _ _)).add (lt_lit (by decide) (by decide) : Lt 16 1) (j := 64) (by decide))
 generalize n / d = Q at *
 generalize n % d = R at *
 cases s with
 | false =>
  rw [if_neg (fun e => absurd e.1 (by decide))]
  have hr := make2_p false rowOf_oneP lQ lt1' (by decide)
  rcases red_form false Q 1 with ⟨bo, l1, l2, e, q⟩ | q <;> rw [q] at hr ⊢
  ·exact ez [oc ck, oc dv, oc hr]
  ·exact ez [oc ck, oc dv, oc hr]
 | true =>
  by_cases h0 : R = 0
  ·rw [if_neg (fun e => e.2 h0)]
   have hr := make2_p true rowOf_oneP lQ lt1' (by decide)
   rcases red_form true Q 1 with ⟨bo, l1, l2, e, q⟩ | q <;> rw [q] at hr ⊢
   ·exact ez [oc ck, oc dv, oo (lenL (k64 lR)), ⟨.bin .gtr 3 (.pv (.int .i64 (((limbs R).length : Nat) : Int))) (.pv (.int .i64 0)) true (.pv (.bool false)), z20 (by rw [lenpos]; exact decide_eq_false (by omega))⟩, oc hr]
   ·exact ez [oc ck, oc dv, oo (lenL (k64 lR)), ⟨.bin .gtr 3 (.pv (.int .i64 (((limbs R).length : Nat) : Int))) (.pv (.int .i64 0)) true (.pv (.bool false)), z20 (by rw [lenpos]; exact decide_eq_false (by omega))⟩, oc hr]
  ·rw [if_pos ⟨rfl, h0⟩]
   have ad := rAdd_1 lQ
   have hr := make2_p true rowOf_oneP lQ1 lt1' (by decide)
   rcases red_form true (Q + 1) 1 with ⟨bo, l1, l2, e, q⟩ | q <;> rw [q] at hr ⊢
   ·exact ez [oc ck, oc dv, oo (lenL (k64 lR)), ⟨.bin .gtr 3 (.pv (.int .i64 (((limbs R).length : Nat) : Int))) (.pv (.int .i64 0)) true (.pv (.bool true)), z20 (by rw [lenpos]; exact decide_eq_true (by omega))⟩, oc ad, oc hr]
   ·exact ez [oc ck, oc dv, oo (lenL (k64 lR)), ⟨.bin .gtr 3 (.pv (.int .i64 (((limbs R).length : Nat) : Int))) (.pv (.int .i64 0)) true (.pv (.bool true)), z20 (by rw [lenpos]; exact decide_eq_true (by omega))⟩, oc ad, oc hr]
theorem Neg_both (s : Bool) {a b : List Int} (ha : okL a) (hb : okL b) (la : a.length ≤ 1000) (lb : b.length ≤ 1000) : Both 27 28 [rz s a b] := by
 rcases may_be (s := s) ha hb la lb with ⟨m, n, rfl, rfl, h⟩ | ⟨e, he, h1, h2⟩
 ·exact Neg_can h
 ·exact Neg_bad he h1 h2
theorem Floor_both (s : Bool) {a b : List Int} (ha : okL a) (hb : okL b) (la : a.length ≤ 1000) (lb : b.length ≤ 1000) : Both 29 30 [rz s a b] := by
 rcases may_be (s := s) ha hb la lb with ⟨m, n, rfl, rfl, h⟩ | ⟨e, he, h1, h2⟩
 ·exact both_red (Floor_can h) (rFloor_can h)
 ·exact Floor_bad he h1 h2
def fl3 : Flags := { len := true, bin := fun op t _ _ => t == 3 || t == 9 || t == 73 || (t == 26 && op == .eql) }
theorem bin_leq64 {x y : Int} {b : Bool} (h : decide (x ≤ y) = b) : Owed (.bin .leq 73 (.pv (.int .u64 x)) (.pv (.int .u64 y)) true (.pv (.bool b))) := by
 subst h
 show binA Tryz.prog .leq 73 _ _ _ = _
 simp only [binA, intOp, ne_eq, not_true, if_false]
theorem bin_geq64 {x y : Int} {b : Bool} (h : decide (x ≥ y) = b) : Owed (.bin .geq 73 (.pv (.int .u64 x)) (.pv (.int .u64 y)) true (.pv (.bool b))) := by
 subst h
 show binA Tryz.prog .geq 73 _ _ _ = _
 simp only [binA, intOp, ne_eq, not_true, if_false]
theorem smallS_big {m : Nat} (h : ¬ m < 18446744073709551616) : smallS (limbs m) = (0, false) := by
 rw [smallS, if_neg (fun e => h (by
  have := limbs_length_lt_iff.1 e.2
  exact Nat.lt_of_lt_of_le this (by decide)))]
theorem smallS_l {m : Nat} (h : m < 18446744073709551616) : smallS (limbs m) = ((m : Int), true) := by
 rw [smallS, if_pos ⟨chk_l (lt_lit h (by decide)), limbs_length_lt_iff.2 (Nat.lt_of_lt_of_le h (by decide))⟩, val_limbs]
theorem wrap_neg {m : Nat} (h : m < 18446744073709551616) : IntKind.i64.wrap (IntKind.u64.wrap (0 - ((m : Nat) : Int))) = if m ≤ 9223372036854775808 then -((m : Nat) : Int) else 18446744073709551616 - ((m : Nat) : Int) := by
 simp only [IntKind.wrap, IntKind.bits, IntKind.signed]
 simp
 split <;> omega
theorem wrap_pos {m : Nat} (h : m < 18446744073709551616) : IntKind.i64.wrap ((m : Nat) : Int) = if m < 9223372036854775808 then ((m : Nat) : Int) else ((m : Nat) : Int) - 18446744073709551616 := by
 simp only [IntKind.wrap, IntKind.bits, IntKind.signed]
 simp
 split <;> omega
def wholeP (s : Bool) (m d : Nat) : PV := if m < 18446744073709551616 ∧ d = 1 ∧ m < (if s = true then 9223372036854775809 else 9223372036854775808) then .tup [.int .i64 (if s = true then (IntKind.i64.wrap (IntKind.u64.wrap (0 - ((m : Nat) : Int)))) else (IntKind.i64.wrap ((m : Nat) : Int))), .bool true] else .tup [.int .i64 0, .bool false]
theorem Whole_can {s : Bool} {m d : Nat} (h : CanR s m d) : Evc 31 [rp s m d] (wholeP s m d) := by
 have hm := up64 h.n16
 have ud := up1000 h.d16
 have ck := Check_c h
 have sm := NSmall_z (okL_limbs m) (k1 hm (by decide))
 unfold wholeP
 by_cases hb : m < 18446744073709551616
 ·rw [smallS_l hb] at sm
  by_cases h1 : d = 1
  ·have o1 := Equal_c ud lt1 (decide_eq_true h1)
   cases s with
   | true =>
    have e := wrap_neg hb
    have h0 := h.neg rfl
    by_cases hf : m ≤ 9223372036854775808
    ·rw [if_pos ⟨hb, h1, by rw [if_pos rfl]; omega⟩, if_pos rfl]
     rw [if_pos hf] at e
     exact ey fl3 3 [oc sm, oc ck, oc one_c, oc o1, ⟨.bin .lss 3 (.pv (.int .i64 (IntKind.i64.wrap (IntKind.u64.wrap (0 - ((m : Nat) : Int)))))) (.pv (.int .i64 0)) true (.pv (.bool true)), bin_lss (decide_eq_true (by rw [e]; omega))⟩]
    ·rw [if_neg (by rintro ⟨_, _, x⟩; rw [if_pos rfl] at x; omega)]
     rw [if_neg hf] at e
     exact ey fl3 3 [oc sm, oc ck, oc one_c, oc o1, ⟨.bin .lss 3 (.pv (.int .i64 (IntKind.i64.wrap (IntKind.u64.wrap (0 - ((m : Nat) : Int)))))) (.pv (.int .i64 0)) true (.pv (.bool false)), bin_lss (decide_eq_false (by rw [e]; omega))⟩]
   | false =>
    have e := wrap_pos hb
    by_cases hf : m < 9223372036854775808
    ·rw [if_pos ⟨hb, h1, by rw [if_neg (by decide)]; omega⟩, if_neg (by decide)]
     rw [if_pos hf] at e
     exact ey fl3 3 [oc sm, oc ck, oc one_c, oc o1, ⟨.bin .lss 3 (.pv (.int .i64 (IntKind.i64.wrap ((m : Nat) : Int)))) (.pv (.int .i64 0)) true (.pv (.bool false)), bin_lss (decide_eq_false (by rw [e]; omega))⟩]
    ·rw [if_neg (by rintro ⟨_, _, x⟩; rw [if_neg (by decide)] at x; omega)]
     rw [if_neg hf] at e
     exact ey fl3 3 [oc sm, oc ck, oc one_c, oc o1, ⟨.bin .lss 3 (.pv (.int .i64 (IntKind.i64.wrap ((m : Nat) : Int)))) (.pv (.int .i64 0)) true (.pv (.bool true)), bin_lss (decide_eq_true (by rw [e]; omega))⟩]
  ·have o1 := Equal_c ud lt1 (decide_eq_false h1)
   rw [if_neg (fun x => h1 x.2.1)]
   cases s with
   | true => exact ey fl3 3 [oc sm, oc ck, oc one_c, oc o1]
   | false => exact ey fl3 3 [oc sm, oc ck, oc one_c, oc o1]
 ·rw [smallS_big hb] at sm
  rw [if_neg (fun x => hb x.1)]
  cases s with
  | true => exact ey fl3 3 [oc sm, oc ck]
  | false => exact ey fl3 3 [oc sm, oc ck]
theorem rWhole_can {s : Bool} {m d : Nat} (h : CanR s m d) : Evc 32 [rp s m d] (wholeP s m d) := by
 have hm := up64 h.n16
 have ud := up1000 h.d16
 have ck := rCheck_c h
 have sm := rNSmall_z (okL_limbs m) (k1 hm (by decide))
 unfold wholeP
 by_cases hb : m < 18446744073709551616
 ·rw [smallS_l hb] at sm
  by_cases h1 : d = 1
  ·have o1 := rone_c ud (decide_eq_true h1)
   cases s with
   | true =>
    by_cases hf : m ≤ 9223372036854775808
    ·rw [if_pos ⟨hb, h1, by rw [if_pos rfl]; omega⟩, if_pos rfl]
     exact ey fl3 3 [oc sm, oc ck, oc o1, ⟨.bin .leq 73 (.pv (.int .u64 ((m : Nat) : Int))) (.pv (.int .u64 9223372036854775808)) true (.pv (.bool true)), bin_leq64 (decide_eq_true (by omega))⟩]
    ·rw [if_neg (by rintro ⟨_, _, x⟩; rw [if_pos rfl] at x; omega)]
     exact ey fl3 3 [oc sm, oc ck, oc o1, ⟨.bin .leq 73 (.pv (.int .u64 ((m : Nat) : Int))) (.pv (.int .u64 9223372036854775808)) true (.pv (.bool false)), bin_leq64 (decide_eq_false (by omega))⟩]
   | false =>
    by_cases hf : m < 9223372036854775808
    ·rw [if_pos ⟨hb, h1, by rw [if_neg (by decide)]; omega⟩, if_neg (by decide)]
     exact ey fl3 3 [oc sm, oc ck, oc o1, ⟨.bin .geq 73 (.pv (.int .u64 ((m : Nat) : Int))) (.pv (.int .u64 9223372036854775808)) true (.pv (.bool false)), bin_geq64 (decide_eq_false (by omega))⟩]
    ·rw [if_neg (by rintro ⟨_, _, x⟩; rw [if_neg (by decide)] at x; omega)]
     exact ey fl3 3 [oc sm, oc ck, oc o1, ⟨.bin .geq 73 (.pv (.int .u64 ((m : Nat) : Int))) (.pv (.int .u64 9223372036854775808)) true (.pv (.bool true)), bin_geq64 (decide_eq_true (by omega))⟩]
  ·have o1 := rone_c ud (decide_eq_false h1)
   rw [if_neg (fun x => h1 x.2.1)]
   cases s with
   | true => exact ey fl3 3 [oc sm, oc ck, oc o1]
   | false => exact ey fl3 3 [oc sm, oc ck, oc o1]
 ·rw [smallS_big hb] at sm
  rw [if_neg (fun x => hb x.1)]
  cases s with
  | true => exact ey fl3 3 [oc sm, oc ck]
  | false => exact ey fl3 3 [oc sm, oc ck]
theorem Whole_bad {s : Bool} {a b : List Int} (ha : okL a) (la : a.length ≤ 1000) {e : Int} (he : e = 20 ∨ e = 2) (hc : Evc 34 [rz s a b] (.int .i64 e)) : Evc 31 [rz s a b] (.tup [.int .i64 0, .bool false]) := by
 have sm := NSmall_z ha la
 generalize (smallS a).1 = n at sm
 generalize (smallS a).2 = i at sm
 rcases he with rfl | rfl
 ·exact ey fl3 3 [oc sm, oc hc]
 ·exact ey fl3 3 [oc sm, oc hc]
theorem rWhole_bad {s : Bool} {a b : List Int} (ha : okL a) (la : a.length ≤ 1000) {e : Int} (he : e = 20 ∨ e = 2) (hc : Evc 33 [rz s a b] (.int .i64 e)) : Evc 32 [rz s a b] (.tup [.int .i64 0, .bool false]) := by
 have sm := rNSmall_z ha la
 generalize (smallS a).1 = n at sm
 generalize (smallS a).2 = i at sm
 rcases he with rfl | rfl
 ·exact ey fl3 3 [oc sm, oc hc]
 ·exact ey fl3 3 [oc sm, oc hc]
theorem Whole_both (s : Bool) {a b : List Int} (ha : okL a) (hb : okL b) (la : a.length ≤ 1000) (lb : b.length ≤ 1000) : ∃ w i, Evc 31 [rz s a b] (.tup [.int .i64 w, .bool i]) ∧ Evc 32 [rz s a b] (.tup [.int .i64 w, .bool i]) := by
 rcases may_be (s := s) ha hb la lb with ⟨m, n, rfl, rfl, h⟩ | ⟨e, he, h1, h2⟩
 ·have x := Whole_can h
  have y := rWhole_can h
  unfold wholeP at x y
  by_cases hc : m < 18446744073709551616 ∧ n = 1 ∧ m < (if s = true then 9223372036854775809 else 9223372036854775808)
  ·rw [if_pos hc] at x y
   exact ⟨_, _, x, y⟩
  ·rw [if_neg hc] at x y
   exact ⟨_, _, x, y⟩
 ·exact ⟨_, _, Whole_bad ha la he h1, rWhole_bad ha la he h2⟩
theorem Same_z {s1 s2 : Bool} {a b c d : List Int} (la : a.length ≤ 1000) (lb : b.length ≤ 1000) (lc : c.length ≤ 1000) (ld : d.length ≤ 1000) : Evc 37 [rz s1 a b, rz s2 c d] (.bool (decide (s1 = s2) && (decide (a = c) && decide (b = d)))) := by
 have h1 := Equal_z la lc
 have h2 := Equal_z lb ld
 generalize decide (a = c) = x at *
 generalize decide (b = d) = y at *
 cases s1 <;> cases s2
 ·cases x with
  | false => exact ez [oc h1]
  | true => cases y with
   | false => exact ez [oc h1, oc h2]
   | true => exact ez [oc h1, oc h2]
 ·exact ez []
 ·exact ez []
 ·cases x with
  | false => exact ez [oc h1]
  | true => cases y with
   | false => exact ez [oc h1, oc h2]
   | true => exact ez [oc h1, oc h2]
theorem rSame_z {s1 s2 : Bool} {a b c d : List Int} (la : a.length ≤ 1000) (lb : b.length ≤ 1000) (lc : c.length ≤ 1000) (ld : d.length ≤ 1000) : Evc 19 [rz s1 a b, rz s2 c d] (.bool (decide (s1 = s2) && (decide (a = c) && decide (b = d)))) := by
 have h1 := rsame_z la lc
 have h2 := rsame_z lb ld
 generalize decide (a = c) = x at *
 generalize decide (b = d) = y at *
 cases s1 <;> cases s2
 ·cases x with
  | false => exact ez [oc h1]
  | true => cases y with
   | false => exact ez [oc h1, oc h2]
   | true => exact ez [oc h1, oc h2]
 ·exact ez []
 ·exact ez []
 ·cases x with
  | false => exact ez [oc h1]
  | true => cases y with
   | false => exact ez [oc h1, oc h2]
   | true => exact ez [oc h1, oc h2]
theorem IsZero_can {s : Bool} {m n : Nat} (h : CanR s m n) : Evc 38 [rp s m n] (.bool (decide (m = 0))) := by
 have ck := Check_c h
 have um := up1000 h.n16
 by_cases h0 : m = 0
 ·rw [decide_eq_true h0]
  exact ez [oc ck, oo (lenL um), oo (bin_eql (l0t h0))]
 ·rw [decide_eq_false h0]
  exact ez [oc ck, oo (lenL um), oo (bin_eql (l0f h0))]
theorem IsZero_bad {s : Bool} {a b : List Int} {e : Int} (he : e = 20 ∨ e = 2) (h1 : Evc 34 [rz s a b] (.int .i64 e)) : Evc 38 [rz s a b] (.bool false) := by
 rcases he with rfl | rfl
 ·exact ez [oc h1]
 ·exact ez [oc h1]
theorem rOf_evc {n : Int} (h0 : -9223372036854775808 ≤ n) (h1 : n < 9223372036854775808) : Evc 36 [intP n] (.agg [.bool (decide (n < 0)), rowL n.natAbs, oneP]) := by
 by_cases h : n < 0
 ·rw [decide_eq_true h]
  have e : IntKind.u64.wrap (0 - IntKind.u64.wrap n) = ((n.natAbs : Nat) : Int) := by
   simp only [IntKind.wrap, IntKind.bits, IntKind.signed]
   simp
   omega
  have ho := rNOf_c n.natAbs (by omega)
  rw [← e] at ho
  exact ez [oo (bin_lss (decide_eq_true h)), oc ho]
 ·rw [decide_eq_false h]
  have e : IntKind.u64.wrap n = ((n.natAbs : Nat) : Int) := by
   simp only [IntKind.wrap, IntKind.bits, IntKind.signed]
   simp
   omega
  have ho := rNOf_c n.natAbs (by omega)
  rw [← e] at ho
  exact ez [oo (bin_lss (decide_eq_false h)), oc ho]
theorem Of_alike {n : Int} (h0 : -9223372036854775808 ≤ n) (h1 : n < 9223372036854775808) : ∃ r r', Evc 35 [intP n] r ∧ Evc 36 [intP n] r' ∧ Alike r r' := by
 have x := Of_evc h0 h1
 unfold ratP at x
 rw [Rat.num_intCast, Rat.den_intCast] at x
 have l : Lt 1000 n.natAbs := lt_lit (by omega) (by decide)
 exact ⟨_, _, x, rOf_evc h0 h1, decide (n < 0), _, _, _, _, _, _, _, _, _, _, _, _, limbs n.natAbs, limbs 1, rfl, rfl, rowOf_L l, rowOf_L lt1, rowOf_L l, rowOf_oneP, len_l l, len_l lt1⟩
theorem bin_e0 {e : Int} (h : (e == 0) = false) : Owed (.bin .eql 26 (.pv (.int .i64 e)) (.pv (.int .i64 0)) true (.pv (.bool false))) := by
 show binA Tryz.prog .eql 26 _ _ _ = _
 simp only [binA, intOp, ne_eq, not_true, if_false, h]
theorem RatTells_evc {neg neg2 : Bool} {a0 b0 c0 d0 : List Int} {n0 : Int} (ha : okL a0) (hb : okL b0) (la : a0.length ≤ 9223372036854775807) (lb : b0.length ≤ 9223372036854775807) (lc : c0.length ≤ 9223372036854775807) (ld : d0.length ≤ 9223372036854775807)
  (hn : -9223372036854775808 ≤ n0) (hn2 : n0 < 9223372036854775808) : Evc 5 [rz neg a0 b0, rz neg2 c0 d0, intP n0] (.bool true) := by
 have sm1 := small_z (s := neg) la lb
 have sm2 := small_z (s := neg2) lc ld
 have oa := okL_take ha 20
 have ob := okL_take hb 20
 have ta : (a0.take 20).length ≤ 20 := by rw [List.length_take]; omega
 have tb : (b0.take 20).length ≤ 20 := by rw [List.length_take]; omega
 have tc : (c0.take 20).length ≤ 20 := by rw [List.length_take]; omega
 have td : (d0.take 20).length ≤ 20 := by rw [List.length_take]; omega
 generalize a0.take 20 = a at *
 generalize b0.take 20 = b at *
 generalize c0.take 20 = c at *
 generalize d0.take 20 = d at *
 obtain ⟨r1, r1', e1, q1, q1', al1⟩ := New_both neg oa ob ta tb
 obtain ⟨r2, r2', e2, q2, q2', al2⟩ := Neg_both neg oa ob (by omega) (by omega)
 obtain ⟨r3, r3', e3, q3, q3', al3⟩ := Floor_both neg oa ob (by omega) (by omega)
 obtain ⟨w, i, q5, q5'⟩ := Whole_both neg oa ob (by omega) (by omega)
 obtain ⟨r4, r4', q4, q4', al4⟩ := Of_alike hn hn2
 have s4 := al4.same
 have t1 := eq_p (e := e1) al1
 have t2 := eq_p (e := e2) al2
 have t3 := eq_p (e := e3) al3
 obtain ⟨bo1, n11, z11, l11, n12, z12, l12, n13, z13, l13, n14, z14, l14, _, _, rfl, rfl, _⟩ := al1
 obtain ⟨bo2, n21, z21, l21, n22, z22, l22, n23, z23, l23, n24, z24, l24, _, _, rfl, rfl, _⟩ := al2
 obtain ⟨bo3, n31, z31, l31, n32, z32, l32, n33, z33, l33, n34, z34, l34, _, _, rfl, rfl, _⟩ := al3
 obtain ⟨bo4, n41, z41, l41, n42, z42, l42, n43, z43, l43, n44, z44, l44, _, _, rfl, rfl, _⟩ := al4
 have u1 := Same_z (s1 := neg) (s2 := neg2) (a := a) (b := b) (c := c) (d := d) (by omega) (by omega) (by omega) (by omega)
 have u2 := rSame_z (s1 := neg) (s2 := neg2) (a := a) (b := b) (c := c) (d := d) (by omega) (by omega) (by omega) (by omega)
 generalize (decide (neg = neg2) && (decide (a = c) && decide (b = d))) = sb at u1 u2
 have wk := works_evc
 rcases may_be (s := neg) oa ob (by omega) (by omega) with ⟨m, n, rfl, rfl, h⟩ | ⟨e, he', ck, ck'⟩
 ·have ck := Check_c h
  have ck' := rCheck_c h
  have iz := IsZero_can h
  have um := up1000 h.n16
  by_cases h0 : m = 0
  ·rw [decide_eq_true h0] at iz
   cases i <;> cases sb
   ·exact ey fl2 3 [oc sm1, oc sm2, oc q1, oc q1', oc q2, oc q2', oc q3, oc q3', oc q5, oc q5', oc ck', bl .eql 26 (.pv (.int .i64 0)) (.pv (.int .i64 0)) true (.pv (.bool true)), oo (lenL um), oo (bin_eql (l0t h0)), oc ck, oc ck', bl .eql 26 (.pv (.int .i64 0)) (.pv (.int .i64 0)) false (.pv (.bool true)), oc q4, oc q4', oc s4, oc t1, oc t2, oc t3, ⟨.bin .eql 3 (.pv (.int .i64 w)) (.pv (.int .i64 w)) false (.pv (.bool true)), bin_eql (beq_self_eq_true _) false⟩, oc u1, oc u2, oc iz, oc wk]
   ·exact ey fl2 3 [oc sm1, oc sm2, oc q1, oc q1', oc q2, oc q2', oc q3, oc q3', oc q5, oc q5', oc ck', bl .eql 26 (.pv (.int .i64 0)) (.pv (.int .i64 0)) true (.pv (.bool true)), oo (lenL um), oo (bin_eql (l0t h0)), oc ck, oc ck', bl .eql 26 (.pv (.int .i64 0)) (.pv (.int .i64 0)) false (.pv (.bool true)), oc q4, oc q4', oc s4, oc t1, oc t2, oc t3, ⟨.bin .eql 3 (.pv (.int .i64 w)) (.pv (.int .i64 w)) false (.pv (.bool true)), bin_eql (beq_self_eq_true _) false⟩, oc u1, oc u2, oc iz, oc wk]
   ·exact ey fl2 3 [oc sm1, oc sm2, oc q1, oc q1', oc q2, oc q2', oc q3, oc q3', oc q5, oc q5', oc ck', bl .eql 26 (.pv (.int .i64 0)) (.pv (.int .i64 0)) true (.pv (.bool true)), oo (lenL um), oo (bin_eql (l0t h0)), oc ck, oc ck', bl .eql 26 (.pv (.int .i64 0)) (.pv (.int .i64 0)) false (.pv (.bool true)), oc q4, oc q4', oc s4, oc t1, oc t2, oc t3, ⟨.bin .eql 3 (.pv (.int .i64 w)) (.pv (.int .i64 w)) false (.pv (.bool true)), bin_eql (beq_self_eq_true _) false⟩, oc u1, oc u2, oc iz, oc wk]
   ·exact ey fl2 3 [oc sm1, oc sm2, oc q1, oc q1', oc q2, oc q2', oc q3, oc q3', oc q5, oc q5', oc ck', bl .eql 26 (.pv (.int .i64 0)) (.pv (.int .i64 0)) true (.pv (.bool true)), oo (lenL um), oo (bin_eql (l0t h0)), oc ck, oc ck', bl .eql 26 (.pv (.int .i64 0)) (.pv (.int .i64 0)) false (.pv (.bool true)), oc q4, oc q4', oc s4, oc t1, oc t2, oc t3, ⟨.bin .eql 3 (.pv (.int .i64 w)) (.pv (.int .i64 w)) false (.pv (.bool true)), bin_eql (beq_self_eq_true _) false⟩, oc u1, oc u2, oc iz, oc wk]
  ·rw [decide_eq_false h0] at iz
   cases i <;> cases sb
   ·exact ey fl2 3 [oc sm1, oc sm2, oc q1, oc q1', oc q2, oc q2', oc q3, oc q3', oc q5, oc q5', oc ck', bl .eql 26 (.pv (.int .i64 0)) (.pv (.int .i64 0)) true (.pv (.bool true)), oo (lenL um), oo (bin_eql (l0f h0)), oc ck, oc ck', bl .eql 26 (.pv (.int .i64 0)) (.pv (.int .i64 0)) false (.pv (.bool true)), oc q4, oc q4', oc s4, oc t1, oc t2, oc t3, ⟨.bin .eql 3 (.pv (.int .i64 w)) (.pv (.int .i64 w)) false (.pv (.bool true)), bin_eql (beq_self_eq_true _) false⟩, oc u1, oc u2, oc iz, oc wk]
   ·exact ey fl2 3 [oc sm1, oc sm2, oc q1, oc q1', oc q2, oc q2', oc q3, oc q3', oc q5, oc q5', oc ck', bl .eql 26 (.pv (.int .i64 0)) (.pv (.int .i64 0)) true (.pv (.bool true)), oo (lenL um), oo (bin_eql (l0f h0)), oc ck, oc ck', bl .eql 26 (.pv (.int .i64 0)) (.pv (.int .i64 0)) false (.pv (.bool true)), oc q4, oc q4', oc s4, oc t1, oc t2, oc t3, ⟨.bin .eql 3 (.pv (.int .i64 w)) (.pv (.int .i64 w)) false (.pv (.bool true)), bin_eql (beq_self_eq_true _) false⟩, oc u1, oc u2, oc iz, oc wk]
   ·exact ey fl2 3 [oc sm1, oc sm2, oc q1, oc q1', oc q2, oc q2', oc q3, oc q3', oc q5, oc q5', oc ck', bl .eql 26 (.pv (.int .i64 0)) (.pv (.int .i64 0)) true (.pv (.bool true)), oo (lenL um), oo (bin_eql (l0f h0)), oc ck, oc ck', bl .eql 26 (.pv (.int .i64 0)) (.pv (.int .i64 0)) false (.pv (.bool true)), oc q4, oc q4', oc s4, oc t1, oc t2, oc t3, ⟨.bin .eql 3 (.pv (.int .i64 w)) (.pv (.int .i64 w)) false (.pv (.bool true)), bin_eql (beq_self_eq_true _) false⟩, oc u1, oc u2, oc iz, oc wk]
   ·exact ey fl2 3 [oc sm1, oc sm2, oc q1, oc q1', oc q2, oc q2', oc q3, oc q3', oc q5, oc q5', oc ck', bl .eql 26 (.pv (.int .i64 0)) (.pv (.int .i64 0)) true (.pv (.bool true)), oo (lenL um), oo (bin_eql (l0f h0)), oc ck, oc ck', bl .eql 26 (.pv (.int .i64 0)) (.pv (.int .i64 0)) false (.pv (.bool true)), oc q4, oc q4', oc s4, oc t1, oc t2, oc t3, ⟨.bin .eql 3 (.pv (.int .i64 w)) (.pv (.int .i64 w)) false (.pv (.bool true)), bin_eql (beq_self_eq_true _) false⟩, oc u1, oc u2, oc iz, oc wk]
 ·have iz := IsZero_bad he' ck
  have he : (e == 0) = false := by rcases he' with rfl | rfl <;> rfl
  cases i <;> cases sb
  ·exact ey fl2 3 [oc sm1, oc sm2, oc q1, oc q1', oc q2, oc q2', oc q3, oc q3', oc q5, oc q5', oc ck', ⟨.bin .eql 26 (.pv (.int .i64 e)) (.pv (.int .i64 0)) true (.pv (.bool false)), bin_e0 he⟩, oc ck, oc ck', ⟨.bin .eql 26 (.pv (.int .i64 e)) (.pv (.int .i64 e)) false (.pv (.bool true)), bin_err⟩, oc q4, oc q4', oc s4, oc t1, oc t2, oc t3, ⟨.bin .eql 3 (.pv (.int .i64 w)) (.pv (.int .i64 w)) false (.pv (.bool true)), bin_eql (beq_self_eq_true _) false⟩, oc u1, oc u2, oc iz, oc wk]
  ·exact ey fl2 3 [oc sm1, oc sm2, oc q1, oc q1', oc q2, oc q2', oc q3, oc q3', oc q5, oc q5', oc ck', ⟨.bin .eql 26 (.pv (.int .i64 e)) (.pv (.int .i64 0)) true (.pv (.bool false)), bin_e0 he⟩, oc ck, oc ck', ⟨.bin .eql 26 (.pv (.int .i64 e)) (.pv (.int .i64 e)) false (.pv (.bool true)), bin_err⟩, oc q4, oc q4', oc s4, oc t1, oc t2, oc t3, ⟨.bin .eql 3 (.pv (.int .i64 w)) (.pv (.int .i64 w)) false (.pv (.bool true)), bin_eql (beq_self_eq_true _) false⟩, oc u1, oc u2, oc iz, oc wk]
  ·exact ey fl2 3 [oc sm1, oc sm2, oc q1, oc q1', oc q2, oc q2', oc q3, oc q3', oc q5, oc q5', oc ck', ⟨.bin .eql 26 (.pv (.int .i64 e)) (.pv (.int .i64 0)) true (.pv (.bool false)), bin_e0 he⟩, oc ck, oc ck', ⟨.bin .eql 26 (.pv (.int .i64 e)) (.pv (.int .i64 e)) false (.pv (.bool true)), bin_err⟩, oc q4, oc q4', oc s4, oc t1, oc t2, oc t3, ⟨.bin .eql 3 (.pv (.int .i64 w)) (.pv (.int .i64 w)) false (.pv (.bool true)), bin_eql (beq_self_eq_true _) false⟩, oc u1, oc u2, oc iz, oc wk]
  ·exact ey fl2 3 [oc sm1, oc sm2, oc q1, oc q1', oc q2, oc q2', oc q3, oc q3', oc q5, oc q5', oc ck', ⟨.bin .eql 26 (.pv (.int .i64 e)) (.pv (.int .i64 0)) true (.pv (.bool false)), bin_e0 he⟩, oc ck, oc ck', ⟨.bin .eql 26 (.pv (.int .i64 e)) (.pv (.int .i64 e)) false (.pv (.bool true)), bin_err⟩, oc q4, oc q4', oc s4, oc t1, oc t2, oc t3, ⟨.bin .eql 3 (.pv (.int .i64 w)) (.pv (.int .i64 w)) false (.pv (.bool true)), bin_eql (beq_self_eq_true _) false⟩, oc u1, oc u2, oc iz, oc wk]
theorem RatTells_row {s s2 : Bool} {l m l2 m2 : List Int} {n0 : Int} (wl : ∀ n ∈ l, (Lit.int .u32 n).wf = true) (wm : ∀ n ∈ m, (Lit.int .u32 n).wf = true) (nl : l.length ≤ maxLen) (nm : m.length ≤ maxLen) (nl2 : l2.length ≤ maxLen) (nm2 : m2.length ≤ maxLen) (hn : (Lit.int .i64 n0).wf = true) :
  Evc 5 [.agg [.bool s, row .u32 l, row .u32 m], .agg [.bool s2, row .u32 l2, row .u32 m2], .int .i64 n0] (.bool true) := by
 have h : -9223372036854775808 ≤ n0 ∧ n0 < 9223372036854775808 := by
  simp [Lit.wf, IntKind.min, IntKind.max, IntKind.signed, IntKind.bits] at hn
  omega
 exact RatTells_evc (okL_wf wl) (okL_wf wm) (max_len nl) (max_len nm) (max_len nl2) (max_len nm2) h.1 h.2
end Go.Proofs.YtkjdpojbmkpkgaaGreatDoor.AV
