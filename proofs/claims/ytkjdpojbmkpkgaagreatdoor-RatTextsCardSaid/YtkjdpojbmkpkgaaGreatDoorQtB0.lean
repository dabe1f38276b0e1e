/- Printed functions in the evaluator's terms (printed by extgen.py). -/
import Derived.Test.YtkjdpojbmkpkgaaGreatDoorQtP0
import Derived.Test.YtkjdpojbmkpkgaaGreatDoorQtP4
import Derived.Test.YtkjdpojbmkpkgaaGreatDoorQtP8
import Derived.Test.YtkjdpojbmkpkgaaGreatDoorQtA1
import Derived.Test.YtkjdpojbmkpkgaaGreatDoorProg
import Derived.KernelRfl
import Derived.Test.YtkjdpojbmkpkgaaGreatDoorQtE0
namespace Go.Proofs.YtkjdpojbmkpkgaaGreatDoor.AV
open Go Go.RowKit Go.Proofs.YtkjdpojbmkpkgaaGreatDoorW.PrintWords Go.Proofs.YtkjdpojbmkpkgaaGreatDoor.P
def x_nat_Gcd (k : Nat) : List PV → Option PV
 | [p_l0, p_l1] =>
  (match rowOf .u32 p_l0 with | none => none | some l0 => (match rowOf .u32 p_l1 with | none => none | some l1 => (match nat_Gcd.f k l0 l1 with | none => none | some (r1, r2) => some (.tup [row .u32 r1, .int .i64 r2]))))
 | _ => none
theorem x_nat_Gcd_call {k : Nat} {ps : List PV} {r_ : PV} (h : x_nat_Gcd k ps = some r_) : ExtCall Tryz.prog 60 ps r_ := by
 unfold x_nat_Gcd at h
 split at h <;> first | (cases h; done) | skip
 rename_i p_l0 p_l1
 split at h <;> first | (cases h; done) | skip
 rename_i l0 q_l0
 split at h <;> first | (cases h; done) | skip
 rename_i l1 q_l1
 split at h <;> first | (cases h; done) | skip
 rename_i r1 r2 hf
 cases h
 intro F w vs hF hl hr
 obtain ⟨u0, u1, rfl⟩ := two_args hl
 obtain ⟨A0, c0, rfl, C_l0, R_l0, V_l0⟩ := row_in q_l0 (hr 0 _ rfl)
 obtain ⟨A1, c1, rfl, C_l1, R_l1, V_l1⟩ := row_in q_l1 (hr 1 _ rfl)
 refine (nat_Gcd.calls k A0 c0 l0 A1 c1 l1 r1 r2 w R_l0 C_l0 R_l1 C_l1 hf).mono ?_
 rintro e w' ⟨v0_, rfl, K_v0_, hB⟩
 obtain ⟨D_v0_, E_v0_, M_v0_⟩ := row_out K_v0_
 refine ⟨_, (fun b o => F b o ∨ D_v0_ b o), rfl, (tup_mk2 (M_v0_ _ (fun _ _ h => .inr h)) (.int _ _)), hB, fun _ _ h => .inl h, fun b o h => ?_⟩
 rcases h with h | h
 ·exact .inl h
 ·exact .inr (E_v0_ _ _ h)
def x_nat_Div (k : Nat) : List PV → Option PV
 | [p_l0, p_l1] =>
  (match rowOf .u32 p_l0 with | none => none | some l0 => (match rowOf .u32 p_l1 with | none => none | some l1 => (match nat_Div.f k l0 l1 with | none => none | some (r1, r2, r3) => some (.tup [row .u32 r1, row .u32 r2, .int .i64 r3]))))
 | _ => none
theorem x_nat_Div_call {k : Nat} {ps : List PV} {r_ : PV} (h : x_nat_Div k ps = some r_) : ExtCall Tryz.prog 67 ps r_ := by
 unfold x_nat_Div at h
 split at h <;> first | (cases h; done) | skip
 rename_i p_l0 p_l1
 split at h <;> first | (cases h; done) | skip
 rename_i l0 q_l0
 split at h <;> first | (cases h; done) | skip
 rename_i l1 q_l1
 split at h <;> first | (cases h; done) | skip
 rename_i r1 r2 r3 hf
 cases h
 intro F w vs hF hl hr
 obtain ⟨u0, u1, rfl⟩ := two_args hl
 obtain ⟨A0, c0, rfl, C_l0, R_l0, V_l0⟩ := row_in q_l0 (hr 0 _ rfl)
 obtain ⟨A1, c1, rfl, C_l1, R_l1, V_l1⟩ := row_in q_l1 (hr 1 _ rfl)
 refine (nat_Div.calls k A0 c0 l0 A1 c1 l1 r1 r2 r3 w R_l0 C_l0 R_l1 C_l1 hf).mono ?_
 rintro e w' ⟨v0_, v1_, rfl, K_v0_, K_v1_, hB⟩
 obtain ⟨D_v0_, E_v0_, M_v0_⟩ := row_out K_v0_
 obtain ⟨D_v1_, E_v1_, M_v1_⟩ := row_out K_v1_
 refine ⟨_, (fun b o => F b o ∨ D_v0_ b o ∨ D_v1_ b o), rfl, (tup_mk3 (M_v0_ _ (fun _ _ h => .inr (.inl h))) (M_v1_ _ (fun _ _ h => .inr (.inr h))) (.int _ _)), hB, fun _ _ h => .inl h, fun b o h => ?_⟩
 rcases h with h | h | h
 ·exact .inl h
 ·exact .inr (E_v0_ _ _ h)
 ·exact .inr (E_v1_ _ _ h)
def x_nat_Add (k : Nat) : List PV → Option PV
 | [p_l0, p_l1] =>
  (match rowOf .u32 p_l0 with | none => none | some l0 => (match rowOf .u32 p_l1 with | none => none | some l1 => (match nat_Add.f k l0 l1 with | none => none | some (r1, r2) => some (.tup [row .u32 r1, .int .i64 r2]))))
 | _ => none
theorem x_nat_Add_call {k : Nat} {ps : List PV} {r_ : PV} (h : x_nat_Add k ps = some r_) : ExtCall Tryz.prog 68 ps r_ := by
 unfold x_nat_Add at h
 split at h <;> first | (cases h; done) | skip
 rename_i p_l0 p_l1
 split at h <;> first | (cases h; done) | skip
 rename_i l0 q_l0
 split at h <;> first | (cases h; done) | skip
 rename_i l1 q_l1
 split at h <;> first | (cases h; done) | skip
 rename_i r1 r2 hf
 cases h
 intro F w vs hF hl hr
 obtain ⟨u0, u1, rfl⟩ := two_args hl
 obtain ⟨A0, c0, rfl, C_l0, R_l0, V_l0⟩ := row_in q_l0 (hr 0 _ rfl)
 obtain ⟨A1, c1, rfl, C_l1, R_l1, V_l1⟩ := row_in q_l1 (hr 1 _ rfl)
 refine (nat_Add.calls k A0 c0 l0 A1 c1 l1 r1 r2 w R_l0 C_l0 R_l1 C_l1 hf).mono ?_
 rintro e w' ⟨v0_, rfl, K_v0_, hB⟩
 obtain ⟨D_v0_, E_v0_, M_v0_⟩ := row_out K_v0_
 refine ⟨_, (fun b o => F b o ∨ D_v0_ b o), rfl, (tup_mk2 (M_v0_ _ (fun _ _ h => .inr h)) (.int _ _)), hB, fun _ _ h => .inl h, fun b o h => ?_⟩
 rcases h with h | h
 ·exact .inl h
 ·exact .inr (E_v0_ _ _ h)
def x_nat_Sub (k : Nat) : List PV → Option PV
 | [p_l0, p_l1] =>
  (match rowOf .u32 p_l0 with | none => none | some l0 => (match rowOf .u32 p_l1 with | none => none | some l1 => (match nat_Sub.f k l0 l1 with | none => none | some (r1, r2) => some (.tup [row .u32 r1, .int .i64 r2]))))
 | _ => none
theorem x_nat_Sub_call {k : Nat} {ps : List PV} {r_ : PV} (h : x_nat_Sub k ps = some r_) : ExtCall Tryz.prog 76 ps r_ := by
 unfold x_nat_Sub at h
 split at h <;> first | (cases h; done) | skip
 rename_i p_l0 p_l1
 split at h <;> first | (cases h; done) | skip
 rename_i l0 q_l0
 split at h <;> first | (cases h; done) | skip
 rename_i l1 q_l1
 split at h <;> first | (cases h; done) | skip
 rename_i r1 r2 hf
 cases h
 intro F w vs hF hl hr
 obtain ⟨u0, u1, rfl⟩ := two_args hl
 obtain ⟨A0, c0, rfl, C_l0, R_l0, V_l0⟩ := row_in q_l0 (hr 0 _ rfl)
 obtain ⟨A1, c1, rfl, C_l1, R_l1, V_l1⟩ := row_in q_l1 (hr 1 _ rfl)
 refine (nat_Sub.calls k A0 c0 l0 A1 c1 l1 r1 r2 w R_l0 C_l0 R_l1 C_l1 hf).mono ?_
 rintro e w' ⟨v0_, rfl, K_v0_, hB⟩
 obtain ⟨D_v0_, E_v0_, M_v0_⟩ := row_out K_v0_
 refine ⟨_, (fun b o => F b o ∨ D_v0_ b o), rfl, (tup_mk2 (M_v0_ _ (fun _ _ h => .inr h)) (.int _ _)), hB, fun _ _ h => .inl h, fun b o h => ?_⟩
 rcases h with h | h
 ·exact .inl h
 ·exact .inr (E_v0_ _ _ h)
def x_nat_Cmp (k : Nat) : List PV → Option PV
 | [p_l0, p_l1] =>
  (match rowOf .u32 p_l0 with | none => none | some l0 => (match rowOf .u32 p_l1 with | none => none | some l1 => (match nat_Cmp.f k l0 l1 with | none => none | some r => some (.int .i64 r))))
 | _ => none
theorem x_nat_Cmp_call {k : Nat} {ps : List PV} {r_ : PV} (h : x_nat_Cmp k ps = some r_) : ExtCall Tryz.prog 75 ps r_ := by
 unfold x_nat_Cmp at h
 split at h <;> first | (cases h; done) | skip
 rename_i p_l0 p_l1
 split at h <;> first | (cases h; done) | skip
 rename_i l0 q_l0
 split at h <;> first | (cases h; done) | skip
 rename_i l1 q_l1
 split at h <;> first | (cases h; done) | skip
 rename_i r hf
 cases h
 intro F w vs hF hl hr
 obtain ⟨u0, u1, rfl⟩ := two_args hl
 obtain ⟨A0, c0, rfl, C_l0, R_l0, V_l0⟩ := row_in q_l0 (hr 0 _ rfl)
 obtain ⟨A1, c1, rfl, C_l1, R_l1, V_l1⟩ := row_in q_l1 (hr 1 _ rfl)
 refine (nat_Cmp.calls k A0 c0 l0 A1 c1 l1 r w R_l0 C_l0 R_l1 C_l1 hf).mono ?_
 rintro e w' ⟨rfl, hB⟩
 refine ⟨_, (fun b o => F b o), rfl, (.int _ _), hB, fun _ _ h => h, fun b o h => ?_⟩
 exact .inl h
def x_nat_Mul (k : Nat) : List PV → Option PV
 | [p_l0, p_l1] =>
  (match rowOf .u32 p_l0 with | none => none | some l0 => (match rowOf .u32 p_l1 with | none => none | some l1 => (match nat_Mul.f k l0 l1 with | none => none | some (r1, r2) => some (.tup [row .u32 r1, .int .i64 r2]))))
 | _ => none
theorem x_nat_Mul_call {k : Nat} {ps : List PV} {r_ : PV} (h : x_nat_Mul k ps = some r_) : ExtCall Tryz.prog 77 ps r_ := by
 unfold x_nat_Mul at h
 split at h <;> first | (cases h; done) | skip
 rename_i p_l0 p_l1
 split at h <;> first | (cases h; done) | skip
 rename_i l0 q_l0
 split at h <;> first | (cases h; done) | skip
 rename_i l1 q_l1
 split at h <;> first | (cases h; done) | skip
 rename_i r1 r2 hf
 cases h
 intro F w vs hF hl hr
 obtain ⟨u0, u1, rfl⟩ := two_args hl
 obtain ⟨A0, c0, rfl, C_l0, R_l0, V_l0⟩ := row_in q_l0 (hr 0 _ rfl)
 obtain ⟨A1, c1, rfl, C_l1, R_l1, V_l1⟩ := row_in q_l1 (hr 1 _ rfl)
 refine (nat_Mul.calls k A0 c0 l0 A1 c1 l1 r1 r2 w R_l0 C_l0 R_l1 C_l1 hf).mono ?_
 rintro e w' ⟨v0_, rfl, K_v0_, hB⟩
 obtain ⟨D_v0_, E_v0_, M_v0_⟩ := row_out K_v0_
 refine ⟨_, (fun b o => F b o ∨ D_v0_ b o), rfl, (tup_mk2 (M_v0_ _ (fun _ _ h => .inr h)) (.int _ _)), hB, fun _ _ h => .inl h, fun b o h => ?_⟩
 rcases h with h | h
 ·exact .inl h
 ·exact .inr (E_v0_ _ _ h)
def x_nat_Of (k : Nat) : List PV → Option PV
 | [.int .u64 a0] =>
  (match nat_Of.f k a0 with | none => none | some r => some (row .u32 r))
 | _ => none
theorem x_nat_Of_call {k : Nat} {ps : List PV} {r_ : PV} (h : x_nat_Of k ps = some r_) : ExtCall Tryz.prog 73 ps r_ := by
 unfold x_nat_Of at h
 split at h <;> first | (cases h; done) | skip
 rename_i a0
 split at h <;> first | (cases h; done) | skip
 rename_i r hf
 cases h
 intro F w vs hF hl hr
 obtain ⟨u0, rfl⟩ := one_arg hl
 cases int_in (hr 0 _ rfl)
 refine (nat_Of.calls k a0 r w hf).mono ?_
 rintro e w' ⟨v0_, rfl, K_v0_, hB⟩
 obtain ⟨D_v0_, E_v0_, M_v0_⟩ := row_out K_v0_
 refine ⟨_, (fun b o => F b o ∨ D_v0_ b o), rfl, (M_v0_ _ (fun _ _ h => .inr h)), hB, fun _ _ h => .inl h, fun b o h => ?_⟩
 rcases h with h | h
 ·exact .inl h
 ·exact .inr (E_v0_ _ _ h)
def x_nat_Read (k : Nat) : List PV → Option PV
 | [.str a0] =>
  (match nat_Read.f k (bytes a0) with | none => none | some (r1, r2) => some (.tup [row .u32 r1, .int .i64 r2]))
 | _ => none
theorem x_nat_Read_call {k : Nat} {ps : List PV} {r_ : PV} (h : x_nat_Read k ps = some r_) : ExtCall Tryz.prog 59 ps r_ := by
 unfold x_nat_Read at h
 split at h <;> first | (cases h; done) | skip
 rename_i a0
 split at h <;> first | (cases h; done) | skip
 rename_i r1 r2 hf
 cases h
 intro F w vs hF hl hr
 obtain ⟨u0, rfl⟩ := one_arg hl
 cases str_in (hr 0 _ rfl)
 refine (nat_Read.calls k (bytes a0) r1 r2 w hf).mono ?_
 rintro e w' ⟨v0_, rfl, K_v0_, hB⟩
 obtain ⟨D_v0_, E_v0_, M_v0_⟩ := row_out K_v0_
 refine ⟨_, (fun b o => F b o ∨ D_v0_ b o), rfl, (tup_mk2 (M_v0_ _ (fun _ _ h => .inr h)) (.int _ _)), hB, fun _ _ h => .inl h, fun b o h => ?_⟩
 rcases h with h | h
 ·exact .inl h
 ·exact .inr (E_v0_ _ _ h)
def x_nat_Text (k : Nat) : List PV → Option PV
 | [p_l0] =>
  (match rowOf .u32 p_l0 with | none => none | some l0 => (match nat_Text.f k l0 with | none => none | some (r1, r2) => some (.tup [strP r1, .int .i64 r2])))
 | _ => none
theorem x_nat_Text_call {k : Nat} {ps : List PV} {r_ : PV} (h : x_nat_Text k ps = some r_) : ExtCall Tryz.prog 52 ps r_ := by
 unfold x_nat_Text at h
 split at h <;> first | (cases h; done) | skip
 rename_i p_l0
 split at h <;> first | (cases h; done) | skip
 rename_i l0 q_l0
 split at h <;> first | (cases h; done) | skip
 rename_i r1 r2 hf
 cases h
 intro F w vs hF hl hr
 obtain ⟨u0, rfl⟩ := one_arg hl
 obtain ⟨A0, c0, rfl, C_l0, R_l0, V_l0⟩ := row_in q_l0 (hr 0 _ rfl)
 refine (nat_Text.calls k (fun _ => True) A0 c0 l0 r1 r2 w (V_l0 30 _ _ (fun _ => trivial)) hf).mono ?_
 rintro e w' ⟨rfl, hB⟩
 refine ⟨_, (fun b o => F b o), rfl, (tup_mk2 (str_out _) (.int _ _)), hB, fun _ _ h => h, fun b o h => ?_⟩
 exact .inl h
def x_slices_Equal_uint32_uint32 (k : Nat) : List PV → Option PV
 | [p_l0, p_l1] =>
  (match rowOf .u32 p_l0 with | none => none | some l0 => (match rowOf .u32 p_l1 with | none => none | some l1 => (match slices_Equal_uint32_uint32.f k l0 l1 with | none => none | some r => some (.bool r))))
 | _ => none
theorem x_slices_Equal_uint32_uint32_call {k : Nat} {ps : List PV} {r_ : PV} (h : x_slices_Equal_uint32_uint32 k ps = some r_) : ExtCall Tryz.prog 53 ps r_ := by
 unfold x_slices_Equal_uint32_uint32 at h
 split at h <;> first | (cases h; done) | skip
 rename_i p_l0 p_l1
 split at h <;> first | (cases h; done) | skip
 rename_i l0 q_l0
 split at h <;> first | (cases h; done) | skip
 rename_i l1 q_l1
 split at h <;> first | (cases h; done) | skip
 rename_i r hf
 cases h
 intro F w vs hF hl hr
 obtain ⟨u0, u1, rfl⟩ := two_args hl
 obtain ⟨A0, c0, rfl, C_l0, R_l0, V_l0⟩ := row_in q_l0 (hr 0 _ rfl)
 obtain ⟨A1, c1, rfl, C_l1, R_l1, V_l1⟩ := row_in q_l1 (hr 1 _ rfl)
 refine (slices_Equal_uint32_uint32.calls k A0 c0 l0 A1 c1 l1 r w R_l0 C_l0 R_l1 C_l1 hf).mono ?_
 rintro e w' ⟨rfl, hB⟩
 replace hB := drawn_below hB
 refine ⟨_, (fun b o => F b o), rfl, (.bool _), hB, fun _ _ h => h, fun b o h => ?_⟩
 exact .inl h
def x_strings_Cut (_k : Nat) : List PV → Option PV
 | [.str a0, .str a1] =>
  (match strings_Cut.f (bytes a0) (bytes a1) with | none => none | some (r1, r2, r3) => some (.tup [strP r1, strP r2, .bool r3]))
 | _ => none
theorem x_strings_Cut_call {k : Nat} {ps : List PV} {r_ : PV} (h : x_strings_Cut k ps = some r_) : ExtCall Tryz.prog 58 ps r_ := by
 unfold x_strings_Cut at h
 split at h <;> first | (cases h; done) | skip
 rename_i a0 a1
 split at h <;> first | (cases h; done) | skip
 rename_i r1 r2 r3 hf
 cases h
 intro F w vs hF hl hr
 obtain ⟨u0, u1, rfl⟩ := two_args hl
 cases str_in (hr 0 _ rfl)
 cases str_in (hr 1 _ rfl)
 refine (strings_Cut.calls (bytes a0) (bytes a1) r1 r2 r3 w hf).mono ?_
 rintro e w' ⟨rfl, hB⟩
 replace hB := drawn_below hB
 refine ⟨_, (fun b o => F b o), rfl, (tup_mk3 (str_out _) (str_out _) (.bool _)), hB, fun _ _ h => h, fun b o h => ?_⟩
 exact .inl h
def x_strings_CutPrefix (_k : Nat) : List PV → Option PV
 | [.str a0, .str a1] =>
  (match strings_CutPrefix.f (bytes a0) (bytes a1) with | none => none | some (r1, r2) => some (.tup [strP r1, .bool r2]))
 | _ => none
theorem x_strings_CutPrefix_call {k : Nat} {ps : List PV} {r_ : PV} (h : x_strings_CutPrefix k ps = some r_) : ExtCall Tryz.prog 57 ps r_ := by
 unfold x_strings_CutPrefix at h
 split at h <;> first | (cases h; done) | skip
 rename_i a0 a1
 split at h <;> first | (cases h; done) | skip
 rename_i r1 r2 hf
 cases h
 intro F w vs hF hl hr
 obtain ⟨u0, u1, rfl⟩ := two_args hl
 cases str_in (hr 0 _ rfl)
 cases str_in (hr 1 _ rfl)
 refine (strings_CutPrefix.calls (bytes a0) (bytes a1) r1 r2 w hf).mono ?_
 rintro e w' ⟨rfl, hB⟩
 replace hB := drawn_below hB
 refine ⟨_, (fun b o => F b o), rfl, (tup_mk2 (str_out _) (.bool _)), hB, fun _ _ h => h, fun b o h => ?_⟩
 exact .inl h
def x_driftnetref01_Gcd (k : Nat) : List PV → Option PV
 | [p_l0, p_l1] =>
  (match rowOf .u32 p_l0 with | none => none | some l0 => (match rowOf .u32 p_l1 with | none => none | some l1 => (match driftnetref01_Gcd.f k l0 l1 with | none => none | some (r1, r2) => some (.tup [row .u32 r1, .int .i64 r2]))))
 | _ => none
theorem x_driftnetref01_Gcd_call {k : Nat} {ps : List PV} {r_ : PV} (h : x_driftnetref01_Gcd k ps = some r_) : ExtCall Tryz.prog 95 ps r_ := by
 unfold x_driftnetref01_Gcd at h
 split at h <;> first | (cases h; done) | skip
 rename_i p_l0 p_l1
 split at h <;> first | (cases h; done) | skip
 rename_i l0 q_l0
 split at h <;> first | (cases h; done) | skip
 rename_i l1 q_l1
 split at h <;> first | (cases h; done) | skip
 rename_i r1 r2 hf
 cases h
 intro F w vs hF hl hr
 obtain ⟨u0, u1, rfl⟩ := two_args hl
 obtain ⟨A0, c0, rfl, C_l0, R_l0, V_l0⟩ := row_in q_l0 (hr 0 _ rfl)
 obtain ⟨A1, c1, rfl, C_l1, R_l1, V_l1⟩ := row_in q_l1 (hr 1 _ rfl)
 refine (driftnetref01_Gcd.calls k A0 c0 l0 A1 c1 l1 r1 r2 w R_l0 C_l0 R_l1 C_l1 hf).mono ?_
 rintro e w' ⟨v0_, rfl, K_v0_, hB⟩
 obtain ⟨D_v0_, E_v0_, M_v0_⟩ := row_out K_v0_
 refine ⟨_, (fun b o => F b o ∨ D_v0_ b o), rfl, (tup_mk2 (M_v0_ _ (fun _ _ h => .inr h)) (.int _ _)), hB, fun _ _ h => .inl h, fun b o h => ?_⟩
 rcases h with h | h
 ·exact .inl h
 ·exact .inr (E_v0_ _ _ h)
def x_driftnetref01_Div (k : Nat) : List PV → Option PV
 | [p_l0, p_l1] =>
  (match rowOf .u32 p_l0 with | none => none | some l0 => (match rowOf .u32 p_l1 with | none => none | some l1 => (match driftnetref01_Div.f k l0 l1 with | none => none | some (r1, r2, r3) => some (.tup [row .u32 r1, row .u32 r2, .int .i64 r3]))))
 | _ => none
theorem x_driftnetref01_Div_call {k : Nat} {ps : List PV} {r_ : PV} (h : x_driftnetref01_Div k ps = some r_) : ExtCall Tryz.prog 96 ps r_ := by
 unfold x_driftnetref01_Div at h
 split at h <;> first | (cases h; done) | skip
 rename_i p_l0 p_l1
 split at h <;> first | (cases h; done) | skip
 rename_i l0 q_l0
 split at h <;> first | (cases h; done) | skip
 rename_i l1 q_l1
 split at h <;> first | (cases h; done) | skip
 rename_i r1 r2 r3 hf
 cases h
 intro F w vs hF hl hr
 obtain ⟨u0, u1, rfl⟩ := two_args hl
 obtain ⟨A0, c0, rfl, C_l0, R_l0, V_l0⟩ := row_in q_l0 (hr 0 _ rfl)
 obtain ⟨A1, c1, rfl, C_l1, R_l1, V_l1⟩ := row_in q_l1 (hr 1 _ rfl)
 refine (driftnetref01_Div.calls k A0 c0 l0 A1 c1 l1 r1 r2 r3 w R_l0 C_l0 R_l1 C_l1 hf).mono ?_
 rintro e w' ⟨v0_, v1_, rfl, K_v0_, K_v1_, hB⟩
 obtain ⟨D_v0_, E_v0_, M_v0_⟩ := row_out K_v0_
 obtain ⟨D_v1_, E_v1_, M_v1_⟩ := row_out K_v1_
 refine ⟨_, (fun b o => F b o ∨ D_v0_ b o ∨ D_v1_ b o), rfl, (tup_mk3 (M_v0_ _ (fun _ _ h => .inr (.inl h))) (M_v1_ _ (fun _ _ h => .inr (.inr h))) (.int _ _)), hB, fun _ _ h => .inl h, fun b o h => ?_⟩
 rcases h with h | h | h
 ·exact .inl h
 ·exact .inr (E_v0_ _ _ h)
 ·exact .inr (E_v1_ _ _ h)
def x_driftnetref01_Check (_k : Nat) : List PV → Option PV
 | [p_l0] =>
  (match rowOf .u32 p_l0 with | none => none | some l0 => (match driftnetref01_Check.f l0 with | none => none | some r => some (.int .i64 r)))
 | _ => none
theorem x_driftnetref01_Check_call {k : Nat} {ps : List PV} {r_ : PV} (h : x_driftnetref01_Check k ps = some r_) : ExtCall Tryz.prog 65 ps r_ := by
 unfold x_driftnetref01_Check at h
 split at h <;> first | (cases h; done) | skip
 rename_i p_l0
 split at h <;> first | (cases h; done) | skip
 rename_i l0 q_l0
 split at h <;> first | (cases h; done) | skip
 rename_i r hf
 cases h
 intro F w vs hF hl hr
 obtain ⟨u0, rfl⟩ := one_arg hl
 obtain ⟨A0, c0, rfl, C_l0, R_l0, V_l0⟩ := row_in q_l0 (hr 0 _ rfl)
 refine (driftnetref01_Check.calls A0 c0 l0 r w R_l0 C_l0 hf).mono ?_
 rintro e w' ⟨rfl, hB⟩
 replace hB := drawn_below hB
 refine ⟨_, (fun b o => F b o), rfl, (.int _ _), hB, fun _ _ h => h, fun b o h => ?_⟩
 exact .inl h
def x_driftnetref01_Read (k : Nat) : List PV → Option PV
 | [.str a0] =>
  (match driftnetref01_Read.f k (bytes a0) with | none => none | some (r1, r2) => some (.tup [row .u32 r1, .int .i64 r2]))
 | _ => none
theorem x_driftnetref01_Read_call {k : Nat} {ps : List PV} {r_ : PV} (h : x_driftnetref01_Read k ps = some r_) : ExtCall Tryz.prog 62 ps r_ := by
 unfold x_driftnetref01_Read at h
 split at h <;> first | (cases h; done) | skip
 rename_i a0
 split at h <;> first | (cases h; done) | skip
 rename_i r1 r2 hf
 cases h
 intro F w vs hF hl hr
 obtain ⟨u0, rfl⟩ := one_arg hl
 cases str_in (hr 0 _ rfl)
 refine (driftnetref01_Read.calls k (bytes a0) r1 r2 w hf).mono ?_
 rintro e w' ⟨v0_, rfl, K_v0_, hB⟩
 obtain ⟨D_v0_, E_v0_, M_v0_⟩ := row_out K_v0_
 refine ⟨_, (fun b o => F b o ∨ D_v0_ b o), rfl, (tup_mk2 (M_v0_ _ (fun _ _ h => .inr h)) (.int _ _)), hB, fun _ _ h => .inl h, fun b o h => ?_⟩
 rcases h with h | h
 ·exact .inl h
 ·exact .inr (E_v0_ _ _ h)
def x_driftnetref01_Text (k : Nat) : List PV → Option PV
 | [p_l0] =>
  (match rowOf .u32 p_l0 with | none => none | some l0 => (match driftnetref01_Text.f k l0 with | none => none | some (r1, r2) => some (.tup [strP r1, .int .i64 r2])))
 | _ => none
theorem x_driftnetref01_Text_call {k : Nat} {ps : List PV} {r_ : PV} (h : x_driftnetref01_Text k ps = some r_) : ExtCall Tryz.prog 55 ps r_ := by
 unfold x_driftnetref01_Text at h
 split at h <;> first | (cases h; done) | skip
 rename_i p_l0
 split at h <;> first | (cases h; done) | skip
 rename_i l0 q_l0
 split at h <;> first | (cases h; done) | skip
 rename_i r1 r2 hf
 cases h
 intro F w vs hF hl hr
 obtain ⟨u0, rfl⟩ := one_arg hl
 obtain ⟨A0, c0, rfl, C_l0, R_l0, V_l0⟩ := row_in q_l0 (hr 0 _ rfl)
 refine (driftnetref01_Text.calls k (fun _ => True) A0 c0 l0 r1 r2 w (V_l0 30 _ _ (fun _ => trivial)) hf).mono ?_
 rintro e w' ⟨rfl, hB⟩
 refine ⟨_, (fun b o => F b o), rfl, (tup_mk2 (str_out _) (.int _ _)), hB, fun _ _ h => h, fun b o h => ?_⟩
 exact .inl h
def x_driftnetref02_same (k : Nat) : List PV → Option PV
 | [p_l0, p_l1] =>
  (match rowOf .u32 p_l0 with | none => none | some l0 => (match rowOf .u32 p_l1 with | none => none | some l1 => (match driftnetref02_same.f k l0 l1 with | none => none | some r => some (.bool r))))
 | _ => none
theorem x_driftnetref02_same_call {k : Nat} {ps : List PV} {r_ : PV} (h : x_driftnetref02_same k ps = some r_) : ExtCall Tryz.prog 48 ps r_ := by
 unfold x_driftnetref02_same at h
 split at h <;> first | (cases h; done) | skip
 rename_i p_l0 p_l1
 split at h <;> first | (cases h; done) | skip
 rename_i l0 q_l0
 split at h <;> first | (cases h; done) | skip
 rename_i l1 q_l1
 split at h <;> first | (cases h; done) | skip
 rename_i r hf
 cases h
 intro F w vs hF hl hr
 obtain ⟨u0, u1, rfl⟩ := two_args hl
 obtain ⟨A0, c0, rfl, C_l0, R_l0, V_l0⟩ := row_in q_l0 (hr 0 _ rfl)
 obtain ⟨A1, c1, rfl, C_l1, R_l1, V_l1⟩ := row_in q_l1 (hr 1 _ rfl)
 refine (driftnetref02_same.calls k A0 c0 l0 A1 c1 l1 r w R_l0 C_l0 R_l1 C_l1 hf).mono ?_
 rintro e w' ⟨rfl, hB⟩
 replace hB := drawn_below hB
 refine ⟨_, (fun b o => F b o), rfl, (.bool _), hB, fun _ _ h => h, fun b o h => ?_⟩
 exact .inl h
def x_driftnetref02_cut (k : Nat) : List PV → Option PV
 | [.str a0] =>
  (match driftnetref02_cut.f k (bytes a0) with | none => none | some (r1, r2, r3) => some (.tup [strP r1, strP r2, .bool r3]))
 | _ => none
theorem x_driftnetref02_cut_call {k : Nat} {ps : List PV} {r_ : PV} (h : x_driftnetref02_cut k ps = some r_) : ExtCall Tryz.prog 61 ps r_ := by
 unfold x_driftnetref02_cut at h
 split at h <;> first | (cases h; done) | skip
 rename_i a0
 split at h <;> first | (cases h; done) | skip
 rename_i r1 r2 r3 hf
 cases h
 intro F w vs hF hl hr
 obtain ⟨u0, rfl⟩ := one_arg hl
 cases str_in (hr 0 _ rfl)
 refine (driftnetref02_cut.calls k (bytes a0) r1 r2 r3 w hf).mono ?_
 rintro e w' ⟨rfl, hB⟩
 replace hB := drawn_below hB
 refine ⟨_, (fun b o => F b o), rfl, (tup_mk3 (str_out _) (str_out _) (.bool _)), hB, fun _ _ h => h, fun b o h => ?_⟩
 exact .inl h
def dom : FuncId → Bool := fun f => f == 60 || f == 67 || f == 68 || f == 76 || f == 75 || f == 77 || f == 73 || f == 59 || f == 52 || f == 53 || f == 58 || f == 57 || f == 95 || f == 96 || f == 65 || f == 62 || f == 55 || f == 48 || f == 61
def ext (k : Nat) (f : FuncId) (ps : List PV) : Option PV :=
 if f = 60 then x_nat_Gcd k ps else
 if f = 67 then x_nat_Div k ps else
 if f = 68 then x_nat_Add k ps else
 if f = 76 then x_nat_Sub k ps else
 if f = 75 then x_nat_Cmp k ps else
 if f = 77 then x_nat_Mul k ps else
 if f = 73 then x_nat_Of k ps else
 if f = 59 then x_nat_Read k ps else
 if f = 52 then x_nat_Text k ps else
 if f = 53 then x_slices_Equal_uint32_uint32 k ps else
 if f = 58 then x_strings_Cut k ps else
 if f = 57 then x_strings_CutPrefix k ps else
 if f = 95 then x_driftnetref01_Gcd k ps else
 if f = 96 then x_driftnetref01_Div k ps else
 if f = 65 then x_driftnetref01_Check k ps else
 if f = 62 then x_driftnetref01_Read k ps else
 if f = 55 then x_driftnetref01_Text k ps else
 if f = 48 then x_driftnetref02_same k ps else
 if f = 61 then x_driftnetref02_cut k ps else none
theorem ext_none : ∀ f, dom f = false → ∀ k ps, ext k f ps = none := by
 intro f h k ps
 unfold ext
 rw [if_neg (fun e : f = 60 => by subst e; exact absurd h (by decide))]
 rw [if_neg (fun e : f = 67 => by subst e; exact absurd h (by decide))]
 rw [if_neg (fun e : f = 68 => by subst e; exact absurd h (by decide))]
 rw [if_neg (fun e : f = 76 => by subst e; exact absurd h (by decide))]
 rw [if_neg (fun e : f = 75 => by subst e; exact absurd h (by decide))]
 rw [if_neg (fun e : f = 77 => by subst e; exact absurd h (by decide))]
 rw [if_neg (fun e : f = 73 => by subst e; exact absurd h (by decide))]
 rw [if_neg (fun e : f = 59 => by subst e; exact absurd h (by decide))]
 rw [if_neg (fun e : f = 52 => by subst e; exact absurd h (by decide))]
 rw [if_neg (fun e : f = 53 => by subst e; exact absurd h (by decide))]
 rw [if_neg (fun e : f = 58 => by subst e; exact absurd h (by decide))]
 rw [if_neg (fun e : f = 57 => by subst e; exact absurd h (by decide))]
 rw [if_neg (fun e : f = 95 => by subst e; exact absurd h (by decide))]
 rw [if_neg (fun e : f = 96 => by subst e; exact absurd h (by decide))]
 rw [if_neg (fun e : f = 65 => by subst e; exact absurd h (by decide))]
 rw [if_neg (fun e : f = 62 => by subst e; exact absurd h (by decide))]
 rw [if_neg (fun e : f = 55 => by subst e; exact absurd h (by decide))]
 rw [if_neg (fun e : f = 48 => by subst e; exact absurd h (by decide))]
 rw [if_neg (fun e : f = 61 => by subst e; exact absurd h (by decide))]
theorem ext_ok : ExtOk Tryz.prog ext := by
 intro k f ps r h
 unfold ext at h
 by_cases e : f = 60
 ·rw [if_pos e] at h; subst e; exact ⟨fnThere (by kernel_rfl), x_nat_Gcd_call h⟩
 rw [if_neg e] at h; clear e
 by_cases e : f = 67
 ·rw [if_pos e] at h; subst e; exact ⟨fnThere (by kernel_rfl), x_nat_Div_call h⟩
 rw [if_neg e] at h; clear e
 by_cases e : f = 68
 ·rw [if_pos e] at h; subst e; exact ⟨fnThere (by kernel_rfl), x_nat_Add_call h⟩
 rw [if_neg e] at h; clear e
 by_cases e : f = 76
 ·rw [if_pos e] at h; subst e; exact ⟨fnThere (by kernel_rfl), x_nat_Sub_call h⟩
 rw [if_neg e] at h; clear e
 by_cases e : f = 75
 ·rw [if_pos e] at h; subst e; exact ⟨fnThere (by kernel_rfl), x_nat_Cmp_call h⟩
 rw [if_neg e] at h; clear e
 by_cases e : f = 77
 ·rw [if_pos e] at h; subst e; exact ⟨fnThere (by kernel_rfl), x_nat_Mul_call h⟩
 rw [if_neg e] at h; clear e
 by_cases e : f = 73
 ·rw [if_pos e] at h; subst e; exact ⟨fnThere (by kernel_rfl), x_nat_Of_call h⟩
 rw [if_neg e] at h; clear e
 by_cases e : f = 59
 ·rw [if_pos e] at h; subst e; exact ⟨fnThere (by kernel_rfl), x_nat_Read_call h⟩
 rw [if_neg e] at h; clear e
 by_cases e : f = 52
 ·rw [if_pos e] at h; subst e; exact ⟨fnThere (by kernel_rfl), x_nat_Text_call h⟩
 rw [if_neg e] at h; clear e
 by_cases e : f = 53
 ·rw [if_pos e] at h; subst e; exact ⟨fnThere (by kernel_rfl), x_slices_Equal_uint32_uint32_call h⟩
 rw [if_neg e] at h; clear e
 by_cases e : f = 58
 ·rw [if_pos e] at h; subst e; exact ⟨fnThere (by kernel_rfl), x_strings_Cut_call h⟩
 rw [if_neg e] at h; clear e
 by_cases e : f = 57
 ·rw [if_pos e] at h; subst e; exact ⟨fnThere (by kernel_rfl), x_strings_CutPrefix_call h⟩
 rw [if_neg e] at h; clear e
 by_cases e : f = 95
 ·rw [if_pos e] at h; subst e; exact ⟨fnThere (by kernel_rfl), x_driftnetref01_Gcd_call h⟩
 rw [if_neg e] at h; clear e
 by_cases e : f = 96
 ·rw [if_pos e] at h; subst e; exact ⟨fnThere (by kernel_rfl), x_driftnetref01_Div_call h⟩
 rw [if_neg e] at h; clear e
 by_cases e : f = 65
 ·rw [if_pos e] at h; subst e; exact ⟨fnThere (by kernel_rfl), x_driftnetref01_Check_call h⟩
 rw [if_neg e] at h; clear e
 by_cases e : f = 62
 ·rw [if_pos e] at h; subst e; exact ⟨fnThere (by kernel_rfl), x_driftnetref01_Read_call h⟩
 rw [if_neg e] at h; clear e
 by_cases e : f = 55
 ·rw [if_pos e] at h; subst e; exact ⟨fnThere (by kernel_rfl), x_driftnetref01_Text_call h⟩
 rw [if_neg e] at h; clear e
 by_cases e : f = 48
 ·rw [if_pos e] at h; subst e; exact ⟨fnThere (by kernel_rfl), x_driftnetref02_same_call h⟩
 rw [if_neg e] at h; clear e
 by_cases e : f = 61
 ·rw [if_pos e] at h; subst e; exact ⟨fnThere (by kernel_rfl), x_driftnetref02_cut_call h⟩
 rw [if_neg e] at h; clear e
 cases h
theorem ext_nat_Gcd (k : Nat) (ps : List PV) : ext k 60 ps = x_nat_Gcd k ps := by kernel_rfl
theorem ext_nat_Div (k : Nat) (ps : List PV) : ext k 67 ps = x_nat_Div k ps := by kernel_rfl
theorem ext_nat_Add (k : Nat) (ps : List PV) : ext k 68 ps = x_nat_Add k ps := by kernel_rfl
theorem ext_nat_Sub (k : Nat) (ps : List PV) : ext k 76 ps = x_nat_Sub k ps := by kernel_rfl
theorem ext_nat_Cmp (k : Nat) (ps : List PV) : ext k 75 ps = x_nat_Cmp k ps := by kernel_rfl
theorem ext_nat_Mul (k : Nat) (ps : List PV) : ext k 77 ps = x_nat_Mul k ps := by kernel_rfl
theorem ext_nat_Of (k : Nat) (ps : List PV) : ext k 73 ps = x_nat_Of k ps := by kernel_rfl
theorem ext_nat_Read (k : Nat) (ps : List PV) : ext k 59 ps = x_nat_Read k ps := by kernel_rfl
theorem ext_nat_Text (k : Nat) (ps : List PV) : ext k 52 ps = x_nat_Text k ps := by kernel_rfl
theorem ext_slices_Equal_uint32_uint32 (k : Nat) (ps : List PV) : ext k 53 ps = x_slices_Equal_uint32_uint32 k ps := by kernel_rfl
theorem ext_strings_Cut (k : Nat) (ps : List PV) : ext k 58 ps = x_strings_Cut k ps := by kernel_rfl
theorem ext_strings_CutPrefix (k : Nat) (ps : List PV) : ext k 57 ps = x_strings_CutPrefix k ps := by kernel_rfl
theorem ext_driftnetref01_Gcd (k : Nat) (ps : List PV) : ext k 95 ps = x_driftnetref01_Gcd k ps := by kernel_rfl
theorem ext_driftnetref01_Div (k : Nat) (ps : List PV) : ext k 96 ps = x_driftnetref01_Div k ps := by kernel_rfl
theorem ext_driftnetref01_Check (k : Nat) (ps : List PV) : ext k 65 ps = x_driftnetref01_Check k ps := by kernel_rfl
theorem ext_driftnetref01_Read (k : Nat) (ps : List PV) : ext k 62 ps = x_driftnetref01_Read k ps := by kernel_rfl
theorem ext_driftnetref01_Text (k : Nat) (ps : List PV) : ext k 55 ps = x_driftnetref01_Text k ps := by kernel_rfl
theorem ext_driftnetref02_same (k : Nat) (ps : List PV) : ext k 48 ps = x_driftnetref02_same k ps := by kernel_rfl
theorem ext_driftnetref02_cut (k : Nat) (ps : List PV) : ext k 61 ps = x_driftnetref02_cut k ps := by kernel_rfl
open Go Go.RowKit Go.Proofs.YtkjdpojbmkpkgaaGreatDoorW.PrintWords
abbrev g0 : Nat → Option (List PV) := fun _ => none
def Evc (f : FuncId) (ps : List PV) (r : PV) : Prop := ∃ K, ∀ k, K ≤ k → ∃ H', ev Tryz.prog g0 ext k f (ps.map .pv) [] = some (.pv r, H')
def Owed : Item → Prop
 | .call f ps r => Evc f ps r
 | .len t x n => lenA Tryz.prog t x = some n ∧ n ≤ 9223372036854775807
 | .cut t x l h m r => sliceA Tryz.prog t x l h m = some r
 | .test b v => b = v
 | .bin op t a b yc r => binA Tryz.prog op t a b yc = some r
 | .loop c s e s' => ∃ K, ∀ k, K ≤ k → codeA Tryz.prog g0 (ev Tryz.prog g0 ext k) k (.loop c) s = some (e, s')
theorem good_up {K K' : Nat} (h : K ≤ K') {i : Item} (hg : Good Tryz.prog g0 ext K i) : Good Tryz.prog g0 ext K' i := by
 cases i with
 | call f ps r => exact fun k hk => hg k (by omega)
 | loop c s e s' => exact fun k hk => hg k (by omega)
 | _ => exact hg
theorem owed_good : ∀ (L : List Item), (∀ i ∈ L, Owed i) → ∃ K, ∀ i ∈ L, Good Tryz.prog g0 ext K i
 | [], _ => ⟨0, fun _ h => by cases h⟩
 | i :: L, h => by
  obtain ⟨K, hK⟩ := owed_good L (fun j hj => h j (List.mem_cons_of_mem _ hj))
  have ⟨K2, hK2⟩ : ∃ K2, Good Tryz.prog g0 ext K2 i := by
   have := h i (List.mem_cons_self ..)
   cases i with
   | call f ps r => exact this
   | loop c s e s' => exact this
   | _ => exact ⟨0, this⟩
  refine ⟨max K K2, fun j hj => ?_⟩
  rcases List.mem_cons.1 hj with rfl | hj
  ·exact good_up (by omega) hK2
  ·exact good_up (by omega) (hK j hj)
theorem all?_pvs : ∀ ps : List PV, all? AV.pv? (ps.map .pv) = some ps
 | [] => rfl
 | p :: ps => by simp only [List.map_cons, all?, AV.pv?, all?_pvs ps]
theorem evc_ext {f : FuncId} {ps : List PV} {r : PV} (h : ∃ K, ∀ k, K ≤ k → ext k f ps = some r) : Evc f ps r := by
 obtain ⟨K, hK⟩ := h
 refine ⟨K + 1, fun k hk => ?_⟩
 obtain ⟨k, rfl⟩ : ∃ j, k = j + 1 := ⟨k - 1, by omega⟩
 refine ⟨[], ?_⟩
 simp only [ev]
 rw [all?_pvs]
 simp only [hK k (by omega)]
def ran : Option (AV × HS × SS) → Option (AV × SS)
 | some (r, _, q) => some (r, q)
 | none => none
theorem evc_script {known : FuncId → Bool} {fl : Flags} {n : Nat} {f : FuncId} {ps : List PV} {r : PV} {L : List Item} (h : ran (evS Tryz.prog g0 known fl dom n f (ps.map .pv) [] ⟨L, []⟩) = some (.pv r, ⟨[], L.reverse⟩)) (hg : ∀ i ∈ L, Owed i) : Evc f ps r := by
 obtain ⟨K, hK⟩ := owed_good L hg
 unfold ran at h
 split at h <;> first | (cases h; done) | skip
 rename_i H' q h2
 cases h
 replace h := h2
 refine ⟨K + n, fun k hk => ⟨H', ?_⟩⟩
 exact ((evS_sound (glob := g0) (known := known) (fl := fl) (K := K) ext_none n hk).1 _ _ _ _ _ _ _ h).2 (fun i hi => hK i (by simpa using hi))
theorem owed_nil : ∀ i ∈ ([] : List Item), Owed i := fun _ h => by cases h
theorem owed_cons {i : Item} {L : List Item} (h : Owed i) (hL : ∀ j ∈ L, Owed j) : ∀ j ∈ i :: L, Owed j := fun j hj => by
 rcases List.mem_cons.1 hj with rfl | hj
 ·exact h
 ·exact hL j hj
structure OI where
 i : Item
 h : Owed i
def oc {f : FuncId} {ps : List PV} {r : PV} (h : Evc f ps r) : OI := ⟨.call f ps r, h⟩
def oo {i : Item} (h : Owed i) : OI := ⟨i, h⟩
def pk {L : List Item} (h : ∀ i ∈ L, Owed i) : List OI := L.attach.map fun x => ⟨x.1, h x.1 x.2⟩
def ll (t : TypeId) (x : AV) (n : Nat) (h : (match lenA Tryz.prog t x with | some m => m == n && decide (n ≤ 9223372036854775807) | none => false) = true := by kernel_rfl) : OI :=
 ⟨.len t x n, by
  split at h
  ·rename_i m hm
   rw [Bool.and_eq_true, beq_iff_eq, decide_eq_true_eq] at h
   exact ⟨by rw [hm, h.1], h.2⟩
  ·cases h⟩
def bl (op : BinOp) (t : TypeId) (a b : AV) (yc : Bool) (r : AV) (h : binA Tryz.prog op t a b yc = some r := by kernel_rfl) : OI := ⟨.bin op t a b yc r, h⟩
theorem es {known : FuncId → Bool} {f : FuncId} {ps : List PV} {r : PV} (fl : Flags) (n : Nat) (L : List OI) (h : ran (evS Tryz.prog g0 known fl dom n f (ps.map .pv) [] ⟨L.map OI.i, []⟩) = some (.pv r, ⟨[], (L.map OI.i).reverse⟩)) : Evc f ps r :=
 evc_script h (fun i hi => by obtain ⟨x, _, rfl⟩ := List.mem_map.1 hi; exact x.h)
theorem prog_funcs : FuncsOk Tryz.prog := funcsOk_of (by kernel_rfl)
theorem prog_mixed : Tryz.prog.follows .mixedOrders = true := by kernel_rfl
theorem law_of {f : FuncId} {ps : List PV} (h : Evc f ps (.bool true)) {W : World} {vs : List Value} (hl : vs.length = ps.length) (hr : ∀ (j : Nat) (p : PV), ps[j]? = some p → Rep (fun b _ => b < W.heap.size) W p (vs.getD j Go.undef)) :
  Calls Tryz.prog f vs.toArray W fun e W' => e = .returned (.bool true) ∧ Below W.heap.size W W' := by
 obtain ⟨K, hK⟩ := h
 obtain ⟨H', h2⟩ := hK K (Nat.le_refl _)
 exact law_calls (glob := g0) ext_ok prog_mixed prog_funcs h2 hl hr (fun g cs h => by cases h)
open Go Go.RowKit Go.Proofs.YtkjdpojbmkpkgaaGreatDoorW.PrintWords Go.Proofs.YtkjdpojbmkpkgaaGreatDoorW.PrintLast Go.Proofs.YtkjdpojbmkpkgaaGreatDoorW.PrintMore Go.Proofs.YtkjdpojbmkpkgaaGreatDoor.M Go.Proofs.YtkjdpojbmkpkgaaGreatDoor.P Go.Proofs.YtkjdpojbmkpkgaaGreatDoor.E
def rowZ (l : List Int) : PV := row .u32 l
def rowL (n : Nat) : PV := rowZ (limbs n)
def e0 : PV := .int .i64 0
def nilR : PV := .sl (some false) 0 []
def rz (s : Bool) (a b : List Int) : PV := .agg [.bool s, rowZ a, rowZ b]
def rp (s : Bool) (n d : Nat) : PV := .agg [.bool s, rowL n, rowL d]
def zeroR : PV := .agg [.bool false, nilR, nilR]
def okP (p : PV) : PV := .tup [p, .int .i64 0]
def noP (e : Int) : PV := .tup [zeroR, .int .i64 e]
def intP (n : Int) : PV := .int .i64 n
def pairP (m n : Nat) : PV := .sl (some true) 1 [rowL m, rowL n]
theorem rowOf_Z {l : List Int} (h : l.length ≤ 1000) : rowOf .u32 (rowZ l) = some l := rowOf_row (Nat.le_trans h (by decide))
theorem k64 {n : Nat} (h : Lt 64 n) : Lt 1000 n := h.up (by decide)
theorem k1 {j n : Nat} (h : Lt j n) (hj : j ≤ 1000) : (limbs n).length ≤ 1000 := Nat.le_trans (len_l h) hj
theorem Gcd_p {p q : PV} {a b : List Int} (hp : rowOf .u32 p = some a) (hq : rowOf .u32 q = some b) (ha : okL a) (hb : okL b) : Evc 60 [p, q] (.tup [rowZ (gcdS a b).1, .int .i64 (gcdS a b).2]) := by
 refine evc_ext ?_
 obtain ⟨K, hK⟩ := Gcd_ev ha hb
 refine ⟨K, fun k hk => ?_⟩
 rw [ext_nat_Gcd]
 simp only [x_nat_Gcd, hp, hq, hK k hk]
 first | done | rfl
theorem Gcd_z {a b : List Int} (ha : okL a) (hb : okL b) (la : a.length ≤ 1000) (lb : b.length ≤ 1000) : Evc 60 [rowZ a, rowZ b] (.tup [rowZ (gcdS a b).1, .int .i64 (gcdS a b).2]) := Gcd_p (rowOf_Z la) (rowOf_Z lb) ha hb
theorem Add_p {p q : PV} {a b : List Int} (hp : rowOf .u32 p = some a) (hq : rowOf .u32 q = some b) (ha : okL a) (hb : okL b) : Evc 68 [p, q] (.tup [rowZ (addS a b).1, .int .i64 (addS a b).2]) := by
 refine evc_ext ?_
 obtain ⟨K, hK⟩ := Add_ev ha hb
 refine ⟨K, fun k hk => ?_⟩
 rw [ext_nat_Add]
 simp only [x_nat_Add, hp, hq, hK k hk]
 first | done | rfl
theorem Add_z {a b : List Int} (ha : okL a) (hb : okL b) (la : a.length ≤ 1000) (lb : b.length ≤ 1000) : Evc 68 [rowZ a, rowZ b] (.tup [rowZ (addS a b).1, .int .i64 (addS a b).2]) := Add_p (rowOf_Z la) (rowOf_Z lb) ha hb
theorem Mul_p {p q : PV} {a b : List Int} (hp : rowOf .u32 p = some a) (hq : rowOf .u32 q = some b) (ha : okL a) (hb : okL b) : Evc 77 [p, q] (.tup [rowZ (mulS a b).1, .int .i64 (mulS a b).2]) := by
 refine evc_ext ?_
 obtain ⟨K, hK⟩ := Mul_ev ha hb
 refine ⟨K, fun k hk => ?_⟩
 rw [ext_nat_Mul]
 simp only [x_nat_Mul, hp, hq, hK k hk]
 first | done | rfl
theorem Mul_z {a b : List Int} (ha : okL a) (hb : okL b) (la : a.length ≤ 1000) (lb : b.length ≤ 1000) : Evc 77 [rowZ a, rowZ b] (.tup [rowZ (mulS a b).1, .int .i64 (mulS a b).2]) := Mul_p (rowOf_Z la) (rowOf_Z lb) ha hb
theorem Sub_p {p q : PV} {a b : List Int} (hp : rowOf .u32 p = some a) (hq : rowOf .u32 q = some b) (ha : okL a) (hb : okL b) : Evc 76 [p, q] (.tup [rowZ (subS a b).1, .int .i64 (subS a b).2]) := by
 refine evc_ext ?_
 obtain ⟨K, hK⟩ := Sub_ev ha hb
 refine ⟨K, fun k hk => ?_⟩
 rw [ext_nat_Sub]
 simp only [x_nat_Sub, hp, hq, hK k hk]
 first | done | rfl
theorem Sub_z {a b : List Int} (ha : okL a) (hb : okL b) (la : a.length ≤ 1000) (lb : b.length ≤ 1000) : Evc 76 [rowZ a, rowZ b] (.tup [rowZ (subS a b).1, .int .i64 (subS a b).2]) := Sub_p (rowOf_Z la) (rowOf_Z lb) ha hb
theorem Div_p {p q : PV} {a b : List Int} (hp : rowOf .u32 p = some a) (hq : rowOf .u32 q = some b) (ha : okL a) (hb : okL b) : Evc 67 [p, q] (.tup [rowZ (divS a b).1, rowZ (divS a b).2.1, .int .i64 (divS a b).2.2]) := by
 refine evc_ext ?_
 obtain ⟨K, hK⟩ := Div_ev ha hb
 refine ⟨K, fun k hk => ?_⟩
 rw [ext_nat_Div]
 simp only [x_nat_Div, hp, hq, hK k hk]
 first | done | rfl
theorem Div_z {a b : List Int} (ha : okL a) (hb : okL b) (la : a.length ≤ 1000) (lb : b.length ≤ 1000) : Evc 67 [rowZ a, rowZ b] (.tup [rowZ (divS a b).1, rowZ (divS a b).2.1, .int .i64 (divS a b).2.2]) := Div_p (rowOf_Z la) (rowOf_Z lb) ha hb
theorem NCmp_p {p q : PV} {a b : List Int} (hp : rowOf .u32 p = some a) (hq : rowOf .u32 q = some b) (ha : okL a) (hb : okL b) : Evc 75 [p, q] (.int .i64 (cmpS a b)) := by
 refine evc_ext ?_
 obtain ⟨K, hK⟩ := Cmp_ev ha hb
 refine ⟨K, fun k hk => ?_⟩
 rw [ext_nat_Cmp]
 simp only [x_nat_Cmp, hp, hq, hK k hk]
 first | done | rfl
theorem NCmp_z {a b : List Int} (ha : okL a) (hb : okL b) (la : a.length ≤ 1000) (lb : b.length ≤ 1000) : Evc 75 [rowZ a, rowZ b] (.int .i64 (cmpS a b)) := NCmp_p (rowOf_Z la) (rowOf_Z lb) ha hb
theorem NText_z {a : List Int} (ha : okL a) (la : a.length ≤ 1000) : Evc 52 [rowZ a] (.tup [strP (textS a).1, .int .i64 (textS a).2]) := by
 refine evc_ext ?_
 obtain ⟨K, hK⟩ := Text_ev ha
 refine ⟨K, fun k hk => ?_⟩
 rw [ext_nat_Text]
 simp only [x_nat_Text, rowOf_Z la, hK k hk]
 first | done | rfl
theorem NOf_c (n : Nat) (h : n < 18446744073709551616) : Evc 73 [.int .u64 n] (rowL n) := by
 refine evc_ext ?_
 obtain ⟨K, hK⟩ := of_ev (n := (n : Int)) (by omega) (by omega)
 refine ⟨K, fun k hk => ?_⟩
 rw [ext_nat_Of]
 simp only [x_nat_Of, hK k hk, Int.toNat_natCast]
 rfl
theorem NRead_c (s : List UInt8) : Evc 59 [.str s] (.tup [row .u32 (readS s).1, .int .i64 (readS s).2]) := by
 refine evc_ext ?_
 obtain ⟨K, hK⟩ := Read_ev s
 refine ⟨K, fun k hk => ?_⟩
 rw [ext_nat_Read]
 have h := hK k hk
 simp only [x_nat_Read]
 show (match nat_Read.f k (str s) with | none => none | some (r1, r2) => some (PV.tup [row .u32 r1, PV.int .i64 r2])) = _
 rw [show nat_Read.f k (str s) = some (readS s) from h]
theorem rGcd_p {p q : PV} {a b : List Int} (hp : rowOf .u32 p = some a) (hq : rowOf .u32 q = some b) (ha : okL a) (hb : okL b) : Evc 95 [p, q] (.tup [rowZ (gcdS a b).1, .int .i64 (gcdS a b).2]) := by
 refine evc_ext ?_
 obtain ⟨K, hK⟩ := rGcd_ev ha hb
 refine ⟨K, fun k hk => ?_⟩
 rw [ext_driftnetref01_Gcd]
 simp only [x_driftnetref01_Gcd, hp, hq, hK k hk]
 first | done | rfl
theorem rGcd_z {a b : List Int} (ha : okL a) (hb : okL b) (la : a.length ≤ 1000) (lb : b.length ≤ 1000) : Evc 95 [rowZ a, rowZ b] (.tup [rowZ (gcdS a b).1, .int .i64 (gcdS a b).2]) := rGcd_p (rowOf_Z la) (rowOf_Z lb) ha hb
theorem rDiv_p {p q : PV} {a b : List Int} (hp : rowOf .u32 p = some a) (hq : rowOf .u32 q = some b) (ha : okL a) (hb : okL b) : Evc 96 [p, q] (.tup [rowZ (divS a b).1, rowZ (divS a b).2.1, .int .i64 (divS a b).2.2]) := by
 refine evc_ext ?_
 obtain ⟨K, hK⟩ := rDiv_ev ha hb
 refine ⟨K, fun k hk => ?_⟩
 rw [ext_driftnetref01_Div]
 simp only [x_driftnetref01_Div, hp, hq, hK k hk]
 first | done | rfl
theorem rDiv_z {a b : List Int} (ha : okL a) (hb : okL b) (la : a.length ≤ 1000) (lb : b.length ≤ 1000) : Evc 96 [rowZ a, rowZ b] (.tup [rowZ (divS a b).1, rowZ (divS a b).2.1, .int .i64 (divS a b).2.2]) := rDiv_p (rowOf_Z la) (rowOf_Z lb) ha hb
theorem rNText_z {a : List Int} (ha : okL a) (la : a.length ≤ 1000) : Evc 55 [rowZ a] (.tup [strP (textS a).1, .int .i64 (textS a).2]) := by
 refine evc_ext ?_
 obtain ⟨K, hK⟩ := rText_ev ha
 refine ⟨K, fun k hk => ?_⟩
 rw [ext_driftnetref01_Text]
 simp only [x_driftnetref01_Text, rowOf_Z la, hK k hk]
 first | done | rfl
theorem rNCheck_z {a : List Int} (la : a.length ≤ 1000) : Evc 65 [rowZ a] (.int .i64 (chk a)) := by
 refine evc_ext ⟨0, fun k _ => ?_⟩
 rw [ext_driftnetref01_Check]
 simp only [x_driftnetref01_Check, rowOf_Z la, check']
theorem rNRead_c (s : List UInt8) : Evc 62 [.str s] (.tup [row .u32 (readS s).1, .int .i64 (readS s).2]) := by
 refine evc_ext ?_
 obtain ⟨K, hK⟩ := rRead_ev s
 refine ⟨K, fun k hk => ?_⟩
 rw [ext_driftnetref01_Read]
 have h := hK k hk
 simp only [x_driftnetref01_Read]
 show (match driftnetref01_Read.f k (str s) with | none => none | some (r1, r2) => some (PV.tup [row .u32 r1, PV.int .i64 r2])) = _
 rw [show driftnetref01_Read.f k (str s) = some (readS s) from h]
theorem gcdS_l {m n : Nat} (hm : Lt 64 m) (hn : Lt 64 n) : gcdS (limbs m) (limbs n) = (limbs (Nat.gcd m n), 0) := by rw [gcdS, if_pos (chk2_l hm hn), z15, z15]
theorem addS_l {m n : Nat} (hm : Lt 64 m) (hn : Lt 64 n) : addS (limbs m) (limbs n) = (limbs (m + n), 0) := by rw [addS, if_pos (chk2_l hm hn), z15, z15]
theorem mulS_l {m n : Nat} (hm : Lt 64 m) (hn : Lt 64 n) : mulS (limbs m) (limbs n) = (limbs (m * n), 0) := by rw [mulS, if_pos (chk2_l hm hn), z15, z15]
theorem subS_l {m n : Nat} (hm : Lt 64 m) (hn : Lt 64 n) (h : n ≤ m) : subS (limbs m) (limbs n) = (limbs (m - n), 0) := by rw [subS, if_pos (chk2_l hm hn), z15, z15, if_neg (by omega)]
theorem divS_l {m n : Nat} (hm : Lt 64 m) (hn : Lt 64 n) (h : n ≠ 0) : divS (limbs m) (limbs n) = (limbs (m / n), limbs (m % n), 0) := by rw [divS, if_pos (chk2_l hm hn), z15, z15, if_neg (fun e => h (limbs_eq_nil.1 e))]
theorem cmpS_l {m n : Nat} (hm : Lt 64 m) (hn : Lt 64 n) : cmpS (limbs m) (limbs n) = cmpI m n := by rw [cmpS, if_pos (chk2_l hm hn), z15, z15]
theorem textS_l {m : Nat} (hm : Lt 64 m) : textS (limbs m) = (str (textL m), 0) := by rw [textS, if_pos (chk_l hm), z15]
theorem Gcd_c {m n : Nat} (hm : Lt 64 m) (hn : Lt 64 n) : Evc 60 [rowL m, rowL n] (okP (rowL (Nat.gcd m n))) := by
 have q := Gcd_z (okL_limbs m) (okL_limbs n) (k1 hm (by decide)) (k1 hn (by decide))
 rw [gcdS_l hm hn] at q
 exact q
theorem Add_c {m n : Nat} (hm : Lt 64 m) (hn : Lt 64 n) : Evc 68 [rowL m, rowL n] (okP (rowL (m + n))) := by
 have q := Add_z (okL_limbs m) (okL_limbs n) (k1 hm (by decide)) (k1 hn (by decide))
 rw [addS_l hm hn] at q
 exact q
theorem Mul_c {m n : Nat} (hm : Lt 64 m) (hn : Lt 64 n) : Evc 77 [rowL m, rowL n] (okP (rowL (m * n))) := by
 have q := Mul_z (okL_limbs m) (okL_limbs n) (k1 hm (by decide)) (k1 hn (by decide))
 rw [mulS_l hm hn] at q
 exact q
theorem Sub_c {m n : Nat} (hm : Lt 64 m) (hn : Lt 64 n) (h : n ≤ m) : Evc 76 [rowL m, rowL n] (okP (rowL (m - n))) := by
 have q := Sub_z (okL_limbs m) (okL_limbs n) (k1 hm (by decide)) (k1 hn (by decide))
 rw [subS_l hm hn h] at q
 exact q
theorem Div_c {m n : Nat} (hm : Lt 64 m) (hn : Lt 64 n) (h0 : n ≠ 0) : Evc 67 [rowL m, rowL n] (.tup [rowL (m / n), rowL (m % n), e0]) := by
 have q := Div_z (okL_limbs m) (okL_limbs n) (k1 hm (by decide)) (k1 hn (by decide))
 rw [divS_l hm hn h0] at q
 exact q
theorem NCmp_c {m n : Nat} (hm : Lt 64 m) (hn : Lt 64 n) {c : Int} (hc : cmpI m n = c) : Evc 75 [rowL m, rowL n] (intP c) := by
 have q := NCmp_z (okL_limbs m) (okL_limbs n) (k1 hm (by decide)) (k1 hn (by decide))
 rw [cmpS_l hm hn, hc] at q
 exact q
theorem NText_c {m : Nat} (hm : Lt 64 m) : Evc 52 [rowL m] (okP (.str (textL m))) := by
 have q := NText_z (okL_limbs m) (k1 hm (by decide))
 rw [textS_l hm] at q
 exact q
theorem rGcd_c {m n : Nat} (hm : Lt 64 m) (hn : Lt 64 n) : Evc 95 [rowL m, rowL n] (okP (rowL (Nat.gcd m n))) := by
 have q := rGcd_z (okL_limbs m) (okL_limbs n) (k1 hm (by decide)) (k1 hn (by decide))
 rw [gcdS_l hm hn] at q
 exact q
theorem rDiv_c {m n : Nat} (hm : Lt 64 m) (hn : Lt 64 n) (h0 : n ≠ 0) : Evc 96 [rowL m, rowL n] (.tup [rowL (m / n), rowL (m % n), e0]) := by
 have q := rDiv_z (okL_limbs m) (okL_limbs n) (k1 hm (by decide)) (k1 hn (by decide))
 rw [divS_l hm hn h0] at q
 exact q
theorem rNText_c {m : Nat} (hm : Lt 64 m) : Evc 55 [rowL m] (okP (.str (textL m))) := by
 have q := rNText_z (okL_limbs m) (k1 hm (by decide))
 rw [textS_l hm] at q
 exact q
theorem Equal_z {a b : List Int} (la : a.length ≤ 1000) (lb : b.length ≤ 1000) : Evc 53 [rowZ a, rowZ b] (.bool (decide (a = b))) := by
 refine evc_ext ?_
 obtain ⟨K, hK⟩ := equal_ev (a := a) (b := b) (Nat.lt_of_le_of_lt la (by decide))
 refine ⟨K, fun k hk => ?_⟩
 rw [ext_slices_Equal_uint32_uint32]
 simp only [x_slices_Equal_uint32_uint32, rowOf_Z la, rowOf_Z lb, hK k hk]
theorem rsame_p {p q : PV} {a b : List Int} (hp : rowOf .u32 p = some a) (hq : rowOf .u32 q = some b) (la : a.length ≤ 1000) : Evc 48 [p, q] (.bool (decide (a = b))) := by
 refine evc_ext ?_
 obtain ⟨K, hK⟩ := same_ev (a := a) (b := b) (Nat.lt_of_le_of_lt la (by decide))
 refine ⟨K, fun k hk => ?_⟩
 rw [ext_driftnetref02_same]
 simp only [x_driftnetref02_same, hp, hq, hK k hk]
def oneP : PV := .sl (some true) 1 [.int .u32 1]
theorem rowOf_oneP : rowOf .u32 oneP = some (limbs 1) := by
 rw [show limbs 1 = [1] from (canB_cons1 (x := 1) (by decide) (by decide)).symm]
 rfl
theorem rowOf_L {n : Nat} (h : Lt 1000 n) : rowOf .u32 (rowL n) = some (limbs n) := rowOf_Z (len_l h)
theorem limbs_dec {m n : Nat} : decide (limbs m = limbs n) = decide (m = n) := decide_eq_decide.2 ⟨limbs_inj, fun e => by rw [e]⟩
theorem Equal_c {m n : Nat} (hm : Lt 1000 m) (hn : Lt 1000 n) {b : Bool} (h : decide (m = n) = b) : Evc 53 [rowL m, rowL n] (.bool b) := by
 have q := Equal_z (len_l hm) (len_l hn)
 rw [limbs_dec, h] at q
 exact q
theorem Cut_c (s : List UInt8) (hs : s.length < 1000000) : Evc 58 [.str s, .str [47]] (.tup [.str (cutS s).1, .str (cutS s).2.1, .bool (cutS s).2.2]) := by
 refine evc_ext ⟨0, fun k _ => ?_⟩
 rw [ext_strings_Cut]
 simp only [x_strings_Cut]
 show (match strings_Cut.f (str s) (⟨#[47]⟩ : ByteArray) with | none => none | some (r1, r2, r3) => some (PV.tup [strP r1, strP r2, PV.bool r3])) = _
 rw [cut_f s hs]
 rfl
theorem rcut_c (s : List UInt8) (hs : s.length < 1000000) : Evc 61 [.str s] (.tup [.str (cutS s).1, .str (cutS s).2.1, .bool (cutS s).2.2]) := by
 refine evc_ext ?_
 obtain ⟨K, hK⟩ := rcut_ev s hs
 refine ⟨K, fun k hk => ?_⟩
 rw [ext_driftnetref02_cut]
 simp only [x_driftnetref02_cut]
 have h := hK k hk
 show (match driftnetref02_cut.f k (str s) with | none => none | some (r1, r2, r3) => some (PV.tup [strP r1, strP r2, PV.bool r3])) = _
 rw [show driftnetref02_cut.f k (str s) = _ from h]
 rfl
theorem CutPrefix_c (s : List UInt8) {t : List UInt8} {neg : Bool} (h : (if s.head? = some 45 then (s.tail, true) else (s, false)) = (t, neg)) : Evc 57 [.str s, .str [45]] (.tup [.str t, .bool neg]) := by
 refine evc_ext ⟨0, fun k _ => ?_⟩
 rw [ext_strings_CutPrefix]
 simp only [x_strings_CutPrefix]
 show (match strings_CutPrefix.f (str s) (⟨#[45]⟩ : ByteArray) with | none => none | some (r1, r2) => some (PV.tup [strP r1, PV.bool r2])) = _
 rw [cutPrefix_f]
 by_cases hh : s.head? = some 45
 ·rw [if_pos hh] at h ⊢
  cases h
  rfl
 ·rw [if_neg hh] at h ⊢
  cases h
  rfl
def known : FuncId → Bool := fun f => dom f || [3, 4, 5, 6, 7, 8, 9, 10, 11, 12, 13, 14, 15, 16, 17, 18, 19, 20, 21, 22, 23, 24, 25, 26, 27, 28, 29, 30, 31, 32, 33, 34, 35, 36, 37, 38, 40, 41, 42, 43, 44, 45, 46, 47, 48, 49, 50, 51, 54, 56, 61, 63, 69].contains f
def fl0 : Flags := { len := true, bin := fun _ t _ _ => t == 3 || t == 9 }
theorem ez {f : FuncId} {ps : List PV} {r : PV} (L : List OI) (h : ran (evS Tryz.prog g0 known fl0 dom 3 f (ps.map .pv) [] ⟨L.map OI.i, []⟩) = some (.pv r, ⟨[], (L.map OI.i).reverse⟩) := by kernel_rfl) : Evc f ps r := es fl0 3 L h
theorem ey {f : FuncId} {ps : List PV} {r : PV} (fl : Flags) (n : Nat) (L : List OI) (h : ran (evS Tryz.prog g0 known fl dom n f (ps.map .pv) [] ⟨L.map OI.i, []⟩) = some (.pv r, ⟨[], (L.map OI.i).reverse⟩) := by kernel_rfl) : Evc f ps r := es fl n L h
theorem bin_gtr {x y : Int} {b : Bool} (h : decide (x > y) = b) (yc : Bool := true) : Owed (.bin .gtr 3 (.pv (.int .i64 x)) (.pv (.int .i64 y)) yc (.pv (.bool b))) := by
 subst h
 show binA Tryz.prog .gtr 3 _ _ _ = _
 simp only [binA, intOp, ne_eq, not_true, if_false]
theorem bin_eql {x y : Int} {b : Bool} (h : (x == y) = b) (yc : Bool := true) : Owed (.bin .eql 3 (.pv (.int .i64 x)) (.pv (.int .i64 y)) yc (.pv (.bool b))) := by
 subst h
 show binA Tryz.prog .eql 3 _ _ _ = _
 simp only [binA, intOp, ne_eq, not_true, if_false]
theorem bin_cat {a b : List UInt8} (h : a.length + b.length ≤ 100000) (yc : Bool := true) : Owed (.bin .add 9 (.pv (.str a)) (.pv (.str b)) yc (.pv (.str (a ++ b)))) := by
 show binA Tryz.prog .add 9 _ _ _ = _
 simp only [binA, strOp]
 rw [if_pos (by omega)]
theorem bin_seq {a b : List UInt8} {c : Bool} (h : (a == b) = c) (yc : Bool := true) : Owed (.bin .eql 9 (.pv (.str a)) (.pv (.str b)) yc (.pv (.bool c))) := by
 subst h
 show binA Tryz.prog .eql 9 _ _ _ = _
 simp only [binA, strOp]
theorem und22 : Tryz.prog.underlying 22 = some (.slice 30) := by kernel_rfl
theorem lenZ {a : List Int} (h : a.length ≤ 1000) : Owed (.len 22 (.pv (rowZ a)) a.length) := by
 refine ⟨?_, Nat.le_trans h (by decide)⟩
 simp only [lenA, und22, AV.pure?, rowZ, row, List.length_map]
theorem lenL {n : Nat} (h : Lt 1000 n) : Owed (.len 22 (.pv (rowL n)) (limbs n).length) := lenZ (len_l h)
theorem und9 : Tryz.prog.underlying 9 = some .string := by kernel_rfl
theorem lenS {s : List UInt8} (h : s.length ≤ 1000000) : Owed (.len 9 (.pv (.str s)) s.length) := by
 refine ⟨?_, Nat.le_trans h (by decide)⟩
 simp only [lenA, und9]
theorem cut_tail {c : UInt8} {t : List UInt8} : Owed (.cut 9 (.pv (.str (c :: t))) (some 1) none none (.pv (.str t))) := by
 show sliceA Tryz.prog 9 _ _ _ _ = _
 simp only [sliceA, und9, cutB, Option.getD, List.length_cons]
 rw [if_pos (by omega)]
 simp
theorem bin_c45 {c : UInt8} {b : Bool} (h : decide (c = 45) = b) : Owed (.bin .eql 5 (.pv (.int .u8 ((c.toNat : Nat) : Int))) (.pv (.int .u8 45)) true (.pv (.bool b))) := by
 subst h
 show binA Tryz.prog .eql 5 _ _ _ = _
 simp only [binA, intOp, ne_eq, not_true, if_false, Option.some.injEq, AV.pv.injEq, PV.bool.injEq]
 rw [Bool.eq_iff_iff, beq_iff_eq, decide_eq_true_iff]
 constructor
 ·intro e
  apply UInt8.toNat_inj.1
  have : c.toNat = 45 := by omega
  rw [this]; rfl
 ·intro e; rw [e]; rfl
theorem g16f {n : Nat} (h : Lt 16 n) : decide ((((limbs n).length : Nat) : Int) > 16) = false := decide_eq_false (fun e => len16.1 e h)
theorem g16t {n : Nat} (h : ¬ Lt 16 n) : decide ((((limbs n).length : Nat) : Int) > 16) = true := decide_eq_true (len16.2 h)
theorem l0f {n : Nat} (h : n ≠ 0) : ((((limbs n).length : Nat) : Int) == 0) = false := beq_eq_false_iff_ne.2 fun e => h (limbs_eq_nil.1 (List.eq_nil_of_length_eq_zero (by omega)))
theorem l0t {n : Nat} (h : n = 0) : ((((limbs n).length : Nat) : Int) == 0) = true := by subst h; rw [limbs_zero]; rfl
theorem lt1 : Lt 1000 1 := lt_lit (by decide) (by decide)
theorem lt1' : Lt 64 1 := lt_lit (by decide) (by decide)
theorem one_c : Evc 54 [] (rowL 1) :=
 ez [oc (NOf_c 1 (by decide))]
theorem rgcd_p {p : PV} {m n : Nat} (hp : rowOf .u32 p = some (limbs n)) (hm : Lt 64 m) (hn : Lt 64 n) : Evc 63 [rowL m, p] (rowL (Nat.gcd m n)) := by
 have q := rGcd_p (rowOf_L (k64 hm)) hp (okL_limbs m) (okL_limbs n)
 rw [gcdS_l hm hn] at q
 exact ez [oc q]
theorem rdiv_p {p : PV} {m n : Nat} (hp : rowOf .u32 p = some (limbs m)) (hm : Lt 64 m) (hn : Lt 64 n) (h0 : n ≠ 0) : Evc 69 [p, rowL n] (.tup [rowL (m / n), rowL (m % n)]) := by
 have q := rDiv_p hp (rowOf_L (k64 hn)) (okL_limbs m) (okL_limbs n)
 rw [divS_l hm hn h0] at q
 exact ez [oc q]
theorem rgcd_c {m n : Nat} (hm : Lt 64 m) (hn : Lt 64 n) : Evc 63 [rowL m, rowL n] (rowL (Nat.gcd m n)) :=
 ez [oc (rGcd_c hm hn)]
theorem rdiv_c {m n : Nat} (hm : Lt 64 m) (hn : Lt 64 n) (h0 : n ≠ 0) : Evc 69 [rowL m, rowL n] (.tup [rowL (m / n), rowL (m % n)]) :=
 ez [oc (rDiv_c hm hn h0)]
def lenI (n : Nat) : Item := .len 22 (.pv (rowL n)) (limbs n).length
def gtrI (n : Nat) (m : Int) (b : Bool) : Item := .bin .gtr 3 (.pv (.int .i64 ((limbs n).length : Nat))) (.pv (.int .i64 m)) true (.pv (.bool b))
def eqlI (n : Nat) (b : Bool) : Item := .bin .eql 3 (.pv (.int .i64 ((limbs n).length : Nat))) (.pv (.int .i64 0)) true (.pv (.bool b))
theorem und24 : Tryz.prog.underlying 22 = some (.slice 30) := by kernel_rfl
theorem lenI_owed {n : Nat} (h : Lt 1000 n) : Owed (lenI n) := by
 refine ⟨?_, Nat.le_trans (len_l h) (by decide)⟩
 simp only [lenA, und24, AV.pure?, rowL, rowZ, row, List.length_map]
theorem gtrI_owed {n : Nat} {m : Int} {b : Bool} (h : decide (((limbs n).length : Int) > m) = b) : Owed (gtrI n m b) := by
 subst h
 show binA Tryz.prog .gtr 3 _ _ _ = _
 simp only [binA, intOp, ne_eq, not_true, if_false]
theorem eqlI_owed {n : Nat} {b : Bool} (h : (((limbs n).length : Int) == 0) = b) : Owed (eqlI n b) := by
 subst h
 show binA Tryz.prog .eql 3 _ _ _ = _
 simp only [binA, intOp, ne_eq, not_true, if_false]
theorem gt16 {n : Nat} (h : Lt 16 n) : Owed (gtrI n 16 false) := gtrI_owed (decide_eq_false (fun e => len16.1 e h))
theorem gt16t {n : Nat} (h : ¬ Lt 16 n) : Owed (gtrI n 16 true) := gtrI_owed (decide_eq_true (len16.2 h))
theorem eq0 {n : Nat} (h : n ≠ 0) : Owed (eqlI n false) := eqlI_owed (beq_eq_false_iff_ne.2 fun e => h (limbs_eq_nil.1 (List.eq_nil_of_length_eq_zero (by omega))))
theorem eq0t {n : Nat} (h : n = 0) : Owed (eqlI n true) := eqlI_owed (by subst h; rw [limbs_zero]; rfl)
theorem gt0 {n : Nat} : Owed (gtrI n 0 (decide (0 < n))) := gtrI_owed lenpos
theorem Check_c {s : Bool} {n d : Nat} (h : CanR s n d) : Evc 34 [rp s n d] e0 := by
 have hn : Lt 16 n := h.n16
 have hd : Lt 16 d := h.d16
 have gc : Evc 60 [rowL n, rowL d] (okP (rowL 1)) := by
  have := Gcd_c (hn.up (j := 64) (by decide)) (hd.up (j := 64) (by decide))
  rwa [h.g] at this
 cases s with
 | false =>
  refine evc_script (known := known) (fl := fl0) (n := 3) (L := [lenI n, gtrI n 16 false, lenI d, gtrI d 16 false, .call 60 [rowL n, rowL d] (okP (rowL 1)), lenI d, eqlI d false, .call 54 [] (rowL 1), .call 53 [rowL 1, rowL 1] (.bool true)]) (by kernel_rfl) ?_
  exact owed_cons (lenI_owed (hn.up (by decide))) (owed_cons (gt16 hn) (owed_cons (lenI_owed (hd.up (by decide))) (owed_cons (gt16 hd) (owed_cons gc (owed_cons (lenI_owed (hd.up (by decide))) (owed_cons (eq0 h.d0) (owed_cons one_c (owed_cons (Equal_c lt1 lt1 rfl) owed_nil))))))))
 | true =>
  refine evc_script (known := known) (fl := fl0) (n := 3) (L := [lenI n, gtrI n 16 false, lenI d, gtrI d 16 false, .call 60 [rowL n, rowL d] (okP (rowL 1)), lenI d, eqlI d false, lenI n, eqlI n false, .call 54 [] (rowL 1), .call 53 [rowL 1, rowL 1] (.bool true)]) (by kernel_rfl) ?_
  exact owed_cons (lenI_owed (hn.up (by decide))) (owed_cons (gt16 hn) (owed_cons (lenI_owed (hd.up (by decide))) (owed_cons (gt16 hd) (owed_cons gc (owed_cons (lenI_owed (hd.up (by decide))) (owed_cons (eq0 h.d0) (owed_cons (lenI_owed (hn.up (by decide))) (owed_cons (eq0 (h.neg rfl)) (owed_cons one_c (owed_cons (Equal_c lt1 lt1 rfl) owed_nil))))))))))
theorem both_c {s1 : Bool} {n1 d1 : Nat} (h1 : CanR s1 n1 d1) {s2 : Bool} {n2 d2 : Nat} (h2 : CanR s2 n2 d2) : Evc 40 [rp s1 n1 d1, rp s2 n2 d2] e0 :=
 ey {} 3 [oc (Check_c h1), oc (Check_c h2)]
theorem product_c {m n : Nat} (hm : Lt 64 m) (hn : Lt 64 n) : Evc 42 [pairP m n] (rowL (m * n)) := by
 refine evc_script (known := known) (fl := {}) (n := 9) (L := [.call 54 [] (rowL 1), .call 77 [rowL 1, rowL m] (okP (rowL m)), .call 77 [rowL m, rowL n] (okP (rowL (m * n)))]) (by kernel_rfl) ?_
 refine owed_cons one_c (owed_cons ?_ (owed_cons (Mul_c hm hn) owed_nil))
 have := Mul_c lt1' hm
 rwa [Nat.one_mul] at this
theorem sum_c (a : Bool) {m : Nat} (b : Bool) {n : Nat} (hm : Lt 64 m) (hn : Lt 64 n) : Evc 41 [.bool a, rowL m, .bool b, rowL n] (.tup [.bool (sumR a m b n).1, rowL (sumR a m b n).2]) := by
 unfold sumR
 by_cases hab : a = b
 ·rw [if_pos hab]
  subst hab
  cases a <;> exact ey {} 3 [oc (Add_c hm hn)]
 ·rw [if_neg hab]
  by_cases hl : m < n
  ·rw [if_pos hl]
   have hc : cmpI m n = -1 := if_pos hl
   cases a <;> cases b <;> first
    | exact absurd rfl hab
    | exact ey {} 3 [oc (NCmp_c hm hn hc), oc (Sub_c hn hm (Nat.le_of_lt hl))]
  ·rw [if_neg hl]
   by_cases he : n < m
   ·have hc : cmpI m n = 1 := by unfold cmpI; rw [if_neg hl, if_pos he]
    cases a <;> cases b <;> first
     | exact absurd rfl hab
     | exact ey {} 3 [oc (NCmp_c hm hn hc), ⟨.call 76 [rowL m, rowL n] (okP (rowL (m - n))), Sub_c hm hn (by omega)⟩]
   ·have hc : cmpI m n = 0 := by unfold cmpI; rw [if_neg hl, if_neg he]
    cases a <;> cases b <;> first
     | exact absurd rfl hab
     | exact ey {} 3 [oc (NCmp_c hm hn hc), ⟨.call 76 [rowL m, rowL n] (okP (rowL (m - n))), Sub_c hm hn (by omega)⟩]
def redP (s : Bool) (n d : Nat) : PV :=
 if n / Nat.gcd n d < 4294967296 ^ 16 ∧ d / Nat.gcd n d < 4294967296 ^ 16 then okP (rp (s && decide (0 < n / Nat.gcd n d)) (n / Nat.gcd n d) (d / Nat.gcd n d)) else .tup [zeroR, .int .i64 20]
theorem reduced_c (s : Bool) {n d : Nat} (hn : Lt 64 n) (hd : Lt 64 d) (h0 : d ≠ 0) : Evc 43 [.bool s, rowL n, rowL d] (redP s n d) := by
 have hg0 : Nat.gcd n d ≠ 0 := fun e => h0 (Nat.eq_zero_of_gcd_eq_zero_right e)
 have hg : Lt 64 (Nat.gcd n d) := hd.le (Nat.le_of_dvd (Nat.pos_of_ne_zero h0) (Nat.gcd_dvd_right n d))
 have a1 := Gcd_c hn hd
 have a2 := Div_c hn hg hg0
 have a3 := Div_c hd hg hg0
 unfold redP
 have l1 : Lt 64 (n / Nat.gcd n d) := hn.le (Nat.div_le_self _ _)
 have l2 : Lt 64 (d / Nat.gcd n d) := hd.le (Nat.div_le_self _ _)
 generalize n % Nat.gcd n d = r1 at *
 generalize d % Nat.gcd n d = r2 at *
 generalize n / Nat.gcd n d = n' at *
 generalize d / Nat.gcd n d = d' at *
 generalize Nat.gcd n d = g at *
 by_cases c1 : n' < 4294967296 ^ 16
 ·by_cases c2 : d' < 4294967296 ^ 16
  ·rw [if_pos ⟨c1, c2⟩]
   cases s with
   | false =>
    exact ez [oc a1, oc a2, oc a3, oo (lenI_owed (k64 l1)), oo (gt16 c1), oo (lenI_owed (k64 l2)), oo (gt16 c2)]
   | true =>
    exact ez [oc a1, oc a2, oc a3, oo (lenI_owed (k64 l1)), oo (gt16 c1), oo (lenI_owed (k64 l2)), oo (gt16 c2), oo (lenI_owed (k64 l1)), ⟨gtrI n' 0 (decide (0 < n')), gt0⟩]
  ·rw [if_neg (fun h => c2 h.2)]
   cases s <;> exact ez [oc a1, oc a2, oc a3, oo (lenI_owed (k64 l1)), oo (gt16 c1), oo (lenI_owed (k64 l2)), oo (gt16t c2)]
 ·rw [if_neg (fun h => c1 h.1)]
  cases s <;> exact ez [oc a1, oc a2, oc a3, oo (lenI_owed (k64 l1)), oo (gt16t c1)]
def ratP (q : Rat) : PV := rp (decide (q.num < 0)) q.num.natAbs q.den
def Fits (q : Rat) : Prop := q.num.natAbs < 4294967296 ^ 16 ∧ q.den < 4294967296 ^ 16
theorem Fits.can {q : Rat} (h : Fits q) : CanR (decide (q.num < 0)) q.num.natAbs q.den :=
 ⟨h.1, h.2, q.den_nz, q.reduced, fun h => by have := of_decide_eq_true h; omega⟩
def sg (s : Bool) (n : Nat) : Int := if s = true then -(n : Int) else n
theorem sg_num (z : Int) (d : Nat) : sg (decide (z < 0)) (z.natAbs * d) = z * d := by
 unfold sg
 by_cases h : z < 0
 ·rw [if_pos (decide_eq_true h)]
  push_cast
  rw [show ((z.natAbs : Nat) : Int) = -z by omega]
  grind
 ·rw [if_neg (by simpa using h)]
  push_cast
  rw [show ((z.natAbs : Nat) : Int) = z by omega]
theorem sg_not (s : Bool) (n : Nat) : sg (!s) n = - sg s n := by
 unfold sg
 cases s <;> simp
theorem sg_sumR (a : Bool) (m : Nat) (b : Bool) (n : Nat) : sg (sumR a m b n).1 (sumR a m b n).2 = sg a m + sg b n := by
 unfold sumR sg
 cases a <;> cases b <;> simp <;> (try split) <;> (try simp) <;> omega
theorem redP_rat {s : Bool} {n d : Nat} {q : Rat} (hd : d ≠ 0) (hq : mkRat (sg s n) d = q) (hf : Fits q) : redP s n d = okP (ratP q) := by
 have hg : Nat.gcd n d ≠ 0 := fun e => hd (Nat.eq_zero_of_gcd_eq_zero_right e)
 have hga : (sg s n).natAbs = n := by unfold sg; split <;> simp
 have hden : q.den = d / Nat.gcd n d := by rw [← hq, Rat.den_mkRat, if_neg hd, hga, Nat.gcd_comm]
 have hnum : q.num = sg s n / (Nat.gcd n d : Nat) := by rw [← hq, Rat.num_mkRat, if_neg hd, hga, Nat.gcd_comm]
 obtain ⟨m, hm⟩ := Nat.gcd_dvd_left n d
 have hdiv : n / Nat.gcd n d = m := by
  have := Nat.mul_div_cancel_left m (Nat.pos_of_ne_zero hg)
  rwa [← hm] at this
 have hnum2 : q.num = sg s m := by
  rw [hnum]
  have hgz : ((Nat.gcd n d : Nat) : Int) ≠ 0 := by omega
  unfold sg
  split
  ·rw [show (-(n : Int)) = (Nat.gcd n d : Nat) * (-(m : Int)) by
    have : (n : Int) = (Nat.gcd n d : Nat) * (m : Int) := by exact_mod_cast hm
    rw [Int.mul_neg, ← this]]
   exact Int.mul_ediv_cancel_left _ hgz
  ·rw [show (n : Int) = (Nat.gcd n d : Nat) * (m : Int) by exact_mod_cast hm]
   exact Int.mul_ediv_cancel_left _ hgz
 have hna : q.num.natAbs = m := by rw [hnum2]; unfold sg; split <;> simp
 unfold redP
 rw [hdiv, ← hden]
 rw [if_pos ⟨by rw [← hna]; exact hf.1, hf.2⟩]
 unfold ratP
 rw [hna]
 have hb : (s && decide (0 < m)) = decide (q.num < 0) := by
  rw [hnum2]
  unfold sg
  cases s <;> simp <;> omega
 rw [hb]
def cmpQ (p q : Rat) : Int := if p < q then -1 else if q < p then 1 else 0
theorem lt16 {n : Nat} (h : n < 4294967296 ^ 16) : Lt 16 n := h
theorem up64 {n : Nat} (h : n < 4294967296 ^ 16) : Lt 64 n := (lt16 h).up (by decide)
theorem up1000 {n : Nat} (h : n < 4294967296 ^ 16) : Lt 1000 n := (lt16 h).up (by decide)
theorem mul32 {m n : Nat} (hm : m < 4294967296 ^ 16) (hn : n < 4294967296 ^ 16) : Lt 32 (m * n) := (lt16 hm).mul (lt16 hn) (by decide)
theorem mul64 {m n : Nat} (hm : m < 4294967296 ^ 16) (hn : n < 4294967296 ^ 16) : Lt 64 (m * n) := (mul32 hm hn).up (by decide)
theorem sumR_lt' {a : Bool} {m : Nat} {b : Bool} {n : Nat} (hm : Lt 32 m) (hn : Lt 32 n) : Lt 64 (sumR a m b n).2 := by
 unfold sumR
 split
 ·exact (hm.add hn (j := 33) (by decide)).up (by decide)
 ·split
  ·exact (hn.le (Nat.sub_le _ _)).up (by decide)
  ·exact (hm.le (Nat.sub_le _ _)).up (by decide)
theorem Add_evc {p q : Rat} (hp : Fits p) (hq : Fits q) (hs : Fits (p + q)) : Evc 8 [ratP p, ratP q] (okP (ratP (p + q))) := by
 have hd : p.den * q.den ≠ 0 := Nat.mul_ne_zero p.den_nz q.den_nz
 have r := reduced_c (sumR (decide (p.num < 0)) (p.num.natAbs * q.den) (decide (q.num < 0)) (q.num.natAbs * p.den)).1 (sumR_lt' (a := decide (p.num < 0)) (b := decide (q.num < 0)) (mul32 hp.1 hq.2) (mul32 hq.1 hp.2)) (mul64 hp.2 hq.2) hd
 rw [redP_rat (q := p + q) hd (by rw [sg_sumR, sg_num, sg_num, Rat.add_def']) hs] at r
 have b := both_c hp.can hq.can
 have s := sum_c (decide (p.num < 0)) (decide (q.num < 0)) (mul64 hp.1 hq.2) (mul64 hq.1 hp.2)
 generalize sumR (decide (p.num < 0)) (p.num.natAbs * q.den) (decide (q.num < 0)) (q.num.natAbs * p.den) = S at *
 exact ey {} 3 [oc b, oc (product_c (up64 hp.1) (up64 hq.2)), oc (product_c (up64 hq.1) (up64 hp.2)), oc s, oc (product_c (up64 hp.2) (up64 hq.2)), oc r]
theorem Sub_evc {p q : Rat} (hp : Fits p) (hq : Fits q) (hs : Fits (p - q)) : Evc 11 [ratP p, ratP q] (okP (ratP (p - q))) := by
 have hd : p.den * q.den ≠ 0 := Nat.mul_ne_zero p.den_nz q.den_nz
 have r := reduced_c (sumR (decide (p.num < 0)) (p.num.natAbs * q.den) (!decide (q.num < 0)) (q.num.natAbs * p.den)).1 (sumR_lt' (a := decide (p.num < 0)) (b := !decide (q.num < 0)) (mul32 hp.1 hq.2) (mul32 hq.1 hp.2)) (mul64 hp.2 hq.2) hd
 rw [redP_rat (q := p - q) hd (by rw [sg_sumR, sg_not, sg_num, sg_num, Rat.sub_def', Int.sub_eq_add_neg]) hs] at r
 have b := both_c hp.can hq.can
 have s := sum_c (decide (p.num < 0)) (!decide (q.num < 0)) (mul64 hp.1 hq.2) (mul64 hq.1 hp.2)
 generalize sumR (decide (p.num < 0)) (p.num.natAbs * q.den) (!decide (q.num < 0)) (q.num.natAbs * p.den) = S at *
 exact ey {} 3 [oc b, oc (product_c (up64 hp.1) (up64 hq.2)), oc (product_c (up64 hq.1) (up64 hp.2)), oc s, oc (product_c (up64 hp.2) (up64 hq.2)), oc r]
theorem sg_mul (z y : Int) : sg (decide (z < 0) != decide (y < 0)) (z.natAbs * y.natAbs) = z * y := by
 unfold sg
 have hz : ((z.natAbs : Nat) : Int) = if z < 0 then -z else z := by split <;> omega
 have hy : ((y.natAbs : Nat) : Int) = if y < 0 then -y else y := by split <;> omega
 push_cast
 rw [hz, hy]
 by_cases h : z < 0 <;> by_cases h2 : y < 0 <;> simp [h, h2] <;> grind
theorem Mul_evc {p q : Rat} (hp : Fits p) (hq : Fits q) (hs : Fits (p * q)) : Evc 13 [ratP p, ratP q] (okP (ratP (p * q))) := by
 have hd : p.den * q.den ≠ 0 := Nat.mul_ne_zero p.den_nz q.den_nz
 have r := reduced_c (decide (p.num < 0) != decide (q.num < 0)) (mul64 hp.1 hq.1) (mul64 hp.2 hq.2) hd
 rw [redP_rat (q := p * q) hd (by rw [sg_mul, Rat.mul_def']) hs] at r
 exact ey {} 3 [oc (both_c hp.can hq.can), oc (product_c (up64 hp.1) (up64 hq.1)), oc (product_c (up64 hp.2) (up64 hq.2)), oc r]
theorem div_mk {p q : Rat} (h : q.num ≠ 0) : mkRat (sg (decide (p.num < 0) != decide (q.num < 0)) (p.num.natAbs * q.den)) (p.den * q.num.natAbs) = p / q := by
 have hq : q ≠ 0 := fun e => h (by rw [e]; rfl)
 have hx : mkRat (sg (decide (p.num < 0) != decide (q.num < 0)) (p.num.natAbs * q.den)) (p.den * q.num.natAbs) * q = p := by
  conv => lhs; arg 2; rw [← Rat.mkRat_self q]
  conv => rhs; rw [← Rat.mkRat_self p]
  rw [Rat.mkRat_mul_mkRat, Rat.mkRat_eq_iff (Nat.mul_ne_zero (Nat.mul_ne_zero p.den_nz (by omega)) q.den_nz) p.den_nz]
  have hz : ((p.num.natAbs : Nat) : Int) = if p.num < 0 then -p.num else p.num := by split <;> omega
  have hy : ((q.num.natAbs : Nat) : Int) = if q.num < 0 then -q.num else q.num := by split <;> omega
  unfold sg
  push_cast
  rw [hz, hy]
  by_cases h1 : p.num < 0 <;> by_cases h2 : q.num < 0 <;> simp [h1, h2] <;> grind
 conv => rhs; rw [← hx]
 rw [Rat.mul_div_cancel hq]
theorem Div_evc {p q : Rat} (hp : Fits p) (hq : Fits q) (h0 : q ≠ 0) (hs : Fits (p / q)) : Evc 15 [ratP p, ratP q] (okP (ratP (p / q))) := by
 have hn : q.num ≠ 0 := fun e => h0 (Rat.num_eq_zero.1 e)
 have hd : p.den * q.num.natAbs ≠ 0 := Nat.mul_ne_zero p.den_nz (by omega)
 have r := reduced_c (decide (p.num < 0) != decide (q.num < 0)) (mul64 hp.1 hq.2) (mul64 hp.2 hq.1) hd
 rw [redP_rat (q := p / q) hd (div_mk hn) hs] at r
 exact ez [oc (both_c hp.can hq.can), oo (lenI_owed (up1000 hq.1)), ⟨eqlI q.num.natAbs false, eq0 (by omega)⟩, oc (product_c (up64 hp.1) (up64 hq.2)), oc (product_c (up64 hp.2) (up64 hq.1)), oc r]
theorem Cmp_evc {p q : Rat} (hp : Fits p) (hq : Fits q) : Evc 17 [ratP p, ratP q] (okP (intP (cmpQ p q))) := by
 have hs : sg (sumR (decide (p.num < 0)) (p.num.natAbs * q.den) (!decide (q.num < 0)) (q.num.natAbs * p.den)).1 (sumR (decide (p.num < 0)) (p.num.natAbs * q.den) (!decide (q.num < 0)) (q.num.natAbs * p.den)).2 = p.num * q.den - q.num * p.den := by
  rw [sg_sumR, sg_not, sg_num, sg_num, Int.sub_eq_add_neg]
 have e : (if (sumR (decide (p.num < 0)) (p.num.natAbs * q.den) (!decide (q.num < 0)) (q.num.natAbs * p.den)).2 = 0 then (0 : Int) else if (sumR (decide (p.num < 0)) (p.num.natAbs * q.den) (!decide (q.num < 0)) (q.num.natAbs * p.den)).1 = true then (-1) else 1) = cmpQ p q := by
  unfold cmpQ
  simp only [Rat.lt_iff]
  generalize p.num * (q.den : Int) = X at hs ⊢
  generalize q.num * (p.den : Int) = Y at hs ⊢
  unfold sg at hs
  split
  ·rename_i h0
   rw [h0] at hs
   have : X = Y := by split at hs <;> omega
   rw [if_neg (by omega), if_neg (by omega)]
  ·split
   ·rename_i h1
    rw [if_pos h1] at hs
    rw [if_pos (by omega)]
   ·rename_i h1
    rw [if_neg h1] at hs
    rw [if_neg (by omega), if_pos (by omega)]
 rw [← e]
 clear e hs
 have l := sumR_lt' (a := decide (p.num < 0)) (b := !decide (q.num < 0)) (mul32 hp.1 hq.2) (mul32 hq.1 hp.2)
 have s := sum_c (decide (p.num < 0)) (!decide (q.num < 0)) (mul64 hp.1 hq.2) (mul64 hq.1 hp.2)
 generalize sumR (decide (p.num < 0)) (p.num.natAbs * q.den) (!decide (q.num < 0)) (q.num.natAbs * p.den) = S at *
 obtain ⟨b, m⟩ := S
 by_cases h0 : m = 0
 ·simp only [if_pos h0]
  exact ez [oc (both_c hp.can hq.can), oc (product_c (up64 hp.1) (up64 hq.2)), oc (product_c (up64 hq.1) (up64 hp.2)), oc s, ⟨lenI m, lenI_owed (l.up (by decide))⟩, oo (eq0t h0)]
 ·simp only [if_neg h0]
  cases b with
  | false =>
   exact ez [oc (both_c hp.can hq.can), oc (product_c (up64 hp.1) (up64 hq.2)), oc (product_c (up64 hq.1) (up64 hp.2)), oc s, ⟨lenI m, lenI_owed (l.up (by decide))⟩, oo (eq0 h0)]
  | true =>
   exact ez [oc (both_c hp.can hq.can), oc (product_c (up64 hp.1) (up64 hq.2)), oc (product_c (up64 hq.1) (up64 hp.2)), oc s, ⟨lenI m, lenI_owed (l.up (by decide))⟩, oo (eq0 h0)]
theorem Floor_evc {p : Rat} (hp : Fits p) (hs : Fits (p.floor : Rat)) : Evc 29 [ratP p] (okP (ratP (p.floor : Rat))) := by
 have hd := p.den_nz
 have e : mkRat (sg (decide (p.num < 0)) (if decide (p.num < 0) = true ∧ p.num.natAbs % p.den ≠ 0 then p.num.natAbs / p.den + 1 else p.num.natAbs / p.den)) 1 = (p.floor : Rat) := by
  have : sg (decide (p.num < 0)) (if decide (p.num < 0) = true ∧ p.num.natAbs % p.den ≠ 0 then p.num.natAbs / p.den + 1 else p.num.natAbs / p.den) = p.floor := by
   rw [Rat.floor_def]
   have hdm := Nat.div_add_mod p.num.natAbs p.den
   have hml := Nat.mod_lt p.num.natAbs (Nat.pos_of_ne_zero hd)
   generalize p.num.natAbs / p.den = Q at *
   generalize p.num.natAbs % p.den = R at *
   symm
   unfold sg
   by_cases hn : p.num < 0
   ·rw [if_pos (decide_eq_true hn)]
    have hz : p.num = -((p.den * Q + R : Nat) : Int) := by omega
    by_cases hr : R ≠ 0
    ·rw [if_pos ⟨decide_eq_true hn, hr⟩]
     rw [Int.ediv_eq_iff_of_pos (by omega)]
     rw [hz]; push_cast
     constructor <;> grind
    ·rw [if_neg (fun h => hr h.2)]
     rw [Int.ediv_eq_iff_of_pos (by omega)]
     rw [hz]; push_cast
     constructor <;> grind
   ·rw [if_neg (by simpa using hn), if_neg (by simp [hn])]
    have hz : p.num = ((p.den * Q + R : Nat) : Int) := by omega
    rw [Int.ediv_eq_iff_of_pos (by omega)]
    rw [hz]; push_cast
    constructor <;> grind
  rw [this]
  apply Rat.ext
  ·rw [Rat.num_mkRat]; simp
  ·rw [Rat.den_mkRat]; simp
 have lq : Lt 64 (p.num.natAbs / p.den) := (up64 hp.1).le (Nat.div_le_self _ _)
 have lq1 : Lt 64 (p.num.natAbs / p.den + 1) := (((lt16 hp.1).le (Nat.div_le_self _ _)).add (lt_lit (by decide) (by decide) : Lt 16 1) (j := 64) (by decide))
 have lr : Lt 64 (p.num.natAbs % p.den) := (up64 hp.1).le (Nat.mod_le _ _)
 have a2 := Div_c (up64 hp.1) (up64 hp.2) hd
 have ck := Check_c hp.can
 have hr : ∀ m, m = (if decide (p.num < 0) = true ∧ p.num.natAbs % p.den ≠ 0 then p.num.natAbs / p.den + 1 else p.num.natAbs / p.den) → Lt 64 m → Evc 43 [.bool (decide (p.num < 0)), rowL m, rowL 1] (okP (ratP (p.floor : Rat))) := fun m hm lm => by
  have := reduced_c (decide (p.num < 0)) lm lt1' (by decide)
  rwa [redP_rat (q := (p.floor : Rat)) (by decide) (by rw [hm]; exact e) hs] at this
 clear e
 generalize (p.floor : Rat) = fl at *
 show Evc _ [rp (decide (p.num < 0)) p.num.natAbs p.den] _
 generalize p.num.natAbs / p.den = Q at *
 generalize p.num.natAbs % p.den = R at *
 by_cases hn : p.num < 0
 ·rw [decide_eq_true hn] at hr ck ⊢
  by_cases h0 : R = 0
  ·exact ez [oc ck, oc a2, oo (lenI_owed (k64 lr)), ⟨gtrI R 0 false, by have := gt0 (n := R); rwa [decide_eq_false (by omega : ¬ 0 < R)] at this⟩, oc one_c, ⟨.call 43 [.bool true, rowL Q, rowL 1] (okP (ratP fl)), hr Q (by rw [if_neg (fun h => h.2 h0)]) lq⟩]
  ·exact ez [oc ck, oc a2, oo (lenI_owed (k64 lr)), ⟨gtrI R 0 true, by have := gt0 (n := R); rwa [decide_eq_true (by omega : 0 < R)] at this⟩, oc one_c, oc (Add_c lq lt1'), oc one_c, ⟨.call 43 [.bool true, rowL (Q + 1), rowL 1] (okP (ratP fl)), hr (Q + 1) (by rw [if_pos ⟨rfl, h0⟩]) lq1⟩]
 ·rw [decide_eq_false hn] at hr ck ⊢
  exact ez [oc ck, oc a2, oc one_c, ⟨.call 43 [.bool false, rowL Q, rowL 1] (okP (ratP fl)), hr Q (by rw [if_neg (fun h => by cases h.1)]) lq⟩]
theorem Check_evc {p : Rat} (hp : Fits p) : Evc 34 [ratP p] e0 := Check_c hp.can
def readP (a : List UInt8) : PV := .tup [row .u32 (readS a).1, .int .i64 (readS a).2]
theorem readP_ok {a : List UInt8} {n : Nat} (h : readS a = (limbs n, 0)) : readP a = okP (rowL n) := by unfold readP; rw [h]; rfl
theorem readP_bad {a : List UInt8} {l : List Int} {e : Int} (h : readS a = (l, e)) : readP a = .tup [row .u32 l, .int .i64 e] := by unfold readP; rw [h]
structure RS (s t a b : List UInt8) (neg has : Bool) : Prop where
 h1 : (if s.head? = some 45 then (s.tail, true) else (s, false)) = (t, neg)
 h2 : cutS t = (a, b, has)
 hs : s.length < 1000000
def readPre (s t a b : List UInt8) (neg has : Bool) (pa pb : PV) : List Item :=
 [.call 57 [.str s, .str [45]] (.tup [.str t, .bool neg]), .call 58 [.str t, .str [47]] (.tup [.str a, .str b, .bool has]), .call 59 [.str a] pa, .call 54 [] (rowL 1)] ++ (if has then [.call 59 [.str b] pb] else [])
theorem owed_app {L M : List Item} (h1 : ∀ i ∈ L, Owed i) (h2 : ∀ i ∈ M, Owed i) : ∀ i ∈ L ++ M, Owed i := fun i hi => (List.mem_append.1 hi).elim (h1 i) (h2 i)
theorem readPre_owed {s t a b : List UInt8} {neg has : Bool} (h : RS s t a b neg has) {pa pb : PV} (ha : readP a = pa) (hb : has = true → readP b = pb) : ∀ i ∈ readPre s t a b neg has pa pb, Owed i := by
 have lt : t.length ≤ s.length := by
  have := h.h1
  split at this
  ·rw [Prod.mk.injEq] at this; rw [← this.1]; simp
  ·rw [Prod.mk.injEq] at this; rw [← this.1]; exact Nat.le_refl _
 have hcut := Cut_c t (Nat.lt_of_le_of_lt lt h.hs)
 rw [h.h2] at hcut
 have e1 : Evc 59 [.str a] pa := by rw [← ha]; exact NRead_c a
 refine owed_app (owed_cons (CutPrefix_c s h.h1) (owed_cons hcut (owed_cons e1 (owed_cons one_c owed_nil)))) ?_
 cases has with
 | false => exact owed_nil
 | true => exact owed_cons (by rw [← hb rfl]; exact NRead_c b) owed_nil
def readAns (neg has : Bool) (n d : Nat) : PV := if d = 0 ∨ (has = true ∧ d = 1) ∨ (neg = true ∧ n = 0) ∨ Nat.gcd n d ≠ 1 then noP 4 else redP neg n d
theorem Read_c {s t a b : List UInt8} {neg has : Bool} (h : RS s t a b neg has) {n d : Nat} (hn : readS a = (limbs n, 0)) (hd : (if has = true then readS b else (limbs 1, 0)) = (limbs d, 0)) (ln : Lt 64 n) (ld : Lt 64 d) :
  Evc 23 [.str s] (readAns neg has n d) := by
 have pre := readPre_owed h (readP_ok hn) (pb := okP (rowL d)) (fun e => readP_ok (by rwa [if_pos e] at hd))
 have hd1 : has = false → d = 1 := fun e => by
  rw [if_neg (by rw [e]; decide)] at hd
  exact (limbs_inj (by injection hd)).symm
 have ld0 := lenI_owed (k64 ld)
 have ln0 := lenI_owed (k64 ln)
 unfold readAns
 by_cases c0 : d = 0
 ·rw [if_pos (.inl c0)]
  cases has with
  | false => exact absurd (hd1 rfl) (by omega)
  | true => cases neg <;> exact ez (pk pre ++ [oo ld0, oo (eq0t c0)])
 ·have hg : Lt 64 (Nat.gcd n d) := ld.le (Nat.le_of_dvd (Nat.pos_of_ne_zero c0) (Nat.gcd_dvd_right n d))
  have hgc := Gcd_c ln ld
  have hred := fun neg => reduced_c neg ln ld c0
  by_cases c1 : has = true ∧ d = 1
  ·rw [if_pos (.inr (.inl c1))]
   obtain ⟨rfl, c1⟩ := c1
   cases neg <;> exact ez (pk pre ++ [oo ld0, oo (eq0 c0), oc one_c, oc (Equal_c (k64 ld) lt1 (decide_eq_true c1))])
  ·have hmid : ∃ M, (has = true → M = [.call 54 [] (rowL 1), .call 53 [rowL d, rowL 1] (.bool false)]) ∧ (has = false → M = []) ∧ ∀ i ∈ M, Owed i := by
    cases has with
    | false => exact ⟨[], fun e => (by cases e), fun _ => rfl, owed_nil⟩
    | true => exact ⟨_, fun _ => rfl, fun e => (by cases e), owed_cons one_c (owed_cons (Equal_c (k64 ld) lt1 (decide_eq_false fun e => c1 ⟨rfl, e⟩)) owed_nil)⟩
   obtain ⟨M, m1, m2, m3⟩ := hmid
   by_cases c2 : neg = true ∧ n = 0
   ·rw [if_pos (.inr (.inr (.inl c2)))]
    obtain ⟨rfl, c2⟩ := c2
    cases has with
    | false => rw [m2 rfl] at m3; exact ez (pk pre ++ ([oo (lenI_owed lt1), ⟨eqlI 1 false, eq0 (by decide)⟩] ++ (pk m3 ++ [oo ln0, oo (eq0t c2)])))
    | true => rw [m1 rfl] at m3; exact ez (pk pre ++ ([oo ld0, oo (eq0 c0)] ++ (pk m3 ++ [oo ln0, oo (eq0t c2)])))
   ·have hneg : ∃ N, (neg = true → N = [lenI n, eqlI n false]) ∧ (neg = false → N = []) ∧ ∀ i ∈ N, Owed i := by
     cases neg with
     | false => exact ⟨[], fun e => (by cases e), fun _ => rfl, owed_nil⟩
     | true => exact ⟨_, fun _ => rfl, fun e => (by cases e), owed_cons ln0 (owed_cons (eq0 fun e => c2 ⟨rfl, e⟩) owed_nil)⟩
    obtain ⟨N, n1, n2, n3⟩ := hneg
    by_cases c3 : Nat.gcd n d = 1
    ·rw [if_neg (by rintro (e | e | e | e); exact c0 e; exact c1 e; exact c2 e; exact e c3)]
     have tail : ∀ i ∈ [Item.call 60 [rowL n, rowL d] (okP (rowL 1)), .call 54 [] (rowL 1), .call 53 [rowL 1, rowL 1] (.bool true), .call 43 [.bool neg, rowL n, rowL d] (redP neg n d)], Owed i :=
      owed_cons (by rw [c3] at hgc; exact hgc) (owed_cons one_c (owed_cons (Equal_c lt1 lt1 rfl) (owed_cons (hred neg) owed_nil)))
     have hr : ∃ r e, redP neg n d = .tup [r, .int .i64 e] ∧ ∃ bo r1 r2, r = .agg [.bool bo, r1, r2] ∧ r1.one = true ∧ r2.one = true := by
      unfold redP
      split
      ·exact ⟨_, _, rfl, _, _, _, rfl, rfl, rfl⟩
      ·exact ⟨_, _, rfl, _, _, _, rfl, rfl, rfl⟩
     have hred2 : (∃ bo l1 l2 e, redP neg n d = .tup [.agg [.bool bo, rowL l1, rowL l2], .int .i64 e]) ∨ redP neg n d = noP 20 := by
      unfold redP
      split
      ·exact .inl ⟨_, _, _, _, rfl⟩
      ·exact .inr rfl
     rcases hred2 with ⟨bo, l1, l2, e, hr2⟩ | hr2 <;> rw [hr2] at tail ⊢ <;> cases has <;> cases neg
     ·rw [m2 rfl] at m3; rw [n2 rfl] at n3; obtain rfl := hd1 rfl; exact ez (pk pre ++ ([oo ld0, oo (eq0 c0)] ++ (pk m3 ++ (pk n3 ++ pk tail))))
     ·rw [m2 rfl] at m3; rw [n1 rfl] at n3; obtain rfl := hd1 rfl; exact ez (pk pre ++ ([oo ld0, oo (eq0 c0)] ++ (pk m3 ++ (pk n3 ++ pk tail))))
     ·rw [m1 rfl] at m3; rw [n2 rfl] at n3; exact ez (pk pre ++ ([oo ld0, oo (eq0 c0)] ++ (pk m3 ++ (pk n3 ++ pk tail))))
     ·rw [m1 rfl] at m3; rw [n1 rfl] at n3; exact ez (pk pre ++ ([oo ld0, oo (eq0 c0)] ++ (pk m3 ++ (pk n3 ++ pk tail))))
     ·rw [m2 rfl] at m3; rw [n2 rfl] at n3; obtain rfl := hd1 rfl; exact ez (pk pre ++ ([oo ld0, oo (eq0 c0)] ++ (pk m3 ++ (pk n3 ++ pk tail))))
     ·rw [m2 rfl] at m3; rw [n1 rfl] at n3; obtain rfl := hd1 rfl; exact ez (pk pre ++ ([oo ld0, oo (eq0 c0)] ++ (pk m3 ++ (pk n3 ++ pk tail))))
     ·rw [m1 rfl] at m3; rw [n2 rfl] at n3; exact ez (pk pre ++ ([oo ld0, oo (eq0 c0)] ++ (pk m3 ++ (pk n3 ++ pk tail))))
     ·rw [m1 rfl] at m3; rw [n1 rfl] at n3; exact ez (pk pre ++ ([oo ld0, oo (eq0 c0)] ++ (pk m3 ++ (pk n3 ++ pk tail))))
    ·rw [if_pos (.inr (.inr (.inr c3)))]
     have tail : ∀ i ∈ [Item.call 60 [rowL n, rowL d] (okP (rowL (Nat.gcd n d))), .call 54 [] (rowL 1), .call 53 [rowL (Nat.gcd n d), rowL 1] (.bool false)], Owed i :=
      owed_cons hgc (owed_cons one_c (owed_cons (Equal_c (k64 hg) lt1 (decide_eq_false c3)) owed_nil))
     cases has <;> cases neg
     ·rw [m2 rfl] at m3; rw [n2 rfl] at n3; obtain rfl := hd1 rfl; exact ez (pk pre ++ ([oo ld0, oo (eq0 c0)] ++ (pk m3 ++ (pk n3 ++ pk tail))))
     ·rw [m2 rfl] at m3; rw [n1 rfl] at n3; obtain rfl := hd1 rfl; exact ez (pk pre ++ ([oo ld0, oo (eq0 c0)] ++ (pk m3 ++ (pk n3 ++ pk tail))))
     ·rw [m1 rfl] at m3; rw [n2 rfl] at n3; exact ez (pk pre ++ ([oo ld0, oo (eq0 c0)] ++ (pk m3 ++ (pk n3 ++ pk tail))))
     ·rw [m1 rfl] at m3; rw [n1 rfl] at n3; exact ez (pk pre ++ ([oo ld0, oo (eq0 c0)] ++ (pk m3 ++ (pk n3 ++ pk tail))))
theorem Read_bad_a {s t a b : List UInt8} {neg has : Bool} (h : RS s t a b neg has) {e : Int} (he : e = 4 ∨ e = 5) (ha : readS a = ([], e)) (hb : has = true → ∃ l f, readS b = (l, f) ∧ (f = 0 ∨ f = 4 ∨ f = 5)) : Evc 23 [.str s] (noP 4) := by
 cases has with
 | false =>
  have pre := readPre_owed h (readP_bad ha) (pb := e0) (fun e => by cases e)
  rcases he with rfl | rfl <;> cases neg <;> exact ez (pk pre)
 | true =>
  obtain ⟨l, f, hb, hf⟩ := hb rfl
  have pre := readPre_owed h (readP_bad ha) (fun _ => readP_bad hb)
  rcases he with rfl | rfl <;> rcases hf with rfl | rfl | rfl <;> cases neg <;> exact ez (pk pre)
theorem Read_bad_b {s t a b : List UInt8} {neg : Bool} (h : RS s t a b neg true) {n : Nat} {e : Int} (he : e = 4 ∨ e = 5) (ha : readS a = (limbs n, 0)) (hb : readS b = ([], e)) : Evc 23 [.str s] (noP 4) := by
 have pre := readPre_owed h (readP_ok ha) (fun _ => readP_bad hb)
 rcases he with rfl | rfl <;> cases neg <;> exact ez (pk pre)
def textQ (neg : Bool) (n d : Nat) : List UInt8 := (if neg = true then [45] else []) ++ textL n ++ (if d = 1 then [] else [47] ++ textL d)
theorem textL_len {m : Nat} (hm : Lt 16 m) : (textL m).length < 1000 := by
 have h1 : m < 10 ^ 200 := Nat.lt_trans hm (by decide)
 unfold textL
 split
 ·simp
 ·exact Nat.lt_of_le_of_lt (decL_length_le h1) (by decide)
def addI (a b : List UInt8) (yc : Bool) : Item := .bin .add 9 (.pv (.str a)) (.pv (.str b)) yc (.pv (.str (a ++ b)))
theorem addI_owed {a b : List UInt8} {yc : Bool} (h : a.length + b.length ≤ 100000) : Owed (addI a b yc) := by
 show binA Tryz.prog .add 9 _ _ _ = _
 simp only [binA, strOp]
 rw [if_pos (by omega)]
theorem Text_c {s : Bool} {n d : Nat} (h : CanR s n d) : Evc 21 [rp s n d] (okP (.str (textQ s n d))) := by
 have ck := Check_c h
 have tn := NText_c ((lt16 h.n16).up (j := 64) (by decide))
 have td := NText_c ((lt16 h.d16).up (j := 64) (by decide))
 have ln := textL_len h.n16
 have ld := textL_len h.d16
 have up : Lt 1000 d := (lt16 h.d16).up (by decide)
 unfold textQ
 by_cases h1 : d = 1
 ·rw [if_pos h1]
  have eq := Equal_c up lt1 (decide_eq_true h1)
  cases s with
  | false =>
   rw [if_neg (by decide), List.nil_append, List.append_nil]
   exact ez [oc ck, oc tn, oc one_c, oc eq]
  | true =>
   rw [if_pos rfl, List.append_nil]
   exact ez [oc ck, oc tn, ⟨addI [45] (textL n) false, addI_owed (by simp; omega)⟩, oc one_c, oc eq]
 ·rw [if_neg h1]
  have eq := Equal_c up lt1 (decide_eq_false h1)
  cases s with
  | false =>
   rw [if_neg (by decide), List.nil_append, ← List.append_assoc]
   exact ez [oc ck, oc tn, oc one_c, oc eq, oc td, ⟨addI (textL n) [47] true, addI_owed (by simp; omega)⟩, ⟨addI (textL n ++ [47]) (textL d) false, addI_owed (by simp; omega)⟩]
  | true =>
   rw [if_pos rfl, ← List.append_assoc]
   exact ez [oc ck, oc tn, ⟨addI [45] (textL n) false, addI_owed (by simp; omega)⟩, oc one_c, oc eq, oc td, ⟨addI ([45] ++ textL n) [47] true, addI_owed (by simp; omega)⟩, ⟨addI ([45] ++ textL n ++ [47]) (textL d) false, addI_owed (by simp; omega)⟩]
def textP (q : Rat) : List UInt8 := textQ (decide (q.num < 0)) q.num.natAbs q.den
theorem Text_evc {q : Rat} (h : Fits q) : Evc 21 [ratP q] (okP (.str (textP q))) := Text_c h.can
theorem fits64 {q : Rat} (h1 : q.num.natAbs < 18446744073709551616) (h2 : q.den < 18446744073709551616) : Fits q := ⟨lt_lit h1 (by decide), lt_lit h2 (by decide)⟩
theorem redP_self {q : Rat} (h : Fits q) : redP (decide (q.num < 0)) q.num.natAbs q.den = okP (ratP q) :=
 redP_rat q.den_nz (by rw [show sg (decide (q.num < 0)) q.num.natAbs = q.num from by have := sg_num q.num 1; simpa using this]; exact Rat.mkRat_self q) h
theorem Read_q {s t a b : List UInt8} {has : Bool} {q : Rat} (h : RS s t a b (decide (q.num < 0)) has) (hf : Fits q) (hn : readS a = (limbs q.num.natAbs, 0)) (hd : (if has = true then readS b else (limbs 1, 0)) = (limbs q.den, 0)) (h1 : ¬ (has = true ∧ q.den = 1)) :
  Evc 23 [.str s] (okP (ratP q)) := by
 have := Read_c h hn hd (up64 hf.1) (up64 hf.2)
 have hr := q.reduced
 rwa [readAns, if_neg (by
  rintro (e | e | e | e)
  ·exact q.den_nz e
  ·exact h1 e
  ·have := of_decide_eq_true e.1; omega
  ·exact e hr), redP_self hf] at this
theorem of_c {s : List UInt8} {q : Rat} (h : Evc 23 [.str s] (okP (ratP q))) : Evc 49 [.str s] (ratP q) :=
 ey {} 3 [oc h]
theorem fails_c {s : List UInt8} (h : Evc 23 [.str s] (noP 4)) : Evc 51 [.str s] (.bool true) :=
 ey {} 3 [oc h]
theorem is_c {s : List UInt8} {q : Rat} (hf : Fits q) (h : textP q = s) : Evc 50 [ratP q, e0, .str s] (.bool true) := by
 subst h
 exact ey { bin := fun _ t _ _ => t == 9 } 3 [oc (Text_evc hf), ⟨.bin .eql 9 (.pv (.str (textP q))) (.pv (.str (textP q))) false (.pv (.bool true)), by show binA Tryz.prog .eql 9 _ _ _ = _; simp [binA, strOp]⟩, oc (Check_evc hf)]
theorem of_12 : Evc 49 [.str [49, 47, 50]] (ratP (1/2)) :=
 of_c (Read_q (s := [49, 47, 50]) (t := [49, 47, 50]) (a := [49]) (b := [50]) (has := true) (q := 1/2) ⟨by decide +kernel, by decide +kernel, by decide +kernel⟩ (fits64 (by decide +kernel) (by decide +kernel)) (readS_num (by decide +kernel) (by decide +kernel) (by decide +kernel)) ((if_pos rfl).trans (readS_num (by decide +kernel) (by decide +kernel) (by decide +kernel))) (by decide +kernel))
theorem of_13 : Evc 49 [.str [49, 47, 51]] (ratP (1/3)) :=
 of_c (Read_q (s := [49, 47, 51]) (t := [49, 47, 51]) (a := [49]) (b := [51]) (has := true) (q := 1/3) ⟨by decide +kernel, by decide +kernel, by decide +kernel⟩ (fits64 (by decide +kernel) (by decide +kernel)) (readS_num (by decide +kernel) (by decide +kernel) (by decide +kernel)) ((if_pos rfl).trans (readS_num (by decide +kernel) (by decide +kernel) (by decide +kernel))) (by decide +kernel))
theorem of_23 : Evc 49 [.str [50, 47, 51]] (ratP (2/3)) :=
 of_c (Read_q (s := [50, 47, 51]) (t := [50, 47, 51]) (a := [50]) (b := [51]) (has := true) (q := 2/3) ⟨by decide +kernel, by decide +kernel, by decide +kernel⟩ (fits64 (by decide +kernel) (by decide +kernel)) (readS_num (by decide +kernel) (by decide +kernel) (by decide +kernel)) ((if_pos rfl).trans (readS_num (by decide +kernel) (by decide +kernel) (by decide +kernel))) (by decide +kernel))
theorem of_34 : Evc 49 [.str [51, 47, 52]] (ratP (3/4)) :=
 of_c (Read_q (s := [51, 47, 52]) (t := [51, 47, 52]) (a := [51]) (b := [52]) (has := true) (q := 3/4) ⟨by decide +kernel, by decide +kernel, by decide +kernel⟩ (fits64 (by decide +kernel) (by decide +kernel)) (readS_num (by decide +kernel) (by decide +kernel) (by decide +kernel)) ((if_pos rfl).trans (readS_num (by decide +kernel) (by decide +kernel) (by decide +kernel))) (by decide +kernel))
theorem of_1 : Evc 49 [.str [49]] (ratP (1)) :=
 of_c (Read_q (s := [49]) (t := [49]) (a := [49]) (b := []) (has := false) (q := 1) ⟨by decide +kernel, by decide +kernel, by decide +kernel⟩ (fits64 (by decide +kernel) (by decide +kernel)) (readS_num (by decide +kernel) (by decide +kernel) (by decide +kernel)) rfl (by decide +kernel))
theorem of_m2 : Evc 49 [.str [45, 50]] (ratP (-2)) :=
 of_c (Read_q (s := [45, 50]) (t := [50]) (a := [50]) (b := []) (has := false) (q := -2) ⟨by decide +kernel, by decide +kernel, by decide +kernel⟩ (fits64 (by decide +kernel) (by decide +kernel)) (readS_num (by decide +kernel) (by decide +kernel) (by decide +kernel)) rfl (by decide +kernel))
theorem of_m12 : Evc 49 [.str [45, 49, 47, 50]] (ratP (-1/2)) :=
 of_c (Read_q (s := [45, 49, 47, 50]) (t := [49, 47, 50]) (a := [49]) (b := [50]) (has := true) (q := -1/2) ⟨by decide +kernel, by decide +kernel, by decide +kernel⟩ (fits64 (by decide +kernel) (by decide +kernel)) (readS_num (by decide +kernel) (by decide +kernel) (by decide +kernel)) ((if_pos rfl).trans (readS_num (by decide +kernel) (by decide +kernel) (by decide +kernel))) (by decide +kernel))
theorem textP_of {q : Rat} {s : Bool} {n d : Nat} (h1 : decide (q.num < 0) = s) (h2 : q.num.natAbs = n) (h3 : q.den = d) : textP q = textQ s n d := by unfold textP; rw [h1, h2, h3]
theorem is_56 : Evc 50 [ratP (5/6), e0, .str [53, 47, 54]] (.bool true) := is_c (fits64 (by decide +kernel) (by decide +kernel)) (by rw [textP_of (s := false) (n := 5) (d := 6) (by decide +kernel) (by decide +kernel) (by decide +kernel)]; unfold textQ; rw [textL_digit (by decide +kernel) (by decide +kernel), textL_digit (by decide +kernel) (by decide +kernel)]; rfl)
theorem is_12 : Evc 50 [ratP (1/2), e0, .str [49, 47, 50]] (.bool true) := is_c (fits64 (by decide +kernel) (by decide +kernel)) (by rw [textP_of (s := false) (n := 1) (d := 2) (by decide +kernel) (by decide +kernel) (by decide +kernel)]; unfold textQ; rw [textL_digit (by decide +kernel) (by decide +kernel), textL_digit (by decide +kernel) (by decide +kernel)]; rfl)
theorem is_m12 : Evc 50 [ratP (-1/2), e0, .str [45, 49, 47, 50]] (.bool true) := is_c (fits64 (by decide +kernel) (by decide +kernel)) (by rw [textP_of (s := true) (n := 1) (d := 2) (by decide +kernel) (by decide +kernel) (by decide +kernel)]; unfold textQ; rw [textL_digit (by decide +kernel) (by decide +kernel), textL_digit (by decide +kernel) (by decide +kernel)]; rfl)
theorem is_0 : Evc 50 [ratP (0), e0, .str [48]] (.bool true) := is_c (fits64 (by decide +kernel) (by decide +kernel)) (by rw [textP_of (s := false) (n := 0) (d := 1) (by decide +kernel) (by decide +kernel) (by decide +kernel)]; unfold textQ; rw [if_pos rfl]; rfl)
theorem is_m1 : Evc 50 [ratP (-1), e0, .str [45, 49]] (.bool true) := is_c (fits64 (by decide +kernel) (by decide +kernel)) (by rw [textP_of (s := true) (n := 1) (d := 1) (by decide +kernel) (by decide +kernel) (by decide +kernel)]; unfold textQ; rw [textL_digit (by decide +kernel) (by decide +kernel), if_pos rfl, if_pos rfl]; rfl)
theorem fails_64 : Evc 51 [.str [54, 47, 52]] (.bool true) := by
 have := Read_c (s := [54, 47, 52]) (t := [54, 47, 52]) (a := [54]) (b := [52]) (neg := false) (has := true) (n := 6) (d := 4) ⟨by decide +kernel, by decide +kernel, by decide +kernel⟩ (readS_num (by decide +kernel) (by decide +kernel) (by decide +kernel)) ((if_pos rfl).trans (readS_num (by decide +kernel) (by decide +kernel) (by decide +kernel))) (lt_lit (by decide +kernel) (by decide +kernel)) (lt_lit (by decide +kernel) (by decide +kernel))
 rw [readAns, if_pos (by decide +kernel)] at this
 exact fails_c this
theorem fails_m0 : Evc 51 [.str [45, 48]] (.bool true) := by
 have := Read_c (s := [45, 48]) (t := [48]) (a := [48]) (b := []) (neg := true) (has := false) (n := 0) (d := 1) ⟨by decide +kernel, by decide +kernel, by decide +kernel⟩ (readS_num (by decide +kernel) (by decide +kernel) (by decide +kernel)) rfl (lt_lit (by decide +kernel) (by decide +kernel)) (lt_lit (by decide +kernel) (by decide +kernel))
 rw [readAns, if_pos (by decide +kernel)] at this
 exact fails_c this
theorem fails_31 : Evc 51 [.str [51, 47, 49]] (.bool true) := by
 have := Read_c (s := [51, 47, 49]) (t := [51, 47, 49]) (a := [51]) (b := [49]) (neg := false) (has := true) (n := 3) (d := 1) ⟨by decide +kernel, by decide +kernel, by decide +kernel⟩ (readS_num (by decide +kernel) (by decide +kernel) (by decide +kernel)) ((if_pos rfl).trans (readS_num (by decide +kernel) (by decide +kernel) (by decide +kernel))) (lt_lit (by decide +kernel) (by decide +kernel)) (lt_lit (by decide +kernel) (by decide +kernel))
 rw [readAns, if_pos (by decide +kernel)] at this
 exact fails_c this
theorem fails_30 : Evc 51 [.str [51, 47, 48]] (.bool true) := by
 have := Read_c (s := [51, 47, 48]) (t := [51, 47, 48]) (a := [51]) (b := [48]) (neg := false) (has := true) (n := 3) (d := 0) ⟨by decide +kernel, by decide +kernel, by decide +kernel⟩ (readS_num (by decide +kernel) (by decide +kernel) (by decide +kernel)) ((if_pos rfl).trans (readS_num (by decide +kernel) (by decide +kernel) (by decide +kernel))) (lt_lit (by decide +kernel) (by decide +kernel)) (lt_lit (by decide +kernel) (by decide +kernel))
 rw [readAns, if_pos (by decide +kernel)] at this
 exact fails_c this
theorem works_evc : Evc 20 [] (.bool true) :=
 ey {} 3 [oc of_12, oc of_13, ⟨.call 8 [ratP (1/2), ratP (1/3)] (okP (ratP (5/6))), by have := Add_evc (p := 1/2) (q := 1/3) (fits64 (by decide +kernel) (by decide +kernel)) (fits64 (by decide +kernel) (by decide +kernel)) (fits64 (by decide +kernel) (by decide +kernel)); rw [show ((1/2 : Rat) + (1/3) : Rat) = 5/6 by decide +kernel] at this; exact this⟩, oc of_23, oc of_34, ⟨.call 13 [ratP (2/3), ratP (3/4)] (okP (ratP (1/2))), by have := Mul_evc (p := 2/3) (q := 3/4) (fits64 (by decide +kernel) (by decide +kernel)) (fits64 (by decide +kernel) (by decide +kernel)) (fits64 (by decide +kernel) (by decide +kernel)); rw [show ((2/3 : Rat) * (3/4) : Rat) = 1/2 by decide +kernel] at this; exact this⟩, oc of_1, oc of_m2, ⟨.call 15 [ratP (1), ratP (-2)] (okP (ratP (-1/2))), by have := Div_evc (p := 1) (q := -2) (fits64 (by decide +kernel) (by decide +kernel)) (fits64 (by decide +kernel) (by decide +kernel)) (by decide +kernel) (fits64 (by decide +kernel) (by decide +kernel)); rw [show ((1 : Rat) / (-2) : Rat) = -1/2 by decide +kernel] at this; exact this⟩, oc of_12, oc of_12, ⟨.call 11 [ratP (1/2), ratP (1/2)] (okP (ratP (0))), by have := Sub_evc (p := 1/2) (q := 1/2) (fits64 (by decide +kernel) (by decide +kernel)) (fits64 (by decide +kernel) (by decide +kernel)) (fits64 (by decide +kernel) (by decide +kernel)); rw [show ((1/2 : Rat) - (1/2) : Rat) = 0 by decide +kernel] at this; exact this⟩, oc of_m12, ⟨.call 29 [ratP (-1/2)] (okP (ratP (-1))), by have := Floor_evc (p := -1/2) (fits64 (by decide +kernel) (by decide +kernel)) (fits64 (by decide +kernel) (by decide +kernel)); rw [show ((Rat.floor (-1/2) : Int) : Rat) = -1 by decide +kernel] at this; exact this⟩, oc of_13, oc of_12, ⟨.call 17 [ratP (1/3), ratP (1/2)] (okP (intP (-1))), by have := Cmp_evc (p := 1/3) (q := 1/2) (fits64 (by decide +kernel) (by decide +kernel)) (fits64 (by decide +kernel) (by decide +kernel)); rw [show cmpQ (1/3) (1/2) = -1 by decide +kernel] at this; exact this⟩, oc is_56, oc is_12, oc is_m12, oc is_0, oc is_m1, oc fails_64, oc fails_m0, oc fails_31, oc fails_30]
theorem rone_z : ∀ {a : List Int} (_ : a.length ≤ 1000), Evc 56 [rowZ a] (.bool (decide (a = [1])))
 | [], _ => by
  rw [decide_eq_false (by simp)]
  exact ez [ll 22 (.pv (.sl none 1 [])) 0, bl .eql 3 (.pv (.int .i64 0)) (.pv (.int .i64 1)) true (.pv (.bool false))]
 | [x], _ => by
  rw [show decide ([x] = [1]) = (x == 1) by rw [Bool.eq_iff_iff]; simp]
  exact ez [ll 22 (.pv (.sl none 1 [.int .u32 x])) 1, bl .eql 3 (.pv (.int .i64 1)) (.pv (.int .i64 1)) true (.pv (.bool true))]
 | x :: y :: l, h => by
  rw [decide_eq_false (by simp)]
  exact ez [oo (lenZ h), ⟨.bin .eql 3 (.pv (.int .i64 (((x :: y :: l).length : Nat) : Int))) (.pv (.int .i64 1)) true (.pv (.bool false)), bin_eql (beq_eq_false_iff_ne.2 (by rw [List.length_cons, List.length_cons]; omega))⟩]
theorem rone_c {n : Nat} (h : Lt 1000 n) {b : Bool} (e : decide (n = 1) = b) : Evc 56 [rowL n] (.bool b) := by
 have q := rone_z (len_l h)
 rw [show ([1] : List Int) = limbs 1 from canB_cons1 (x := 1) (by decide) (by decide), limbs_dec, e] at q
 exact q
theorem make2_p (s : Bool) {p : PV} {n d : Nat} (hp : rowOf .u32 p = some (limbs d)) (hn : Lt 64 n) (hd : Lt 64 d) (h0 : d ≠ 0) : Evc 47 [.bool s, rowL n, p] (redP s n d) := by
 have hg0 : Nat.gcd n d ≠ 0 := fun e => h0 (Nat.eq_zero_of_gcd_eq_zero_right e)
 have hg : Lt 64 (Nat.gcd n d) := hd.le (Nat.le_of_dvd (Nat.pos_of_ne_zero h0) (Nat.gcd_dvd_right n d))
 have a1 := rgcd_p hp hn hd
 have a2 := rdiv_c hn hg hg0
 have a3 := rdiv_p hp hd hg hg0
 unfold redP
 have l1 : Lt 64 (n / Nat.gcd n d) := hn.le (Nat.div_le_self _ _)
 have l2 : Lt 64 (d / Nat.gcd n d) := hd.le (Nat.div_le_self _ _)
 generalize n % Nat.gcd n d = r1 at *
 generalize d % Nat.gcd n d = r2 at *
 generalize n / Nat.gcd n d = n' at *
 generalize d / Nat.gcd n d = d' at *
 generalize Nat.gcd n d = g at *
 by_cases c1 : n' < 4294967296 ^ 16
 ·by_cases c2 : d' < 4294967296 ^ 16
  ·rw [if_pos ⟨c1, c2⟩]
   cases s with
   | false => exact ez [oc a1, oc a2, oc a3, oo (lenL (k64 l1)), oo (bin_gtr (g16f c1)), oo (lenL (k64 l2)), oo (bin_gtr (g16f c2))]
   | true => exact ez [oc a1, oc a2, oc a3, oo (lenL (k64 l1)), oo (bin_gtr (g16f c1)), oo (lenL (k64 l2)), oo (bin_gtr (g16f c2)), oo (lenL (k64 l1)), oo (bin_gtr (lenpos (n := n')))]
  ·rw [if_neg (fun h => c2 h.2)]
   cases s with
   | false => exact ez [oc a1, oc a2, oc a3, oo (lenL (k64 l1)), oo (bin_gtr (g16f c1)), oo (lenL (k64 l2)), oo (bin_gtr (g16t c2))]
   | true => exact ez [oc a1, oc a2, oc a3, oo (lenL (k64 l1)), oo (bin_gtr (g16f c1)), oo (lenL (k64 l2)), oo (bin_gtr (g16t c2))]
 ·rw [if_neg (fun h => c1 h.1)]
  cases s with
  | false => exact ez [oc a1, oc a2, oc a3, oo (lenL (k64 l1)), oo (bin_gtr (g16t c1))]
  | true => exact ez [oc a1, oc a2, oc a3, oo (lenL (k64 l1)), oo (bin_gtr (g16t c1))]
theorem Check_n {s : Bool} {m n : Nat} (hm : Lt 16 m) (hn : Lt 16 n) : Evc 34 [rp s m n] (.int .i64 (if n = 0 ∨ (s = true ∧ m = 0) ∨ Nat.gcd m n ≠ 1 then 2 else 0)) := by
 have um : Lt 1000 m := hm.up (by decide)
 have un : Lt 1000 n := hn.up (by decide)
 have pg := Gcd_c (hm.up (j := 64) (by decide)) (hn.up (j := 64) (by decide))
 by_cases hn0 : n = 0
 ·rw [if_pos (.inl hn0)]
  by_cases hm0 : m = 0
  ·cases s with
   | false => exact ez [oo (lenL um), oo (bin_gtr (g16f hm)), oo (lenL un), oo (bin_gtr (g16f hn)), oc pg, oo (lenL un), oo (bin_eql (l0t hn0))]
   | true => exact ez [oo (lenL um), oo (bin_gtr (g16f hm)), oo (lenL un), oo (bin_gtr (g16f hn)), oc pg, oo (lenL un), oo (bin_eql (l0t hn0))]
  ·cases s with
   | false => exact ez [oo (lenL um), oo (bin_gtr (g16f hm)), oo (lenL un), oo (bin_gtr (g16f hn)), oc pg, oo (lenL un), oo (bin_eql (l0t hn0))]
   | true => exact ez [oo (lenL um), oo (bin_gtr (g16f hm)), oo (lenL un), oo (bin_gtr (g16f hn)), oc pg, oo (lenL un), oo (bin_eql (l0t hn0))]
 ·have hg : Lt 1000 (Nat.gcd m n) := un.le (Nat.le_of_dvd (Nat.pos_of_ne_zero hn0) (Nat.gcd_dvd_right m n))
  by_cases hm0 : m = 0
  ·cases s with
   | true =>
    rw [if_pos (.inr (.inl ⟨rfl, hm0⟩))]
    exact ez [oo (lenL um), oo (bin_gtr (g16f hm)), oo (lenL un), oo (bin_gtr (g16f hn)), oc pg, oo (lenL un), oo (bin_eql (l0f hn0)), oo (lenL um), oo (bin_eql (l0t hm0))]
   | false =>
    by_cases g1 : Nat.gcd m n = 1
    ·rw [if_neg (by simp [hn0, g1])]
     have o2 := Equal_c hg lt1 (decide_eq_true g1)
     exact ez [oo (lenL um), oo (bin_gtr (g16f hm)), oo (lenL un), oo (bin_gtr (g16f hn)), oc pg, oo (lenL un), oo (bin_eql (l0f hn0)), oc one_c, oc o2]
    ·rw [if_pos (.inr (.inr g1))]
     have o2 := Equal_c hg lt1 (decide_eq_false g1)
     exact ez [oo (lenL um), oo (bin_gtr (g16f hm)), oo (lenL un), oo (bin_gtr (g16f hn)), oc pg, oo (lenL un), oo (bin_eql (l0f hn0)), oc one_c, oc o2]
  ·by_cases g1 : Nat.gcd m n = 1
   ·rw [if_neg (by simp [hn0, hm0, g1])]
    have o2 := Equal_c hg lt1 (decide_eq_true g1)
    cases s with
    | false => exact ez [oo (lenL um), oo (bin_gtr (g16f hm)), oo (lenL un), oo (bin_gtr (g16f hn)), oc pg, oo (lenL un), oo (bin_eql (l0f hn0)), oc one_c, oc o2]
    | true => exact ez [oo (lenL um), oo (bin_gtr (g16f hm)), oo (lenL un), oo (bin_gtr (g16f hn)), oc pg, oo (lenL un), oo (bin_eql (l0f hn0)), oo (lenL um), oo (bin_eql (l0f hm0)), oc one_c, oc o2]
   ·rw [if_pos (.inr (.inr g1))]
    have o2 := Equal_c hg lt1 (decide_eq_false g1)
    cases s with
    | false => exact ez [oo (lenL um), oo (bin_gtr (g16f hm)), oo (lenL un), oo (bin_gtr (g16f hn)), oc pg, oo (lenL un), oo (bin_eql (l0f hn0)), oc one_c, oc o2]
    | true => exact ez [oo (lenL um), oo (bin_gtr (g16f hm)), oo (lenL un), oo (bin_gtr (g16f hn)), oc pg, oo (lenL un), oo (bin_eql (l0f hn0)), oo (lenL um), oo (bin_eql (l0f hm0)), oc one_c, oc o2]
theorem rCheck_n {s : Bool} {m n : Nat} (hm : Lt 16 m) (hn : Lt 16 n) : Evc 33 [rp s m n] (.int .i64 (if n = 0 ∨ (s = true ∧ m = 0) ∨ Nat.gcd m n ≠ 1 then 2 else 0)) := by
 have um : Lt 1000 m := hm.up (by decide)
 have un : Lt 1000 n := hn.up (by decide)
 have cm := rNCheck_z (k1 hm (by decide))
 have cn := rNCheck_z (k1 hn (by decide))
 rw [chk_l (hm.up (by decide))] at cm
 rw [chk_l (hn.up (by decide))] at cn
 have rg := rgcd_c (hm.up (j := 64) (by decide)) (hn.up (j := 64) (by decide))
 by_cases hn0 : n = 0
 ·rw [if_pos (.inl hn0)]
  by_cases hm0 : m = 0
  ·cases s with
   | false => exact ez [oo (lenL um), oo (bin_gtr (g16f hm)), oo (lenL un), oo (bin_gtr (g16f hn)), oc cm, oc cn, oo (lenL un), oo (bin_eql (l0t hn0))]
   | true => exact ez [oo (lenL um), oo (bin_gtr (g16f hm)), oo (lenL un), oo (bin_gtr (g16f hn)), oc cm, oc cn, oo (lenL un), oo (bin_eql (l0t hn0))]
  ·cases s with
   | false => exact ez [oo (lenL um), oo (bin_gtr (g16f hm)), oo (lenL un), oo (bin_gtr (g16f hn)), oc cm, oc cn, oo (lenL un), oo (bin_eql (l0t hn0))]
   | true => exact ez [oo (lenL um), oo (bin_gtr (g16f hm)), oo (lenL un), oo (bin_gtr (g16f hn)), oc cm, oc cn, oo (lenL un), oo (bin_eql (l0t hn0))]
 ·have hg : Lt 1000 (Nat.gcd m n) := un.le (Nat.le_of_dvd (Nat.pos_of_ne_zero hn0) (Nat.gcd_dvd_right m n))
  by_cases hm0 : m = 0
  ·cases s with
   | true =>
    rw [if_pos (.inr (.inl ⟨rfl, hm0⟩))]
    exact ez [oo (lenL um), oo (bin_gtr (g16f hm)), oo (lenL un), oo (bin_gtr (g16f hn)), oc cm, oc cn, oo (lenL un), oo (bin_eql (l0f hn0)), oo (lenL um), oo (bin_eql (l0t hm0))]
   | false =>
    by_cases g1 : Nat.gcd m n = 1
    ·rw [if_neg (by simp [hn0, g1])]
     have o1 := rone_c hg (decide_eq_true g1)
     exact ez [oo (lenL um), oo (bin_gtr (g16f hm)), oo (lenL un), oo (bin_gtr (g16f hn)), oc cm, oc cn, oo (lenL un), oo (bin_eql (l0f hn0)), oo (lenL um), oo (bin_eql (l0t hm0)), oc rg, oc o1]
    ·rw [if_pos (.inr (.inr g1))]
     have o1 := rone_c hg (decide_eq_false g1)
     exact ez [oo (lenL um), oo (bin_gtr (g16f hm)), oo (lenL un), oo (bin_gtr (g16f hn)), oc cm, oc cn, oo (lenL un), oo (bin_eql (l0f hn0)), oo (lenL um), oo (bin_eql (l0t hm0)), oc rg, oc o1]
  ·by_cases g1 : Nat.gcd m n = 1
   ·rw [if_neg (by simp [hn0, hm0, g1])]
    have o1 := rone_c hg (decide_eq_true g1)
    cases s with
    | false => exact ez [oo (lenL um), oo (bin_gtr (g16f hm)), oo (lenL un), oo (bin_gtr (g16f hn)), oc cm, oc cn, oo (lenL un), oo (bin_eql (l0f hn0)), oo (lenL um), oo (bin_eql (l0f hm0)), oc rg, oc o1]
    | true => exact ez [oo (lenL um), oo (bin_gtr (g16f hm)), oo (lenL un), oo (bin_gtr (g16f hn)), oc cm, oc cn, oo (lenL un), oo (bin_eql (l0f hn0)), oo (lenL um), oo (bin_eql (l0f hm0)), oc rg, oc o1]
   ·rw [if_pos (.inr (.inr g1))]
    have o1 := rone_c hg (decide_eq_false g1)
    cases s with
    | false => exact ez [oo (lenL um), oo (bin_gtr (g16f hm)), oo (lenL un), oo (bin_gtr (g16f hn)), oc cm, oc cn, oo (lenL un), oo (bin_eql (l0f hn0)), oo (lenL um), oo (bin_eql (l0f hm0)), oc rg, oc o1]
    | true => exact ez [oo (lenL um), oo (bin_gtr (g16f hm)), oo (lenL un), oo (bin_gtr (g16f hn)), oc cm, oc cn, oo (lenL un), oo (bin_eql (l0f hn0)), oo (lenL um), oo (bin_eql (l0f hm0)), oc rg, oc o1]
theorem Check_big {s : Bool} {a b : List Int} (la : a.length ≤ 1000) (lb : b.length ≤ 1000) (h : a.length > 16 ∨ b.length > 16) : Evc 34 [rz s a b] (.int .i64 20) := by
 by_cases h1 : a.length > 16
 ·exact ez [oo (lenZ la), ⟨.bin .gtr 3 (.pv (.int .i64 ((a.length : Nat) : Int))) (.pv (.int .i64 16)) true (.pv (.bool true)), bin_gtr (decide_eq_true (by omega))⟩]
 ·have h2 : b.length > 16 := h.resolve_left h1
  exact ez [oo (lenZ la), ⟨.bin .gtr 3 (.pv (.int .i64 ((a.length : Nat) : Int))) (.pv (.int .i64 16)) true (.pv (.bool false)), bin_gtr (decide_eq_false (by omega))⟩, oo (lenZ lb), ⟨.bin .gtr 3 (.pv (.int .i64 ((b.length : Nat) : Int))) (.pv (.int .i64 16)) true (.pv (.bool true)), bin_gtr (decide_eq_true (by omega))⟩]
theorem rCheck_big {s : Bool} {a b : List Int} (la : a.length ≤ 1000) (lb : b.length ≤ 1000) (h : a.length > 16 ∨ b.length > 16) : Evc 33 [rz s a b] (.int .i64 20) := by
 by_cases h1 : a.length > 16
 ·exact ez [oo (lenZ la), ⟨.bin .gtr 3 (.pv (.int .i64 ((a.length : Nat) : Int))) (.pv (.int .i64 16)) true (.pv (.bool true)), bin_gtr (decide_eq_true (by omega))⟩]
 ·have h2 : b.length > 16 := h.resolve_left h1
  exact ez [oo (lenZ la), ⟨.bin .gtr 3 (.pv (.int .i64 ((a.length : Nat) : Int))) (.pv (.int .i64 16)) true (.pv (.bool false)), bin_gtr (decide_eq_false (by omega))⟩, oo (lenZ lb), ⟨.bin .gtr 3 (.pv (.int .i64 ((b.length : Nat) : Int))) (.pv (.int .i64 16)) true (.pv (.bool true)), bin_gtr (decide_eq_true (by omega))⟩]
theorem make2_c (s : Bool) {n d : Nat} (hn : Lt 64 n) (hd : Lt 64 d) (h0 : d ≠ 0) : Evc 47 [.bool s, rowL n, rowL d] (redP s n d) := make2_p s (rowOf_L (k64 hd)) hn hd h0
theorem chk_le {a : List Int} (h : a.length ≤ 64) : chk a = 0 ∨ chk a = 2 := by
 unfold chk
 rw [if_neg (by omega)]
 split
 ·exact .inr rfl
 ·exact .inl rfl
theorem Check_odd {s : Bool} {a b : List Int} (ha : okL a) (hb : okL b) (la : a.length ≤ 16) (lb : b.length ≤ 16) (h : chk2 a b ≠ 0) : Evc 34 [rz s a b] (.int .i64 2) := by
 have la' : a.length ≤ 1000 := by omega
 have lb' : b.length ≤ 1000 := by omega
 have g := Gcd_z ha hb la' lb'
 have e : chk2 a b = 2 := by
  unfold chk2 at h ⊢
  have h1 := chk_le (a := a) (by omega)
  have h2 := chk_le (a := b) (by omega)
  split at h <;> split <;> omega
 rw [gcdS, if_neg h, e] at g
 exact ez [oo (lenZ la'), ⟨.bin .gtr 3 (.pv (.int .i64 ((a.length : Nat) : Int))) (.pv (.int .i64 16)) true (.pv (.bool false)), bin_gtr (decide_eq_false (by omega))⟩, oo (lenZ lb'), ⟨.bin .gtr 3 (.pv (.int .i64 ((b.length : Nat) : Int))) (.pv (.int .i64 16)) true (.pv (.bool false)), bin_gtr (decide_eq_false (by omega))⟩, oc g]
theorem rCheck_odd {s : Bool} {a b : List Int} (la : a.length ≤ 16) (lb : b.length ≤ 16) (h : chk2 a b ≠ 0) : Evc 33 [rz s a b] (.int .i64 2) := by
 have la' : a.length ≤ 1000 := by omega
 have lb' : b.length ≤ 1000 := by omega
 have c1 := rNCheck_z la'
 have c2 := rNCheck_z lb'
 have h1 := chk_le (a := a) (by omega)
 have h2 := chk_le (a := b) (by omega)
 rcases h1 with h1 | h1
 ·rw [chk2, if_pos h1] at h
  rw [h1] at c1
  rw [h2.resolve_left h] at c2
  exact ez [oo (lenZ la'), ⟨.bin .gtr 3 (.pv (.int .i64 ((a.length : Nat) : Int))) (.pv (.int .i64 16)) true (.pv (.bool false)), bin_gtr (decide_eq_false (by omega))⟩, oo (lenZ lb'), ⟨.bin .gtr 3 (.pv (.int .i64 ((b.length : Nat) : Int))) (.pv (.int .i64 16)) true (.pv (.bool false)), bin_gtr (decide_eq_false (by omega))⟩, oc c1, oc c2]
 ·rw [h1] at c1
  exact ez [oo (lenZ la'), ⟨.bin .gtr 3 (.pv (.int .i64 ((a.length : Nat) : Int))) (.pv (.int .i64 16)) true (.pv (.bool false)), bin_gtr (decide_eq_false (by omega))⟩, oo (lenZ lb'), ⟨.bin .gtr 3 (.pv (.int .i64 ((b.length : Nat) : Int))) (.pv (.int .i64 16)) true (.pv (.bool false)), bin_gtr (decide_eq_false (by omega))⟩, oc c1]
theorem may_be {s : Bool} {a b : List Int} (ha : okL a) (hb : okL b) (la : a.length ≤ 1000) (lb : b.length ≤ 1000) : (∃ m n, a = limbs m ∧ b = limbs n ∧ CanR s m n) ∨
  ∃ e : Int, (e = 20 ∨ e = 2) ∧ Evc 34 [rz s a b] (.int .i64 e) ∧ Evc 33 [rz s a b] (.int .i64 e) := by
 by_cases h : a.length > 16 ∨ b.length > 16
 ·exact .inr ⟨20, .inl rfl, Check_big la lb h, rCheck_big la lb h⟩
 ·have l1 : a.length ≤ 16 := by omega
  have l2 : b.length ≤ 16 := by omega
  by_cases hc : chk2 a b = 0
  ·obtain ⟨⟨_, c1⟩, ⟨_, c2⟩⟩ := chk2_zero ha hb hc
   obtain ⟨m, rfl⟩ : ∃ m, a = limbs m := ⟨_, c1.2.symm⟩
   obtain ⟨n, rfl⟩ : ∃ n, b = limbs n := ⟨_, c2.2.symm⟩
   have hm : Lt 16 m := limbs_length_lt_iff.1 l1
   have hn : Lt 16 n := limbs_length_lt_iff.1 l2
   by_cases hbad : n = 0 ∨ (s = true ∧ m = 0) ∨ Nat.gcd m n ≠ 1
   ·have q1 := Check_n (s := s) hm hn
    have q2 := rCheck_n (s := s) hm hn
    rw [if_pos hbad] at q1 q2
    exact .inr ⟨2, .inr rfl, q1, q2⟩
   ·simp only [not_or, not_and, ne_eq, Classical.not_not] at hbad
    exact .inl ⟨m, n, rfl, rfl, hm, hn, hbad.1, hbad.2.2, fun e => hbad.2.1 e⟩
  ·exact .inr ⟨2, .inr rfl, Check_odd ha hb l1 l2 hc, rCheck_odd l1 l2 hc⟩
theorem rCheck_c {s : Bool} {n d : Nat} (h : CanR s n d) : Evc 33 [rp s n d] e0 := by
 have q := rCheck_n (s := s) (lt16 h.n16) (lt16 h.d16)
 rw [if_neg (by
  rintro (e | e | e)
  ·exact h.d0 e
  ·exact h.neg e.1 e.2
  ·exact e h.g)] at q
 exact q
theorem Text_bad {s : Bool} {a b : List Int} {e : Int} (he : e = 20 ∨ e = 2) (h : Evc 34 [rz s a b] (.int .i64 e)) : Evc 21 [rz s a b] (.tup [.str [], .int .i64 e]) := by
 rcases he with rfl | rfl
 ·exact ez [oc h]
 ·exact ez [oc h]
theorem rText_bad {s : Bool} {a b : List Int} {e : Int} (he : e = 20 ∨ e = 2) (h : Evc 33 [rz s a b] (.int .i64 e)) : Evc 22 [rz s a b] (.tup [.str [], .int .i64 e]) := by
 rcases he with rfl | rfl
 ·exact ez [oc h]
 ·exact ez [oc h]
theorem rText_c {s : Bool} {n d : Nat} (h : CanR s n d) : Evc 22 [rp s n d] (okP (.str (textQ s n d))) := by
 have ck := rCheck_c h
 have tn := rNText_c ((lt16 h.n16).up (j := 64) (by decide))
 have td := rNText_c ((lt16 h.d16).up (j := 64) (by decide))
 have ln := textL_len h.n16
 have ld := textL_len h.d16
 have up : Lt 1000 d := (lt16 h.d16).up (by decide)
 unfold textQ
 by_cases h1 : d = 1
 ·rw [if_pos h1]
  have eq := rone_c up (decide_eq_true h1)
  cases s with
  | false =>
   rw [if_neg (by decide), List.nil_append, List.append_nil]
   exact ez [oc ck, oc tn, oc eq]
  | true =>
   rw [if_pos rfl, List.append_nil]
   exact ez [oc ck, oc tn, ⟨.bin .add 9 (.pv (.str [45])) (.pv (.str (textL n))) false (.pv (.str ([45] ++ (textL n)))), bin_cat (by simp; omega)⟩, oc eq]
 ·rw [if_neg h1]
  have eq := rone_c up (decide_eq_false h1)
  cases s with
  | false =>
   rw [if_neg (by decide), List.nil_append, ← List.append_assoc]
   exact ez [oc ck, oc tn, oc eq, oc td, ⟨.bin .add 9 (.pv (.str (textL n))) (.pv (.str [47])) true (.pv (.str ((textL n) ++ [47]))), bin_cat (by simp; omega)⟩, ⟨.bin .add 9 (.pv (.str ((textL n) ++ [47]))) (.pv (.str (textL d))) false (.pv (.str (((textL n) ++ [47]) ++ (textL d)))), bin_cat (by simp; omega)⟩]
  | true =>
   rw [if_pos rfl, ← List.append_assoc]
   exact ez [oc ck, oc tn, ⟨.bin .add 9 (.pv (.str [45])) (.pv (.str (textL n))) false (.pv (.str ([45] ++ (textL n)))), bin_cat (by simp; omega)⟩, oc eq, oc td, ⟨.bin .add 9 (.pv (.str ([45] ++ (textL n)))) (.pv (.str [47])) true (.pv (.str (([45] ++ (textL n)) ++ [47]))), bin_cat (by simp; omega)⟩, ⟨.bin .add 9 (.pv (.str (([45] ++ (textL n)) ++ [47]))) (.pv (.str (textL d))) false (.pv (.str ((([45] ++ (textL n)) ++ [47]) ++ (textL d)))), bin_cat (by simp; omega)⟩]
def fl1 : Flags := { len := true, cut := true, bin := fun _ t _ _ => t == 3 || t == 9 || t == 5 }
theorem gt_cons {c : UInt8} {t : List UInt8} : Owed (.bin .gtr 3 (.pv (.int .i64 (((c :: t).length : Nat) : Int))) (.pv (.int .i64 0)) true (.pv (.bool true))) := bin_gtr (decide_eq_true (by rw [List.length_cons]; omega))
theorem readS_cases (s : List UInt8) (hl : s.length ≤ 600) : (numeral s = true ∧ readS s = (limbs (nv s), 0)) ∨ (numeral s = false ∧ readS s = ([], 4)) := by
 cases h : numeral s with
 | true => exact .inl ⟨rfl, readS_num h hl rfl⟩
 | false => exact .inr ⟨rfl, by unfold readS; rw [if_neg (by omega), if_neg (by rw [h]; decide)]⟩
theorem nv_64 {s : List UInt8} (h : numeral s = true) (hl : s.length ≤ 300) : Lt 64 (nv s) := by
 have h1 := nv_lt s ((numeral_iff s).1 h).2.1
 obtain ⟨m, hm⟩ : ∃ m : Nat, m = 34 := ⟨_, rfl⟩
 have h2 : 10 ^ s.length ≤ 4294967296 ^ 64 := Nat.le_trans (Nat.pow_le_pow_right (by decide) (show s.length ≤ 9 * m by omega)) (by
  rw [Nat.pow_mul]
  exact Nat.le_trans (Nat.pow_le_pow_left (by decide) m) (Nat.pow_le_pow_right (by decide) (by omega)))
 exact Nat.lt_of_lt_of_le h1 h2
theorem form_of {c : UInt8} {s t : List UInt8} {neg : Bool} (h : (if (c :: s).head? = some 45 then ((c :: s).tail, true) else (c :: s, false)) = (t, neg)) : (c = 45 ∧ s = t ∧ neg = true) ∨ (¬ c = 45 ∧ t = c :: s ∧ neg = false) := by
 simp only [List.head?_cons, Option.some.injEq, List.tail_cons] at h
 by_cases hc : c = 45
 ·rw [if_pos hc] at h
  cases h
  exact .inl ⟨hc, rfl, rfl⟩
 ·rw [if_neg hc] at h
  cases h
  exact .inr ⟨hc, rfl, rfl⟩
theorem rRead_bad_a {s t a b : List UInt8} {neg has : Bool} (h : RS s t a b neg has) (hs : s.length ≤ 1000) (ha : readS a = ([], 4)) : Evc 24 [.str s] (noP 4) := by
 have hcut := rcut_c t (by
  have := h.h1
  split at this
  ·cases this; rw [List.length_tail]; omega
  ·cases this; omega)
 rw [h.h2] at hcut
 have ra := rNRead_c a
 rw [ha] at ra
 cases s with
 | nil =>
  have h1 := h.h1
  simp only [List.head?_nil, reduceCtorEq, if_false] at h1
  cases h1
  have h2 := h.h2
  simp only [cutS] at h2
  cases h2
  exact ey fl1 3 [ll 9 (.pv (.str [])) 0, bl .gtr 3 (.pv (.int .i64 0)) (.pv (.int .i64 0)) true (.pv (.bool false)), oc hcut, oc ra]
 | cons c s =>
  have hs : (c :: s).length ≤ 1000000 := by omega
  have hf := form_of h.h1
  cases has with
  | false =>
   rcases hf with ⟨hc, rfl, rfl⟩ | ⟨hc, rfl, rfl⟩
   ·exact ey fl1 3 [oo (lenS hs), ⟨.bin .gtr 3 (.pv (.int .i64 (((c :: s).length : Nat) : Int))) (.pv (.int .i64 0)) true (.pv (.bool true)), gt_cons⟩, oo (bin_c45 (decide_eq_true hc)), ⟨.cut 9 (.pv (.str (c :: s))) (some 1) none none (.pv (.str s)), cut_tail⟩, oc hcut, oc ra]
   ·exact ey fl1 3 [oo (lenS hs), ⟨.bin .gtr 3 (.pv (.int .i64 (((c :: s).length : Nat) : Int))) (.pv (.int .i64 0)) true (.pv (.bool true)), gt_cons⟩, oo (bin_c45 (decide_eq_false hc)), oc hcut, oc ra]
  | true =>
   have rb := rNRead_c b
   generalize (readS b).1 = m at rb
   generalize (readS b).2 = f at rb
   rcases hf with ⟨hc, rfl, rfl⟩ | ⟨hc, rfl, rfl⟩
   ·exact ey fl1 3 [oo (lenS hs), ⟨.bin .gtr 3 (.pv (.int .i64 (((c :: s).length : Nat) : Int))) (.pv (.int .i64 0)) true (.pv (.bool true)), gt_cons⟩, oo (bin_c45 (decide_eq_true hc)), ⟨.cut 9 (.pv (.str (c :: s))) (some 1) none none (.pv (.str s)), cut_tail⟩, oc hcut, oc ra, oc rb]
   ·exact ey fl1 3 [oo (lenS hs), ⟨.bin .gtr 3 (.pv (.int .i64 (((c :: s).length : Nat) : Int))) (.pv (.int .i64 0)) true (.pv (.bool true)), gt_cons⟩, oo (bin_c45 (decide_eq_false hc)), oc hcut, oc ra, oc rb]
theorem rRead_bad_b {s t a b : List UInt8} {neg : Bool} (h : RS s t a b neg true) (hs : s.length ≤ 1000) {n : Nat} (ha : readS a = (limbs n, 0)) (hb : readS b = ([], 4)) : Evc 24 [.str s] (noP 4) := by
 have hcut := rcut_c t (by
  have := h.h1
  split at this
  ·cases this; rw [List.length_tail]; omega
  ·cases this; omega)
 rw [h.h2] at hcut
 have ra := rNRead_c a
 rw [ha] at ra
 have rb := rNRead_c b
 rw [hb] at rb
 cases s with
 | nil =>
  have h1 := h.h1
  simp only [List.head?_nil, reduceCtorEq, if_false] at h1
  cases h1
  have h2 := h.h2
  simp [cutS] at h2
 | cons c s =>
  have hs : (c :: s).length ≤ 1000000 := by omega
  have hf := form_of h.h1
  rcases hf with ⟨hc, rfl, rfl⟩ | ⟨hc, rfl, rfl⟩
  ·exact ey fl1 3 [oo (lenS hs), ⟨.bin .gtr 3 (.pv (.int .i64 (((c :: s).length : Nat) : Int))) (.pv (.int .i64 0)) true (.pv (.bool true)), gt_cons⟩, oo (bin_c45 (decide_eq_true hc)), ⟨.cut 9 (.pv (.str (c :: s))) (some 1) none none (.pv (.str s)), cut_tail⟩, oc hcut, oc ra, oc rb]
  ·exact ey fl1 3 [oo (lenS hs), ⟨.bin .gtr 3 (.pv (.int .i64 (((c :: s).length : Nat) : Int))) (.pv (.int .i64 0)) true (.pv (.bool true)), gt_cons⟩, oo (bin_c45 (decide_eq_false hc)), oc hcut, oc ra, oc rb]
theorem red_form (s : Bool) (n d : Nat) : (∃ bo l1 l2 e, redP s n d = .tup [.agg [.bool bo, rowL l1, rowL l2], .int .i64 e]) ∨ redP s n d = .tup [.agg [.bool false, .sl (some false) 0 [], .sl (some false) 0 []], .int .i64 20] := by
 unfold redP
 split
 ·exact .inl ⟨_, _, _, _, rfl⟩
 ·exact .inr rfl
theorem rRead_c {s t a b : List UInt8} {neg has : Bool} (h : RS s t a b neg has) (hs : s.length ≤ 1000) {n d : Nat} (hn : readS a = (limbs n, 0)) (hd : (if has = true then readS b else (limbs 1, 0)) = (limbs d, 0)) (ln : Lt 64 n) (ld : Lt 64 d) :
  Evc 24 [.str s] (readAns neg has n d) := by
 have hcut := rcut_c t (by
  have := h.h1
  split at this
  ·cases this; rw [List.length_tail]; omega
  ·cases this; omega)
 rw [h.h2] at hcut
 have ra := rNRead_c a
 rw [hn] at ra
 cases s with
 | nil =>
  have h1 := h.h1
  simp only [List.head?_nil, reduceCtorEq, if_false] at h1
  cases h1
  have h2 := h.h2
  simp only [cutS] at h2
  cases h2
  have : readS [] = ([], 4) := by simp [readS, numeral]
  rw [this] at hn
  exact absurd (show (4 : Int) = 0 from congrArg Prod.snd hn) (by decide)
 | cons c s =>
  have hs : (c :: s).length ≤ 1000000 := by omega
  have hf := form_of h.h1
  unfold readAns
  cases has with
  | false =>
   rw [if_neg (by decide)] at hd
   obtain rfl : d = 1 := (limbs_inj (by injection hd)).symm
   have g1 : Nat.gcd n 1 = 1 := Nat.gcd_one_right n
   have rg := rgcd_p rowOf_oneP ln lt1'
   have o2 := rone_c (n := Nat.gcd n 1) (by rw [g1]; exact lt1) (decide_eq_true g1)
   have hm := make2_p neg rowOf_oneP ln lt1' (by decide)
   by_cases c2 : neg = true ∧ n = 0
   ·rw [if_pos (.inr (.inr (.inl c2)))]
    obtain ⟨rfl, c2⟩ := c2
    rcases hf with ⟨hc, rfl, _⟩ | ⟨_, _, hx⟩
    ·exact ey fl1 3 [oo (lenS hs), ⟨.bin .gtr 3 (.pv (.int .i64 (((c :: s).length : Nat) : Int))) (.pv (.int .i64 0)) true (.pv (.bool true)), gt_cons⟩, oo (bin_c45 (decide_eq_true hc)), ⟨.cut 9 (.pv (.str (c :: s))) (some 1) none none (.pv (.str s)), cut_tail⟩, oc hcut, oc ra, ll 22 (.full (.sl (some true) 1 [.int .u32 1])) 1, bl .eql 3 (.pv (.int .i64 1)) (.pv (.int .i64 0)) true (.pv (.bool false)), oc rg, oc o2, oo (lenL (k64 ln)), oo (bin_eql (l0t c2))]
    ·cases hx
   ·rw [if_neg (by rintro (e | e | e | e); exact absurd e (by decide); exact absurd e.1 (by decide); exact c2 e; exact e g1)]
    generalize hd1 : (1 : Nat) = d at hm ⊢
    rcases red_form neg n d with ⟨bo, l1, l2, e, hr⟩ | hr <;> rw [hr] at hm ⊢
    ·rcases hf with ⟨hc, rfl, rfl⟩ | ⟨hc, rfl, rfl⟩
     ·have c2 : n ≠ 0 := fun e => c2 ⟨rfl, e⟩
      exact ey fl1 3 [oo (lenS hs), ⟨.bin .gtr 3 (.pv (.int .i64 (((c :: s).length : Nat) : Int))) (.pv (.int .i64 0)) true (.pv (.bool true)), gt_cons⟩, oo (bin_c45 (decide_eq_true hc)), ⟨.cut 9 (.pv (.str (c :: s))) (some 1) none none (.pv (.str s)), cut_tail⟩, oc hcut, oc ra, ll 22 (.full (.sl (some true) 1 [.int .u32 1])) 1, bl .eql 3 (.pv (.int .i64 1)) (.pv (.int .i64 0)) true (.pv (.bool false)), oc rg, oc o2, oo (lenL (k64 ln)), oo (bin_eql (l0f c2)), oc hm]
     ·by_cases c2 : n = 0
      ·exact ey fl1 3 [oo (lenS hs), ⟨.bin .gtr 3 (.pv (.int .i64 (((c :: s).length : Nat) : Int))) (.pv (.int .i64 0)) true (.pv (.bool true)), gt_cons⟩, oo (bin_c45 (decide_eq_false hc)), oc hcut, oc ra, ll 22 (.full (.sl (some true) 1 [.int .u32 1])) 1, bl .eql 3 (.pv (.int .i64 1)) (.pv (.int .i64 0)) true (.pv (.bool false)), oc rg, oc o2, oo (lenL (k64 ln)), oo (bin_eql (l0t c2)), oc hm]
      ·exact ey fl1 3 [oo (lenS hs), ⟨.bin .gtr 3 (.pv (.int .i64 (((c :: s).length : Nat) : Int))) (.pv (.int .i64 0)) true (.pv (.bool true)), gt_cons⟩, oo (bin_c45 (decide_eq_false hc)), oc hcut, oc ra, ll 22 (.full (.sl (some true) 1 [.int .u32 1])) 1, bl .eql 3 (.pv (.int .i64 1)) (.pv (.int .i64 0)) true (.pv (.bool false)), oc rg, oc o2, oo (lenL (k64 ln)), oo (bin_eql (l0f c2)), oc hm]
    ·rcases hf with ⟨hc, rfl, rfl⟩ | ⟨hc, rfl, rfl⟩
     ·have c2 : n ≠ 0 := fun e => c2 ⟨rfl, e⟩
      exact ey fl1 3 [oo (lenS hs), ⟨.bin .gtr 3 (.pv (.int .i64 (((c :: s).length : Nat) : Int))) (.pv (.int .i64 0)) true (.pv (.bool true)), gt_cons⟩, oo (bin_c45 (decide_eq_true hc)), ⟨.cut 9 (.pv (.str (c :: s))) (some 1) none none (.pv (.str s)), cut_tail⟩, oc hcut, oc ra, ll 22 (.full (.sl (some true) 1 [.int .u32 1])) 1, bl .eql 3 (.pv (.int .i64 1)) (.pv (.int .i64 0)) true (.pv (.bool false)), oc rg, oc o2, oo (lenL (k64 ln)), oo (bin_eql (l0f c2)), oc hm]
     ·by_cases c2 : n = 0
      ·exact ey fl1 3 [oo (lenS hs), ⟨.bin .gtr 3 (.pv (.int .i64 (((c :: s).length : Nat) : Int))) (.pv (.int .i64 0)) true (.pv (.bool true)), gt_cons⟩, oo (bin_c45 (decide_eq_false hc)), oc hcut, oc ra, ll 22 (.full (.sl (some true) 1 [.int .u32 1])) 1, bl .eql 3 (.pv (.int .i64 1)) (.pv (.int .i64 0)) true (.pv (.bool false)), oc rg, oc o2, oo (lenL (k64 ln)), oo (bin_eql (l0t c2)), oc hm]
      ·exact ey fl1 3 [oo (lenS hs), ⟨.bin .gtr 3 (.pv (.int .i64 (((c :: s).length : Nat) : Int))) (.pv (.int .i64 0)) true (.pv (.bool true)), gt_cons⟩, oo (bin_c45 (decide_eq_false hc)), oc hcut, oc ra, ll 22 (.full (.sl (some true) 1 [.int .u32 1])) 1, bl .eql 3 (.pv (.int .i64 1)) (.pv (.int .i64 0)) true (.pv (.bool false)), oc rg, oc o2, oo (lenL (k64 ln)), oo (bin_eql (l0f c2)), oc hm]
  | true =>
   rw [if_pos rfl] at hd
   have rb := rNRead_c b
   rw [hd] at rb
   by_cases c0 : d = 0
   ·rw [if_pos (.inl c0)]
    rcases hf with ⟨hc, rfl, rfl⟩ | ⟨hc, rfl, rfl⟩
    ·exact ey fl1 3 [oo (lenS hs), ⟨.bin .gtr 3 (.pv (.int .i64 (((c :: s).length : Nat) : Int))) (.pv (.int .i64 0)) true (.pv (.bool true)), gt_cons⟩, oo (bin_c45 (decide_eq_true hc)), ⟨.cut 9 (.pv (.str (c :: s))) (some 1) none none (.pv (.str s)), cut_tail⟩, oc hcut, oc ra, oc rb, oo (lenL (k64 ld)), oo (bin_eql (l0t c0))]
    ·exact ey fl1 3 [oo (lenS hs), ⟨.bin .gtr 3 (.pv (.int .i64 (((c :: s).length : Nat) : Int))) (.pv (.int .i64 0)) true (.pv (.bool true)), gt_cons⟩, oo (bin_c45 (decide_eq_false hc)), oc hcut, oc ra, oc rb, oo (lenL (k64 ld)), oo (bin_eql (l0t c0))]
   ·by_cases c1 : d = 1
    ·rw [if_pos (.inr (.inl ⟨rfl, c1⟩))]
     have o1 := rone_c (k64 ld) (decide_eq_true c1)
     rcases hf with ⟨hc, rfl, rfl⟩ | ⟨hc, rfl, rfl⟩
     ·exact ey fl1 3 [oo (lenS hs), ⟨.bin .gtr 3 (.pv (.int .i64 (((c :: s).length : Nat) : Int))) (.pv (.int .i64 0)) true (.pv (.bool true)), gt_cons⟩, oo (bin_c45 (decide_eq_true hc)), ⟨.cut 9 (.pv (.str (c :: s))) (some 1) none none (.pv (.str s)), cut_tail⟩, oc hcut, oc ra, oc rb, oo (lenL (k64 ld)), oo (bin_eql (l0f c0)), oc o1]
     ·exact ey fl1 3 [oo (lenS hs), ⟨.bin .gtr 3 (.pv (.int .i64 (((c :: s).length : Nat) : Int))) (.pv (.int .i64 0)) true (.pv (.bool true)), gt_cons⟩, oo (bin_c45 (decide_eq_false hc)), oc hcut, oc ra, oc rb, oo (lenL (k64 ld)), oo (bin_eql (l0f c0)), oc o1]
    ·have o1 := rone_c (k64 ld) (decide_eq_false c1)
     have rg := rgcd_c ln ld
     have hg : Lt 64 (Nat.gcd n d) := ld.le (Nat.le_of_dvd (Nat.pos_of_ne_zero c0) (Nat.gcd_dvd_right n d))
     by_cases g1 : Nat.gcd n d = 1
     ·have o2 := rone_c (k64 hg) (decide_eq_true g1)
      have hm := make2_c neg ln ld c0
      by_cases c2 : neg = true ∧ n = 0
      ·rw [if_pos (.inr (.inr (.inl c2)))]
       obtain ⟨rfl, c2⟩ := c2
       rcases hf with ⟨hc, rfl, _⟩ | ⟨_, _, hx⟩
       ·exact ey fl1 3 [oo (lenS hs), ⟨.bin .gtr 3 (.pv (.int .i64 (((c :: s).length : Nat) : Int))) (.pv (.int .i64 0)) true (.pv (.bool true)), gt_cons⟩, oo (bin_c45 (decide_eq_true hc)), ⟨.cut 9 (.pv (.str (c :: s))) (some 1) none none (.pv (.str s)), cut_tail⟩, oc hcut, oc ra, oc rb, oo (lenL (k64 ld)), oo (bin_eql (l0f c0)), oc o1, oc rg, oc o2, oo (lenL (k64 ln)), oo (bin_eql (l0t c2))]
       ·cases hx
      ·rw [if_neg (by rintro (e | e | e | e); exact c0 e; exact c1 e.2; exact c2 e; exact e g1)]
       rcases red_form neg n d with ⟨bo, l1, l2, e, hr⟩ | hr <;> rw [hr] at hm ⊢
       ·rcases hf with ⟨hc, rfl, rfl⟩ | ⟨hc, rfl, rfl⟩
        ·have c2 : n ≠ 0 := fun e => c2 ⟨rfl, e⟩
         exact ey fl1 3 [oo (lenS hs), ⟨.bin .gtr 3 (.pv (.int .i64 (((c :: s).length : Nat) : Int))) (.pv (.int .i64 0)) true (.pv (.bool true)), gt_cons⟩, oo (bin_c45 (decide_eq_true hc)), ⟨.cut 9 (.pv (.str (c :: s))) (some 1) none none (.pv (.str s)), cut_tail⟩, oc hcut, oc ra, oc rb, oo (lenL (k64 ld)), oo (bin_eql (l0f c0)), oc o1, oc rg, oc o2, oo (lenL (k64 ln)), oo (bin_eql (l0f c2)), oc hm]
        ·by_cases c2 : n = 0
         ·exact ey fl1 3 [oo (lenS hs), ⟨.bin .gtr 3 (.pv (.int .i64 (((c :: s).length : Nat) : Int))) (.pv (.int .i64 0)) true (.pv (.bool true)), gt_cons⟩, oo (bin_c45 (decide_eq_false hc)), oc hcut, oc ra, oc rb, oo (lenL (k64 ld)), oo (bin_eql (l0f c0)), oc o1, oc rg, oc o2, oo (lenL (k64 ln)), oo (bin_eql (l0t c2)), oc hm]
         ·exact ey fl1 3 [oo (lenS hs), ⟨.bin .gtr 3 (.pv (.int .i64 (((c :: s).length : Nat) : Int))) (.pv (.int .i64 0)) true (.pv (.bool true)), gt_cons⟩, oo (bin_c45 (decide_eq_false hc)), oc hcut, oc ra, oc rb, oo (lenL (k64 ld)), oo (bin_eql (l0f c0)), oc o1, oc rg, oc o2, oo (lenL (k64 ln)), oo (bin_eql (l0f c2)), oc hm]
       ·rcases hf with ⟨hc, rfl, rfl⟩ | ⟨hc, rfl, rfl⟩
        ·have c2 : n ≠ 0 := fun e => c2 ⟨rfl, e⟩
         exact ey fl1 3 [oo (lenS hs), ⟨.bin .gtr 3 (.pv (.int .i64 (((c :: s).length : Nat) : Int))) (.pv (.int .i64 0)) true (.pv (.bool true)), gt_cons⟩, oo (bin_c45 (decide_eq_true hc)), ⟨.cut 9 (.pv (.str (c :: s))) (some 1) none none (.pv (.str s)), cut_tail⟩, oc hcut, oc ra, oc rb, oo (lenL (k64 ld)), oo (bin_eql (l0f c0)), oc o1, oc rg, oc o2, oo (lenL (k64 ln)), oo (bin_eql (l0f c2)), oc hm]
        ·by_cases c2 : n = 0
         ·exact ey fl1 3 [oo (lenS hs), ⟨.bin .gtr 3 (.pv (.int .i64 (((c :: s).length : Nat) : Int))) (.pv (.int .i64 0)) true (.pv (.bool true)), gt_cons⟩, oo (bin_c45 (decide_eq_false hc)), oc hcut, oc ra, oc rb, oo (lenL (k64 ld)), oo (bin_eql (l0f c0)), oc o1, oc rg, oc o2, oo (lenL (k64 ln)), oo (bin_eql (l0t c2)), oc hm]
         ·exact ey fl1 3 [oo (lenS hs), ⟨.bin .gtr 3 (.pv (.int .i64 (((c :: s).length : Nat) : Int))) (.pv (.int .i64 0)) true (.pv (.bool true)), gt_cons⟩, oo (bin_c45 (decide_eq_false hc)), oc hcut, oc ra, oc rb, oo (lenL (k64 ld)), oo (bin_eql (l0f c0)), oc o1, oc rg, oc o2, oo (lenL (k64 ln)), oo (bin_eql (l0f c2)), oc hm]
     ·rw [if_pos (.inr (.inr (.inr g1)))]
      have o2 := rone_c (k64 hg) (decide_eq_false g1)
      rcases hf with ⟨hc, rfl, rfl⟩ | ⟨hc, rfl, rfl⟩
      ·exact ey fl1 3 [oo (lenS hs), ⟨.bin .gtr 3 (.pv (.int .i64 (((c :: s).length : Nat) : Int))) (.pv (.int .i64 0)) true (.pv (.bool true)), gt_cons⟩, oo (bin_c45 (decide_eq_true hc)), ⟨.cut 9 (.pv (.str (c :: s))) (some 1) none none (.pv (.str s)), cut_tail⟩, oc hcut, oc ra, oc rb, oo (lenL (k64 ld)), oo (bin_eql (l0f c0)), oc o1, oc rg, oc o2]
      ·exact ey fl1 3 [oo (lenS hs), ⟨.bin .gtr 3 (.pv (.int .i64 (((c :: s).length : Nat) : Int))) (.pv (.int .i64 0)) true (.pv (.bool true)), gt_cons⟩, oo (bin_c45 (decide_eq_false hc)), oc hcut, oc ra, oc rb, oo (lenL (k64 ld)), oo (bin_eql (l0f c0)), oc o1, oc rg, oc o2]
def fl2 : Flags := { len := true, cut := true, bin := fun op t _ _ => t == 3 || t == 9 || (t == 26 && op == .eql) }
theorem bin_err {x : Int} {yc : Bool} : Owed (.bin .eql 26 (.pv (.int .i64 x)) (.pv (.int .i64 x)) yc (.pv (.bool true))) := by
 show binA Tryz.prog .eql 26 _ _ _ = _
 simp only [binA, intOp, ne_eq, not_true, if_false, beq_self_eq_true]
theorem bin_same {x : List UInt8} {yc : Bool} : Owed (.bin .eql 9 (.pv (.str x)) (.pv (.str x)) yc (.pv (.bool true))) := bin_seq (beq_self_eq_true x)
theorem take_mn {α : Type} {l : List α} {n : Nat} : l.take (min n l.length) = l.take n := by
 by_cases h : n ≤ l.length
 ·rw [Nat.min_eq_left h]
 ·rw [Nat.min_eq_right (by omega), List.take_length, List.take_of_length_le (by omega)]
theorem cut_row {a : List Int} {n : Nat} : Owed (.cut 22 (.pv (rowZ a)) none (some (if ((n : Nat) : Int) < ((a.length : Nat) : Int) then ((n : Nat) : Int) else ((a.length : Nat) : Int))) none (.pv (rowZ (a.take n)))) := by
 show sliceA Tryz.prog _ _ _ _ _ = _
 have e : (if ((n : Nat) : Int) < ((a.length : Nat) : Int) then ((n : Nat) : Int) else ((a.length : Nat) : Int)) = ((min n a.length : Nat) : Int) := by split <;> omega
 rw [e]
 have hz : sizeT Tryz.prog 30 = some 1 := by kernel_rfl
 simp only [sliceA, und22, AV.pure?, rowZ, row, hz, cutB, Option.getD, List.length_map]
 rw [if_neg (by simp), if_pos ⟨by omega, by omega, by omega⟩]
 simp only [Int.toNat_natCast, Int.toNat_zero, List.drop_zero, ← List.map_take, Option.some.injEq, AV.pv.injEq, PV.sl.injEq, true_and]
 rw [take_mn]
theorem cut_str {s : List UInt8} {n : Nat} : Owed (.cut 9 (.pv (.str s)) none (some (if ((n : Nat) : Int) < ((s.length : Nat) : Int) then ((n : Nat) : Int) else ((s.length : Nat) : Int))) none (.pv (.str (s.take n)))) := by
 show sliceA Tryz.prog _ _ _ _ _ = _
 have e : (if ((n : Nat) : Int) < ((s.length : Nat) : Int) then ((n : Nat) : Int) else ((s.length : Nat) : Int)) = ((min n s.length : Nat) : Int) := by split <;> omega
 rw [e]
 simp only [sliceA, und9, cutB, Option.getD]
 rw [if_pos ⟨by omega, by omega, by omega⟩]
 simp only [Int.toNat_natCast, Int.toNat_zero, List.drop_zero, Option.some.injEq, AV.pv.injEq, PV.str.injEq]
 rw [take_mn]
theorem lenZ' {a : List Int} (h : a.length ≤ 9223372036854775807) : Owed (.len 22 (.pv (rowZ a)) a.length) := by
 refine ⟨?_, h⟩
 simp only [lenA, und22, AV.pure?, rowZ, row, List.length_map]
theorem lenS' {s : List UInt8} (h : s.length ≤ 9223372036854775807) : Owed (.len 9 (.pv (.str s)) s.length) := by
 refine ⟨?_, h⟩
 simp only [lenA, und9]
theorem small_z {s : Bool} {a b : List Int} (la : a.length ≤ 9223372036854775807) (lb : b.length ≤ 9223372036854775807) : Evc 6 [rz s a b] (rz s (a.take 20) (b.take 20)) :=
 ey fl2 3 [oo (lenZ' la), ⟨.cut 22 (.pv ((rowZ a))) none (some (if 20 < ((a.length : Nat) : Int) then 20 else ((a.length : Nat) : Int))) none (.pv ((rowZ (a.take 20)))), cut_row⟩, oo (lenZ' lb), ⟨.cut 22 (.pv ((rowZ b))) none (some (if 20 < ((b.length : Nat) : Int) then 20 else ((b.length : Nat) : Int))) none (.pv ((rowZ (b.take 20)))), cut_row⟩]
theorem rSame_p {bo : Bool} {n1 n2 n3 n4 : Option Bool} {z1 z2 z3 z4 : Nat} {l1 l2 l3 l4 : List PV} {a b : List Int} (hp : rowOf .u32 (.sl n1 z1 l1) = some a) (hq : rowOf .u32 (.sl n2 z2 l2) = some b) (hp' : rowOf .u32 (.sl n3 z3 l3) = some a) (hq' : rowOf .u32 (.sl n4 z4 l4) = some b) (la : a.length ≤ 1000) (lb : b.length ≤ 1000) :
  Evc 19 [.agg [.bool bo, .sl n1 z1 l1, .sl n2 z2 l2], .agg [.bool bo, .sl n3 z3 l3, .sl n4 z4 l4]] (.bool true) := by
 have h1 := rsame_p hp hp' la
 have h2 := rsame_p hq hq' lb
 rw [decide_eq_true rfl] at h1 h2
 cases bo with
 | false => exact ez [oc h1, oc h2]
 | true => exact ez [oc h1, oc h2]
def Alike (r r' : PV) : Prop := ∃ bo n1 z1 l1 n2 z2 l2 n3 z3 l3 n4 z4 l4 a b, r = .agg [.bool bo, .sl n1 z1 l1, .sl n2 z2 l2] ∧ r' = .agg [.bool bo, .sl n3 z3 l3, .sl n4 z4 l4] ∧ rowOf .u32 (.sl n1 z1 l1) = some a ∧ rowOf .u32 (.sl n2 z2 l2) = some b ∧ rowOf .u32 (.sl n3 z3 l3) = some a ∧ rowOf .u32 (.sl n4 z4 l4) = some b ∧ a.length ≤ 1000 ∧ b.length ≤ 1000
theorem Alike.same {r r' : PV} (h : Alike r r') : Evc 19 [r, r'] (.bool true) := by
 obtain ⟨bo, n1, z1, l1, n2, z2, l2, n3, z3, l3, n4, z4, l4, a, b, rfl, rfl, h1, h2, h3, h4, h5, h6⟩ := h
 exact rSame_p h1 h2 h3 h4 h5 h6
theorem eq_p {r r' : PV} {e : Int} (h : Alike r r') : Evc 10 [r, .int .i64 e, r', .int .i64 e] (.bool true) := by
 have hs := h.same
 obtain ⟨bo, n1, z1, l1, n2, z2, l2, n3, z3, l3, n4, z4, l4, a, b, rfl, rfl, _⟩ := h
 exact ey fl2 3 [oc hs, ⟨.bin .eql 26 (.pv (.int .i64 e)) (.pv (.int .i64 e)) false (.pv (.bool true)), bin_err⟩]
theorem Alike.zero : Alike zeroR zeroR := ⟨false, _, _, _, _, _, _, _, _, _, _, _, _, [], [], rfl, rfl, rfl, rfl, rfl, rfl, by simp, by simp⟩
theorem Alike.rows (s : Bool) {n d : Nat} (hn : Lt 1000 n) (hd : Lt 1000 d) : Alike (rp s n d) (rp s n d) := ⟨s, _, _, _, _, _, _, _, _, _, _, _, _, _, _, rfl, rfl, rowOf_L hn, rowOf_L hd, rowOf_L hn, rowOf_L hd, len_l hn, len_l hd⟩
theorem red_alike (s : Bool) (n d : Nat) : ∃ r e, redP s n d = .tup [r, .int .i64 e] ∧ Alike r r := by
 unfold redP
 split
 ·rename_i h
  exact ⟨_, _, rfl, Alike.rows _ (up1000 h.1) (up1000 h.2)⟩
 ·exact ⟨_, _, rfl, Alike.zero⟩
theorem read_alike (s : List UInt8) (hl : s.length ≤ 300) : ∃ r e, Evc 23 [.str s] (.tup [r, .int .i64 e]) ∧ Evc 24 [.str s] (.tup [r, .int .i64 e]) ∧ Alike r r := by
 obtain ⟨t, neg, h1⟩ : ∃ t neg, (if s.head? = some 45 then (s.tail, true) else (s, false)) = (t, neg) := ⟨_, _, rfl⟩
 obtain ⟨a, b, has, h2⟩ : ∃ a b has, cutS t = (a, b, has) := ⟨_, _, _, rfl⟩
 have rs : RS s t a b neg has := ⟨h1, h2, by omega⟩
 have lt : t.length ≤ 300 := by
  split at h1
  ·cases h1; rw [List.length_tail]; omega
  ·cases h1; exact hl
 have la : a.length ≤ 300 := by have := (cutS_len t).1; rw [h2] at this; dsimp only at this; omega
 have lb : b.length ≤ 300 := by have := (cutS_len t).2; rw [h2] at this; dsimp only at this; omega
 have bad : ∀ {P : Prop}, Evc 23 [.str s] (noP 4) → Evc 24 [.str s] (noP 4) → (∃ r e, Evc 23 [.str s] (.tup [r, .int .i64 e]) ∧ Evc 24 [.str s] (.tup [r, .int .i64 e]) ∧ Alike r r) := fun x y => ⟨_, _, x, y, Alike.zero⟩
 rcases readS_cases a (by omega) with ⟨na, ra⟩ | ⟨_, ra⟩
 ·have ln := nv_64 na la
  generalize nv a = n at ra ln
  have fin : ∀ {d : Nat}, (if has = true then readS b else (limbs 1, 0)) = (limbs d, 0) → Lt 64 d → ∃ r e, Evc 23 [.str s] (.tup [r, .int .i64 e]) ∧ Evc 24 [.str s] (.tup [r, .int .i64 e]) ∧ Alike r r := fun {d} hd ld => by
   have x := Read_c rs ra hd ln ld
   have y := rRead_c rs (by omega) ra hd ln ld
   unfold readAns at x y
   split at x
   ·rename_i hc
    rw [if_pos hc] at y
    exact ⟨_, _, x, y, Alike.zero⟩
   ·rename_i hc
    rw [if_neg hc] at y
    obtain ⟨r, e, h3, h4⟩ := red_alike neg n d
    rw [h3] at x y
    exact ⟨r, e, x, y, h4⟩
  cases has with
  | false => exact fin (d := 1) rfl lt1'
  | true =>
   rcases readS_cases b (by omega) with ⟨nb, rb⟩ | ⟨_, rb⟩
   ·exact fin (d := nv b) (by rw [if_pos rfl, rb]) (nv_64 nb lb)
   ·exact ⟨_, _, Read_bad_b rs (.inl rfl) ra rb, rRead_bad_b rs (by omega) ra rb, Alike.zero⟩
 ·refine ⟨_, _, Read_bad_a rs (.inl rfl) ra (fun _ => ?_), rRead_bad_a rs (by omega) ra, Alike.zero⟩
  rcases readS_cases b (by omega) with ⟨_, rb⟩ | ⟨_, rb⟩
  ·exact ⟨_, _, rb, .inl rfl⟩
  ·exact ⟨_, _, rb, .inr (.inl rfl)⟩
theorem text_alike {s : Bool} {a b : List Int} (ha : okL a) (hb : okL b) (la : a.length ≤ 1000) (lb : b.length ≤ 1000) : ∃ x e, Evc 21 [rz s a b] (.tup [.str x, .int .i64 e]) ∧ Evc 22 [rz s a b] (.tup [.str x, .int .i64 e]) := by
 rcases may_be (s := s) ha hb la lb with ⟨m, n, rfl, rfl, h⟩ | ⟨e, he, h1, h2⟩
 ·exact ⟨_, _, Text_c h, rText_c h⟩
 ·exact ⟨_, _, Text_bad he h1, rText_bad he h2⟩
theorem okL_take {a : List Int} (h : okL a) (n : Nat) : okL (a.take n) := fun x hx => h x (List.mem_of_mem_take hx)
theorem RatTexts_evc {neg : Bool} {a b : List Int} (s : List UInt8) (ha : okL a) (hb : okL b) (la : a.length ≤ 9223372036854775807) (lb : b.length ≤ 9223372036854775807) (ls : s.length ≤ 9223372036854775807) : Evc 4 [rz neg a b, .str s] (.bool true) := by
 have sm := small_z (s := neg) la lb
 have ta : (a.take 20).length ≤ 1000 := by rw [List.length_take]; omega
 have tb : (b.take 20).length ≤ 1000 := by rw [List.length_take]; omega
 obtain ⟨x, e, t1, t2⟩ := text_alike (s := neg) (okL_take ha 20) (okL_take hb 20) ta tb
 obtain ⟨r, f, r1, r2, al⟩ := read_alike (s.take 300) (by rw [List.length_take]; omega)
 have q := eq_p (e := f) al
 have w := works_evc
 obtain ⟨bo, n1, z1, l1, n2, z2, l2, _, _, _, _, _, _, _, _, rfl, _⟩ := al
 exact ey fl2 3 [oc sm, oo (lenS' ls), ⟨.cut 9 (.pv (.str s)) none (some (if 300 < ((s.length : Nat) : Int) then 300 else ((s.length : Nat) : Int))) none (.pv (.str (s.take 300))), cut_str⟩, oc t1, oc t2, oc r1, oc r2, ⟨.bin .eql 9 (.pv (.str x)) (.pv (.str x)) false (.pv (.bool true)), bin_same⟩, ⟨.bin .eql 26 (.pv (.int .i64 e)) (.pv (.int .i64 e)) false (.pv (.bool true)), bin_err⟩, oc q, oc w]
theorem okL_wf {l : List Int} (h : ∀ x ∈ l, (Lit.int .u32 x).wf = true) : okL l := fun x hx => by
 have := h x hx
 simp [Lit.wf, IntKind.min, IntKind.max, IntKind.signed, IntKind.bits] at this
 omega
theorem max_len {α : Type} {l : List α} (h : l.length ≤ maxLen) : l.length ≤ 9223372036854775807 := Nat.le_trans h (by decide)
theorem RatTexts_row {s : Bool} {l m : List Int} (t : ByteArray) (wl : ∀ n ∈ l, (Lit.int .u32 n).wf = true) (wm : ∀ n ∈ m, (Lit.int .u32 n).wf = true) (nl : l.length ≤ maxLen) (nm : m.length ≤ maxLen) (ht : t.size ≤ 140737488351232) :
  Evc 4 [.agg [.bool s, row .u32 l, row .u32 m], .str t.data.toList] (.bool true) :=
 RatTexts_evc t.data.toList (okL_wf wl) (okL_wf wm) (max_len nl) (max_len nm) (by
  have : t.data.toList.length = t.size := by cases t; rfl
  omega)
end Go.Proofs.YtkjdpojbmkpkgaaGreatDoor.AV
