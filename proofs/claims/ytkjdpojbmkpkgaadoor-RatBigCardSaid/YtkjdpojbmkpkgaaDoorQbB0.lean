/- Printed functions in the evaluator's terms (printed by extgen.py). -/
import Derived.Test.YtkjdpojbmkpkgaaDoorQbP1
import Derived.Test.YtkjdpojbmkpkgaaDoorQbP3
import Derived.Test.YtkjdpojbmkpkgaaDoorQbP4
import Derived.Test.YtkjdpojbmkpkgaaDoorQbP5
import Derived.Test.YtkjdpojbmkpkgaaDoorQbP7
import Derived.Test.YtkjdpojbmkpkgaaDoorQbP13
import Derived.Test.YtkjdpojbmkpkgaaDoorQbP15
import Derived.Test.YtkjdpojbmkpkgaaDoorQbP17
import Derived.Test.YtkjdpojbmkpkgaaDoorQbA1
import Derived.Test.YtkjdpojbmkpkgaaDoorProg
import Derived.KernelRfl
import Derived.Test.YtkjdpojbmkpkgaaDoorQbE0
namespace Go.Proofs.YtkjdpojbmkpkgaaDoor.AV
open Go Go.RowKit Go.Proofs.YtkjdpojbmkpkgaaDoorW.PrintWords Go.Proofs.YtkjdpojbmkpkgaaDoor.P

def x_nat_Gcd (k : Nat) : List PV → Option PV
  | [p_l0, p_l1] =>
    (match rowOf .u32 p_l0 with | none => none | some l0 => (match rowOf .u32 p_l1 with | none => none | some l1 => (match nat_Gcd.f k l0 l1 with | none => none | some (r1, r2) => some (.tup [row .u32 r1, .int .i64 r2]))))
  | _ => none
theorem x_nat_Gcd_call {k : Nat} {ps : List PV} {r_ : PV} (h : x_nat_Gcd k ps = some r_) : ExtCall Tryd.prog 44 ps r_ := by
  unfold x_nat_Gcd at h
  split at h <;> first | (cases h; done) | skip
  rename_i p_l0 p_l1
  split at h <;> first | (cases h; done) | skip
  rename_i l0 q_l0
  split at h <;> first | (cases h; done) | skip
  rename_i l1 q_l1
  split at h <;> first | (cases h; done) | skip
  rename_i r1 r2 hf
  cases h
  intro F w vs hF hl hr
  obtain ⟨u0, u1, rfl⟩ := two_args hl
  obtain ⟨A0, c0, rfl, C_l0, R_l0, V_l0⟩ := row_in q_l0 (hr 0 _ rfl)
  obtain ⟨A1, c1, rfl, C_l1, R_l1, V_l1⟩ := row_in q_l1 (hr 1 _ rfl)
  refine (nat_Gcd.calls k A0 c0 l0 A1 c1 l1 r1 r2 w R_l0 C_l0 R_l1 C_l1 hf).mono ?_
  rintro e w' ⟨v0_, rfl, K_v0_, hB⟩
  obtain ⟨D_v0_, E_v0_, M_v0_⟩ := row_out K_v0_
  refine ⟨_, (fun b o => F b o ∨ D_v0_ b o), rfl, (tup_mk2 (M_v0_ _ (fun _ _ h => .inr h)) (.int _ _)), hB, fun _ _ h => .inl h, fun b o h => ?_⟩
  rcases h with h | h
  · exact .inl h
  · exact .inr (E_v0_ _ _ h)
def x_nat_Div (k : Nat) : List PV → Option PV
  | [p_l0, p_l1] =>
    (match rowOf .u32 p_l0 with | none => none | some l0 => (match rowOf .u32 p_l1 with | none => none | some l1 => (match nat_Div.f k l0 l1 with | none => none | some (r1, r2, r3) => some (.tup [row .u32 r1, row .u32 r2, .int .i64 r3]))))
  | _ => none
theorem x_nat_Div_call {k : Nat} {ps : List PV} {r_ : PV} (h : x_nat_Div k ps = some r_) : ExtCall Tryd.prog 37 ps r_ := by
  unfold x_nat_Div at h
  split at h <;> first | (cases h; done) | skip
  rename_i p_l0 p_l1
  split at h <;> first | (cases h; done) | skip
  rename_i l0 q_l0
  split at h <;> first | (cases h; done) | skip
  rename_i l1 q_l1
  split at h <;> first | (cases h; done) | skip
  rename_i r1 r2 r3 hf
  cases h
  intro F w vs hF hl hr
  obtain ⟨u0, u1, rfl⟩ := two_args hl
  obtain ⟨A0, c0, rfl, C_l0, R_l0, V_l0⟩ := row_in q_l0 (hr 0 _ rfl)
  obtain ⟨A1, c1, rfl, C_l1, R_l1, V_l1⟩ := row_in q_l1 (hr 1 _ rfl)
  refine (nat_Div.calls k A0 c0 l0 A1 c1 l1 r1 r2 r3 w R_l0 C_l0 R_l1 C_l1 hf).mono ?_
  rintro e w' ⟨v0_, v1_, rfl, K_v0_, K_v1_, hB⟩
  obtain ⟨D_v0_, E_v0_, M_v0_⟩ := row_out K_v0_
  obtain ⟨D_v1_, E_v1_, M_v1_⟩ := row_out K_v1_
  refine ⟨_, (fun b o => F b o ∨ D_v0_ b o ∨ D_v1_ b o), rfl, (tup_mk3 (M_v0_ _ (fun _ _ h => .inr (.inl h))) (M_v1_ _ (fun _ _ h => .inr (.inr h))) (.int _ _)), hB, fun _ _ h => .inl h, fun b o h => ?_⟩
  rcases h with h | h | h
  · exact .inl h
  · exact .inr (E_v0_ _ _ h)
  · exact .inr (E_v1_ _ _ h)
def x_nat_Add (k : Nat) : List PV → Option PV
  | [p_l0, p_l1] =>
    (match rowOf .u32 p_l0 with | none => none | some l0 => (match rowOf .u32 p_l1 with | none => none | some l1 => (match nat_Add.f k l0 l1 with | none => none | some (r1, r2) => some (.tup [row .u32 r1, .int .i64 r2]))))
  | _ => none
theorem x_nat_Add_call {k : Nat} {ps : List PV} {r_ : PV} (h : x_nat_Add k ps = some r_) : ExtCall Tryd.prog 38 ps r_ := by
  unfold x_nat_Add at h
  split at h <;> first | (cases h; done) | skip
  rename_i p_l0 p_l1
  split at h <;> first | (cases h; done) | skip
  rename_i l0 q_l0
  split at h <;> first | (cases h; done) | skip
  rename_i l1 q_l1
  split at h <;> first | (cases h; done) | skip
  rename_i r1 r2 hf
  cases h
  intro F w vs hF hl hr
  obtain ⟨u0, u1, rfl⟩ := two_args hl
  obtain ⟨A0, c0, rfl, C_l0, R_l0, V_l0⟩ := row_in q_l0 (hr 0 _ rfl)
  obtain ⟨A1, c1, rfl, C_l1, R_l1, V_l1⟩ := row_in q_l1 (hr 1 _ rfl)
  refine (nat_Add.calls k A0 c0 l0 A1 c1 l1 r1 r2 w R_l0 C_l0 R_l1 C_l1 hf).mono ?_
  rintro e w' ⟨v0_, rfl, K_v0_, hB⟩
  obtain ⟨D_v0_, E_v0_, M_v0_⟩ := row_out K_v0_
  refine ⟨_, (fun b o => F b o ∨ D_v0_ b o), rfl, (tup_mk2 (M_v0_ _ (fun _ _ h => .inr h)) (.int _ _)), hB, fun _ _ h => .inl h, fun b o h => ?_⟩
  rcases h with h | h
  · exact .inl h
  · exact .inr (E_v0_ _ _ h)
def x_nat_Sub (k : Nat) : List PV → Option PV
  | [p_l0, p_l1] =>
    (match rowOf .u32 p_l0 with | none => none | some l0 => (match rowOf .u32 p_l1 with | none => none | some l1 => (match nat_Sub.f k l0 l1 with | none => none | some (r1, r2) => some (.tup [row .u32 r1, .int .i64 r2]))))
  | _ => none
theorem x_nat_Sub_call {k : Nat} {ps : List PV} {r_ : PV} (h : x_nat_Sub k ps = some r_) : ExtCall Tryd.prog 56 ps r_ := by
  unfold x_nat_Sub at h
  split at h <;> first | (cases h; done) | skip
  rename_i p_l0 p_l1
  split at h <;> first | (cases h; done) | skip
  rename_i l0 q_l0
  split at h <;> first | (cases h; done) | skip
  rename_i l1 q_l1
  split at h <;> first | (cases h; done) | skip
  rename_i r1 r2 hf
  cases h
  intro F w vs hF hl hr
  obtain ⟨u0, u1, rfl⟩ := two_args hl
  obtain ⟨A0, c0, rfl, C_l0, R_l0, V_l0⟩ := row_in q_l0 (hr 0 _ rfl)
  obtain ⟨A1, c1, rfl, C_l1, R_l1, V_l1⟩ := row_in q_l1 (hr 1 _ rfl)
  refine (nat_Sub.calls k A0 c0 l0 A1 c1 l1 r1 r2 w R_l0 C_l0 R_l1 C_l1 hf).mono ?_
  rintro e w' ⟨v0_, rfl, K_v0_, hB⟩
  obtain ⟨D_v0_, E_v0_, M_v0_⟩ := row_out K_v0_
  refine ⟨_, (fun b o => F b o ∨ D_v0_ b o), rfl, (tup_mk2 (M_v0_ _ (fun _ _ h => .inr h)) (.int _ _)), hB, fun _ _ h => .inl h, fun b o h => ?_⟩
  rcases h with h | h
  · exact .inl h
  · exact .inr (E_v0_ _ _ h)
def x_nat_Cmp (k : Nat) : List PV → Option PV
  | [p_l0, p_l1] =>
    (match rowOf .u32 p_l0 with | none => none | some l0 => (match rowOf .u32 p_l1 with | none => none | some l1 => (match nat_Cmp.f k l0 l1 with | none => none | some r => some (.int .i64 r))))
  | _ => none
theorem x_nat_Cmp_call {k : Nat} {ps : List PV} {r_ : PV} (h : x_nat_Cmp k ps = some r_) : ExtCall Tryd.prog 55 ps r_ := by
  unfold x_nat_Cmp at h
  split at h <;> first | (cases h; done) | skip
  rename_i p_l0 p_l1
  split at h <;> first | (cases h; done) | skip
  rename_i l0 q_l0
  split at h <;> first | (cases h; done) | skip
  rename_i l1 q_l1
  split at h <;> first | (cases h; done) | skip
  rename_i r hf
  cases h
  intro F w vs hF hl hr
  obtain ⟨u0, u1, rfl⟩ := two_args hl
  obtain ⟨A0, c0, rfl, C_l0, R_l0, V_l0⟩ := row_in q_l0 (hr 0 _ rfl)
  obtain ⟨A1, c1, rfl, C_l1, R_l1, V_l1⟩ := row_in q_l1 (hr 1 _ rfl)
  refine (nat_Cmp.calls k A0 c0 l0 A1 c1 l1 r w R_l0 C_l0 R_l1 C_l1 hf).mono ?_
  rintro e w' ⟨rfl, hB⟩
  refine ⟨_, (fun b o => F b o), rfl, (.int _ _), hB, fun _ _ h => h, fun b o h => ?_⟩
  exact .inl h
def x_nat_Mul (k : Nat) : List PV → Option PV
  | [p_l0, p_l1] =>
    (match rowOf .u32 p_l0 with | none => none | some l0 => (match rowOf .u32 p_l1 with | none => none | some l1 => (match nat_Mul.f k l0 l1 with | none => none | some (r1, r2) => some (.tup [row .u32 r1, .int .i64 r2]))))
  | _ => none
theorem x_nat_Mul_call {k : Nat} {ps : List PV} {r_ : PV} (h : x_nat_Mul k ps = some r_) : ExtCall Tryd.prog 57 ps r_ := by
  unfold x_nat_Mul at h
  split at h <;> first | (cases h; done) | skip
  rename_i p_l0 p_l1
  split at h <;> first | (cases h; done) | skip
  rename_i l0 q_l0
  split at h <;> first | (cases h; done) | skip
  rename_i l1 q_l1
  split at h <;> first | (cases h; done) | skip
  rename_i r1 r2 hf
  cases h
  intro F w vs hF hl hr
  obtain ⟨u0, u1, rfl⟩ := two_args hl
  obtain ⟨A0, c0, rfl, C_l0, R_l0, V_l0⟩ := row_in q_l0 (hr 0 _ rfl)
  obtain ⟨A1, c1, rfl, C_l1, R_l1, V_l1⟩ := row_in q_l1 (hr 1 _ rfl)
  refine (nat_Mul.calls k A0 c0 l0 A1 c1 l1 r1 r2 w R_l0 C_l0 R_l1 C_l1 hf).mono ?_
  rintro e w' ⟨v0_, rfl, K_v0_, hB⟩
  obtain ⟨D_v0_, E_v0_, M_v0_⟩ := row_out K_v0_
  refine ⟨_, (fun b o => F b o ∨ D_v0_ b o), rfl, (tup_mk2 (M_v0_ _ (fun _ _ h => .inr h)) (.int _ _)), hB, fun _ _ h => .inl h, fun b o h => ?_⟩
  rcases h with h | h
  · exact .inl h
  · exact .inr (E_v0_ _ _ h)
def x_nat_Of (k : Nat) : List PV → Option PV
  | [.int .u64 a0] =>
    (match nat_Of.f k a0 with | none => none | some r => some (row .u32 r))
  | _ => none
theorem x_nat_Of_call {k : Nat} {ps : List PV} {r_ : PV} (h : x_nat_Of k ps = some r_) : ExtCall Tryd.prog 35 ps r_ := by
  unfold x_nat_Of at h
  split at h <;> first | (cases h; done) | skip
  rename_i a0
  split at h <;> first | (cases h; done) | skip
  rename_i r hf
  cases h
  intro F w vs hF hl hr
  obtain ⟨u0, rfl⟩ := one_arg hl
  cases int_in (hr 0 _ rfl)
  refine (nat_Of.calls k a0 r w hf).mono ?_
  rintro e w' ⟨v0_, rfl, K_v0_, hB⟩
  obtain ⟨D_v0_, E_v0_, M_v0_⟩ := row_out K_v0_
  refine ⟨_, (fun b o => F b o ∨ D_v0_ b o), rfl, (M_v0_ _ (fun _ _ h => .inr h)), hB, fun _ _ h => .inl h, fun b o h => ?_⟩
  rcases h with h | h
  · exact .inl h
  · exact .inr (E_v0_ _ _ h)
def x_nat_Check (_k : Nat) : List PV → Option PV
  | [p_l0] =>
    (match rowOf .u32 p_l0 with | none => none | some l0 => (match nat_Check.f l0 with | none => none | some r => some (.int .i64 r)))
  | _ => none
theorem x_nat_Check_call {k : Nat} {ps : List PV} {r_ : PV} (h : x_nat_Check k ps = some r_) : ExtCall Tryd.prog 48 ps r_ := by
  unfold x_nat_Check at h
  split at h <;> first | (cases h; done) | skip
  rename_i p_l0
  split at h <;> first | (cases h; done) | skip
  rename_i l0 q_l0
  split at h <;> first | (cases h; done) | skip
  rename_i r hf
  cases h
  intro F w vs hF hl hr
  obtain ⟨u0, rfl⟩ := one_arg hl
  obtain ⟨A0, c0, rfl, C_l0, R_l0, V_l0⟩ := row_in q_l0 (hr 0 _ rfl)
  refine (nat_Check.calls A0 c0 l0 r w R_l0 C_l0 hf).mono ?_
  rintro e w' ⟨rfl, hB⟩
  replace hB := drawn_below hB
  refine ⟨_, (fun b o => F b o), rfl, (.int _ _), hB, fun _ _ h => h, fun b o h => ?_⟩
  exact .inl h
def x_nat_Read (k : Nat) : List PV → Option PV
  | [.str a0] =>
    (match nat_Read.f k (bytes a0) with | none => none | some (r1, r2) => some (.tup [row .u32 r1, .int .i64 r2]))
  | _ => none
theorem x_nat_Read_call {k : Nat} {ps : List PV} {r_ : PV} (h : x_nat_Read k ps = some r_) : ExtCall Tryd.prog 43 ps r_ := by
  unfold x_nat_Read at h
  split at h <;> first | (cases h; done) | skip
  rename_i a0
  split at h <;> first | (cases h; done) | skip
  rename_i r1 r2 hf
  cases h
  intro F w vs hF hl hr
  obtain ⟨u0, rfl⟩ := one_arg hl
  cases str_in (hr 0 _ rfl)
  refine (nat_Read.calls k (bytes a0) r1 r2 w hf).mono ?_
  rintro e w' ⟨v0_, rfl, K_v0_, hB⟩
  obtain ⟨D_v0_, E_v0_, M_v0_⟩ := row_out K_v0_
  refine ⟨_, (fun b o => F b o ∨ D_v0_ b o), rfl, (tup_mk2 (M_v0_ _ (fun _ _ h => .inr h)) (.int _ _)), hB, fun _ _ h => .inl h, fun b o h => ?_⟩
  rcases h with h | h
  · exact .inl h
  · exact .inr (E_v0_ _ _ h)
def x_nat_Text (k : Nat) : List PV → Option PV
  | [p_l0] =>
    (match rowOf .u32 p_l0 with | none => none | some l0 => (match nat_Text.f k l0 with | none => none | some (r1, r2) => some (.tup [strP r1, .int .i64 r2])))
  | _ => none
theorem x_nat_Text_call {k : Nat} {ps : List PV} {r_ : PV} (h : x_nat_Text k ps = some r_) : ExtCall Tryd.prog 40 ps r_ := by
  unfold x_nat_Text at h
  split at h <;> first | (cases h; done) | skip
  rename_i p_l0
  split at h <;> first | (cases h; done) | skip
  rename_i l0 q_l0
  split at h <;> first | (cases h; done) | skip
  rename_i r1 r2 hf
  cases h
  intro F w vs hF hl hr
  obtain ⟨u0, rfl⟩ := one_arg hl
  obtain ⟨A0, c0, rfl, C_l0, R_l0, V_l0⟩ := row_in q_l0 (hr 0 _ rfl)
  refine (nat_Text.calls k (fun _ => True) A0 c0 l0 r1 r2 w (V_l0 49 _ _ (fun _ => trivial)) hf).mono ?_
  rintro e w' ⟨rfl, hB⟩
  refine ⟨_, (fun b o => F b o), rfl, (tup_mk2 (str_out _) (.int _ _)), hB, fun _ _ h => h, fun b o h => ?_⟩
  exact .inl h
def x_nat_Small (k : Nat) : List PV → Option PV
  | [p_l0] =>
    (match rowOf .u32 p_l0 with | none => none | some l0 => (match nat_Small.f k l0 with | none => none | some (r1, r2) => some (.tup [.int .u64 r1, .bool r2])))
  | _ => none
theorem x_nat_Small_call {k : Nat} {ps : List PV} {r_ : PV} (h : x_nat_Small k ps = some r_) : ExtCall Tryd.prog 46 ps r_ := by
  unfold x_nat_Small at h
  split at h <;> first | (cases h; done) | skip
  rename_i p_l0
  split at h <;> first | (cases h; done) | skip
  rename_i l0 q_l0
  split at h <;> first | (cases h; done) | skip
  rename_i r1 r2 hf
  cases h
  intro F w vs hF hl hr
  obtain ⟨u0, rfl⟩ := one_arg hl
  obtain ⟨A0, c0, rfl, C_l0, R_l0, V_l0⟩ := row_in q_l0 (hr 0 _ rfl)
  refine (nat_Small.calls k A0 c0 l0 r1 r2 w R_l0 C_l0 hf).mono ?_
  rintro e w' ⟨rfl, hB⟩
  replace hB := drawn_below hB
  refine ⟨_, (fun b o => F b o), rfl, (tup_mk2 (.int _ _) (.bool _)), hB, fun _ _ h => h, fun b o h => ?_⟩
  exact .inl h
def x_slices_Equal_uint32_uint32 (k : Nat) : List PV → Option PV
  | [p_l0, p_l1] =>
    (match rowOf .u32 p_l0 with | none => none | some l0 => (match rowOf .u32 p_l1 with | none => none | some l1 => (match slices_Equal_uint32_uint32.f k l0 l1 with | none => none | some r => some (.bool r))))
  | _ => none
theorem x_slices_Equal_uint32_uint32_call {k : Nat} {ps : List PV} {r_ : PV} (h : x_slices_Equal_uint32_uint32 k ps = some r_) : ExtCall Tryd.prog 39 ps r_ := by
  unfold x_slices_Equal_uint32_uint32 at h
  split at h <;> first | (cases h; done) | skip
  rename_i p_l0 p_l1
  split at h <;> first | (cases h; done) | skip
  rename_i l0 q_l0
  split at h <;> first | (cases h; done) | skip
  rename_i l1 q_l1
  split at h <;> first | (cases h; done) | skip
  rename_i r hf
  cases h
  intro F w vs hF hl hr
  obtain ⟨u0, u1, rfl⟩ := two_args hl
  obtain ⟨A0, c0, rfl, C_l0, R_l0, V_l0⟩ := row_in q_l0 (hr 0 _ rfl)
  obtain ⟨A1, c1, rfl, C_l1, R_l1, V_l1⟩ := row_in q_l1 (hr 1 _ rfl)
  refine (slices_Equal_uint32_uint32.calls k A0 c0 l0 A1 c1 l1 r w R_l0 C_l0 R_l1 C_l1 hf).mono ?_
  rintro e w' ⟨rfl, hB⟩
  replace hB := drawn_below hB
  refine ⟨_, (fun b o => F b o), rfl, (.bool _), hB, fun _ _ h => h, fun b o h => ?_⟩
  exact .inl h
def x_strings_Cut (_k : Nat) : List PV → Option PV
  | [.str a0, .str a1] =>
    (match strings_Cut.f (bytes a0) (bytes a1) with | none => none | some (r1, r2, r3) => some (.tup [strP r1, strP r2, .bool r3]))
  | _ => none
theorem x_strings_Cut_call {k : Nat} {ps : List PV} {r_ : PV} (h : x_strings_Cut k ps = some r_) : ExtCall Tryd.prog 42 ps r_ := by
  unfold x_strings_Cut at h
  split at h <;> first | (cases h; done) | skip
  rename_i a0 a1
  split at h <;> first | (cases h; done) | skip
  rename_i r1 r2 r3 hf
  cases h
  intro F w vs hF hl hr
  obtain ⟨u0, u1, rfl⟩ := two_args hl
  cases str_in (hr 0 _ rfl)
  cases str_in (hr 1 _ rfl)
  refine (strings_Cut.calls (bytes a0) (bytes a1) r1 r2 r3 w hf).mono ?_
  rintro e w' ⟨rfl, hB⟩
  replace hB := drawn_below hB
  refine ⟨_, (fun b o => F b o), rfl, (tup_mk3 (str_out _) (str_out _) (.bool _)), hB, fun _ _ h => h, fun b o h => ?_⟩
  exact .inl h
def x_strings_CutPrefix (_k : Nat) : List PV → Option PV
  | [.str a0, .str a1] =>
    (match strings_CutPrefix.f (bytes a0) (bytes a1) with | none => none | some (r1, r2) => some (.tup [strP r1, .bool r2]))
  | _ => none
theorem x_strings_CutPrefix_call {k : Nat} {ps : List PV} {r_ : PV} (h : x_strings_CutPrefix k ps = some r_) : ExtCall Tryd.prog 41 ps r_ := by
  unfold x_strings_CutPrefix at h
  split at h <;> first | (cases h; done) | skip
  rename_i a0 a1
  split at h <;> first | (cases h; done) | skip
  rename_i r1 r2 hf
  cases h
  intro F w vs hF hl hr
  obtain ⟨u0, u1, rfl⟩ := two_args hl
  cases str_in (hr 0 _ rfl)
  cases str_in (hr 1 _ rfl)
  refine (strings_CutPrefix.calls (bytes a0) (bytes a1) r1 r2 w hf).mono ?_
  rintro e w' ⟨rfl, hB⟩
  replace hB := drawn_below hB
  refine ⟨_, (fun b o => F b o), rfl, (tup_mk2 (str_out _) (.bool _)), hB, fun _ _ h => h, fun b o h => ?_⟩
  exact .inl h
def x_driftnetlaw02_bring (_k : Nat) : List PV → Option PV
  | [.int .i64 a0, .int .i64 a1] =>
    (match driftnetlaw02_bring.f a0 a1 with | none => none | some r => some (.int .i64 r))
  | _ => none
theorem x_driftnetlaw02_bring_call {k : Nat} {ps : List PV} {r_ : PV} (h : x_driftnetlaw02_bring k ps = some r_) : ExtCall Tryd.prog 21 ps r_ := by
  unfold x_driftnetlaw02_bring at h
  split at h <;> first | (cases h; done) | skip
  rename_i a0 a1
  split at h <;> first | (cases h; done) | skip
  rename_i r hf
  cases h
  intro F w vs hF hl hr
  obtain ⟨u0, u1, rfl⟩ := two_args hl
  cases int_in (hr 0 _ rfl)
  cases int_in (hr 1 _ rfl)
  refine (driftnetlaw02_bring.calls a0 a1 r w hf).mono ?_
  rintro e w' ⟨rfl, hB⟩
  replace hB := drawn_below hB
  refine ⟨_, (fun b o => F b o), rfl, (.int _ _), hB, fun _ _ h => h, fun b o h => ?_⟩
  exact .inl h

def dom : FuncId → Bool := fun f => f == 44 || f == 37 || f == 38 || f == 56 || f == 55 || f == 57 || f == 35 || f == 48 || f == 43 || f == 40 || f == 46 || f == 39 || f == 42 || f == 41 || f == 21
def ext (k : Nat) (f : FuncId) (ps : List PV) : Option PV :=
  if f = 44 then x_nat_Gcd k ps else
  if f = 37 then x_nat_Div k ps else
  if f = 38 then x_nat_Add k ps else
  if f = 56 then x_nat_Sub k ps else
  if f = 55 then x_nat_Cmp k ps else
  if f = 57 then x_nat_Mul k ps else
  if f = 35 then x_nat_Of k ps else
  if f = 48 then x_nat_Check k ps else
  if f = 43 then x_nat_Read k ps else
  if f = 40 then x_nat_Text k ps else
  if f = 46 then x_nat_Small k ps else
  if f = 39 then x_slices_Equal_uint32_uint32 k ps else
  if f = 42 then x_strings_Cut k ps else
  if f = 41 then x_strings_CutPrefix k ps else
  if f = 21 then x_driftnetlaw02_bring k ps else none
theorem ext_none : ∀ f, dom f = false → ∀ k ps, ext k f ps = none := by
  intro f h k ps
  unfold ext
  rw [if_neg (fun e : f = 44 => by subst e; exact absurd h (by decide))]
  rw [if_neg (fun e : f = 37 => by subst e; exact absurd h (by decide))]
  rw [if_neg (fun e : f = 38 => by subst e; exact absurd h (by decide))]
  rw [if_neg (fun e : f = 56 => by subst e; exact absurd h (by decide))]
  rw [if_neg (fun e : f = 55 => by subst e; exact absurd h (by decide))]
  rw [if_neg (fun e : f = 57 => by subst e; exact absurd h (by decide))]
  rw [if_neg (fun e : f = 35 => by subst e; exact absurd h (by decide))]
  rw [if_neg (fun e : f = 48 => by subst e; exact absurd h (by decide))]
  rw [if_neg (fun e : f = 43 => by subst e; exact absurd h (by decide))]
  rw [if_neg (fun e : f = 40 => by subst e; exact absurd h (by decide))]
  rw [if_neg (fun e : f = 46 => by subst e; exact absurd h (by decide))]
  rw [if_neg (fun e : f = 39 => by subst e; exact absurd h (by decide))]
  rw [if_neg (fun e : f = 42 => by subst e; exact absurd h (by decide))]
  rw [if_neg (fun e : f = 41 => by subst e; exact absurd h (by decide))]
  rw [if_neg (fun e : f = 21 => by subst e; exact absurd h (by decide))]

theorem ext_ok : ExtOk Tryd.prog ext := by
  intro k f ps r h
  unfold ext at h
  by_cases e : f = 44
  · rw [if_pos e] at h; subst e; exact ⟨fnThere (by kernel_rfl), x_nat_Gcd_call h⟩
  rw [if_neg e] at h; clear e
  by_cases e : f = 37
  · rw [if_pos e] at h; subst e; exact ⟨fnThere (by kernel_rfl), x_nat_Div_call h⟩
  rw [if_neg e] at h; clear e
  by_cases e : f = 38
  · rw [if_pos e] at h; subst e; exact ⟨fnThere (by kernel_rfl), x_nat_Add_call h⟩
  rw [if_neg e] at h; clear e
  by_cases e : f = 56
  · rw [if_pos e] at h; subst e; exact ⟨fnThere (by kernel_rfl), x_nat_Sub_call h⟩
  rw [if_neg e] at h; clear e
  by_cases e : f = 55
  · rw [if_pos e] at h; subst e; exact ⟨fnThere (by kernel_rfl), x_nat_Cmp_call h⟩
  rw [if_neg e] at h; clear e
  by_cases e : f = 57
  · rw [if_pos e] at h; subst e; exact ⟨fnThere (by kernel_rfl), x_nat_Mul_call h⟩
  rw [if_neg e] at h; clear e
  by_cases e : f = 35
  · rw [if_pos e] at h; subst e; exact ⟨fnThere (by kernel_rfl), x_nat_Of_call h⟩
  rw [if_neg e] at h; clear e
  by_cases e : f = 48
  · rw [if_pos e] at h; subst e; exact ⟨fnThere (by kernel_rfl), x_nat_Check_call h⟩
  rw [if_neg e] at h; clear e
  by_cases e : f = 43
  · rw [if_pos e] at h; subst e; exact ⟨fnThere (by kernel_rfl), x_nat_Read_call h⟩
  rw [if_neg e] at h; clear e
  by_cases e : f = 40
  · rw [if_pos e] at h; subst e; exact ⟨fnThere (by kernel_rfl), x_nat_Text_call h⟩
  rw [if_neg e] at h; clear e
  by_cases e : f = 46
  · rw [if_pos e] at h; subst e; exact ⟨fnThere (by kernel_rfl), x_nat_Small_call h⟩
  rw [if_neg e] at h; clear e
  by_cases e : f = 39
  · rw [if_pos e] at h; subst e; exact ⟨fnThere (by kernel_rfl), x_slices_Equal_uint32_uint32_call h⟩
  rw [if_neg e] at h; clear e
  by_cases e : f = 42
  · rw [if_pos e] at h; subst e; exact ⟨fnThere (by kernel_rfl), x_strings_Cut_call h⟩
  rw [if_neg e] at h; clear e
  by_cases e : f = 41
  · rw [if_pos e] at h; subst e; exact ⟨fnThere (by kernel_rfl), x_strings_CutPrefix_call h⟩
  rw [if_neg e] at h; clear e
  by_cases e : f = 21
  · rw [if_pos e] at h; subst e; exact ⟨fnThere (by kernel_rfl), x_driftnetlaw02_bring_call h⟩
  rw [if_neg e] at h; clear e
  cases h
theorem ext_nat_Gcd (k : Nat) (ps : List PV) : ext k 44 ps = x_nat_Gcd k ps := by kernel_rfl
theorem ext_nat_Div (k : Nat) (ps : List PV) : ext k 37 ps = x_nat_Div k ps := by kernel_rfl
theorem ext_nat_Add (k : Nat) (ps : List PV) : ext k 38 ps = x_nat_Add k ps := by kernel_rfl
theorem ext_nat_Sub (k : Nat) (ps : List PV) : ext k 56 ps = x_nat_Sub k ps := by kernel_rfl
theorem ext_nat_Cmp (k : Nat) (ps : List PV) : ext k 55 ps = x_nat_Cmp k ps := by kernel_rfl
theorem ext_nat_Mul (k : Nat) (ps : List PV) : ext k 57 ps = x_nat_Mul k ps := by kernel_rfl
theorem ext_nat_Of (k : Nat) (ps : List PV) : ext k 35 ps = x_nat_Of k ps := by kernel_rfl
theorem ext_nat_Read (k : Nat) (ps : List PV) : ext k 43 ps = x_nat_Read k ps := by kernel_rfl
theorem ext_nat_Text (k : Nat) (ps : List PV) : ext k 40 ps = x_nat_Text k ps := by kernel_rfl
theorem ext_slices_Equal_uint32_uint32 (k : Nat) (ps : List PV) : ext k 39 ps = x_slices_Equal_uint32_uint32 k ps := by kernel_rfl
theorem ext_strings_Cut (k : Nat) (ps : List PV) : ext k 42 ps = x_strings_Cut k ps := by kernel_rfl
theorem ext_strings_CutPrefix (k : Nat) (ps : List PV) : ext k 41 ps = x_strings_CutPrefix k ps := by kernel_rfl
theorem ext_driftnetlaw02_bring (k : Nat) (ps : List PV) : ext k 21 ps = x_driftnetlaw02_bring k ps := by kernel_rfl
end Go.Proofs.YtkjdpojbmkpkgaaDoor.AV

/- Scripts over the table of printed functions: what is owed, and what comes of it. -/
namespace Go.Proofs.YtkjdpojbmkpkgaaDoor.AV
open Go Go.RowKit Go.Proofs.YtkjdpojbmkpkgaaDoorW.PrintWords

abbrev g0 : Nat → Option (List PV) := fun _ => none
/-- What a function answers, of as many rounds as one likes. -/
def Evc (f : FuncId) (ps : List PV) (r : PV) : Prop := ∃ K, ∀ k, K ≤ k → ∃ H', ev Tryd.prog g0 ext k f (ps.map .pv) [] = some (.pv r, H')
def Owed : Item → Prop
  | .call f ps r => Evc f ps r
  | .len t x n => lenA Tryd.prog t x = some n ∧ n ≤ 4611686018427387904
  | .cut t x l h m r => sliceA Tryd.prog t x l h m = some r
  | .test b v => b = v
  | .bin op t a b yc r => binA Tryd.prog op t a b yc = some r
  | .loop c s e s' => ∃ K, ∀ k, K ≤ k → codeA Tryd.prog g0 (ev Tryd.prog g0 ext k) k (.loop c) s = some (e, s')

theorem good_up {K K' : Nat} (h : K ≤ K') {i : Item} (hg : Good Tryd.prog g0 ext K i) : Good Tryd.prog g0 ext K' i := by
  cases i with
  | call f ps r => exact fun k hk => hg k (by omega)
  | loop c s e s' => exact fun k hk => hg k (by omega)
  | _ => exact hg
theorem owed_good : ∀ (L : List Item), (∀ i ∈ L, Owed i) → ∃ K, ∀ i ∈ L, Good Tryd.prog g0 ext K i
  | [], _ => ⟨0, fun _ h => by cases h⟩
  | i :: L, h => by
    obtain ⟨K, hK⟩ := owed_good L (fun j hj => h j (List.mem_cons_of_mem _ hj))
    have ⟨K2, hK2⟩ : ∃ K2, Good Tryd.prog g0 ext K2 i := by
      have := h i (List.mem_cons_self ..)
      cases i with
      | call f ps r => exact this
      | loop c s e s' => exact this
      | _ => exact ⟨0, this⟩
    refine ⟨max K K2, fun j hj => ?_⟩
    rcases List.mem_cons.1 hj with rfl | hj
    · exact good_up (by omega) hK2
    · exact good_up (by omega) (hK j hj)
theorem all?_pvs : ∀ ps : List PV, all? AV.pv? (ps.map .pv) = some ps
  | [] => rfl
  | p :: ps => by simp only [List.map_cons, all?, AV.pv?, all?_pvs ps]
theorem evc_ext {f : FuncId} {ps : List PV} {r : PV} (h : ∃ K, ∀ k, K ≤ k → ext k f ps = some r) : Evc f ps r := by
  obtain ⟨K, hK⟩ := h
  refine ⟨K + 1, fun k hk => ?_⟩
  obtain ⟨k, rfl⟩ : ∃ j, k = j + 1 := ⟨k - 1, by omega⟩
  refine ⟨[], ?_⟩
  simp only [ev]
  rw [all?_pvs]
  simp only [hK k (by omega)]
def ran : Option (AV × HS × SS) → Option (AV × SS)
  | some (r, _, q) => some (r, q)
  | none => none
theorem evc_script {known : FuncId → Bool} {fl : Flags} {n : Nat} {f : FuncId} {ps : List PV} {r : PV} {L : List Item} (h : ran (evS Tryd.prog g0 known fl dom n f (ps.map .pv) [] ⟨L, []⟩) = some (.pv r, ⟨[], L.reverse⟩)) (hg : ∀ i ∈ L, Owed i) : Evc f ps r := by
  obtain ⟨K, hK⟩ := owed_good L hg
  unfold ran at h
  split at h <;> first | (cases h; done) | skip
  rename_i H' q h2
  cases h
  replace h := h2
  refine ⟨K + n, fun k hk => ⟨H', ?_⟩⟩
  exact ((evS_sound (glob := g0) (known := known) (fl := fl) (K := K) ext_none n hk).1 _ _ _ _ _ _ _ h).2 (fun i hi => hK i (by simpa using hi))
/-- A piece of code run by script. -/
theorem code_script {known : FuncId → Bool} {fl : Flags} {n : Nat} {c : Code} {s s' : St} {e : Ex} {L : List Item} (h : codeS Tryd.prog g0 known fl (evS Tryd.prog g0 known fl dom n) n c s ⟨L, []⟩ = some (e, s', ⟨[], L.reverse⟩)) (hg : ∀ i ∈ L, Owed i) : ∃ K, ∀ k, K ≤ k → codeA Tryd.prog g0 (ev Tryd.prog g0 ext k) k c s = some (e, s') := by
  obtain ⟨K, hK⟩ := owed_good L hg
  exact ⟨K + n, fun k hk => codeS_ran ext_none h hK hk⟩
theorem owed_nil : ∀ i ∈ ([] : List Item), Owed i := fun _ h => by cases h
theorem owed_cons {i : Item} {L : List Item} (h : Owed i) (hL : ∀ j ∈ L, Owed j) : ∀ j ∈ i :: L, Owed j := fun j hj => by
  rcases List.mem_cons.1 hj with rfl | hj
  · exact h
  · exact hL j hj
theorem prog_funcs : FuncsOk Tryd.prog := funcsOk_of (by kernel_rfl)
theorem prog_mixed : Tryd.prog.follows .mixedOrders = true := by kernel_rfl
/-- A law's call, out of what it answers. -/
theorem law_of {f : FuncId} {ps : List PV} (h : Evc f ps (.bool true)) {W : World} {vs : List Value} (hl : vs.length = ps.length) (hr : ∀ (j : Nat) (p : PV), ps[j]? = some p → Rep (fun b _ => b < W.heap.size) W p (vs.getD j Go.undef)) :
    Calls Tryd.prog f vs.toArray W fun e W' => e = .returned (.bool true) ∧ Below W.heap.size W W' := by
  obtain ⟨K, hK⟩ := h
  obtain ⟨H', h2⟩ := hK K (Nat.le_refl _)
  exact law_calls (glob := g0) ext_ok prog_mixed prog_funcs h2 hl hr (fun g cs h => by cases h)
end Go.Proofs.YtkjdpojbmkpkgaaDoor.AV

/- The calls on limbs, and the rational calls out of them: what the evaluator answers. -/
namespace Go.Proofs.YtkjdpojbmkpkgaaDoor.AV
open Go Go.RowKit Go.Proofs.YtkjdpojbmkpkgaaDoorW.PrintWords Go.Proofs.YtkjdpojbmkpkgaaDoorW.PrintLast Go.Proofs.YtkjdpojbmkpkgaaDoorW.PrintMore Go.Proofs.YtkjdpojbmkpkgaaDoor.M Go.Proofs.YtkjdpojbmkpkgaaDoor.P Go.Proofs.YtkjdpojbmkpkgaaDoor.E

def rowL (n : Nat) : PV := row .u32 (limbs n)
def e0 : PV := .int .i64 0
def nilR : PV := .sl (some false) 0 []
def rp (s : Bool) (n d : Nat) : PV := .agg [.bool s, rowL n, rowL d]
def zeroR : PV := .agg [.bool false, nilR, nilR]
def okP (p : PV) : PV := .tup [p, .int .i64 0]
def intP (n : Int) : PV := .int .i64 n

theorem rowOf_L {n : Nat} (h : Lt 1000 n) : rowOf .u32 (rowL n) = some (limbs n) := rowOf_row (Nat.le_trans (len_l h) (by decide))
theorem k64 {n : Nat} (h : Lt 64 n) : Lt 1000 n := h.up (by decide)

theorem Gcd_c {m n : Nat} (hm : Lt 64 m) (hn : Lt 64 n) : Evc 44 [rowL m, rowL n] (okP (rowL (Nat.gcd m n))) := by
  refine evc_ext ?_
  obtain ⟨K, hK⟩ := Gcd_l hm hn
  refine ⟨K, fun k hk => ?_⟩
  rw [ext_nat_Gcd]
  simp only [x_nat_Gcd, rowOf_L (k64 hm), rowOf_L (k64 hn), hK k hk]
  rfl
theorem Div_c {m n : Nat} (hm : Lt 64 m) (hn : Lt 64 n) (h0 : n ≠ 0) : Evc 37 [rowL m, rowL n] (.tup [rowL (m / n), rowL (m % n), e0]) := by
  refine evc_ext ?_
  obtain ⟨K, hK⟩ := Div_l hm hn h0
  refine ⟨K, fun k hk => ?_⟩
  rw [ext_nat_Div]
  simp only [x_nat_Div, rowOf_L (k64 hm), rowOf_L (k64 hn), hK k hk]
  rfl
theorem Add_c {m n : Nat} (hm : Lt 64 m) (hn : Lt 64 n) : Evc 38 [rowL m, rowL n] (okP (rowL (m + n))) := by
  refine evc_ext ?_
  obtain ⟨K, hK⟩ := Add_l hm hn
  refine ⟨K, fun k hk => ?_⟩
  rw [ext_nat_Add]
  simp only [x_nat_Add, rowOf_L (k64 hm), rowOf_L (k64 hn), hK k hk]
  rfl
theorem Mul_c {m n : Nat} (hm : Lt 64 m) (hn : Lt 64 n) : Evc 57 [rowL m, rowL n] (okP (rowL (m * n))) := by
  refine evc_ext ?_
  obtain ⟨K, hK⟩ := Mul_l hm hn
  refine ⟨K, fun k hk => ?_⟩
  rw [ext_nat_Mul]
  simp only [x_nat_Mul, rowOf_L (k64 hm), rowOf_L (k64 hn), hK k hk]
  rfl
theorem Sub_c {m n : Nat} (hm : Lt 64 m) (hn : Lt 64 n) (h : n ≤ m) : Evc 56 [rowL m, rowL n] (okP (rowL (m - n))) := by
  refine evc_ext ?_
  obtain ⟨K, hK⟩ := Sub_l hm hn h
  refine ⟨K, fun k hk => ?_⟩
  rw [ext_nat_Sub]
  simp only [x_nat_Sub, rowOf_L (k64 hm), rowOf_L (k64 hn), hK k hk]
  rfl
theorem NCmp_c {m n : Nat} (hm : Lt 64 m) (hn : Lt 64 n) {c : Int} (hc : cmpI m n = c) : Evc 55 [rowL m, rowL n] (intP c) := by
  refine evc_ext ?_
  obtain ⟨K, hK⟩ := Cmp_l hm hn
  refine ⟨K, fun k hk => ?_⟩
  rw [ext_nat_Cmp]
  simp only [x_nat_Cmp, rowOf_L (k64 hm), rowOf_L (k64 hn), hK k hk, hc]
  rfl
theorem NOf_c (n : Nat) (h : n < 18446744073709551616) : Evc 35 [.int .u64 n] (rowL n) := by
  refine evc_ext ?_
  obtain ⟨K, hK⟩ := Of_n n h
  refine ⟨K, fun k hk => ?_⟩
  rw [ext_nat_Of]
  simp only [x_nat_Of, hK k hk]
  rfl
theorem Equal_c {m n : Nat} (hm : Lt 1000 m) (hn : Lt 1000 n) {b : Bool} (h : decide (m = n) = b) : Evc 39 [rowL m, rowL n] (.bool b) := by
  refine evc_ext ?_
  obtain ⟨K, hK⟩ := equal_l (n := n) hm
  refine ⟨K, fun k hk => ?_⟩
  rw [ext_slices_Equal_uint32_uint32]
  simp only [x_slices_Equal_uint32_uint32, rowOf_L hm, rowOf_L hn, hK k hk, h]
theorem NText_c {m : Nat} (hm : Lt 64 m) : Evc 40 [rowL m] (okP (.str (textL m))) := by
  refine evc_ext ?_
  obtain ⟨K, hK⟩ := Text_l hm
  refine ⟨K, fun k hk => ?_⟩
  rw [ext_nat_Text]
  simp only [x_nat_Text, rowOf_L (k64 hm), hK k hk]
  rfl
theorem NRead_c (s : List UInt8) : Evc 43 [.str s] (.tup [row .u32 (readS s).1, .int .i64 (readS s).2]) := by
  refine evc_ext ?_
  obtain ⟨K, hK⟩ := Read_ev s
  refine ⟨K, fun k hk => ?_⟩
  rw [ext_nat_Read]
  have h := hK k hk
  simp only [x_nat_Read]
  show (match nat_Read.f k (str s) with | none => none | some (r1, r2) => some (PV.tup [row .u32 r1, PV.int .i64 r2])) = _
  rw [show nat_Read.f k (str s) = some (readS s) from h]
theorem Cut_c (s : List UInt8) (hs : s.length < 1000000) : Evc 42 [.str s, .str [47]] (.tup [.str (cutS s).1, .str (cutS s).2.1, .bool (cutS s).2.2]) := by
  refine evc_ext ⟨0, fun k _ => ?_⟩
  rw [ext_strings_Cut]
  simp only [x_strings_Cut]
  show (match strings_Cut.f (str s) (⟨#[47]⟩ : ByteArray) with | none => none | some (r1, r2, r3) => some (PV.tup [strP r1, strP r2, PV.bool r3])) = _
  rw [cut_f s hs]
  rfl
theorem CutPrefix_c (s : List UInt8) {t : List UInt8} {neg : Bool} (h : (if s.head? = some 45 then (s.tail, true) else (s, false)) = (t, neg)) : Evc 41 [.str s, .str [45]] (.tup [.str t, .bool neg]) := by
  refine evc_ext ⟨0, fun k _ => ?_⟩
  rw [ext_strings_CutPrefix]
  simp only [x_strings_CutPrefix]
  show (match strings_CutPrefix.f (str s) (⟨#[45]⟩ : ByteArray) with | none => none | some (r1, r2) => some (PV.tup [strP r1, PV.bool r2])) = _
  rw [cutPrefix_f]
  by_cases hh : s.head? = some 45
  · rw [if_pos hh] at h ⊢
    cases h
    rfl
  · rw [if_neg hh] at h ⊢
    cases h
    rfl

/-- All but the bare words, as answered otherwise. -/
def known : FuncId → Bool := fun f => dom f || (Nat.ble 9 f && Nat.ble f 36)
def fl0 : Flags := { len := true, bin := fun _ t _ _ => t == 3 || t == 9 }

def lenI (n : Nat) : Item := .len 24 (.pv (rowL n)) (limbs n).length
def gtrI (n : Nat) (m : Int) (b : Bool) : Item := .bin .gtr 3 (.pv (.int .i64 ((limbs n).length : Nat))) (.pv (.int .i64 m)) true (.pv (.bool b))
def eqlI (n : Nat) (b : Bool) : Item := .bin .eql 3 (.pv (.int .i64 ((limbs n).length : Nat))) (.pv (.int .i64 0)) true (.pv (.bool b))
theorem und24 : Tryd.prog.underlying 24 = some (.slice 49) := by kernel_rfl
theorem lenI_owed {n : Nat} (h : Lt 1000 n) : Owed (lenI n) := by
  refine ⟨?_, Nat.le_trans (len_l h) (by decide)⟩
  simp only [lenA, und24, AV.pure?, rowL, row, List.length_map]
theorem gtrI_owed {n : Nat} {m : Int} {b : Bool} (h : decide (((limbs n).length : Int) > m) = b) : Owed (gtrI n m b) := by
  subst h
  show binA Tryd.prog .gtr 3 _ _ _ = _
  simp only [binA, intOp, ne_eq, not_true, if_false]
theorem eqlI_owed {n : Nat} {b : Bool} (h : (((limbs n).length : Int) == 0) = b) : Owed (eqlI n b) := by
  subst h
  show binA Tryd.prog .eql 3 _ _ _ = _
  simp only [binA, intOp, ne_eq, not_true, if_false]
theorem gt16 {n : Nat} (h : Lt 16 n) : Owed (gtrI n 16 false) := gtrI_owed (decide_eq_false (fun e => len16.1 e h))
theorem gt16t {n : Nat} (h : ¬ Lt 16 n) : Owed (gtrI n 16 true) := gtrI_owed (decide_eq_true (len16.2 h))
theorem eq0 {n : Nat} (h : n ≠ 0) : Owed (eqlI n false) := eqlI_owed (beq_eq_false_iff_ne.2 fun e => h (limbs_eq_nil.1 (List.eq_nil_of_length_eq_zero (by omega))))
theorem eq0t {n : Nat} (h : n = 0) : Owed (eqlI n true) := eqlI_owed (by subst h; rw [limbs_zero]; rfl)
theorem gt0 {n : Nat} : Owed (gtrI n 0 (decide (0 < n))) := gtrI_owed lenpos

theorem one_c : Evc 36 [] (rowL 1) :=
  evc_script (known := known) (fl := {}) (n := 3) (L := [.call 35 [.int .u64 1] (rowL 1)]) (by kernel_rfl) (owed_cons (NOf_c 1 (by decide)) owed_nil)
theorem lt1 : Lt 1000 1 := lt_lit (by decide) (by decide)
theorem lt1' : Lt 64 1 := lt_lit (by decide) (by decide)
theorem Check_c {s : Bool} {n d : Nat} (h : CanR s n d) : Evc 20 [rp s n d] e0 := by
  have hn : Lt 16 n := h.n16
  have hd : Lt 16 d := h.d16
  have gc : Evc 44 [rowL n, rowL d] (okP (rowL 1)) := by
    have := Gcd_c (hn.up (j := 64) (by decide)) (hd.up (j := 64) (by decide))
    rwa [h.g] at this
  cases s with
  | false =>
    refine evc_script (known := known) (fl := fl0) (n := 3) (L := [lenI n, gtrI n 16 false, lenI d, gtrI d 16 false, .call 44 [rowL n, rowL d] (okP (rowL 1)), lenI d, eqlI d false, .call 36 [] (rowL 1), .call 39 [rowL 1, rowL 1] (.bool true)]) (by kernel_rfl) ?_
    exact owed_cons (lenI_owed (hn.up (by decide))) (owed_cons (gt16 hn) (owed_cons (lenI_owed (hd.up (by decide))) (owed_cons (gt16 hd) (owed_cons gc (owed_cons (lenI_owed (hd.up (by decide))) (owed_cons (eq0 h.d0) (owed_cons one_c (owed_cons (Equal_c lt1 lt1 rfl) owed_nil))))))))
  | true =>
    refine evc_script (known := known) (fl := fl0) (n := 3) (L := [lenI n, gtrI n 16 false, lenI d, gtrI d 16 false, .call 44 [rowL n, rowL d] (okP (rowL 1)), lenI d, eqlI d false, lenI n, eqlI n false, .call 36 [] (rowL 1), .call 39 [rowL 1, rowL 1] (.bool true)]) (by kernel_rfl) ?_
    exact owed_cons (lenI_owed (hn.up (by decide))) (owed_cons (gt16 hn) (owed_cons (lenI_owed (hd.up (by decide))) (owed_cons (gt16 hd) (owed_cons gc (owed_cons (lenI_owed (hd.up (by decide))) (owed_cons (eq0 h.d0) (owed_cons (lenI_owed (hn.up (by decide))) (owed_cons (eq0 (h.neg rfl)) (owed_cons one_c (owed_cons (Equal_c lt1 lt1 rfl) owed_nil))))))))))
theorem both_c {s1 : Bool} {n1 d1 : Nat} (h1 : CanR s1 n1 d1) {s2 : Bool} {n2 d2 : Nat} (h2 : CanR s2 n2 d2) : Evc 31 [rp s1 n1 d1, rp s2 n2 d2] e0 :=
  evc_script (known := known) (fl := {}) (n := 3) (L := [.call 20 [rp s1 n1 d1] e0, .call 20 [rp s2 n2 d2] e0]) (by kernel_rfl) (owed_cons (Check_c h1) (owed_cons (Check_c h2) owed_nil))
def pairP (m n : Nat) : PV := .sl (some true) 1 [rowL m, rowL n]
theorem product_c {m n : Nat} (hm : Lt 64 m) (hn : Lt 64 n) : Evc 33 [pairP m n] (rowL (m * n)) := by
  refine evc_script (known := known) (fl := {}) (n := 9) (L := [.call 36 [] (rowL 1), .call 57 [rowL 1, rowL m] (okP (rowL m)), .call 57 [rowL m, rowL n] (okP (rowL (m * n)))]) (by kernel_rfl) ?_
  refine owed_cons one_c (owed_cons ?_ (owed_cons (Mul_c hm hn) owed_nil))
  have := Mul_c lt1' hm
  rwa [Nat.one_mul] at this
theorem sum_c (a : Bool) {m : Nat} (b : Bool) {n : Nat} (hm : Lt 64 m) (hn : Lt 64 n) : Evc 32 [.bool a, rowL m, .bool b, rowL n] (.tup [.bool (sumR a m b n).1, rowL (sumR a m b n).2]) := by
  unfold sumR
  by_cases hab : a = b
  · rw [if_pos hab]
    subst hab
    cases a <;> exact evc_script (known := known) (fl := {}) (n := 3) (L := [.call 38 [rowL m, rowL n] (okP (rowL (m + n)))]) (by kernel_rfl) (owed_cons (Add_c hm hn) owed_nil)
  · rw [if_neg hab]
    by_cases hl : m < n
    · rw [if_pos hl]
      have hc : cmpI m n = -1 := if_pos hl
      cases a <;> cases b <;> first
        | exact absurd rfl hab
        | exact evc_script (known := known) (fl := {}) (n := 3) (L := [.call 55 [rowL m, rowL n] (intP (-1)), .call 56 [rowL n, rowL m] (okP (rowL (n - m)))]) (by kernel_rfl) (owed_cons (NCmp_c hm hn hc) (owed_cons (Sub_c hn hm (Nat.le_of_lt hl)) owed_nil))
    · rw [if_neg hl]
      by_cases he : n < m
      · have hc : cmpI m n = 1 := by unfold cmpI; rw [if_neg hl, if_pos he]
        cases a <;> cases b <;> first
          | exact absurd rfl hab
          | exact evc_script (known := known) (fl := {}) (n := 3) (L := [.call 55 [rowL m, rowL n] (intP 1), .call 56 [rowL m, rowL n] (okP (rowL (m - n)))]) (by kernel_rfl) (owed_cons (NCmp_c hm hn hc) (owed_cons (Sub_c hm hn (by omega)) owed_nil))
      · have hc : cmpI m n = 0 := by unfold cmpI; rw [if_neg hl, if_neg he]
        cases a <;> cases b <;> first
          | exact absurd rfl hab
          | exact evc_script (known := known) (fl := {}) (n := 3) (L := [.call 55 [rowL m, rowL n] (intP 0), .call 56 [rowL m, rowL n] (okP (rowL (m - n)))]) (by kernel_rfl) (owed_cons (NCmp_c hm hn hc) (owed_cons (Sub_c hm hn (by omega)) owed_nil))
def redP (s : Bool) (n d : Nat) : PV :=
  if n / Nat.gcd n d < 4294967296 ^ 16 ∧ d / Nat.gcd n d < 4294967296 ^ 16 then okP (rp (s && decide (0 < n / Nat.gcd n d)) (n / Nat.gcd n d) (d / Nat.gcd n d)) else .tup [zeroR, .int .i64 20]
theorem reduced_c (s : Bool) {n d : Nat} (hn : Lt 64 n) (hd : Lt 64 d) (h0 : d ≠ 0) : Evc 34 [.bool s, rowL n, rowL d] (redP s n d) := by
  have hg0 : Nat.gcd n d ≠ 0 := fun e => h0 (Nat.eq_zero_of_gcd_eq_zero_right e)
  have hg : Lt 64 (Nat.gcd n d) := hd.le (Nat.le_of_dvd (Nat.pos_of_ne_zero h0) (Nat.gcd_dvd_right n d))
  have a1 := Gcd_c hn hd
  have a2 := Div_c hn hg hg0
  have a3 := Div_c hd hg hg0
  unfold redP
  have l1 : Lt 64 (n / Nat.gcd n d) := hn.le (Nat.div_le_self _ _)
  have l2 : Lt 64 (d / Nat.gcd n d) := hd.le (Nat.div_le_self _ _)
  generalize n % Nat.gcd n d = r1 at *
  generalize d % Nat.gcd n d = r2 at *
  generalize n / Nat.gcd n d = n' at *
  generalize d / Nat.gcd n d = d' at *
  generalize Nat.gcd n d = g at *
  by_cases c1 : n' < 4294967296 ^ 16
  · by_cases c2 : d' < 4294967296 ^ 16
    · rw [if_pos ⟨c1, c2⟩]
      cases s with
      | false =>
        exact evc_script (known := known) (fl := fl0) (n := 3) (L := [.call 44 [rowL n, rowL d] (okP (rowL g)), .call 37 [rowL n, rowL g] (.tup [rowL n', rowL r1, e0]), .call 37 [rowL d, rowL g] (.tup [rowL d', rowL r2, e0]), lenI n', gtrI n' 16 false, lenI d', gtrI d' 16 false]) (by kernel_rfl)
          (owed_cons a1 (owed_cons a2 (owed_cons a3 (owed_cons (lenI_owed (k64 l1)) (owed_cons (gt16 c1) (owed_cons (lenI_owed (k64 l2)) (owed_cons (gt16 c2) owed_nil)))))))
      | true =>
        exact evc_script (known := known) (fl := fl0) (n := 3) (L := [.call 44 [rowL n, rowL d] (okP (rowL g)), .call 37 [rowL n, rowL g] (.tup [rowL n', rowL r1, e0]), .call 37 [rowL d, rowL g] (.tup [rowL d', rowL r2, e0]), lenI n', gtrI n' 16 false, lenI d', gtrI d' 16 false, lenI n', gtrI n' 0 (decide (0 < n'))]) (by kernel_rfl)
          (owed_cons a1 (owed_cons a2 (owed_cons a3 (owed_cons (lenI_owed (k64 l1)) (owed_cons (gt16 c1) (owed_cons (lenI_owed (k64 l2)) (owed_cons (gt16 c2) (owed_cons (lenI_owed (k64 l1)) (owed_cons gt0 owed_nil)))))))))
    · rw [if_neg (fun h => c2 h.2)]
      cases s <;> exact evc_script (known := known) (fl := fl0) (n := 3) (L := [.call 44 [rowL n, rowL d] (okP (rowL g)), .call 37 [rowL n, rowL g] (.tup [rowL n', rowL r1, e0]), .call 37 [rowL d, rowL g] (.tup [rowL d', rowL r2, e0]), lenI n', gtrI n' 16 false, lenI d', gtrI d' 16 true]) (by kernel_rfl)
          (owed_cons a1 (owed_cons a2 (owed_cons a3 (owed_cons (lenI_owed (k64 l1)) (owed_cons (gt16 c1) (owed_cons (lenI_owed (k64 l2)) (owed_cons (gt16t c2) owed_nil)))))))
  · rw [if_neg (fun h => c1 h.1)]
    cases s <;> exact evc_script (known := known) (fl := fl0) (n := 3) (L := [.call 44 [rowL n, rowL d] (okP (rowL g)), .call 37 [rowL n, rowL g] (.tup [rowL n', rowL r1, e0]), .call 37 [rowL d, rowL g] (.tup [rowL d', rowL r2, e0]), lenI n', gtrI n' 16 true]) (by kernel_rfl)
          (owed_cons a1 (owed_cons a2 (owed_cons a3 (owed_cons (lenI_owed (k64 l1)) (owed_cons (gt16t c1) owed_nil)))))
end Go.Proofs.YtkjdpojbmkpkgaaDoor.AV

/- The rational calls, over the fractions of the prover's own library. -/
namespace Go.Proofs.YtkjdpojbmkpkgaaDoor.AV
open Go Go.RowKit Go.Proofs.YtkjdpojbmkpkgaaDoorW.PrintWords Go.Proofs.YtkjdpojbmkpkgaaDoorW.PrintLast Go.Proofs.YtkjdpojbmkpkgaaDoorW.PrintMore Go.Proofs.YtkjdpojbmkpkgaaDoor.M Go.Proofs.YtkjdpojbmkpkgaaDoor.P Go.Proofs.YtkjdpojbmkpkgaaDoor.E

def ratP (q : Rat) : PV := rp (decide (q.num < 0)) q.num.natAbs q.den
def Fits (q : Rat) : Prop := q.num.natAbs < 4294967296 ^ 16 ∧ q.den < 4294967296 ^ 16
theorem Fits.can {q : Rat} (h : Fits q) : CanR (decide (q.num < 0)) q.num.natAbs q.den :=
  ⟨h.1, h.2, q.den_nz, q.reduced, fun h => by have := of_decide_eq_true h; omega⟩
def sg (s : Bool) (n : Nat) : Int := if s = true then -(n : Int) else n
theorem sg_num (z : Int) (d : Nat) : sg (decide (z < 0)) (z.natAbs * d) = z * d := by
  unfold sg
  by_cases h : z < 0
  · rw [if_pos (decide_eq_true h)]
    push_cast
    rw [show ((z.natAbs : Nat) : Int) = -z by omega]
    grind
  · rw [if_neg (by simpa using h)]
    push_cast
    rw [show ((z.natAbs : Nat) : Int) = z by omega]
theorem sg_not (s : Bool) (n : Nat) : sg (!s) n = - sg s n := by
  unfold sg
  cases s <;> simp
theorem sg_sumR (a : Bool) (m : Nat) (b : Bool) (n : Nat) : sg (sumR a m b n).1 (sumR a m b n).2 = sg a m + sg b n := by
  unfold sumR sg
  cases a <;> cases b <;> simp <;> (try split) <;> (try simp) <;> omega
theorem redP_rat {s : Bool} {n d : Nat} {q : Rat} (hd : d ≠ 0) (hq : mkRat (sg s n) d = q) (hf : Fits q) : redP s n d = okP (ratP q) := by
  have hg : Nat.gcd n d ≠ 0 := fun e => hd (Nat.eq_zero_of_gcd_eq_zero_right e)
  have hga : (sg s n).natAbs = n := by unfold sg; split <;> simp
  have hden : q.den = d / Nat.gcd n d := by rw [← hq, Rat.den_mkRat, if_neg hd, hga, Nat.gcd_comm]
  have hnum : q.num = sg s n / (Nat.gcd n d : Nat) := by rw [← hq, Rat.num_mkRat, if_neg hd, hga, Nat.gcd_comm]
  obtain ⟨m, hm⟩ := Nat.gcd_dvd_left n d
  have hdiv : n / Nat.gcd n d = m := by
    have := Nat.mul_div_cancel_left m (Nat.pos_of_ne_zero hg)
    rwa [← hm] at this
  have hnum2 : q.num = sg s m := by
    rw [hnum]
    have hgz : ((Nat.gcd n d : Nat) : Int) ≠ 0 := by omega
    unfold sg
    split
    · rw [show (-(n : Int)) = (Nat.gcd n d : Nat) * (-(m : Int)) by
        have : (n : Int) = (Nat.gcd n d : Nat) * (m : Int) := by exact_mod_cast hm
        rw [Int.mul_neg, ← this]]
      exact Int.mul_ediv_cancel_left _ hgz
    · rw [show (n : Int) = (Nat.gcd n d : Nat) * (m : Int) by exact_mod_cast hm]
      exact Int.mul_ediv_cancel_left _ hgz
  have hna : q.num.natAbs = m := by rw [hnum2]; unfold sg; split <;> simp
  unfold redP
  rw [hdiv, ← hden]
  rw [if_pos ⟨by rw [← hna]; exact hf.1, hf.2⟩]
  unfold ratP
  rw [hna]
  have hb : (s && decide (0 < m)) = decide (q.num < 0) := by
    rw [hnum2]
    unfold sg
    cases s <;> simp <;> omega
  rw [hb]

/-- What two of them are to one another. -/
def cmpQ (p q : Rat) : Int := if p < q then -1 else if q < p then 1 else 0

theorem lt16 {n : Nat} (h : n < 4294967296 ^ 16) : Lt 16 n := h
theorem up64 {n : Nat} (h : n < 4294967296 ^ 16) : Lt 64 n := (lt16 h).up (by decide)
theorem up1000 {n : Nat} (h : n < 4294967296 ^ 16) : Lt 1000 n := (lt16 h).up (by decide)
theorem mul32 {m n : Nat} (hm : m < 4294967296 ^ 16) (hn : n < 4294967296 ^ 16) : Lt 32 (m * n) := (lt16 hm).mul (lt16 hn) (by decide)
theorem mul64 {m n : Nat} (hm : m < 4294967296 ^ 16) (hn : n < 4294967296 ^ 16) : Lt 64 (m * n) := (mul32 hm hn).up (by decide)
theorem sumR_lt' {a : Bool} {m : Nat} {b : Bool} {n : Nat} (hm : Lt 32 m) (hn : Lt 32 n) : Lt 64 (sumR a m b n).2 := by
  unfold sumR
  split
  · exact (hm.add hn (j := 33) (by decide)).up (by decide)
  · split
    · exact (hn.le (Nat.sub_le _ _)).up (by decide)
    · exact (hm.le (Nat.sub_le _ _)).up (by decide)

theorem Add_evc {p q : Rat} (hp : Fits p) (hq : Fits q) (hs : Fits (p + q)) : Evc 14 [ratP p, ratP q] (okP (ratP (p + q))) := by
  have hd : p.den * q.den ≠ 0 := Nat.mul_ne_zero p.den_nz q.den_nz
  have r := reduced_c (sumR (decide (p.num < 0)) (p.num.natAbs * q.den) (decide (q.num < 0)) (q.num.natAbs * p.den)).1 (sumR_lt' (a := decide (p.num < 0)) (b := decide (q.num < 0)) (mul32 hp.1 hq.2) (mul32 hq.1 hp.2)) (mul64 hp.2 hq.2) hd
  rw [redP_rat (q := p + q) hd (by rw [sg_sumR, sg_num, sg_num, Rat.add_def']) hs] at r
  have b := both_c hp.can hq.can
  have s := sum_c (decide (p.num < 0)) (decide (q.num < 0)) (mul64 hp.1 hq.2) (mul64 hq.1 hp.2)
  generalize sumR (decide (p.num < 0)) (p.num.natAbs * q.den) (decide (q.num < 0)) (q.num.natAbs * p.den) = S at *
  exact evc_script (known := known) (fl := {}) (n := 3) (L := [.call 31 [ratP p, ratP q] e0, .call 33 [pairP p.num.natAbs q.den] (rowL (p.num.natAbs * q.den)), .call 33 [pairP q.num.natAbs p.den] (rowL (q.num.natAbs * p.den)),
      .call 32 [.bool (decide (p.num < 0)), rowL (p.num.natAbs * q.den), .bool (decide (q.num < 0)), rowL (q.num.natAbs * p.den)] (.tup [.bool S.1, rowL S.2]), .call 33 [pairP p.den q.den] (rowL (p.den * q.den)), .call 34 [.bool S.1, rowL S.2, rowL (p.den * q.den)] (okP (ratP (p + q)))]) (by kernel_rfl)
    (owed_cons b (owed_cons (product_c (up64 hp.1) (up64 hq.2)) (owed_cons (product_c (up64 hq.1) (up64 hp.2)) (owed_cons s (owed_cons (product_c (up64 hp.2) (up64 hq.2)) (owed_cons r owed_nil))))))
theorem Sub_evc {p q : Rat} (hp : Fits p) (hq : Fits q) (hs : Fits (p - q)) : Evc 12 [ratP p, ratP q] (okP (ratP (p - q))) := by
  have hd : p.den * q.den ≠ 0 := Nat.mul_ne_zero p.den_nz q.den_nz
  have r := reduced_c (sumR (decide (p.num < 0)) (p.num.natAbs * q.den) (!decide (q.num < 0)) (q.num.natAbs * p.den)).1 (sumR_lt' (a := decide (p.num < 0)) (b := !decide (q.num < 0)) (mul32 hp.1 hq.2) (mul32 hq.1 hp.2)) (mul64 hp.2 hq.2) hd
  rw [redP_rat (q := p - q) hd (by rw [sg_sumR, sg_not, sg_num, sg_num, Rat.sub_def', Int.sub_eq_add_neg]) hs] at r
  have b := both_c hp.can hq.can
  have s := sum_c (decide (p.num < 0)) (!decide (q.num < 0)) (mul64 hp.1 hq.2) (mul64 hq.1 hp.2)
  generalize sumR (decide (p.num < 0)) (p.num.natAbs * q.den) (!decide (q.num < 0)) (q.num.natAbs * p.den) = S at *
  exact evc_script (known := known) (fl := {}) (n := 3) (L := [.call 31 [ratP p, ratP q] e0, .call 33 [pairP p.num.natAbs q.den] (rowL (p.num.natAbs * q.den)), .call 33 [pairP q.num.natAbs p.den] (rowL (q.num.natAbs * p.den)),
      .call 32 [.bool (decide (p.num < 0)), rowL (p.num.natAbs * q.den), .bool (!decide (q.num < 0)), rowL (q.num.natAbs * p.den)] (.tup [.bool S.1, rowL S.2]), .call 33 [pairP p.den q.den] (rowL (p.den * q.den)), .call 34 [.bool S.1, rowL S.2, rowL (p.den * q.den)] (okP (ratP (p - q)))]) (by kernel_rfl)
    (owed_cons b (owed_cons (product_c (up64 hp.1) (up64 hq.2)) (owed_cons (product_c (up64 hq.1) (up64 hp.2)) (owed_cons s (owed_cons (product_c (up64 hp.2) (up64 hq.2)) (owed_cons r owed_nil))))))
theorem sg_mul (z y : Int) : sg (decide (z < 0) != decide (y < 0)) (z.natAbs * y.natAbs) = z * y := by
  unfold sg
  have hz : ((z.natAbs : Nat) : Int) = if z < 0 then -z else z := by split <;> omega
  have hy : ((y.natAbs : Nat) : Int) = if y < 0 then -y else y := by split <;> omega
  push_cast
  rw [hz, hy]
  by_cases h : z < 0 <;> by_cases h2 : y < 0 <;> simp [h, h2] <;> grind
theorem Mul_evc {p q : Rat} (hp : Fits p) (hq : Fits q) (hs : Fits (p * q)) : Evc 15 [ratP p, ratP q] (okP (ratP (p * q))) := by
  have hd : p.den * q.den ≠ 0 := Nat.mul_ne_zero p.den_nz q.den_nz
  have r := reduced_c (decide (p.num < 0) != decide (q.num < 0)) (mul64 hp.1 hq.1) (mul64 hp.2 hq.2) hd
  rw [redP_rat (q := p * q) hd (by rw [sg_mul, Rat.mul_def']) hs] at r
  exact evc_script (known := known) (fl := {}) (n := 3) (L := [.call 31 [ratP p, ratP q] e0, .call 33 [pairP p.num.natAbs q.num.natAbs] (rowL (p.num.natAbs * q.num.natAbs)), .call 33 [pairP p.den q.den] (rowL (p.den * q.den)),
      .call 34 [.bool (!(decide (p.num < 0) == decide (q.num < 0))), rowL (p.num.natAbs * q.num.natAbs), rowL (p.den * q.den)] (okP (ratP (p * q)))]) (by kernel_rfl)
    (owed_cons (both_c hp.can hq.can) (owed_cons (product_c (up64 hp.1) (up64 hq.1)) (owed_cons (product_c (up64 hp.2) (up64 hq.2)) (owed_cons r owed_nil))))
theorem div_mk {p q : Rat} (h : q.num ≠ 0) : mkRat (sg (decide (p.num < 0) != decide (q.num < 0)) (p.num.natAbs * q.den)) (p.den * q.num.natAbs) = p / q := by
  have hq : q ≠ 0 := fun e => h (by rw [e]; rfl)
  have hx : mkRat (sg (decide (p.num < 0) != decide (q.num < 0)) (p.num.natAbs * q.den)) (p.den * q.num.natAbs) * q = p := by
    conv => lhs; arg 2; rw [← Rat.mkRat_self q]
    conv => rhs; rw [← Rat.mkRat_self p]
    rw [Rat.mkRat_mul_mkRat, Rat.mkRat_eq_iff (Nat.mul_ne_zero (Nat.mul_ne_zero p.den_nz (by omega)) q.den_nz) p.den_nz]
    have hz : ((p.num.natAbs : Nat) : Int) = if p.num < 0 then -p.num else p.num := by split <;> omega
    have hy : ((q.num.natAbs : Nat) : Int) = if q.num < 0 then -q.num else q.num := by split <;> omega
    unfold sg
    push_cast
    rw [hz, hy]
    by_cases h1 : p.num < 0 <;> by_cases h2 : q.num < 0 <;> simp [h1, h2] <;> grind
  conv => rhs; rw [← hx]
  rw [Rat.mul_div_cancel hq]
theorem Div_evc {p q : Rat} (hp : Fits p) (hq : Fits q) (h0 : q ≠ 0) (hs : Fits (p / q)) : Evc 22 [ratP p, ratP q] (okP (ratP (p / q))) := by
  have hn : q.num ≠ 0 := fun e => h0 (Rat.num_eq_zero.1 e)
  have hd : p.den * q.num.natAbs ≠ 0 := Nat.mul_ne_zero p.den_nz (by omega)
  have r := reduced_c (decide (p.num < 0) != decide (q.num < 0)) (mul64 hp.1 hq.2) (mul64 hp.2 hq.1) hd
  rw [redP_rat (q := p / q) hd (div_mk hn) hs] at r
  exact evc_script (known := known) (fl := fl0) (n := 3) (L := [.call 31 [ratP p, ratP q] e0, lenI q.num.natAbs, eqlI q.num.natAbs false, .call 33 [pairP p.num.natAbs q.den] (rowL (p.num.natAbs * q.den)), .call 33 [pairP p.den q.num.natAbs] (rowL (p.den * q.num.natAbs)),
      .call 34 [.bool (!(decide (p.num < 0) == decide (q.num < 0))), rowL (p.num.natAbs * q.den), rowL (p.den * q.num.natAbs)] (okP (ratP (p / q)))]) (by kernel_rfl)
    (owed_cons (both_c hp.can hq.can) (owed_cons (lenI_owed (up1000 hq.1)) (owed_cons (eq0 (by omega)) (owed_cons (product_c (up64 hp.1) (up64 hq.2)) (owed_cons (product_c (up64 hp.2) (up64 hq.1)) (owed_cons r owed_nil))))))
theorem Cmp_evc {p q : Rat} (hp : Fits p) (hq : Fits q) : Evc 11 [ratP p, ratP q] (okP (intP (cmpQ p q))) := by
  have hs : sg (sumR (decide (p.num < 0)) (p.num.natAbs * q.den) (!decide (q.num < 0)) (q.num.natAbs * p.den)).1 (sumR (decide (p.num < 0)) (p.num.natAbs * q.den) (!decide (q.num < 0)) (q.num.natAbs * p.den)).2 = p.num * q.den - q.num * p.den := by
    rw [sg_sumR, sg_not, sg_num, sg_num, Int.sub_eq_add_neg]
  have e : (if (sumR (decide (p.num < 0)) (p.num.natAbs * q.den) (!decide (q.num < 0)) (q.num.natAbs * p.den)).2 = 0 then (0 : Int) else if (sumR (decide (p.num < 0)) (p.num.natAbs * q.den) (!decide (q.num < 0)) (q.num.natAbs * p.den)).1 = true then (-1) else 1) = cmpQ p q := by
    unfold cmpQ
    simp only [Rat.lt_iff]
    generalize p.num * (q.den : Int) = X at hs ⊢
    generalize q.num * (p.den : Int) = Y at hs ⊢
    unfold sg at hs
    split
    · rename_i h0
      rw [h0] at hs
      have : X = Y := by split at hs <;> omega
      rw [if_neg (by omega), if_neg (by omega)]
    · split
      · rename_i h1
        rw [if_pos h1] at hs
        rw [if_pos (by omega)]
      · rename_i h1
        rw [if_neg h1] at hs
        rw [if_neg (by omega), if_pos (by omega)]
  rw [← e]
  clear e hs
  have l := sumR_lt' (a := decide (p.num < 0)) (b := !decide (q.num < 0)) (mul32 hp.1 hq.2) (mul32 hq.1 hp.2)
  have s := sum_c (decide (p.num < 0)) (!decide (q.num < 0)) (mul64 hp.1 hq.2) (mul64 hq.1 hp.2)
  generalize sumR (decide (p.num < 0)) (p.num.natAbs * q.den) (!decide (q.num < 0)) (q.num.natAbs * p.den) = S at *
  obtain ⟨b, m⟩ := S
  by_cases h0 : m = 0
  · simp only [if_pos h0]
    exact evc_script (known := known) (fl := fl0) (n := 3) (L := [.call 31 [ratP p, ratP q] e0, .call 33 [pairP p.num.natAbs q.den] (rowL (p.num.natAbs * q.den)), .call 33 [pairP q.num.natAbs p.den] (rowL (q.num.natAbs * p.den)),
        .call 32 [.bool (decide (p.num < 0)), rowL (p.num.natAbs * q.den), .bool (!decide (q.num < 0)), rowL (q.num.natAbs * p.den)] (.tup [.bool b, rowL m]), lenI m, eqlI m true]) (by kernel_rfl)
      (owed_cons (both_c hp.can hq.can) (owed_cons (product_c (up64 hp.1) (up64 hq.2)) (owed_cons (product_c (up64 hq.1) (up64 hp.2)) (owed_cons s (owed_cons (lenI_owed (l.up (by decide))) (owed_cons (eq0t h0) owed_nil))))))
  · simp only [if_neg h0]
    cases b with
    | false =>
      exact evc_script (known := known) (fl := fl0) (n := 3) (L := [.call 31 [ratP p, ratP q] e0, .call 33 [pairP p.num.natAbs q.den] (rowL (p.num.natAbs * q.den)), .call 33 [pairP q.num.natAbs p.den] (rowL (q.num.natAbs * p.den)),
        .call 32 [.bool (decide (p.num < 0)), rowL (p.num.natAbs * q.den), .bool (!decide (q.num < 0)), rowL (q.num.natAbs * p.den)] (.tup [.bool false, rowL m]), lenI m, eqlI m false]) (by kernel_rfl)
        (owed_cons (both_c hp.can hq.can) (owed_cons (product_c (up64 hp.1) (up64 hq.2)) (owed_cons (product_c (up64 hq.1) (up64 hp.2)) (owed_cons s (owed_cons (lenI_owed (l.up (by decide))) (owed_cons (eq0 h0) owed_nil))))))
    | true =>
      exact evc_script (known := known) (fl := fl0) (n := 3) (L := [.call 31 [ratP p, ratP q] e0, .call 33 [pairP p.num.natAbs q.den] (rowL (p.num.natAbs * q.den)), .call 33 [pairP q.num.natAbs p.den] (rowL (q.num.natAbs * p.den)),
        .call 32 [.bool (decide (p.num < 0)), rowL (p.num.natAbs * q.den), .bool (!decide (q.num < 0)), rowL (q.num.natAbs * p.den)] (.tup [.bool true, rowL m]), lenI m, eqlI m false]) (by kernel_rfl)
        (owed_cons (both_c hp.can hq.can) (owed_cons (product_c (up64 hp.1) (up64 hq.2)) (owed_cons (product_c (up64 hq.1) (up64 hp.2)) (owed_cons s (owed_cons (lenI_owed (l.up (by decide))) (owed_cons (eq0 h0) owed_nil))))))
theorem same_iff (p q : Rat) : p = q ↔ (decide (p.num < 0) = decide (q.num < 0) ∧ p.num.natAbs = q.num.natAbs ∧ p.den = q.den) := by
  constructor
  · rintro rfl
    exact ⟨rfl, rfl, rfl⟩
  · rintro ⟨h1, h2, h3⟩
    have h1 := decide_eq_decide.1 h1
    exact Rat.ext (by omega) h3
theorem same_c {s1 : Bool} {n1 d1 : Nat} {s2 : Bool} {n2 d2 : Nat} (h1 : Lt 1000 n1) (h2 : Lt 1000 d1) (h3 : Lt 1000 n2) (h4 : Lt 1000 d2) : Evc 17 [rp s1 n1 d1, rp s2 n2 d2] (.bool (decide (s1 = s2 ∧ n1 = n2 ∧ d1 = d2))) := by
  by_cases hs : s1 = s2
  · subst hs
    by_cases hn : n1 = n2
    · by_cases hd : d1 = d2
      · rw [decide_eq_true ⟨rfl, hn, hd⟩]
        cases s1 <;> exact evc_script (known := known) (fl := {}) (n := 3) (L := [.call 39 [rowL n1, rowL n2] (.bool true), .call 39 [rowL d1, rowL d2] (.bool true)]) (by kernel_rfl)
          (owed_cons (Equal_c h1 h3 (decide_eq_true hn)) (owed_cons (Equal_c h2 h4 (decide_eq_true hd)) owed_nil))
      · rw [decide_eq_false (fun h => hd h.2.2)]
        cases s1 <;> exact evc_script (known := known) (fl := {}) (n := 3) (L := [.call 39 [rowL n1, rowL n2] (.bool true), .call 39 [rowL d1, rowL d2] (.bool false)]) (by kernel_rfl)
          (owed_cons (Equal_c h1 h3 (decide_eq_true hn)) (owed_cons (Equal_c h2 h4 (decide_eq_false hd)) owed_nil))
    · rw [decide_eq_false (fun h => hn h.2.1)]
      cases s1 <;> exact evc_script (known := known) (fl := {}) (n := 3) (L := [.call 39 [rowL n1, rowL n2] (.bool false)]) (by kernel_rfl)
          (owed_cons (Equal_c h1 h3 (decide_eq_false hn)) owed_nil)
  · rw [decide_eq_false (fun h => hs h.1)]
    cases s1 <;> cases s2 <;> first | exact absurd rfl hs | exact evc_script (known := known) (fl := {}) (n := 3) (L := []) (by kernel_rfl) owed_nil
theorem Same_evc {p q : Rat} (hp : Fits p) (hq : Fits q) : Evc 17 [ratP p, ratP q] (.bool (decide (p = q))) := by
  have := same_c (s1 := decide (p.num < 0)) (s2 := decide (q.num < 0)) (up1000 hp.1) (up1000 hp.2) (up1000 hq.1) (up1000 hq.2)
  rwa [show decide (decide (p.num < 0) = decide (q.num < 0) ∧ p.num.natAbs = q.num.natAbs ∧ p.den = q.den) = decide (p = q) from decide_eq_decide.2 (same_iff p q).symm] at this
def lssI (n : Int) (b : Bool) : Item := .bin .lss 3 (.pv (.int .i64 n)) (.pv (.int .i64 0)) true (.pv (.bool b))
theorem lssI_owed {n : Int} {b : Bool} (h : decide (n < 0) = b) : Owed (lssI n b) := by
  subst h
  show binA Tryd.prog .lss 3 _ _ _ = _
  simp only [binA, intOp, ne_eq, not_true, if_false]
theorem Of_evc {n : Int} (h0 : -9223372036854775808 ≤ n) (h1 : n < 9223372036854775808) : Evc 13 [intP n] (ratP (n : Rat)) := by
  unfold ratP
  rw [Rat.num_intCast, Rat.den_intCast]
  by_cases h : n < 0
  · rw [decide_eq_true h]
    have e : IntKind.u64.wrap (0 - IntKind.u64.wrap n) = ((n.natAbs : Nat) : Int) := by
      simp only [IntKind.wrap, IntKind.bits, IntKind.signed]
      simp
      omega
    refine evc_script (known := known) (fl := fl0) (n := 3) (L := [lssI n true, lssI n true, .call 35 [.int .u64 (IntKind.u64.wrap (0 - IntKind.u64.wrap n))] (rowL n.natAbs), .call 36 [] (rowL 1)]) (by kernel_rfl)
      (owed_cons (lssI_owed (decide_eq_true h)) (owed_cons (lssI_owed (decide_eq_true h)) (owed_cons ?_ (owed_cons one_c owed_nil))))
    rw [e]
    exact NOf_c _ (by omega)
  · rw [decide_eq_false h]
    have e : IntKind.u64.wrap n = ((n.natAbs : Nat) : Int) := by
      simp only [IntKind.wrap, IntKind.bits, IntKind.signed]
      simp
      omega
    refine evc_script (known := known) (fl := fl0) (n := 3) (L := [lssI n false, lssI n false, .call 35 [.int .u64 (IntKind.u64.wrap n)] (rowL n.natAbs), .call 36 [] (rowL 1)]) (by kernel_rfl)
      (owed_cons (lssI_owed (decide_eq_false h)) (owed_cons (lssI_owed (decide_eq_false h)) (owed_cons ?_ (owed_cons one_c owed_nil))))
    rw [e]
    exact NOf_c _ (by omega)
theorem Floor_evc {p : Rat} (hp : Fits p) (hs : Fits (p.floor : Rat)) : Evc 16 [ratP p] (okP (ratP (p.floor : Rat))) := by
  have hd := p.den_nz
  have e : mkRat (sg (decide (p.num < 0)) (if decide (p.num < 0) = true ∧ p.num.natAbs % p.den ≠ 0 then p.num.natAbs / p.den + 1 else p.num.natAbs / p.den)) 1 = (p.floor : Rat) := by
    have : sg (decide (p.num < 0)) (if decide (p.num < 0) = true ∧ p.num.natAbs % p.den ≠ 0 then p.num.natAbs / p.den + 1 else p.num.natAbs / p.den) = p.floor := by
      rw [Rat.floor_def]
      have hdm := Nat.div_add_mod p.num.natAbs p.den
      have hml := Nat.mod_lt p.num.natAbs (Nat.pos_of_ne_zero hd)
      generalize p.num.natAbs / p.den = Q at *
      generalize p.num.natAbs % p.den = R at *
      symm
      unfold sg
      by_cases hn : p.num < 0
      · rw [if_pos (decide_eq_true hn)]
        have hz : p.num = -((p.den * Q + R : Nat) : Int) := by omega
        by_cases hr : R ≠ 0
        · rw [if_pos ⟨decide_eq_true hn, hr⟩]
          rw [Int.ediv_eq_iff_of_pos (by omega)]
          rw [hz]; push_cast
          constructor <;> grind
        · rw [if_neg (fun h => hr h.2)]
          rw [Int.ediv_eq_iff_of_pos (by omega)]
          rw [hz]; push_cast
          constructor <;> grind
      · rw [if_neg (by simpa using hn), if_neg (by simp [hn])]
        have hz : p.num = ((p.den * Q + R : Nat) : Int) := by omega
        rw [Int.ediv_eq_iff_of_pos (by omega)]
        rw [hz]; push_cast
        constructor <;> grind
    rw [this]
    apply Rat.ext
    · rw [Rat.num_mkRat]; simp
    · rw [Rat.den_mkRat]; simp
  have lq : Lt 64 (p.num.natAbs / p.den) := (up64 hp.1).le (Nat.div_le_self _ _)
  have lq1 : Lt 64 (p.num.natAbs / p.den + 1) := (((lt16 hp.1).le (Nat.div_le_self _ _)).add (lt_lit (by decide) (by decide) : Lt 16 1) (j := 64) (by decide))
  have lr : Lt 64 (p.num.natAbs % p.den) := (up64 hp.1).le (Nat.mod_le _ _)
  have a2 := Div_c (up64 hp.1) (up64 hp.2) hd
  have ck := Check_c hp.can
  have hr : ∀ m, m = (if decide (p.num < 0) = true ∧ p.num.natAbs % p.den ≠ 0 then p.num.natAbs / p.den + 1 else p.num.natAbs / p.den) → Lt 64 m → Evc 34 [.bool (decide (p.num < 0)), rowL m, rowL 1] (okP (ratP (p.floor : Rat))) := fun m hm lm => by
    have := reduced_c (decide (p.num < 0)) lm lt1' (by decide)
    rwa [redP_rat (q := (p.floor : Rat)) (by decide) (by rw [hm]; exact e) hs] at this
  clear e
  generalize (p.floor : Rat) = fl at *
  show Evc _ [rp (decide (p.num < 0)) p.num.natAbs p.den] _
  generalize p.num.natAbs / p.den = Q at *
  generalize p.num.natAbs % p.den = R at *
  by_cases hn : p.num < 0
  · rw [decide_eq_true hn] at hr ck ⊢
    by_cases h0 : R = 0
    · exact evc_script (known := known) (fl := fl0) (n := 3) (L := [.call 20 [rp true p.num.natAbs p.den] e0, .call 37 [rowL p.num.natAbs, rowL p.den] (.tup [rowL Q, rowL R, e0]), lenI R, gtrI R 0 false, .call 36 [] (rowL 1), .call 34 [.bool true, rowL Q, rowL 1] (okP (ratP fl))]) (by kernel_rfl)
        (owed_cons ck (owed_cons a2 (owed_cons (lenI_owed (k64 lr)) (owed_cons (by have := gt0 (n := R); rwa [decide_eq_false (by omega : ¬ 0 < R)] at this) (owed_cons one_c (owed_cons (hr Q (by rw [if_neg (fun h => h.2 h0)]) lq) owed_nil))))))
    · exact evc_script (known := known) (fl := fl0) (n := 3) (L := [.call 20 [rp true p.num.natAbs p.den] e0, .call 37 [rowL p.num.natAbs, rowL p.den] (.tup [rowL Q, rowL R, e0]), lenI R, gtrI R 0 true, .call 36 [] (rowL 1), .call 38 [rowL Q, rowL 1] (okP (rowL (Q + 1))), .call 36 [] (rowL 1), .call 34 [.bool true, rowL (Q + 1), rowL 1] (okP (ratP fl))]) (by kernel_rfl)
        (owed_cons ck (owed_cons a2 (owed_cons (lenI_owed (k64 lr)) (owed_cons (by have := gt0 (n := R); rwa [decide_eq_true (by omega : 0 < R)] at this) (owed_cons one_c (owed_cons (Add_c lq lt1') (owed_cons one_c (owed_cons (hr (Q + 1) (by rw [if_pos ⟨rfl, h0⟩]) lq1) owed_nil))))))))
  · rw [decide_eq_false hn] at hr ck ⊢
    exact evc_script (known := known) (fl := fl0) (n := 3) (L := [.call 20 [rp false p.num.natAbs p.den] e0, .call 37 [rowL p.num.natAbs, rowL p.den] (.tup [rowL Q, rowL R, e0]), .call 36 [] (rowL 1), .call 34 [.bool false, rowL Q, rowL 1] (okP (ratP fl))]) (by kernel_rfl)
        (owed_cons ck (owed_cons a2 (owed_cons one_c (owed_cons (hr Q (by rw [if_neg (fun h => by cases h.1)]) lq) owed_nil))))
theorem Check_evc {p : Rat} (hp : Fits p) : Evc 20 [ratP p] e0 := Check_c hp.can
end Go.Proofs.YtkjdpojbmkpkgaaDoor.AV


/- Read and Text, the chapter's examples: what the evaluator answers. -/
namespace Go.Proofs.YtkjdpojbmkpkgaaDoor.AV
open Go Go.RowKit Go.Proofs.YtkjdpojbmkpkgaaDoorW.PrintWords Go.Proofs.YtkjdpojbmkpkgaaDoorW.PrintLast Go.Proofs.YtkjdpojbmkpkgaaDoorW.PrintMore Go.Proofs.YtkjdpojbmkpkgaaDoor.M Go.Proofs.YtkjdpojbmkpkgaaDoor.P Go.Proofs.YtkjdpojbmkpkgaaDoor.E

def readP (a : List UInt8) : PV := .tup [row .u32 (readS a).1, .int .i64 (readS a).2]
theorem readP_ok {a : List UInt8} {n : Nat} (h : readS a = (limbs n, 0)) : readP a = okP (rowL n) := by unfold readP; rw [h]; rfl
structure RS (s t a b : List UInt8) (neg has : Bool) : Prop where
  h1 : (if s.head? = some 45 then (s.tail, true) else (s, false)) = (t, neg)
  h2 : cutS t = (a, b, has)
  hs : s.length < 1000000
def readPre (s t a b : List UInt8) (neg has : Bool) (pa pb : PV) : List Item :=
  [.call 41 [.str s, .str [45]] (.tup [.str t, .bool neg]), .call 42 [.str t, .str [47]] (.tup [.str a, .str b, .bool has]), .call 43 [.str a] pa, .call 36 [] (rowL 1)] ++ (if has then [.call 43 [.str b] pb] else [])
theorem owed_app {L M : List Item} (h1 : ∀ i ∈ L, Owed i) (h2 : ∀ i ∈ M, Owed i) : ∀ i ∈ L ++ M, Owed i := fun i hi => (List.mem_append.1 hi).elim (h1 i) (h2 i)
theorem readPre_owed {s t a b : List UInt8} {neg has : Bool} (h : RS s t a b neg has) {pa pb : PV} (ha : readP a = pa) (hb : has = true → readP b = pb) : ∀ i ∈ readPre s t a b neg has pa pb, Owed i := by
  have lt : t.length ≤ s.length := by
    have := h.h1
    split at this
    · rw [Prod.mk.injEq] at this; rw [← this.1]; simp
    · rw [Prod.mk.injEq] at this; rw [← this.1]; exact Nat.le_refl _
  have hcut := Cut_c t (Nat.lt_of_le_of_lt lt h.hs)
  rw [h.h2] at hcut
  have e1 : Evc 43 [.str a] pa := by rw [← ha]; exact NRead_c a
  refine owed_app (owed_cons (CutPrefix_c s h.h1) (owed_cons hcut (owed_cons e1 (owed_cons one_c owed_nil)))) ?_
  cases has with
  | false => exact owed_nil
  | true => exact owed_cons (by rw [← hb rfl]; exact NRead_c b) owed_nil
def noP (e : Int) : PV := .tup [zeroR, .int .i64 e]
def readAns (neg has : Bool) (n d : Nat) : PV := if d = 0 ∨ (has = true ∧ d = 1) ∨ (neg = true ∧ n = 0) ∨ Nat.gcd n d ≠ 1 then noP 4 else redP neg n d
theorem Read_c {s t a b : List UInt8} {neg has : Bool} (h : RS s t a b neg has) {n d : Nat} (hn : readS a = (limbs n, 0)) (hd : (if has = true then readS b else (limbs 1, 0)) = (limbs d, 0)) (ln : Lt 64 n) (ld : Lt 64 d) :
    Evc 19 [.str s] (readAns neg has n d) := by
  have pre := readPre_owed h (readP_ok hn) (pb := okP (rowL d)) (fun e => readP_ok (by rwa [if_pos e] at hd))
  have hd1 : has = false → d = 1 := fun e => by
    rw [if_neg (by rw [e]; decide)] at hd
    exact (limbs_inj (by injection hd)).symm
  have ld0 := lenI_owed (k64 ld)
  have ln0 := lenI_owed (k64 ln)
  unfold readAns
  by_cases c0 : d = 0
  · rw [if_pos (.inl c0)]
    cases has with
    | false => exact absurd (hd1 rfl) (by omega)
    | true => cases neg <;> exact evc_script (known := known) (fl := fl0) (n := 3) (L := readPre s t a b _ true (okP (rowL n)) (okP (rowL d)) ++ [lenI d, eqlI d true]) (by kernel_rfl) (owed_app pre (owed_cons ld0 (owed_cons (eq0t c0) owed_nil)))
  · have hg : Lt 64 (Nat.gcd n d) := ld.le (Nat.le_of_dvd (Nat.pos_of_ne_zero c0) (Nat.gcd_dvd_right n d))
    have hgc := Gcd_c ln ld
    have hred := fun neg => reduced_c neg ln ld c0
    by_cases c1 : has = true ∧ d = 1
    · rw [if_pos (.inr (.inl c1))]
      obtain ⟨rfl, c1⟩ := c1
      cases neg <;> exact evc_script (known := known) (fl := fl0) (n := 3) (L := readPre s t a b _ true (okP (rowL n)) (okP (rowL d)) ++ [lenI d, eqlI d false, .call 36 [] (rowL 1), .call 39 [rowL d, rowL 1] (.bool true)]) (by kernel_rfl) (owed_app pre (owed_cons ld0 (owed_cons (eq0 c0) (owed_cons one_c (owed_cons (Equal_c (k64 ld) lt1 (decide_eq_true c1)) owed_nil)))))
    · have hmid : ∃ M, (has = true → M = [.call 36 [] (rowL 1), .call 39 [rowL d, rowL 1] (.bool false)]) ∧ (has = false → M = []) ∧ ∀ i ∈ M, Owed i := by
        cases has with
        | false => exact ⟨[], fun e => (by cases e), fun _ => rfl, owed_nil⟩
        | true => exact ⟨_, fun _ => rfl, fun e => (by cases e), owed_cons one_c (owed_cons (Equal_c (k64 ld) lt1 (decide_eq_false fun e => c1 ⟨rfl, e⟩)) owed_nil)⟩
      obtain ⟨M, m1, m2, m3⟩ := hmid
      by_cases c2 : neg = true ∧ n = 0
      · rw [if_pos (.inr (.inr (.inl c2)))]
        obtain ⟨rfl, c2⟩ := c2
        cases has with
        | false => rw [m2 rfl] at m3; exact evc_script (known := known) (fl := fl0) (n := 3) (L := readPre s t a b true false (okP (rowL n)) (okP (rowL d)) ++ ([lenI 1, eqlI 1 false] ++ ([] ++ [lenI n, eqlI n true]))) (by kernel_rfl) (owed_app pre (owed_app (owed_cons (lenI_owed lt1) (owed_cons (eq0 (by decide)) owed_nil)) (owed_app m3 (owed_cons ln0 (owed_cons (eq0t c2) owed_nil)))))
        | true => rw [m1 rfl] at m3; exact evc_script (known := known) (fl := fl0) (n := 3) (L := readPre s t a b true true (okP (rowL n)) (okP (rowL d)) ++ ([lenI d, eqlI d false] ++ ([.call 36 [] (rowL 1), .call 39 [rowL d, rowL 1] (.bool false)] ++ [lenI n, eqlI n true]))) (by kernel_rfl) (owed_app pre (owed_app (owed_cons ld0 (owed_cons (eq0 c0) owed_nil)) (owed_app m3 (owed_cons ln0 (owed_cons (eq0t c2) owed_nil)))))
      · have hneg : ∃ N, (neg = true → N = [lenI n, eqlI n false]) ∧ (neg = false → N = []) ∧ ∀ i ∈ N, Owed i := by
          cases neg with
          | false => exact ⟨[], fun e => (by cases e), fun _ => rfl, owed_nil⟩
          | true => exact ⟨_, fun _ => rfl, fun e => (by cases e), owed_cons ln0 (owed_cons (eq0 fun e => c2 ⟨rfl, e⟩) owed_nil)⟩
        obtain ⟨N, n1, n2, n3⟩ := hneg
        by_cases c3 : Nat.gcd n d = 1
        · rw [if_neg (by rintro (e | e | e | e); exact c0 e; exact c1 e; exact c2 e; exact e c3)]
          have tail : ∀ i ∈ [Item.call 44 [rowL n, rowL d] (okP (rowL 1)), .call 36 [] (rowL 1), .call 39 [rowL 1, rowL 1] (.bool true), .call 34 [.bool neg, rowL n, rowL d] (redP neg n d)], Owed i :=
            owed_cons (by rw [c3] at hgc; exact hgc) (owed_cons one_c (owed_cons (Equal_c lt1 lt1 rfl) (owed_cons (hred neg) owed_nil)))
          have hr : ∃ r e, redP neg n d = .tup [r, .int .i64 e] ∧ ∃ bo r1 r2, r = .agg [.bool bo, r1, r2] ∧ r1.one = true ∧ r2.one = true := by
            unfold redP
            split
            · exact ⟨_, _, rfl, _, _, _, rfl, rfl, rfl⟩
            · exact ⟨_, _, rfl, _, _, _, rfl, rfl, rfl⟩
          have hred2 : (∃ bo l1 l2 e, redP neg n d = .tup [.agg [.bool bo, rowL l1, rowL l2], .int .i64 e]) ∨ redP neg n d = noP 20 := by
            unfold redP
            split
            · exact .inl ⟨_, _, _, _, rfl⟩
            · exact .inr rfl
          rcases hred2 with ⟨bo, l1, l2, e, hr2⟩ | hr2 <;> rw [hr2] at tail ⊢ <;> cases has <;> cases neg
          · rw [m2 rfl] at m3; rw [n2 rfl] at n3; obtain rfl := hd1 rfl; exact evc_script (known := known) (fl := fl0) (n := 3) (L := readPre s t a b false false (okP (rowL n)) (okP (rowL 1)) ++ ([lenI 1, eqlI 1 false] ++ ([] ++ ([] ++ _)))) (by kernel_rfl) (owed_app pre (owed_app (owed_cons ld0 (owed_cons (eq0 c0) owed_nil)) (owed_app m3 (owed_app n3 tail))))
          · rw [m2 rfl] at m3; rw [n1 rfl] at n3; obtain rfl := hd1 rfl; exact evc_script (known := known) (fl := fl0) (n := 3) (L := readPre s t a b true false (okP (rowL n)) (okP (rowL 1)) ++ ([lenI 1, eqlI 1 false] ++ ([] ++ ([lenI n, eqlI n false] ++ _)))) (by kernel_rfl) (owed_app pre (owed_app (owed_cons ld0 (owed_cons (eq0 c0) owed_nil)) (owed_app m3 (owed_app n3 tail))))
          · rw [m1 rfl] at m3; rw [n2 rfl] at n3; exact evc_script (known := known) (fl := fl0) (n := 3) (L := readPre s t a b false true (okP (rowL n)) (okP (rowL d)) ++ ([lenI d, eqlI d false] ++ (_ ++ ([] ++ _)))) (by kernel_rfl) (owed_app pre (owed_app (owed_cons ld0 (owed_cons (eq0 c0) owed_nil)) (owed_app m3 (owed_app n3 tail))))
          · rw [m1 rfl] at m3; rw [n1 rfl] at n3; exact evc_script (known := known) (fl := fl0) (n := 3) (L := readPre s t a b true true (okP (rowL n)) (okP (rowL d)) ++ ([lenI d, eqlI d false] ++ (_ ++ ([lenI n, eqlI n false] ++ _)))) (by kernel_rfl) (owed_app pre (owed_app (owed_cons ld0 (owed_cons (eq0 c0) owed_nil)) (owed_app m3 (owed_app n3 tail))))
          · rw [m2 rfl] at m3; rw [n2 rfl] at n3; obtain rfl := hd1 rfl; exact evc_script (known := known) (fl := fl0) (n := 3) (L := readPre s t a b false false (okP (rowL n)) (okP (rowL 1)) ++ ([lenI 1, eqlI 1 false] ++ ([] ++ ([] ++ _)))) (by kernel_rfl) (owed_app pre (owed_app (owed_cons ld0 (owed_cons (eq0 c0) owed_nil)) (owed_app m3 (owed_app n3 tail))))
          · rw [m2 rfl] at m3; rw [n1 rfl] at n3; obtain rfl := hd1 rfl; exact evc_script (known := known) (fl := fl0) (n := 3) (L := readPre s t a b true false (okP (rowL n)) (okP (rowL 1)) ++ ([lenI 1, eqlI 1 false] ++ ([] ++ ([lenI n, eqlI n false] ++ _)))) (by kernel_rfl) (owed_app pre (owed_app (owed_cons ld0 (owed_cons (eq0 c0) owed_nil)) (owed_app m3 (owed_app n3 tail))))
          · rw [m1 rfl] at m3; rw [n2 rfl] at n3; exact evc_script (known := known) (fl := fl0) (n := 3) (L := readPre s t a b false true (okP (rowL n)) (okP (rowL d)) ++ ([lenI d, eqlI d false] ++ (_ ++ ([] ++ _)))) (by kernel_rfl) (owed_app pre (owed_app (owed_cons ld0 (owed_cons (eq0 c0) owed_nil)) (owed_app m3 (owed_app n3 tail))))
          · rw [m1 rfl] at m3; rw [n1 rfl] at n3; exact evc_script (known := known) (fl := fl0) (n := 3) (L := readPre s t a b true true (okP (rowL n)) (okP (rowL d)) ++ ([lenI d, eqlI d false] ++ (_ ++ ([lenI n, eqlI n false] ++ _)))) (by kernel_rfl) (owed_app pre (owed_app (owed_cons ld0 (owed_cons (eq0 c0) owed_nil)) (owed_app m3 (owed_app n3 tail))))
        · rw [if_pos (.inr (.inr (.inr c3)))]
          have tail : ∀ i ∈ [Item.call 44 [rowL n, rowL d] (okP (rowL (Nat.gcd n d))), .call 36 [] (rowL 1), .call 39 [rowL (Nat.gcd n d), rowL 1] (.bool false)], Owed i :=
            owed_cons hgc (owed_cons one_c (owed_cons (Equal_c (k64 hg) lt1 (decide_eq_false c3)) owed_nil))
          cases has <;> cases neg
          · rw [m2 rfl] at m3; rw [n2 rfl] at n3; obtain rfl := hd1 rfl; exact evc_script (known := known) (fl := fl0) (n := 3) (L := readPre s t a b false false (okP (rowL n)) (okP (rowL 1)) ++ ([lenI 1, eqlI 1 false] ++ ([] ++ ([] ++ _)))) (by kernel_rfl) (owed_app pre (owed_app (owed_cons ld0 (owed_cons (eq0 c0) owed_nil)) (owed_app m3 (owed_app n3 tail))))
          · rw [m2 rfl] at m3; rw [n1 rfl] at n3; obtain rfl := hd1 rfl; exact evc_script (known := known) (fl := fl0) (n := 3) (L := readPre s t a b true false (okP (rowL n)) (okP (rowL 1)) ++ ([lenI 1, eqlI 1 false] ++ ([] ++ ([lenI n, eqlI n false] ++ _)))) (by kernel_rfl) (owed_app pre (owed_app (owed_cons ld0 (owed_cons (eq0 c0) owed_nil)) (owed_app m3 (owed_app n3 tail))))
          · rw [m1 rfl] at m3; rw [n2 rfl] at n3; exact evc_script (known := known) (fl := fl0) (n := 3) (L := readPre s t a b false true (okP (rowL n)) (okP (rowL d)) ++ ([lenI d, eqlI d false] ++ (_ ++ ([] ++ _)))) (by kernel_rfl) (owed_app pre (owed_app (owed_cons ld0 (owed_cons (eq0 c0) owed_nil)) (owed_app m3 (owed_app n3 tail))))
          · rw [m1 rfl] at m3; rw [n1 rfl] at n3; exact evc_script (known := known) (fl := fl0) (n := 3) (L := readPre s t a b true true (okP (rowL n)) (okP (rowL d)) ++ ([lenI d, eqlI d false] ++ (_ ++ ([lenI n, eqlI n false] ++ _)))) (by kernel_rfl) (owed_app pre (owed_app (owed_cons ld0 (owed_cons (eq0 c0) owed_nil)) (owed_app m3 (owed_app n3 tail))))
/-- A number's text. -/
def textQ (neg : Bool) (n d : Nat) : List UInt8 := (if neg = true then [45] else []) ++ textL n ++ (if d = 1 then [] else [47] ++ textL d)
theorem textL_len {m : Nat} (hm : Lt 16 m) : (textL m).length < 1000 := by
  have h1 : m < 10 ^ 200 := Nat.lt_trans hm (by decide)
  unfold textL
  split
  · simp
  · exact Nat.lt_of_le_of_lt (decL_length_le h1) (by decide)
def addI (a b : List UInt8) (yc : Bool) : Item := .bin .add 9 (.pv (.str a)) (.pv (.str b)) yc (.pv (.str (a ++ b)))
theorem addI_owed {a b : List UInt8} {yc : Bool} (h : a.length + b.length ≤ 100000) : Owed (addI a b yc) := by
  show binA Tryd.prog .add 9 _ _ _ = _
  simp only [binA, strOp]
  rw [if_pos (by omega)]
theorem Text_c {s : Bool} {n d : Nat} (h : CanR s n d) : Evc 18 [rp s n d] (okP (.str (textQ s n d))) := by
  have ck := Check_c h
  have tn := NText_c ((lt16 h.n16).up (j := 64) (by decide))
  have td := NText_c ((lt16 h.d16).up (j := 64) (by decide))
  have ln := textL_len h.n16
  have ld := textL_len h.d16
  have up : Lt 1000 d := (lt16 h.d16).up (by decide)
  unfold textQ
  by_cases h1 : d = 1
  · rw [if_pos h1]
    have eq := Equal_c up lt1 (decide_eq_true h1)
    cases s with
    | false =>
      rw [if_neg (by decide), List.nil_append, List.append_nil]
      exact evc_script (known := known) (fl := fl0) (n := 3) (L := [.call 20 [rp false n d] e0, .call 40 [rowL n] (okP (.str (textL n))), .call 36 [] (rowL 1), .call 39 [rowL d, rowL 1] (.bool true)]) (by kernel_rfl) (owed_cons ck (owed_cons tn (owed_cons one_c (owed_cons eq owed_nil))))
    | true =>
      rw [if_pos rfl, List.append_nil]
      exact evc_script (known := known) (fl := fl0) (n := 3) (L := [.call 20 [rp true n d] e0, .call 40 [rowL n] (okP (.str (textL n))), addI [45] (textL n) false, .call 36 [] (rowL 1), .call 39 [rowL d, rowL 1] (.bool true)]) (by kernel_rfl)
        (owed_cons ck (owed_cons tn (owed_cons (addI_owed (by simp; omega)) (owed_cons one_c (owed_cons eq owed_nil)))))
  · rw [if_neg h1]
    have eq := Equal_c up lt1 (decide_eq_false h1)
    cases s with
    | false =>
      rw [if_neg (by decide), List.nil_append, ← List.append_assoc]
      exact evc_script (known := known) (fl := fl0) (n := 3) (L := [.call 20 [rp false n d] e0, .call 40 [rowL n] (okP (.str (textL n))), .call 36 [] (rowL 1), .call 39 [rowL d, rowL 1] (.bool false), .call 40 [rowL d] (okP (.str (textL d))), addI (textL n) [47] true, addI (textL n ++ [47]) (textL d) false]) (by kernel_rfl)
        (owed_cons ck (owed_cons tn (owed_cons one_c (owed_cons eq (owed_cons td (owed_cons (addI_owed (by simp; omega)) (owed_cons (addI_owed (by simp; omega)) owed_nil)))))))
    | true =>
      rw [if_pos rfl, ← List.append_assoc]
      exact evc_script (known := known) (fl := fl0) (n := 3) (L := [.call 20 [rp true n d] e0, .call 40 [rowL n] (okP (.str (textL n))), addI [45] (textL n) false, .call 36 [] (rowL 1), .call 39 [rowL d, rowL 1] (.bool false), .call 40 [rowL d] (okP (.str (textL d))), addI ([45] ++ textL n) [47] true, addI ([45] ++ textL n ++ [47]) (textL d) false]) (by kernel_rfl)
        (owed_cons ck (owed_cons tn (owed_cons (addI_owed (by simp; omega)) (owed_cons one_c (owed_cons eq (owed_cons td (owed_cons (addI_owed (by simp; omega)) (owed_cons (addI_owed (by simp; omega)) owed_nil))))))))
def textP (q : Rat) : List UInt8 := textQ (decide (q.num < 0)) q.num.natAbs q.den
theorem Text_evc {q : Rat} (h : Fits q) : Evc 18 [ratP q] (okP (.str (textP q))) := Text_c h.can
theorem fits64 {q : Rat} (h1 : q.num.natAbs < 18446744073709551616) (h2 : q.den < 18446744073709551616) : Fits q := ⟨lt_lit h1 (by decide), lt_lit h2 (by decide)⟩

theorem redP_self {q : Rat} (h : Fits q) : redP (decide (q.num < 0)) q.num.natAbs q.den = okP (ratP q) :=
  redP_rat q.den_nz (by rw [show sg (decide (q.num < 0)) q.num.natAbs = q.num from by have := sg_num q.num 1; simpa using this]; exact Rat.mkRat_self q) h
/-- A number's own text is read so. -/
theorem Read_q {s t a b : List UInt8} {has : Bool} {q : Rat} (h : RS s t a b (decide (q.num < 0)) has) (hf : Fits q) (hn : readS a = (limbs q.num.natAbs, 0)) (hd : (if has = true then readS b else (limbs 1, 0)) = (limbs q.den, 0)) (h1 : ¬ (has = true ∧ q.den = 1)) :
    Evc 19 [.str s] (okP (ratP q)) := by
  have := Read_c h hn hd (up64 hf.1) (up64 hf.2)
  have hr := q.reduced
  rwa [readAns, if_neg (by
    rintro (e | e | e | e)
    · exact q.den_nz e
    · exact h1 e
    · have := of_decide_eq_true e.1; omega
    · exact e hr), redP_self hf] at this
theorem of_c {s : List UInt8} {q : Rat} (h : Evc 19 [.str s] (okP (ratP q))) : Evc 29 [.str s] (ratP q) :=
  evc_script (known := known) (fl := {}) (n := 3) (L := [.call 19 [.str s] (okP (ratP q))]) (by kernel_rfl) (owed_cons h owed_nil)
theorem fails_c {s : List UInt8} (h : Evc 19 [.str s] (noP 4)) : Evc 27 [.str s] (.bool true) :=
  evc_script (known := known) (fl := {}) (n := 3) (L := [.call 19 [.str s] (noP 4)]) (by kernel_rfl) (owed_cons h owed_nil)
theorem is_c {s : List UInt8} {q : Rat} (hf : Fits q) (h : textP q = s) : Evc 30 [ratP q, e0, .str s] (.bool true) := by
  subst h
  exact evc_script (known := known) (fl := { bin := fun _ t _ _ => t == 9 }) (n := 3) (L := [.call 18 [ratP q] (okP (.str (textP q))), .bin .eql 9 (.pv (.str (textP q))) (.pv (.str (textP q))) false (.pv (.bool true)), .call 20 [ratP q] e0]) (by kernel_rfl)
    (owed_cons (Text_evc hf) (owed_cons (by show binA Tryd.prog .eql 9 _ _ _ = _; simp [binA, strOp]) (owed_cons (Check_evc hf) owed_nil)))
end Go.Proofs.YtkjdpojbmkpkgaaDoor.AV

/- The chapter's examples: what the evaluator answers. -/
namespace Go.Proofs.YtkjdpojbmkpkgaaDoor.AV
open Go Go.RowKit Go.Proofs.YtkjdpojbmkpkgaaDoorW.PrintWords Go.Proofs.YtkjdpojbmkpkgaaDoorW.PrintLast Go.Proofs.YtkjdpojbmkpkgaaDoorW.PrintMore Go.Proofs.YtkjdpojbmkpkgaaDoor.M Go.Proofs.YtkjdpojbmkpkgaaDoor.P Go.Proofs.YtkjdpojbmkpkgaaDoor.E

theorem of_12 : Evc 29 [.str [49, 47, 50]] (ratP (1/2)) :=
  of_c (Read_q (s := [49, 47, 50]) (t := [49, 47, 50]) (a := [49]) (b := [50]) (has := true) (q := 1/2) ⟨by decide +kernel, by decide +kernel, by decide +kernel⟩ (fits64 (by decide +kernel) (by decide +kernel)) (readS_num (by decide +kernel) (by decide +kernel) (by decide +kernel)) ((if_pos rfl).trans (readS_num (by decide +kernel) (by decide +kernel) (by decide +kernel))) (by decide +kernel))
theorem of_13 : Evc 29 [.str [49, 47, 51]] (ratP (1/3)) :=
  of_c (Read_q (s := [49, 47, 51]) (t := [49, 47, 51]) (a := [49]) (b := [51]) (has := true) (q := 1/3) ⟨by decide +kernel, by decide +kernel, by decide +kernel⟩ (fits64 (by decide +kernel) (by decide +kernel)) (readS_num (by decide +kernel) (by decide +kernel) (by decide +kernel)) ((if_pos rfl).trans (readS_num (by decide +kernel) (by decide +kernel) (by decide +kernel))) (by decide +kernel))
theorem of_23 : Evc 29 [.str [50, 47, 51]] (ratP (2/3)) :=
  of_c (Read_q (s := [50, 47, 51]) (t := [50, 47, 51]) (a := [50]) (b := [51]) (has := true) (q := 2/3) ⟨by decide +kernel, by decide +kernel, by decide +kernel⟩ (fits64 (by decide +kernel) (by decide +kernel)) (readS_num (by decide +kernel) (by decide +kernel) (by decide +kernel)) ((if_pos rfl).trans (readS_num (by decide +kernel) (by decide +kernel) (by decide +kernel))) (by decide +kernel))
theorem of_34 : Evc 29 [.str [51, 47, 52]] (ratP (3/4)) :=
  of_c (Read_q (s := [51, 47, 52]) (t := [51, 47, 52]) (a := [51]) (b := [52]) (has := true) (q := 3/4) ⟨by decide +kernel, by decide +kernel, by decide +kernel⟩ (fits64 (by decide +kernel) (by decide +kernel)) (readS_num (by decide +kernel) (by decide +kernel) (by decide +kernel)) ((if_pos rfl).trans (readS_num (by decide +kernel) (by decide +kernel) (by decide +kernel))) (by decide +kernel))
theorem of_1 : Evc 29 [.str [49]] (ratP (1)) :=
  of_c (Read_q (s := [49]) (t := [49]) (a := [49]) (b := []) (has := false) (q := 1) ⟨by decide +kernel, by decide +kernel, by decide +kernel⟩ (fits64 (by decide +kernel) (by decide +kernel)) (readS_num (by decide +kernel) (by decide +kernel) (by decide +kernel)) rfl (by decide +kernel))
theorem of_m2 : Evc 29 [.str [45, 50]] (ratP (-2)) :=
  of_c (Read_q (s := [45, 50]) (t := [50]) (a := [50]) (b := []) (has := false) (q := -2) ⟨by decide +kernel, by decide +kernel, by decide +kernel⟩ (fits64 (by decide +kernel) (by decide +kernel)) (readS_num (by decide +kernel) (by decide +kernel) (by decide +kernel)) rfl (by decide +kernel))
theorem of_m12 : Evc 29 [.str [45, 49, 47, 50]] (ratP (-1/2)) :=
  of_c (Read_q (s := [45, 49, 47, 50]) (t := [49, 47, 50]) (a := [49]) (b := [50]) (has := true) (q := -1/2) ⟨by decide +kernel, by decide +kernel, by decide +kernel⟩ (fits64 (by decide +kernel) (by decide +kernel)) (readS_num (by decide +kernel) (by decide +kernel) (by decide +kernel)) ((if_pos rfl).trans (readS_num (by decide +kernel) (by decide +kernel) (by decide +kernel))) (by decide +kernel))
theorem textP_of {q : Rat} {s : Bool} {n d : Nat} (h1 : decide (q.num < 0) = s) (h2 : q.num.natAbs = n) (h3 : q.den = d) : textP q = textQ s n d := by unfold textP; rw [h1, h2, h3]
theorem is_56 : Evc 30 [ratP (5/6), e0, .str [53, 47, 54]] (.bool true) := is_c (fits64 (by decide +kernel) (by decide +kernel)) (by rw [textP_of (s := false) (n := 5) (d := 6) (by decide +kernel) (by decide +kernel) (by decide +kernel)]; unfold textQ; rw [textL_digit (by decide +kernel) (by decide +kernel), textL_digit (by decide +kernel) (by decide +kernel)]; rfl)
theorem is_12 : Evc 30 [ratP (1/2), e0, .str [49, 47, 50]] (.bool true) := is_c (fits64 (by decide +kernel) (by decide +kernel)) (by rw [textP_of (s := false) (n := 1) (d := 2) (by decide +kernel) (by decide +kernel) (by decide +kernel)]; unfold textQ; rw [textL_digit (by decide +kernel) (by decide +kernel), textL_digit (by decide +kernel) (by decide +kernel)]; rfl)
theorem is_m12 : Evc 30 [ratP (-1/2), e0, .str [45, 49, 47, 50]] (.bool true) := is_c (fits64 (by decide +kernel) (by decide +kernel)) (by rw [textP_of (s := true) (n := 1) (d := 2) (by decide +kernel) (by decide +kernel) (by decide +kernel)]; unfold textQ; rw [textL_digit (by decide +kernel) (by decide +kernel), textL_digit (by decide +kernel) (by decide +kernel)]; rfl)
theorem is_0 : Evc 30 [ratP (0), e0, .str [48]] (.bool true) := is_c (fits64 (by decide +kernel) (by decide +kernel)) (by rw [textP_of (s := false) (n := 0) (d := 1) (by decide +kernel) (by decide +kernel) (by decide +kernel)]; unfold textQ; rw [if_pos rfl]; rfl)
theorem is_m1 : Evc 30 [ratP (-1), e0, .str [45, 49]] (.bool true) := is_c (fits64 (by decide +kernel) (by decide +kernel)) (by rw [textP_of (s := true) (n := 1) (d := 1) (by decide +kernel) (by decide +kernel) (by decide +kernel)]; unfold textQ; rw [textL_digit (by decide +kernel) (by decide +kernel), if_pos rfl, if_pos rfl]; rfl)
theorem fails_64 : Evc 27 [.str [54, 47, 52]] (.bool true) := by
  have := Read_c (s := [54, 47, 52]) (t := [54, 47, 52]) (a := [54]) (b := [52]) (neg := false) (has := true) (n := 6) (d := 4) ⟨by decide +kernel, by decide +kernel, by decide +kernel⟩ (readS_num (by decide +kernel) (by decide +kernel) (by decide +kernel)) ((if_pos rfl).trans (readS_num (by decide +kernel) (by decide +kernel) (by decide +kernel))) (lt_lit (by decide +kernel) (by decide +kernel)) (lt_lit (by decide +kernel) (by decide +kernel))
  rw [readAns, if_pos (by decide +kernel)] at this
  exact fails_c this
theorem fails_m0 : Evc 27 [.str [45, 48]] (.bool true) := by
  have := Read_c (s := [45, 48]) (t := [48]) (a := [48]) (b := []) (neg := true) (has := false) (n := 0) (d := 1) ⟨by decide +kernel, by decide +kernel, by decide +kernel⟩ (readS_num (by decide +kernel) (by decide +kernel) (by decide +kernel)) rfl (lt_lit (by decide +kernel) (by decide +kernel)) (lt_lit (by decide +kernel) (by decide +kernel))
  rw [readAns, if_pos (by decide +kernel)] at this
  exact fails_c this
theorem fails_31 : Evc 27 [.str [51, 47, 49]] (.bool true) := by
  have := Read_c (s := [51, 47, 49]) (t := [51, 47, 49]) (a := [51]) (b := [49]) (neg := false) (has := true) (n := 3) (d := 1) ⟨by decide +kernel, by decide +kernel, by decide +kernel⟩ (readS_num (by decide +kernel) (by decide +kernel) (by decide +kernel)) ((if_pos rfl).trans (readS_num (by decide +kernel) (by decide +kernel) (by decide +kernel))) (lt_lit (by decide +kernel) (by decide +kernel)) (lt_lit (by decide +kernel) (by decide +kernel))
  rw [readAns, if_pos (by decide +kernel)] at this
  exact fails_c this
theorem fails_30 : Evc 27 [.str [51, 47, 48]] (.bool true) := by
  have := Read_c (s := [51, 47, 48]) (t := [51, 47, 48]) (a := [51]) (b := [48]) (neg := false) (has := true) (n := 3) (d := 0) ⟨by decide +kernel, by decide +kernel, by decide +kernel⟩ (readS_num (by decide +kernel) (by decide +kernel) (by decide +kernel)) ((if_pos rfl).trans (readS_num (by decide +kernel) (by decide +kernel) (by decide +kernel))) (lt_lit (by decide +kernel) (by decide +kernel)) (lt_lit (by decide +kernel) (by decide +kernel))
  rw [readAns, if_pos (by decide +kernel)] at this
  exact fails_c this
theorem works_evc : Evc 9 [] (.bool true) :=
  evc_script (known := known) (fl := {}) (n := 3) (L := [
    .call 29 [.str [49, 47, 50]] (ratP (1/2)),
    .call 29 [.str [49, 47, 51]] (ratP (1/3)),
    .call 14 [ratP (1/2), ratP (1/3)] (okP (ratP (5/6))),
    .call 29 [.str [50, 47, 51]] (ratP (2/3)),
    .call 29 [.str [51, 47, 52]] (ratP (3/4)),
    .call 15 [ratP (2/3), ratP (3/4)] (okP (ratP (1/2))),
    .call 29 [.str [49]] (ratP (1)),
    .call 29 [.str [45, 50]] (ratP (-2)),
    .call 22 [ratP (1), ratP (-2)] (okP (ratP (-1/2))),
    .call 29 [.str [49, 47, 50]] (ratP (1/2)),
    .call 29 [.str [49, 47, 50]] (ratP (1/2)),
    .call 12 [ratP (1/2), ratP (1/2)] (okP (ratP (0))),
    .call 29 [.str [45, 49, 47, 50]] (ratP (-1/2)),
    .call 16 [ratP (-1/2)] (okP (ratP (-1))),
    .call 29 [.str [49, 47, 51]] (ratP (1/3)),
    .call 29 [.str [49, 47, 50]] (ratP (1/2)),
    .call 11 [ratP (1/3), ratP (1/2)] (okP (intP (-1))),
    .call 30 [ratP (5/6), e0, .str [53, 47, 54]] (.bool true),
    .call 30 [ratP (1/2), e0, .str [49, 47, 50]] (.bool true),
    .call 30 [ratP (-1/2), e0, .str [45, 49, 47, 50]] (.bool true),
    .call 30 [ratP (0), e0, .str [48]] (.bool true),
    .call 30 [ratP (-1), e0, .str [45, 49]] (.bool true),
    .call 27 [.str [54, 47, 52]] (.bool true),
    .call 27 [.str [45, 48]] (.bool true),
    .call 27 [.str [51, 47, 49]] (.bool true),
    .call 27 [.str [51, 47, 48]] (.bool true)]) (by kernel_rfl)
    (owed_cons of_12 (owed_cons of_13 (owed_cons (by have := Add_evc (p := 1/2) (q := 1/3) (fits64 (by decide +kernel) (by decide +kernel)) (fits64 (by decide +kernel) (by decide +kernel)) (fits64 (by decide +kernel) (by decide +kernel)); rw [show ((1/2 : Rat) + (1/3) : Rat) = 5/6 by decide +kernel] at this; exact this) (owed_cons of_23 (owed_cons of_34 (owed_cons (by have := Mul_evc (p := 2/3) (q := 3/4) (fits64 (by decide +kernel) (by decide +kernel)) (fits64 (by decide +kernel) (by decide +kernel)) (fits64 (by decide +kernel) (by decide +kernel)); rw [show ((2/3 : Rat) * (3/4) : Rat) = 1/2 by decide +kernel] at this; exact this) (owed_cons of_1 (owed_cons of_m2 (owed_cons (by have := Div_evc (p := 1) (q := -2) (fits64 (by decide +kernel) (by decide +kernel)) (fits64 (by decide +kernel) (by decide +kernel)) (by decide +kernel) (fits64 (by decide +kernel) (by decide +kernel)); rw [show ((1 : Rat) / (-2) : Rat) = -1/2 by decide +kernel] at this; exact this) (owed_cons of_12 (owed_cons of_12 (owed_cons (by have := Sub_evc (p := 1/2) (q := 1/2) (fits64 (by decide +kernel) (by decide +kernel)) (fits64 (by decide +kernel) (by decide +kernel)) (fits64 (by decide +kernel) (by decide +kernel)); rw [show ((1/2 : Rat) - (1/2) : Rat) = 0 by decide +kernel] at this; exact this) (owed_cons of_m12 (owed_cons (by have := Floor_evc (p := -1/2) (fits64 (by decide +kernel) (by decide +kernel)) (fits64 (by decide +kernel) (by decide +kernel)); rw [show ((Rat.floor (-1/2) : Int) : Rat) = -1 by decide +kernel] at this; exact this) (owed_cons of_13 (owed_cons of_12 (owed_cons (by have := Cmp_evc (p := 1/3) (q := 1/2) (fits64 (by decide +kernel) (by decide +kernel)) (fits64 (by decide +kernel) (by decide +kernel)); rw [show cmpQ (1/3) (1/2) = -1 by decide +kernel] at this; exact this) (owed_cons is_56 (owed_cons is_12 (owed_cons is_m12 (owed_cons is_0 (owed_cons is_m1 (owed_cons fails_64 (owed_cons fails_m0 (owed_cons fails_31 (owed_cons fails_30 owed_nil))))))))))))))))))))))))))
end Go.Proofs.YtkjdpojbmkpkgaaDoor.AV

/- near, RatOrder and RatField: what the evaluator answers. -/
namespace Go.Proofs.YtkjdpojbmkpkgaaDoor.AV
open Go Go.RowKit Go.Proofs.YtkjdpojbmkpkgaaDoorW.PrintWords Go.Proofs.YtkjdpojbmkpkgaaDoorW.PrintLast Go.Proofs.YtkjdpojbmkpkgaaDoorW.PrintMore Go.Proofs.YtkjdpojbmkpkgaaDoor.M Go.Proofs.YtkjdpojbmkpkgaaDoor.P Go.Proofs.YtkjdpojbmkpkgaaDoor.E

theorem wrap_id {n : Int} (h0 : -9223372036854775808 ≤ n) (h1 : n < 9223372036854775808) : IntKind.i64.wrap n = n := by
  simp only [IntKind.wrap, IntKind.bits, IntKind.signed]
  simp
  omega
theorem bring_evc {n m : Int} (h0 : 0 < m) (h1 : m ≤ 1099511627776) : Evc 21 [intP n, intP m] (intP (n % m)) := by
  refine evc_ext ⟨0, fun k _ => ?_⟩
  rw [ext_driftnetlaw02_bring]
  have e : driftnetlaw02_bring.f n m = some (n % m) := by
    unfold driftnetlaw02_bring.f driftnetref00_Bring.f
    have ht : Int.tmod n m = n % m - ↑(if 0 ≤ n ∨ m ∣ n then 0 else Int.natAbs m) := Int.tmod_eq_emod
    have h2 := Int.emod_nonneg n (show m ≠ 0 by omega)
    have h3 := Int.emod_lt_of_pos n h0
    rw [if_neg (by omega), if_neg (by omega)]
    split
    · rename_i hn
      simp only [Option.bind_some]
      rw [show Int.tmod n m + m = n % m by
        rw [ht] at hn ⊢
        split at hn
        · omega
        · rw [if_neg (by assumption)]
          omega]
      congr 1
      simp only [wrap64]
      omega
    · rename_i hn
      simp only [Option.bind_some]
      rw [ht] at hn ⊢
      split at hn
      · rw [if_pos (by assumption)]; simp
      · rw [if_neg (by assumption)]
        omega
  simp only [x_driftnetlaw02_bring, intP, e]

structure I64 (n : Int) : Prop where
  lo : -9223372036854775808 ≤ n
  hi : n < 9223372036854775808
theorem i64_of {n : Int} (h : (Lit.int .i64 n).wf = true) : I64 n := by
  simp [Lit.wf] at h
  exact ⟨Int.le_trans (by decide) h.1, Int.lt_of_le_of_lt h.2 (by decide)⟩
theorem Of_ev {n : Int} (h : I64 n) : Evc 13 [intP n] (ratP (n : Rat)) := Of_evc h.lo h.hi
end Go.Proofs.YtkjdpojbmkpkgaaDoor.AV

/- Whole, and RatInts: what the evaluator answers. -/
namespace Go.Proofs.YtkjdpojbmkpkgaaDoor.AV
open Go Go.RowKit Go.Proofs.YtkjdpojbmkpkgaaDoorW.PrintWords Go.Proofs.YtkjdpojbmkpkgaaDoorW.PrintLast Go.Proofs.YtkjdpojbmkpkgaaDoorW.PrintMore Go.Proofs.YtkjdpojbmkpkgaaDoor.M Go.Proofs.YtkjdpojbmkpkgaaDoor.P Go.Proofs.YtkjdpojbmkpkgaaDoor.E

def isCmp : BinOp → Bool
  | .eql | .neq | .lss | .leq | .gtr | .geq => true
  | _ => false
def flC : Flags := { bin := fun op t _ _ => isCmp op && t == 3 }
def cmpI3 (op : BinOp) (n m : Int) (yc b : Bool) : Item := .bin op 3 (.pv (.int .i64 n)) (.pv (.int .i64 m)) yc (.pv (.bool b))
theorem cmp_lss {n m : Int} {yc b : Bool} (h : decide (n < m) = b) : Owed (cmpI3 .lss n m yc b) := by
  subst h; show binA Tryd.prog .lss 3 _ _ _ = _; simp only [binA, intOp, ne_eq, not_true, if_false]
theorem cmp_geq {n m : Int} {yc b : Bool} (h : decide (n ≥ m) = b) : Owed (cmpI3 .geq n m yc b) := by
  subst h; show binA Tryd.prog .geq 3 _ _ _ = _; simp only [binA, intOp, ne_eq, not_true, if_false]
theorem cmp_eql {n m : Int} {yc b : Bool} (h : (n == m) = b) : Owed (cmpI3 .eql n m yc b) := by
  subst h; show binA Tryd.prog .eql 3 _ _ _ = _; simp only [binA, intOp, ne_eq, not_true, if_false]

end Go.Proofs.YtkjdpojbmkpkgaaDoor.AV

/- RatBig: what the evaluator answers. -/
namespace Go.Proofs.YtkjdpojbmkpkgaaDoor.AV
open Go Go.RowKit Go.Proofs.YtkjdpojbmkpkgaaDoorW.PrintWords Go.Proofs.YtkjdpojbmkpkgaaDoorW.PrintLast Go.Proofs.YtkjdpojbmkpkgaaDoorW.PrintMore Go.Proofs.YtkjdpojbmkpkgaaDoor.M Go.Proofs.YtkjdpojbmkpkgaaDoor.P Go.Proofs.YtkjdpojbmkpkgaaDoor.E

def loopIn : Code → Option Code
  | .loop c => some c
  | .seq a b => (match loopIn a with | some c => some c | none => loopIn b)
  | .cond _ a b => (match loopIn a with | some c => some c | none => loopIn b)
  | .block _ c | .scope c => loopIn c
  | _ => none
noncomputable def bodyOf (f : FuncId) : Code := match Tryd.prog.funcs[f]? with | some fn => (match fn.body with | some c => c | none => .skip) | none => .skip
noncomputable def bigB : Code := match loopIn (bodyOf 5) with | some c => c | none => .skip
def bx (q : Rat) : HO := .box [.pv (.bool (decide (q.num < 0))), .pv (rowL q.num.natAbs), .pv (rowL q.den)]
def bigS (bits n i : Int) (up dn : Rat) (e : AV) : St :=
  ⟨[.pv (intP bits), e, .pv (.bool false), .pv (intP n), .ptr 0 0, .ptr 1 0, .ptr 2 0, .pv (intP i), e, e, e, e, e, e, .pv (.bool true), .pv (.bool false), .pv (intP bits), .pv (intP n), .pv (ratP 2), .pv (ratP 1), .pv (ratP 1)] ++ List.replicate 74 e, [bx 2, bx up, bx dn]⟩
def stOf : Option (Ex × St × SS) → St
  | some (_, s, _) => s
  | none => default
noncomputable def runB (s : St) (L : List Item) : Option (Ex × St × SS) := codeS Tryd.prog g0 known flC (evS Tryd.prog g0 known flC dom 3) 3 bigB s ⟨L, []⟩
def roundL (i n : Int) (up dn : Rat) : List Item := [cmpI3 .lss i n false true, .call 15 [ratP up, ratP 2] (okP (ratP (up * 2))), .call 22 [ratP dn, ratP 2] (okP (ratP (dn / 2))), cmpI3 .geq i 511 true false]
theorem round_run (bits n i : Int) (up dn : Rat) (e : AV) : runB (bigS bits n i up dn e) (roundL i n up dn) = some (.normal, stOf (runB (bigS bits n i up dn e) (roundL i n up dn)), ⟨[], (roundL i n up dn).reverse⟩) := by kernel_rfl
theorem round_trim (bits n i : Int) (up dn : Rat) (e : AV) : trim (bigS bits n 0 1 1 .undef).env 3 (stOf (runB (bigS bits n i up dn e) (roundL i n up dn))) = bigS bits n (IntKind.i64.wrap (i + 1)) (up * 2) (dn / 2) .any := by kernel_rfl
def endL (i n : Int) : List Item := [cmpI3 .lss i n false false]
theorem end_run (bits n i : Int) (up dn : Rat) (e : AV) : runB (bigS bits n i up dn e) (endL i n) = some (.exit 0, stOf (runB (bigS bits n i up dn e) (endL i n)), ⟨[], (endL i n).reverse⟩) := by kernel_rfl
def lastL (i n : Int) (up dn : Rat) : List Item := [cmpI3 .lss i n false true, .call 15 [ratP up, ratP 2] (noP 20), .call 22 [ratP dn, ratP 2] (noP 20), cmpI3 .geq i 511 true true, .call 17 [zeroR, zeroR] (.bool true), .call 17 [zeroR, zeroR] (.bool true)]
theorem last_run (bits n i : Int) (up dn : Rat) (e : AV) : runB (bigS bits n i up dn e) (lastL i n up dn) = some (.ret, stOf (runB (bigS bits n i up dn e) (lastL i n up dn)), ⟨[], (lastL i n up dn).reverse⟩) := by kernel_rfl
end Go.Proofs.YtkjdpojbmkpkgaaDoor.AV

/- RatBack: what the evaluator answers. -/
namespace Go.Proofs.YtkjdpojbmkpkgaaDoor.AV
open Go Go.RowKit Go.Proofs.YtkjdpojbmkpkgaaDoorW.PrintWords Go.Proofs.YtkjdpojbmkpkgaaDoorW.PrintLast Go.Proofs.YtkjdpojbmkpkgaaDoorW.PrintMore Go.Proofs.YtkjdpojbmkpkgaaDoor.M Go.Proofs.YtkjdpojbmkpkgaaDoor.P Go.Proofs.YtkjdpojbmkpkgaaDoor.E

theorem EqualNil_c : Evc 39 [nilR, nilR] (.bool true) := by
  refine evc_ext ?_
  obtain ⟨K, hK⟩ := equal_ev (a := []) (b := []) (by decide)
  refine ⟨K, fun k hk => ?_⟩
  rw [ext_slices_Equal_uint32_uint32]
  have e : rowOf .u32 nilR = some [] := by unfold nilR rowOf; simp [ints]
  simp only [x_slices_Equal_uint32_uint32, e, hK k hk]
  rfl
theorem SameZero_c : Evc 17 [zeroR, zeroR] (.bool true) :=
  evc_script (known := known) (fl := {}) (n := 3) (L := [.call 39 [nilR, nilR] (.bool true), .call 39 [nilR, nilR] (.bool true)]) (by kernel_rfl) (owed_cons EqualNil_c (owed_cons EqualNil_c owed_nil))

end Go.Proofs.YtkjdpojbmkpkgaaDoor.AV

/- RatBig: the loop, and what the evaluator answers. -/
namespace Go.Proofs.YtkjdpojbmkpkgaaDoor.AV
open Go Go.RowKit Go.Proofs.YtkjdpojbmkpkgaaDoorW.PrintWords Go.Proofs.YtkjdpojbmkpkgaaDoorW.PrintLast Go.Proofs.YtkjdpojbmkpkgaaDoorW.PrintMore Go.Proofs.YtkjdpojbmkpkgaaDoor.M Go.Proofs.YtkjdpojbmkpkgaaDoor.P Go.Proofs.YtkjdpojbmkpkgaaDoor.E

theorem red_parts {s : Bool} {n d : Nat} {q : Rat} (hd : d ≠ 0) (hq : mkRat (sg s n) d = q) : q.num.natAbs = n / Nat.gcd n d ∧ q.den = d / Nat.gcd n d := by
  have hga : (sg s n).natAbs = n := by unfold sg; split <;> simp
  refine ⟨?_, by rw [← hq, Rat.den_mkRat, if_neg hd, hga, Nat.gcd_comm]⟩
  rw [← hq, Rat.num_mkRat, if_neg hd, hga, Nat.gcd_comm, Int.natAbs_ediv_of_dvd (by rw [Int.ofNat_dvd_left, hga]; exact Nat.gcd_dvd_left n d), hga]
  rfl
theorem redP_big {s : Bool} {n d : Nat} {q : Rat} (hd : d ≠ 0) (hq : mkRat (sg s n) d = q) (hf : ¬ Fits q) : redP s n d = noP 20 := by
  obtain ⟨h1, h2⟩ := red_parts hd hq
  unfold redP
  rw [← h1, ← h2]
  exact if_neg hf
theorem Mul_big {p q : Rat} (hp : Fits p) (hq : Fits q) (hs : ¬ Fits (p * q)) : Evc 15 [ratP p, ratP q] (noP 20) := by
  have hd : p.den * q.den ≠ 0 := Nat.mul_ne_zero p.den_nz q.den_nz
  have r := reduced_c (decide (p.num < 0) != decide (q.num < 0)) (mul64 hp.1 hq.1) (mul64 hp.2 hq.2) hd
  rw [redP_big (q := p * q) hd (by rw [sg_mul, Rat.mul_def']) hs] at r
  exact evc_script (known := known) (fl := {}) (n := 3) (L := [.call 31 [ratP p, ratP q] e0, .call 33 [pairP p.num.natAbs q.num.natAbs] (rowL (p.num.natAbs * q.num.natAbs)), .call 33 [pairP p.den q.den] (rowL (p.den * q.den)),
      .call 34 [.bool (!(decide (p.num < 0) == decide (q.num < 0))), rowL (p.num.natAbs * q.num.natAbs), rowL (p.den * q.den)] (noP 20)]) (by kernel_rfl)
    (owed_cons (both_c hp.can hq.can) (owed_cons (product_c (up64 hp.1) (up64 hq.1)) (owed_cons (product_c (up64 hp.2) (up64 hq.2)) (owed_cons r owed_nil))))
theorem Div_big {p q : Rat} (hp : Fits p) (hq : Fits q) (h0 : q ≠ 0) (hs : ¬ Fits (p / q)) : Evc 22 [ratP p, ratP q] (noP 20) := by
  have hn : q.num ≠ 0 := fun e => h0 (Rat.num_eq_zero.1 e)
  have hd : p.den * q.num.natAbs ≠ 0 := Nat.mul_ne_zero p.den_nz (by omega)
  have r := reduced_c (decide (p.num < 0) != decide (q.num < 0)) (mul64 hp.1 hq.2) (mul64 hp.2 hq.1) hd
  rw [redP_big (q := p / q) hd (div_mk hn) hs] at r
  exact evc_script (known := known) (fl := fl0) (n := 3) (L := [.call 31 [ratP p, ratP q] e0, lenI q.num.natAbs, eqlI q.num.natAbs false, .call 33 [pairP p.num.natAbs q.den] (rowL (p.num.natAbs * q.den)), .call 33 [pairP p.den q.num.natAbs] (rowL (p.den * q.num.natAbs)),
      .call 34 [.bool (!(decide (p.num < 0) == decide (q.num < 0))), rowL (p.num.natAbs * q.den), rowL (p.den * q.num.natAbs)] (noP 20)]) (by kernel_rfl)
    (owed_cons (both_c hp.can hq.can) (owed_cons (lenI_owed (up1000 hq.1)) (owed_cons (eq0 (by omega)) (owed_cons (product_c (up64 hp.1) (up64 hq.2)) (owed_cons (product_c (up64 hp.2) (up64 hq.1)) (owed_cons r owed_nil))))))

theorem pow_pos2 (j : Nat) : 2 ^ j ≠ 0 := Nat.pos_iff_ne_zero.1 (Nat.pow_pos (by decide))
/-- The powers of two, and their inverses. -/
def upQ (j : Nat) : Rat := ⟨((2 ^ j : Nat) : Int), 1, by decide, by simp [Nat.Coprime]⟩
def dnQ (j : Nat) : Rat := ⟨1, 2 ^ j, pow_pos2 j, by simp [Nat.Coprime]⟩
theorem up_next (j : Nat) : upQ j * 2 = upQ (j + 1) := by
  rw [Rat.mul_def']
  conv => rhs; rw [← Rat.mkRat_self (upQ (j + 1))]
  show mkRat (((2 ^ j : Nat) : Int) * 2) (1 * 1) = mkRat ((2 ^ (j + 1) : Nat) : Int) 1
  rw [Nat.pow_succ]
  push_cast
  rfl
theorem dn_next (j : Nat) : dnQ j / 2 = dnQ (j + 1) := by
  have h := div_mk (p := dnQ j) (q := 2) (by decide)
  rw [← h]
  conv => rhs; rw [← Rat.mkRat_self (dnQ (j + 1))]
  show mkRat (sg (decide ((1 : Int) < 0) != decide ((2 : Int) < 0)) (1 * 1)) (2 ^ j * 2) = mkRat 1 (2 ^ (j + 1))
  rw [Nat.pow_succ]
  rfl
theorem up_dn (j : Nat) : upQ j * dnQ j = 1 := by
  rw [Rat.mul_def']
  show mkRat (((2 ^ j : Nat) : Int) * 1) (1 * 2 ^ j) = 1
  have : (1 : Rat) = mkRat 1 1 := by rfl
  rw [this, Rat.mkRat_eq_iff (by simp) (by decide)]
  push_cast
  omega
theorem b16 : ∃ m : Nat, (2 : Nat) ^ m = 4294967296 ^ 16 ∧ m = 512 := ⟨32 * 16, (Nat.pow_mul 2 32 16).trans (congrArg (· ^ 16) (by decide : (2 : Nat) ^ 32 = 4294967296)), rfl⟩
theorem pow_lt16 {j : Nat} : 2 ^ j < 4294967296 ^ 16 ↔ j < 512 := by
  obtain ⟨m, h, hm⟩ := b16
  rw [← h, Nat.pow_lt_pow_iff_right (by decide), hm]
theorem up_fits {j : Nat} (h : j < 512) : Fits (upQ j) := ⟨pow_lt16.2 h, by show (1 : Nat) < _; decide⟩
theorem dn_fits {j : Nat} (h : j < 512) : Fits (dnQ j) := ⟨by show (1 : Int).natAbs < _; decide, pow_lt16.2 h⟩
theorem fits2 : Fits 2 := ⟨by decide, by decide⟩
theorem limbs_pow (j : Nat) : (limbs (2 ^ j)).length = j / 32 + 1 := by
  have e : ∀ m, (limbs (2 ^ j)).length ≤ m ↔ j < 32 * m := fun m => by
    rw [limbs_length_lt_iff, show (4294967296 : Nat) = 2 ^ 32 from rfl, ← Nat.pow_mul, Nat.pow_lt_pow_iff_right (by decide)]
  have h1 := (e (j / 32 + 1)).2 (by omega)
  have h2 : ¬ (limbs (2 ^ j)).length ≤ j / 32 := fun h => by have := (e _).1 h; omega
  omega

/-- How the loop ends. -/
noncomputable def fin (bits : Int) (n : Nat) (e : AV) : Ex × St :=
  if n < 512 then (.exit 0, stOf (runB (bigS bits n n (upQ n) (dnQ n) e) (endL n n))) else (.ret, stOf (runB (bigS bits n 511 (upQ 511) (dnQ 511) e) (lastL 511 n (upQ 511) (dnQ 511))))
theorem loop_runs (bits : Int) (n : Nat) (hn : n < 600) : ∀ (d i : Nat) (e : AV), i + d = min n 511 → ∃ e', (d = 0 → e' = e) ∧ (d ≠ 0 → e' = .any) ∧ ∃ K, ∀ k, K ≤ k → ∀ m, d < m →
    loopA (codeA Tryd.prog g0 (ev Tryd.prog g0 ext k) k bigB) (bigS bits n 0 1 1 .undef).env 3 m (bigS bits n i (upQ i) (dnQ i) e) = some (fin bits n e') := by
  intro d
  induction d with
  | zero =>
    intro i e hi
    refine ⟨e, fun _ => rfl, fun h => absurd rfl h, ?_⟩
    by_cases h : n < 512
    · obtain rfl : i = n := by omega
      obtain ⟨K, hK⟩ := code_script (known := known) (fl := flC) (n := 3) (end_run bits i i (upQ i) (dnQ i) e) (owed_cons (cmp_lss (decide_eq_false (by omega))) owed_nil)
      refine ⟨K, fun k hk m hm => ?_⟩
      obtain ⟨m, rfl⟩ : ∃ j, m = j + 1 := ⟨m - 1, by omega⟩
      simp only [loopA, hK k hk]
      unfold fin
      rw [if_pos h]
    · obtain rfl : i = 511 := by omega
      have g1 : ¬ Fits (upQ 511 * 2) := by rw [up_next]; exact fun h => absurd (pow_lt16.1 h.1) (by decide)
      have g2 : ¬ Fits (dnQ 511 / 2) := by rw [dn_next]; exact fun h => absurd (pow_lt16.1 h.2) (by decide)
      obtain ⟨K, hK⟩ := code_script (known := known) (fl := flC) (n := 3) (last_run bits n 511 (upQ 511) (dnQ 511) e) (owed_cons (cmp_lss (decide_eq_true (by omega))) (owed_cons (Mul_big (up_fits (by decide)) fits2 g1) (owed_cons (Div_big (dn_fits (by decide)) fits2 (by decide) g2) (owed_cons (cmp_geq (decide_eq_true (by decide))) (owed_cons SameZero_c (owed_cons SameZero_c owed_nil))))))
      refine ⟨K, fun k hk m hm => ?_⟩
      obtain ⟨m, rfl⟩ : ∃ j, m = j + 1 := ⟨m - 1, by omega⟩
      have := hK k hk
      simp only [loopA]
      rw [show ((511 : Nat) : Int) = 511 from rfl, this]
      unfold fin
      rw [if_neg h]
  | succ d ih =>
    intro i e hi
    obtain ⟨e', h1, h2, K2, hK2⟩ := ih (i + 1) .any (by omega)
    have hi2 : i < 511 := by omega
    have f1 : Fits (upQ i * 2) := by rw [up_next]; exact up_fits (by omega)
    have f2 : Fits (dnQ i / 2) := by rw [dn_next]; exact dn_fits (by omega)
    obtain ⟨K, hK⟩ := code_script (known := known) (fl := flC) (n := 3) (round_run bits n i (upQ i) (dnQ i) e) (owed_cons (cmp_lss (decide_eq_true (by omega))) (owed_cons (Mul_evc (up_fits (by omega)) fits2 f1) (owed_cons (Div_evc (dn_fits (by omega)) fits2 (by decide) f2) (owed_cons (cmp_geq (decide_eq_false (by omega))) owed_nil))))
    refine ⟨e', fun h => (by omega), fun _ => by
      by_cases hd : d = 0
      · exact h1 hd
      · exact h2 hd, max K K2, fun k hk m hm => ?_⟩
    obtain ⟨m, rfl⟩ : ∃ j, m = j + 1 := ⟨m - 1, by omega⟩
    have := hK2 k (by omega) m (by omega)
    simp only [loopA]
    rw [hK k (by omega)]
    simp only []
    rw [round_trim, up_next, dn_next, wrap_id (by omega) (by omega)]
    exact this

theorem of_i {n : Int} (h : I64 n) (q : Rat) (e : (n : Rat) = q) : Evc 13 [intP n] (ratP q) := by rw [← e]; exact Of_ev h
def flG : Flags := { loop := true, len := true, bin := fun op t _ _ => isCmp op && t == 3 }
theorem bigS_0 (bits n : Int) : bigS bits n 0 (upQ 0) (dnQ 0) .undef = bigS bits n 0 1 1 .undef := by
  rw [show upQ 0 = 1 from rfl, show dnQ 0 = 1 from rfl]
noncomputable def bigL (bits n : Int) (r : Ex × St) : List Item := [.call 9 [] (.bool true), .call 21 [intP bits, intP 600] (intP n), .call 13 [intP 2] (ratP 2), .call 13 [intP 1] (ratP 1), .call 13 [intP 1] (ratP 1), .loop bigB (bigS bits n 0 1 1 .undef) r.1 r.2]
theorem RatBig_evc {bits : Int} (_h : I64 bits) : Evc 5 [intP bits] (.bool true) := by
  obtain ⟨n, hn⟩ : ∃ n : Nat, bits % 600 = n := ⟨(bits % 600).toNat, by omega⟩
  have hlt : n < 600 := by omega
  have br := bring_evc (n := bits) (m := 600) (by decide) (by decide)
  rw [hn] at br
  obtain ⟨e', h1, h2, K, hK⟩ := loop_runs bits n hlt (min n 511) 0 .undef (by omega)
  have lp : Owed (.loop bigB (bigS bits n 0 1 1 .undef) (fin bits n e').1 (fin bits n e').2) := ⟨max K 600, fun k hk => by
    have := hK k (by omega) k (by omega)
    rw [show ((0 : Nat) : Int) = 0 from rfl, bigS_0] at this
    exact this⟩
  have pre : ∀ i ∈ bigL bits n (fin bits n e'), Owed i :=
    owed_cons works_evc (owed_cons br (owed_cons (of_i ⟨by decide, by decide⟩ _ rfl) (owed_cons (of_i ⟨by decide, by decide⟩ _ rfl) (owed_cons (of_i ⟨by decide, by decide⟩ _ rfl) (owed_cons lp owed_nil)))))
  by_cases h : n < 512
  · have hf : fin bits n e' = (.exit 0, stOf (runB (bigS bits n n (upQ n) (dnQ n) e') (endL n n))) := if_pos h
    rw [hf] at pre
    have f1 : Fits (1 : Rat) := ⟨by decide, by decide⟩
    have mu := Mul_evc (up_fits h) (dn_fits h) (by rw [up_dn]; exact f1)
    rw [up_dn] at mu
    have sm := Same_evc f1 f1
    rw [decide_eq_true rfl] at sm
    have w1 : IntKind.i64.wrap (IntKind.i64.wrap ((n : Int).tdiv 32) + 1) = ((limbs (2 ^ n)).length : Int) := by
      have e1 : (n : Int).tdiv 32 = ((n / 32 : Nat) : Int) := by rw [Int.tdiv_eq_ediv_of_nonneg (by omega)]; rfl
      rw [e1, wrap_id (n := ((n / 32 : Nat) : Int)) (by omega) (by omega), wrap_id (by omega) (by omega), limbs_pow]
      rfl
    have lt : Lt 1000 (2 ^ n) := up1000 (pow_lt16.2 h)
    refine evc_script (known := known) (fl := flG) (n := 5) (L := bigL bits n (.exit 0, stOf (runB (bigS bits n n (upQ n) (dnQ n) e') (endL n n))) ++ [.call 15 [ratP (upQ n), ratP (dnQ n)] (okP (ratP 1)), .call 13 [intP 1] (ratP 1), .call 17 [ratP 1, ratP 1] (.bool true),
      lenI (2 ^ n), cmpI3 .eql ((limbs (2 ^ n)).length : Nat) (IntKind.i64.wrap (IntKind.i64.wrap ((n : Int).tdiv 32) + 1)) false true, lenI (2 ^ n), cmpI3 .eql ((limbs (2 ^ n)).length : Nat) (IntKind.i64.wrap (IntKind.i64.wrap ((n : Int).tdiv 32) + 1)) false true]) (by kernel_rfl) (owed_app pre ?_)
    exact owed_cons mu (owed_cons (of_i ⟨by decide, by decide⟩ _ rfl) (owed_cons sm (owed_cons (lenI_owed lt) (owed_cons (cmp_eql (by rw [w1]; simp)) (owed_cons (lenI_owed lt) (owed_cons (cmp_eql (by rw [w1]; simp)) owed_nil))))))
  · have hf : fin bits n e' = (.ret, stOf (runB (bigS bits n 511 (upQ 511) (dnQ 511) e') (lastL 511 n (upQ 511) (dnQ 511)))) := if_neg h
    rw [hf] at pre
    exact evc_script (known := known) (fl := flG) (n := 5) (by kernel_rfl) pre
end Go.Proofs.YtkjdpojbmkpkgaaDoor.AV
