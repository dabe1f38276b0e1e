/- Printed functions in the evaluator's terms (printed by extgen.py). -/
import Derived.Test.YtkjdpojbmkpkgaaDoorQkP1
import Derived.Test.YtkjdpojbmkpkgaaDoorQkP3
import Derived.Test.YtkjdpojbmkpkgaaDoorQkP4
import Derived.Test.YtkjdpojbmkpkgaaDoorQkP5
import Derived.Test.YtkjdpojbmkpkgaaDoorQkP7
import Derived.Test.YtkjdpojbmkpkgaaDoorQkP13
import Derived.Test.YtkjdpojbmkpkgaaDoorQkP15
import Derived.Test.YtkjdpojbmkpkgaaDoorQkP17
import Derived.Test.YtkjdpojbmkpkgaaDoorQkA1
import Derived.Test.YtkjdpojbmkpkgaaDoorProg
import Derived.KernelRfl
import Derived.Test.YtkjdpojbmkpkgaaDoorQkE0
namespace Go.Proofs.YtkjdpojbmkpkgaaDoor.AV
open Go Go.RowKit Go.Proofs.YtkjdpojbmkpkgaaDoorW.PrintWords Go.Proofs.YtkjdpojbmkpkgaaDoor.P

def x_nat_Gcd (k : Nat) : List PV → Option PV
  | [p_l0, p_l1] =>
    (match rowOf .u32 p_l0 with | none => none | some l0 => (match rowOf .u32 p_l1 with | none => none | some l1 => (match nat_Gcd.f k l0 l1 with | none => none | some (r1, r2) => some (.tup [row .u32 r1, .int .i64 r2]))))
  | _ => none
theorem x_nat_Gcd_call {k : Nat} {ps : List PV} {r_ : PV} (h : x_nat_Gcd k ps = some r_) : ExtCall Tryd.prog 44 ps r_ := by
  unfold x_nat_Gcd at h
  split at h <;> first | (cases h; done) | skip
  rename_i p_l0 p_l1
  split at h <;> first | (cases h; done) | skip
  rename_i l0 q_l0
  split at h <;> first | (cases h; done) | skip
  rename_i l1 q_l1
  split at h <;> first | (cases h; done) | skip
  rename_i r1 r2 hf
  cases h
  intro F w vs hF hl hr
  obtain ⟨u0, u1, rfl⟩ := two_args hl
  obtain ⟨A0, c0, rfl, C_l0, R_l0, V_l0⟩ := row_in q_l0 (hr 0 _ rfl)
  obtain ⟨A1, c1, rfl, C_l1, R_l1, V_l1⟩ := row_in q_l1 (hr 1 _ rfl)
  refine (nat_Gcd.calls k A0 c0 l0 A1 c1 l1 r1 r2 w R_l0 C_l0 R_l1 C_l1 hf).mono ?_
  rintro e w' ⟨v0_, rfl, K_v0_, hB⟩
  obtain ⟨D_v0_, E_v0_, M_v0_⟩ := row_out K_v0_
  refine ⟨_, (fun b o => F b o ∨ D_v0_ b o), rfl, (tup_mk2 (M_v0_ _ (fun _ _ h => .inr h)) (.int _ _)), hB, fun _ _ h => .inl h, fun b o h => ?_⟩
  rcases h with h | h
  · exact .inl h
  · exact .inr (E_v0_ _ _ h)
def x_nat_Div (k : Nat) : List PV → Option PV
  | [p_l0, p_l1] =>
    (match rowOf .u32 p_l0 with | none => none | some l0 => (match rowOf .u32 p_l1 with | none => none | some l1 => (match nat_Div.f k l0 l1 with | none => none | some (r1, r2, r3) => some (.tup [row .u32 r1, row .u32 r2, .int .i64 r3]))))
  | _ => none
theorem x_nat_Div_call {k : Nat} {ps : List PV} {r_ : PV} (h : x_nat_Div k ps = some r_) : ExtCall Tryd.prog 37 ps r_ := by
  unfold x_nat_Div at h
  split at h <;> first | (cases h; done) | skip
  rename_i p_l0 p_l1
  split at h <;> first | (cases h; done) | skip
  rename_i l0 q_l0
  split at h <;> first | (cases h; done) | skip
  rename_i l1 q_l1
  split at h <;> first | (cases h; done) | skip
  rename_i r1 r2 r3 hf
  cases h
  intro F w vs hF hl hr
  obtain ⟨u0, u1, rfl⟩ := two_args hl
  obtain ⟨A0, c0, rfl, C_l0, R_l0, V_l0⟩ := row_in q_l0 (hr 0 _ rfl)
  obtain ⟨A1, c1, rfl, C_l1, R_l1, V_l1⟩ := row_in q_l1 (hr 1 _ rfl)
  refine (nat_Div.calls k A0 c0 l0 A1 c1 l1 r1 r2 r3 w R_l0 C_l0 R_l1 C_l1 hf).mono ?_
  rintro e w' ⟨v0_, v1_, rfl, K_v0_, K_v1_, hB⟩
  obtain ⟨D_v0_, E_v0_, M_v0_⟩ := row_out K_v0_
  obtain ⟨D_v1_, E_v1_, M_v1_⟩ := row_out K_v1_
  refine ⟨_, (fun b o => F b o ∨ D_v0_ b o ∨ D_v1_ b o), rfl, (tup_mk3 (M_v0_ _ (fun _ _ h => .inr (.inl h))) (M_v1_ _ (fun _ _ h => .inr (.inr h))) (.int _ _)), hB, fun _ _ h => .inl h, fun b o h => ?_⟩
  rcases h with h | h | h
  · exact .inl h
  · exact .inr (E_v0_ _ _ h)
  · exact .inr (E_v1_ _ _ h)
def x_nat_Add (k : Nat) : List PV → Option PV
  | [p_l0, p_l1] =>
    (match rowOf .u32 p_l0 with | none => none | some l0 => (match rowOf .u32 p_l1 with | none => none | some l1 => (match nat_Add.f k l0 l1 with | none => none | some (r1, r2) => some (.tup [row .u32 r1, .int .i64 r2]))))
  | _ => none
theorem x_nat_Add_call {k : Nat} {ps : List PV} {r_ : PV} (h : x_nat_Add k ps = some r_) : ExtCall Tryd.prog 38 ps r_ := by
  unfold x_nat_Add at h
  split at h <;> first | (cases h; done) | skip
  rename_i p_l0 p_l1
  split at h <;> first | (cases h; done) | skip
  rename_i l0 q_l0
  split at h <;> first | (cases h; done) | skip
  rename_i l1 q_l1
  split at h <;> first | (cases h; done) | skip
  rename_i r1 r2 hf
  cases h
  intro F w vs hF hl hr
  obtain ⟨u0, u1, rfl⟩ := two_args hl
  obtain ⟨A0, c0, rfl, C_l0, R_l0, V_l0⟩ := row_in q_l0 (hr 0 _ rfl)
  obtain ⟨A1, c1, rfl, C_l1, R_l1, V_l1⟩ := row_in q_l1 (hr 1 _ rfl)
  refine (nat_Add.calls k A0 c0 l0 A1 c1 l1 r1 r2 w R_l0 C_l0 R_l1 C_l1 hf).mono ?_
  rintro e w' ⟨v0_, rfl, K_v0_, hB⟩
  obtain ⟨D_v0_, E_v0_, M_v0_⟩ := row_out K_v0_
  refine ⟨_, (fun b o => F b o ∨ D_v0_ b o), rfl, (tup_mk2 (M_v0_ _ (fun _ _ h => .inr h)) (.int _ _)), hB, fun _ _ h => .inl h, fun b o h => ?_⟩
  rcases h with h | h
  · exact .inl h
  · exact .inr (E_v0_ _ _ h)
def x_nat_Sub (k : Nat) : List PV → Option PV
  | [p_l0, p_l1] =>
    (match rowOf .u32 p_l0 with | none => none | some l0 => (match rowOf .u32 p_l1 with | none => none | some l1 => (match nat_Sub.f k l0 l1 with | none => none | some (r1, r2) => some (.tup [row .u32 r1, .int .i64 r2]))))
  | _ => none
theorem x_nat_Sub_call {k : Nat} {ps : List PV} {r_ : PV} (h : x_nat_Sub k ps = some r_) : ExtCall Tryd.prog 56 ps r_ := by
  unfold x_nat_Sub at h
  split at h <;> first | (cases h; done) | skip
  rename_i p_l0 p_l1
  split at h <;> first | (cases h; done) | skip
  rename_i l0 q_l0
  split at h <;> first | (cases h; done) | skip
  rename_i l1 q_l1
  split at h <;> first | (cases h; done) | skip
  rename_i r1 r2 hf
  cases h
  intro F w vs hF hl hr
  obtain ⟨u0, u1, rfl⟩ := two_args hl
  obtain ⟨A0, c0, rfl, C_l0, R_l0, V_l0⟩ := row_in q_l0 (hr 0 _ rfl)
  obtain ⟨A1, c1, rfl, C_l1, R_l1, V_l1⟩ := row_in q_l1 (hr 1 _ rfl)
  refine (nat_Sub.calls k A0 c0 l0 A1 c1 l1 r1 r2 w R_l0 C_l0 R_l1 C_l1 hf).mono ?_
  rintro e w' ⟨v0_, rfl, K_v0_, hB⟩
  obtain ⟨D_v0_, E_v0_, M_v0_⟩ := row_out K_v0_
  refine ⟨_, (fun b o => F b o ∨ D_v0_ b o), rfl, (tup_mk2 (M_v0_ _ (fun _ _ h => .inr h)) (.int _ _)), hB, fun _ _ h => .inl h, fun b o h => ?_⟩
  rcases h with h | h
  · exact .inl h
  · exact .inr (E_v0_ _ _ h)
def x_nat_Cmp (k : Nat) : List PV → Option PV
  | [p_l0, p_l1] =>
    (match rowOf .u32 p_l0 with | none => none | some l0 => (match rowOf .u32 p_l1 with | none => none | some l1 => (match nat_Cmp.f k l0 l1 with | none => none | some r => some (.int .i64 r))))
  | _ => none
theorem x_nat_Cmp_call {k : Nat} {ps : List PV} {r_ : PV} (h : x_nat_Cmp k ps = some r_) : ExtCall Tryd.prog 55 ps r_ := by
  unfold x_nat_Cmp at h
  split at h <;> first | (cases h; done) | skip
  rename_i p_l0 p_l1
  split at h <;> first | (cases h; done) | skip
  rename_i l0 q_l0
  split at h <;> first | (cases h; done) | skip
  rename_i l1 q_l1
  split at h <;> first | (cases h; done) | skip
  rename_i r hf
  cases h
  intro F w vs hF hl hr
  obtain ⟨u0, u1, rfl⟩ := two_args hl
  obtain ⟨A0, c0, rfl, C_l0, R_l0, V_l0⟩ := row_in q_l0 (hr 0 _ rfl)
  obtain ⟨A1, c1, rfl, C_l1, R_l1, V_l1⟩ := row_in q_l1 (hr 1 _ rfl)
  refine (nat_Cmp.calls k A0 c0 l0 A1 c1 l1 r w R_l0 C_l0 R_l1 C_l1 hf).mono ?_
  rintro e w' ⟨rfl, hB⟩
  refine ⟨_, (fun b o => F b o), rfl, (.int _ _), hB, fun _ _ h => h, fun b o h => ?_⟩
  exact .inl h
def x_nat_Mul (k : Nat) : List PV → Option PV
  | [p_l0, p_l1] =>
    (match rowOf .u32 p_l0 with | none => none | some l0 => (match rowOf .u32 p_l1 with | none => none | some l1 => (match nat_Mul.f k l0 l1 with | none => none | some (r1, r2) => some (.tup [row .u32 r1, .int .i64 r2]))))
  | _ => none
theorem x_nat_Mul_call {k : Nat} {ps : List PV} {r_ : PV} (h : x_nat_Mul k ps = some r_) : ExtCall Tryd.prog 57 ps r_ := by
  unfold x_nat_Mul at h
  split at h <;> first | (cases h; done) | skip
  rename_i p_l0 p_l1
  split at h <;> first | (cases h; done) | skip
  rename_i l0 q_l0
  split at h <;> first | (cases h; done) | skip
  rename_i l1 q_l1
  split at h <;> first | (cases h; done) | skip
  rename_i r1 r2 hf
  cases h
  intro F w vs hF hl hr
  obtain ⟨u0, u1, rfl⟩ := two_args hl
  obtain ⟨A0, c0, rfl, C_l0, R_l0, V_l0⟩ := row_in q_l0 (hr 0 _ rfl)
  obtain ⟨A1, c1, rfl, C_l1, R_l1, V_l1⟩ := row_in q_l1 (hr 1 _ rfl)
  refine (nat_Mul.calls k A0 c0 l0 A1 c1 l1 r1 r2 w R_l0 C_l0 R_l1 C_l1 hf).mono ?_
  rintro e w' ⟨v0_, rfl, K_v0_, hB⟩
  obtain ⟨D_v0_, E_v0_, M_v0_⟩ := row_out K_v0_
  refine ⟨_, (fun b o => F b o ∨ D_v0_ b o), rfl, (tup_mk2 (M_v0_ _ (fun _ _ h => .inr h)) (.int _ _)), hB, fun _ _ h => .inl h, fun b o h => ?_⟩
  rcases h with h | h
  · exact .inl h
  · exact .inr (E_v0_ _ _ h)
def x_nat_Of (k : Nat) : List PV → Option PV
  | [.int .u64 a0] =>
    (match nat_Of.f k a0 with | none => none | some r => some (row .u32 r))
  | _ => none
theorem x_nat_Of_call {k : Nat} {ps : List PV} {r_ : PV} (h : x_nat_Of k ps = some r_) : ExtCall Tryd.prog 35 ps r_ := by
  unfold x_nat_Of at h
  split at h <;> first | (cases h; done) | skip
  rename_i a0
  split at h <;> first | (cases h; done) | skip
  rename_i r hf
  cases h
  intro F w vs hF hl hr
  obtain ⟨u0, rfl⟩ := one_arg hl
  cases int_in (hr 0 _ rfl)
  refine (nat_Of.calls k a0 r w hf).mono ?_
  rintro e w' ⟨v0_, rfl, K_v0_, hB⟩
  obtain ⟨D_v0_, E_v0_, M_v0_⟩ := row_out K_v0_
  refine ⟨_, (fun b o => F b o ∨ D_v0_ b o), rfl, (M_v0_ _ (fun _ _ h => .inr h)), hB, fun _ _ h => .inl h, fun b o h => ?_⟩
  rcases h with h | h
  · exact .inl h
  · exact .inr (E_v0_ _ _ h)
def x_nat_Check (_k : Nat) : List PV → Option PV
  | [p_l0] =>
    (match rowOf .u32 p_l0 with | none => none | some l0 => (match nat_Check.f l0 with | none => none | some r => some (.int .i64 r)))
  | _ => none
theorem x_nat_Check_call {k : Nat} {ps : List PV} {r_ : PV} (h : x_nat_Check k ps = some r_) : ExtCall Tryd.prog 48 ps r_ := by
  unfold x_nat_Check at h
  split at h <;> first | (cases h; done) | skip
  rename_i p_l0
  split at h <;> first | (cases h; done) | skip
  rename_i l0 q_l0
  split at h <;> first | (cases h; done) | skip
  rename_i r hf
  cases h
  intro F w vs hF hl hr
  obtain ⟨u0, rfl⟩ := one_arg hl
  obtain ⟨A0, c0, rfl, C_l0, R_l0, V_l0⟩ := row_in q_l0 (hr 0 _ rfl)
  refine (nat_Check.calls A0 c0 l0 r w R_l0 C_l0 hf).mono ?_
  rintro e w' ⟨rfl, hB⟩
  replace hB := drawn_below hB
  refine ⟨_, (fun b o => F b o), rfl, (.int _ _), hB, fun _ _ h => h, fun b o h => ?_⟩
  exact .inl h
def x_nat_Read (k : Nat) : List PV → Option PV
  | [.str a0] =>
    (match nat_Read.f k (bytes a0) with | none => none | some (r1, r2) => some (.tup [row .u32 r1, .int .i64 r2]))
  | _ => none
theorem x_nat_Read_call {k : Nat} {ps : List PV} {r_ : PV} (h : x_nat_Read k ps = some r_) : ExtCall Tryd.prog 43 ps r_ := by
  unfold x_nat_Read at h
  split at h <;> first | (cases h; done) | skip
  rename_i a0
  split at h <;> first | (cases h; done) | skip
  rename_i r1 r2 hf
  cases h
  intro F w vs hF hl hr
  obtain ⟨u0, rfl⟩ := one_arg hl
  cases str_in (hr 0 _ rfl)
  refine (nat_Read.calls k (bytes a0) r1 r2 w hf).mono ?_
  rintro e w' ⟨v0_, rfl, K_v0_, hB⟩
  obtain ⟨D_v0_, E_v0_, M_v0_⟩ := row_out K_v0_
  refine ⟨_, (fun b o => F b o ∨ D_v0_ b o), rfl, (tup_mk2 (M_v0_ _ (fun _ _ h => .inr h)) (.int _ _)), hB, fun _ _ h => .inl h, fun b o h => ?_⟩
  rcases h with h | h
  · exact .inl h
  · exact .inr (E_v0_ _ _ h)
def x_nat_Text (k : Nat) : List PV → Option PV
  | [p_l0] =>
    (match rowOf .u32 p_l0 with | none => none | some l0 => (match nat_Text.f k l0 with | none => none | some (r1, r2) => some (.tup [strP r1, .int .i64 r2])))
  | _ => none
theorem x_nat_Text_call {k : Nat} {ps : List PV} {r_ : PV} (h : x_nat_Text k ps = some r_) : ExtCall Tryd.prog 40 ps r_ := by
  unfold x_nat_Text at h
  split at h <;> first | (cases h; done) | skip
  rename_i p_l0
  split at h <;> first | (cases h; done) | skip
  rename_i l0 q_l0
  split at h <;> first | (cases h; done) | skip
  rename_i r1 r2 hf
  cases h
  intro F w vs hF hl hr
  obtain ⟨u0, rfl⟩ := one_arg hl
  obtain ⟨A0, c0, rfl, C_l0, R_l0, V_l0⟩ := row_in q_l0 (hr 0 _ rfl)
  refine (nat_Text.calls k (fun _ => True) A0 c0 l0 r1 r2 w (V_l0 49 _ _ (fun _ => trivial)) hf).mono ?_
  rintro e w' ⟨rfl, hB⟩
  refine ⟨_, (fun b o => F b o), rfl, (tup_mk2 (str_out _) (.int _ _)), hB, fun _ _ h => h, fun b o h => ?_⟩
  exact .inl h
def x_nat_Small (k : Nat) : List PV → Option PV
  | [p_l0] =>
    (match rowOf .u32 p_l0 with | none => none | some l0 => (match nat_Small.f k l0 with | none => none | some (r1, r2) => some (.tup [.int .u64 r1, .bool r2])))
  | _ => none
theorem x_nat_Small_call {k : Nat} {ps : List PV} {r_ : PV} (h : x_nat_Small k ps = some r_) : ExtCall Tryd.prog 46 ps r_ := by
  unfold x_nat_Small at h
  split at h <;> first | (cases h; done) | skip
  rename_i p_l0
  split at h <;> first | (cases h; done) | skip
  rename_i l0 q_l0
  split at h <;> first | (cases h; done) | skip
  rename_i r1 r2 hf
  cases h
  intro F w vs hF hl hr
  obtain ⟨u0, rfl⟩ := one_arg hl
  obtain ⟨A0, c0, rfl, C_l0, R_l0, V_l0⟩ := row_in q_l0 (hr 0 _ rfl)
  refine (nat_Small.calls k A0 c0 l0 r1 r2 w R_l0 C_l0 hf).mono ?_
  rintro e w' ⟨rfl, hB⟩
  replace hB := drawn_below hB
  refine ⟨_, (fun b o => F b o), rfl, (tup_mk2 (.int _ _) (.bool _)), hB, fun _ _ h => h, fun b o h => ?_⟩
  exact .inl h
def x_slices_Equal_uint32_uint32 (k : Nat) : List PV → Option PV
  | [p_l0, p_l1] =>
    (match rowOf .u32 p_l0 with | none => none | some l0 => (match rowOf .u32 p_l1 with | none => none | some l1 => (match slices_Equal_uint32_uint32.f k l0 l1 with | none => none | some r => some (.bool r))))
  | _ => none
theorem x_slices_Equal_uint32_uint32_call {k : Nat} {ps : List PV} {r_ : PV} (h : x_slices_Equal_uint32_uint32 k ps = some r_) : ExtCall Tryd.prog 39 ps r_ := by
  unfold x_slices_Equal_uint32_uint32 at h
  split at h <;> first | (cases h; done) | skip
  rename_i p_l0 p_l1
  split at h <;> first | (cases h; done) | skip
  rename_i l0 q_l0
  split at h <;> first | (cases h; done) | skip
  rename_i l1 q_l1
  split at h <;> first | (cases h; done) | skip
  rename_i r hf
  cases h
  intro F w vs hF hl hr
  obtain ⟨u0, u1, rfl⟩ := two_args hl
  obtain ⟨A0, c0, rfl, C_l0, R_l0, V_l0⟩ := row_in q_l0 (hr 0 _ rfl)
  obtain ⟨A1, c1, rfl, C_l1, R_l1, V_l1⟩ := row_in q_l1 (hr 1 _ rfl)
  refine (slices_Equal_uint32_uint32.calls k A0 c0 l0 A1 c1 l1 r w R_l0 C_l0 R_l1 C_l1 hf).mono ?_
  rintro e w' ⟨rfl, hB⟩
  replace hB := drawn_below hB
  refine ⟨_, (fun b o => F b o), rfl, (.bool _), hB, fun _ _ h => h, fun b o h => ?_⟩
  exact .inl h
def x_strings_Cut (_k : Nat) : List PV → Option PV
  | [.str a0, .str a1] =>
    (match strings_Cut.f (bytes a0) (bytes a1) with | none => none | some (r1, r2, r3) => some (.tup [strP r1, strP r2, .bool r3]))
  | _ => none
theorem x_strings_Cut_call {k : Nat} {ps : List PV} {r_ : PV} (h : x_strings_Cut k ps = some r_) : ExtCall Tryd.prog 42 ps r_ := by
  unfold x_strings_Cut at h
  split at h <;> first | (cases h; done) | skip
  rename_i a0 a1
  split at h <;> first | (cases h; done) | skip
  rename_i r1 r2 r3 hf
  cases h
  intro F w vs hF hl hr
  obtain ⟨u0, u1, rfl⟩ := two_args hl
  cases str_in (hr 0 _ rfl)
  cases str_in (hr 1 _ rfl)
  refine (strings_Cut.calls (bytes a0) (bytes a1) r1 r2 r3 w hf).mono ?_
  rintro e w' ⟨rfl, hB⟩
  replace hB := drawn_below hB
  refine ⟨_, (fun b o => F b o), rfl, (tup_mk3 (str_out _) (str_out _) (.bool _)), hB, fun _ _ h => h, fun b o h => ?_⟩
  exact .inl h
def x_strings_CutPrefix (_k : Nat) : List PV → Option PV
  | [.str a0, .str a1] =>
    (match strings_CutPrefix.f (bytes a0) (bytes a1) with | none => none | some (r1, r2) => some (.tup [strP r1, .bool r2]))
  | _ => none
theorem x_strings_CutPrefix_call {k : Nat} {ps : List PV} {r_ : PV} (h : x_strings_CutPrefix k ps = some r_) : ExtCall Tryd.prog 41 ps r_ := by
  unfold x_strings_CutPrefix at h
  split at h <;> first | (cases h; done) | skip
  rename_i a0 a1
  split at h <;> first | (cases h; done) | skip
  rename_i r1 r2 hf
  cases h
  intro F w vs hF hl hr
  obtain ⟨u0, u1, rfl⟩ := two_args hl
  cases str_in (hr 0 _ rfl)
  cases str_in (hr 1 _ rfl)
  refine (strings_CutPrefix.calls (bytes a0) (bytes a1) r1 r2 w hf).mono ?_
  rintro e w' ⟨rfl, hB⟩
  replace hB := drawn_below hB
  refine ⟨_, (fun b o => F b o), rfl, (tup_mk2 (str_out _) (.bool _)), hB, fun _ _ h => h, fun b o h => ?_⟩
  exact .inl h
def x_driftnetlaw02_bring (_k : Nat) : List PV → Option PV
  | [.int .i64 a0, .int .i64 a1] =>
    (match driftnetlaw02_bring.f a0 a1 with | none => none | some r => some (.int .i64 r))
  | _ => none
theorem x_driftnetlaw02_bring_call {k : Nat} {ps : List PV} {r_ : PV} (h : x_driftnetlaw02_bring k ps = some r_) : ExtCall Tryd.prog 21 ps r_ := by
  unfold x_driftnetlaw02_bring at h
  split at h <;> first | (cases h; done) | skip
  rename_i a0 a1
  split at h <;> first | (cases h; done) | skip
  rename_i r hf
  cases h
  intro F w vs hF hl hr
  obtain ⟨u0, u1, rfl⟩ := two_args hl
  cases int_in (hr 0 _ rfl)
  cases int_in (hr 1 _ rfl)
  refine (driftnetlaw02_bring.calls a0 a1 r w hf).mono ?_
  rintro e w' ⟨rfl, hB⟩
  replace hB := drawn_below hB
  refine ⟨_, (fun b o => F b o), rfl, (.int _ _), hB, fun _ _ h => h, fun b o h => ?_⟩
  exact .inl h

def dom : FuncId → Bool := fun f => f == 44 || f == 37 || f == 38 || f == 56 || f == 55 || f == 57 || f == 35 || f == 48 || f == 43 || f == 40 || f == 46 || f == 39 || f == 42 || f == 41 || f == 21
def ext (k : Nat) (f : FuncId) (ps : List PV) : Option PV :=
  if f = 44 then x_nat_Gcd k ps else
  if f = 37 then x_nat_Div k ps else
  if f = 38 then x_nat_Add k ps else
  if f = 56 then x_nat_Sub k ps else
  if f = 55 then x_nat_Cmp k ps else
  if f = 57 then x_nat_Mul k ps else
  if f = 35 then x_nat_Of k ps else
  if f = 48 then x_nat_Check k ps else
  if f = 43 then x_nat_Read k ps else
  if f = 40 then x_nat_Text k ps else
  if f = 46 then x_nat_Small k ps else
  if f = 39 then x_slices_Equal_uint32_uint32 k ps else
  if f = 42 then x_strings_Cut k ps else
  if f = 41 then x_strings_CutPrefix k ps else
  if f = 21 then x_driftnetlaw02_bring k ps else none
theorem ext_none : ∀ f, dom f = false → ∀ k ps, ext k f ps = none := by
  intro f h k ps
  unfold ext
  rw [if_neg (fun e : f = 44 => by subst e; exact absurd h (by decide))]
  rw [if_neg (fun e : f = 37 => by subst e; exact absurd h (by decide))]
  rw [if_neg (fun e : f = 38 => by subst e; exact absurd h (by decide))]
  rw [if_neg (fun e : f = 56 => by subst e; exact absurd h (by decide))]
  rw [if_neg (fun e : f = 55 => by subst e; exact absurd h (by decide))]
  rw [if_neg (fun e : f = 57 => by subst e; exact absurd h (by decide))]
  rw [if_neg (fun e : f = 35 => by subst e; exact absurd h (by decide))]
  rw [if_neg (fun e : f = 48 => by subst e; exact absurd h (by decide))]
  rw [if_neg (fun e : f = 43 => by subst e; exact absurd h (by decide))]
  rw [if_neg (fun e : f = 40 => by subst e; exact absurd h (by decide))]
  rw [if_neg (fun e : f = 46 => by subst e; exact absurd h (by decide))]
  rw [if_neg (fun e : f = 39 => by subst e; exact absurd h (by decide))]
  rw [if_neg (fun e : f = 42 => by subst e; exact absurd h (by decide))]
  rw [if_neg (fun e : f = 41 => by subst e; exact absurd h (by decide))]
  rw [if_neg (fun e : f = 21 => by subst e; exact absurd h (by decide))]

theorem ext_ok : ExtOk Tryd.prog ext := by
  intro k f ps r h
  unfold ext at h
  by_cases e : f = 44
  · rw [if_pos e] at h; subst e; exact ⟨fnThere (by kernel_rfl), x_nat_Gcd_call h⟩
  rw [if_neg e] at h; clear e
  by_cases e : f = 37
  · rw [if_pos e] at h; subst e; exact ⟨fnThere (by kernel_rfl), x_nat_Div_call h⟩
  rw [if_neg e] at h; clear e
  by_cases e : f = 38
  · rw [if_pos e] at h; subst e; exact ⟨fnThere (by kernel_rfl), x_nat_Add_call h⟩
  rw [if_neg e] at h; clear e
  by_cases e : f = 56
  · rw [if_pos e] at h; subst e; exact ⟨fnThere (by kernel_rfl), x_nat_Sub_call h⟩
  rw [if_neg e] at h; clear e
  by_cases e : f = 55
  · rw [if_pos e] at h; subst e; exact ⟨fnThere (by kernel_rfl), x_nat_Cmp_call h⟩
  rw [if_neg e] at h; clear e
  by_cases e : f = 57
  · rw [if_pos e] at h; subst e; exact ⟨fnThere (by kernel_rfl), x_nat_Mul_call h⟩
  rw [if_neg e] at h; clear e
  by_cases e : f = 35
  · rw [if_pos e] at h; subst e; exact ⟨fnThere (by kernel_rfl), x_nat_Of_call h⟩
  rw [if_neg e] at h; clear e
  by_cases e : f = 48
  · rw [if_pos e] at h; subst e; exact ⟨fnThere (by kernel_rfl), x_nat_Check_call h⟩
  rw [if_neg e] at h; clear e
  by_cases e : f = 43
  · rw [if_pos e] at h; subst e; exact ⟨fnThere (by kernel_rfl), x_nat_Read_call h⟩
  rw [if_neg e] at h; clear e
  by_cases e : f = 40
  · rw [if_pos e] at h; subst e; exact ⟨fnThere (by kernel_rfl), x_nat_Text_call h⟩
  rw [if_neg e] at h; clear e
  by_cases e : f = 46
  · rw [if_pos e] at h; subst e; exact ⟨fnThere (by kernel_rfl), x_nat_Small_call h⟩
  rw [if_neg e] at h; clear e
  by_cases e : f = 39
  · rw [if_pos e] at h; subst e; exact ⟨fnThere (by kernel_rfl), x_slices_Equal_uint32_uint32_call h⟩
  rw [if_neg e] at h; clear e
  by_cases e : f = 42
  · rw [if_pos e] at h; subst e; exact ⟨fnThere (by kernel_rfl), x_strings_Cut_call h⟩
  rw [if_neg e] at h; clear e
  by_cases e : f = 41
  · rw [if_pos e] at h; subst e; exact ⟨fnThere (by kernel_rfl), x_strings_CutPrefix_call h⟩
  rw [if_neg e] at h; clear e
  by_cases e : f = 21
  · rw [if_pos e] at h; subst e; exact ⟨fnThere (by kernel_rfl), x_driftnetlaw02_bring_call h⟩
  rw [if_neg e] at h; clear e
  cases h
theorem ext_nat_Gcd (k : Nat) (ps : List PV) : ext k 44 ps = x_nat_Gcd k ps := by kernel_rfl
theorem ext_nat_Div (k : Nat) (ps : List PV) : ext k 37 ps = x_nat_Div k ps := by kernel_rfl
theorem ext_nat_Add (k : Nat) (ps : List PV) : ext k 38 ps = x_nat_Add k ps := by kernel_rfl
theorem ext_nat_Sub (k : Nat) (ps : List PV) : ext k 56 ps = x_nat_Sub k ps := by kernel_rfl
theorem ext_nat_Cmp (k : Nat) (ps : List PV) : ext k 55 ps = x_nat_Cmp k ps := by kernel_rfl
theorem ext_nat_Mul (k : Nat) (ps : List PV) : ext k 57 ps = x_nat_Mul k ps := by kernel_rfl
theorem ext_nat_Of (k : Nat) (ps : List PV) : ext k 35 ps = x_nat_Of k ps := by kernel_rfl
theorem ext_nat_Read (k : Nat) (ps : List PV) : ext k 43 ps = x_nat_Read k ps := by kernel_rfl
theorem ext_nat_Text (k : Nat) (ps : List PV) : ext k 40 ps = x_nat_Text k ps := by kernel_rfl
theorem ext_slices_Equal_uint32_uint32 (k : Nat) (ps : List PV) : ext k 39 ps = x_slices_Equal_uint32_uint32 k ps := by kernel_rfl
theorem ext_strings_Cut (k : Nat) (ps : List PV) : ext k 42 ps = x_strings_Cut k ps := by kernel_rfl
theorem ext_strings_CutPrefix (k : Nat) (ps : List PV) : ext k 41 ps = x_strings_CutPrefix k ps := by kernel_rfl
theorem ext_driftnetlaw02_bring (k : Nat) (ps : List PV) : ext k 21 ps = x_driftnetlaw02_bring k ps := by kernel_rfl
end Go.Proofs.YtkjdpojbmkpkgaaDoor.AV

/- Scripts over the table of printed functions: what is owed, and what comes of it. -/
namespace Go.Proofs.YtkjdpojbmkpkgaaDoor.AV
open Go Go.RowKit Go.Proofs.YtkjdpojbmkpkgaaDoorW.PrintWords

abbrev g0 : Nat → Option (List PV) := fun _ => none
/-- What a function answers, of as many rounds as one likes. -/
def Evc (f : FuncId) (ps : List PV) (r : PV) : Prop := ∃ K, ∀ k, K ≤ k → ∃ H', ev Tryd.prog g0 ext k f (ps.map .pv) [] = some (.pv r, H')
def Owed : Item → Prop
  | .call f ps r => Evc f ps r
  | .len t x n => lenA Tryd.prog t x = some n ∧ n ≤ 4611686018427387904
  | .cut t x l h m r => sliceA Tryd.prog t x l h m = some r
  | .test b v => b = v
  | .bin op t a b yc r => binA Tryd.prog op t a b yc = some r

theorem good_up {K K' : Nat} (h : K ≤ K') {i : Item} (hg : Good Tryd.prog g0 ext K i) : Good Tryd.prog g0 ext K' i := by
  cases i with
  | call f ps r => exact fun k hk => hg k (by omega)
  | _ => exact hg
theorem owed_good : ∀ (L : List Item), (∀ i ∈ L, Owed i) → ∃ K, ∀ i ∈ L, Good Tryd.prog g0 ext K i
  | [], _ => ⟨0, fun _ h => by cases h⟩
  | i :: L, h => by
    obtain ⟨K, hK⟩ := owed_good L (fun j hj => h j (List.mem_cons_of_mem _ hj))
    have ⟨K2, hK2⟩ : ∃ K2, Good Tryd.prog g0 ext K2 i := by
      have := h i (List.mem_cons_self ..)
      cases i with
      | call f ps r => exact this
      | _ => exact ⟨0, this⟩
    refine ⟨max K K2, fun j hj => ?_⟩
    rcases List.mem_cons.1 hj with rfl | hj
    · exact good_up (by omega) hK2
    · exact good_up (by omega) (hK j hj)
theorem all?_pvs : ∀ ps : List PV, all? AV.pv? (ps.map .pv) = some ps
  | [] => rfl
  | p :: ps => by simp only [List.map_cons, all?, AV.pv?, all?_pvs ps]
theorem evc_ext {f : FuncId} {ps : List PV} {r : PV} (h : ∃ K, ∀ k, K ≤ k → ext k f ps = some r) : Evc f ps r := by
  obtain ⟨K, hK⟩ := h
  refine ⟨K + 1, fun k hk => ?_⟩
  obtain ⟨k, rfl⟩ : ∃ j, k = j + 1 := ⟨k - 1, by omega⟩
  refine ⟨[], ?_⟩
  simp only [ev]
  rw [all?_pvs]
  simp only [hK k (by omega)]
def ran : Option (AV × HS × SS) → Option (AV × SS)
  | some (r, _, q) => some (r, q)
  | none => none
theorem evc_script {known : FuncId → Bool} {fl : Flags} {n : Nat} {f : FuncId} {ps : List PV} {r : PV} {L : List Item} (h : ran (evS Tryd.prog g0 known fl dom n f (ps.map .pv) [] ⟨L, []⟩) = some (.pv r, ⟨[], L.reverse⟩)) (hg : ∀ i ∈ L, Owed i) : Evc f ps r := by
  obtain ⟨K, hK⟩ := owed_good L hg
  unfold ran at h
  split at h <;> first | (cases h; done) | skip
  rename_i H' q h2
  cases h
  replace h := h2
  refine ⟨K + n, fun k hk => ⟨H', ?_⟩⟩
  exact ((evS_sound (glob := g0) (known := known) (fl := fl) (K := K) ext_none n hk).1 _ _ _ _ _ _ _ h).2 (fun i hi => hK i (by simpa using hi))
theorem owed_nil : ∀ i ∈ ([] : List Item), Owed i := fun _ h => by cases h
theorem owed_cons {i : Item} {L : List Item} (h : Owed i) (hL : ∀ j ∈ L, Owed j) : ∀ j ∈ i :: L, Owed j := fun j hj => by
  rcases List.mem_cons.1 hj with rfl | hj
  · exact h
  · exact hL j hj
theorem prog_funcs : FuncsOk Tryd.prog := funcsOk_of (by kernel_rfl)
theorem prog_mixed : Tryd.prog.follows .mixedOrders = true := by kernel_rfl
/-- A law's call, out of what it answers. -/
theorem law_of {f : FuncId} {ps : List PV} (h : Evc f ps (.bool true)) {W : World} {vs : List Value} (hl : vs.length = ps.length) (hr : ∀ (j : Nat) (p : PV), ps[j]? = some p → Rep (fun b _ => b < W.heap.size) W p (vs.getD j Go.undef)) :
    Calls Tryd.prog f vs.toArray W fun e W' => e = .returned (.bool true) ∧ Below W.heap.size W W' := by
  obtain ⟨K, hK⟩ := h
  obtain ⟨H', h2⟩ := hK K (Nat.le_refl _)
  exact law_calls (glob := g0) ext_ok prog_mixed prog_funcs h2 hl hr (fun g cs h => by cases h)
end Go.Proofs.YtkjdpojbmkpkgaaDoor.AV

/- The calls on limbs, and the rational calls out of them: what the evaluator answers. -/
namespace Go.Proofs.YtkjdpojbmkpkgaaDoor.AV
open Go Go.RowKit Go.Proofs.YtkjdpojbmkpkgaaDoorW.PrintWords Go.Proofs.YtkjdpojbmkpkgaaDoorW.PrintLast Go.Proofs.YtkjdpojbmkpkgaaDoorW.PrintMore Go.Proofs.YtkjdpojbmkpkgaaDoor.M Go.Proofs.YtkjdpojbmkpkgaaDoor.P Go.Proofs.YtkjdpojbmkpkgaaDoor.E

def rowL (n : Nat) : PV := row .u32 (limbs n)
def e0 : PV := .int .i64 0
def nilR : PV := .sl (some false) 0 []
def rp (s : Bool) (n d : Nat) : PV := .agg [.bool s, rowL n, rowL d]
def zeroR : PV := .agg [.bool false, nilR, nilR]
def okP (p : PV) : PV := .tup [p, .int .i64 0]
def intP (n : Int) : PV := .int .i64 n

theorem rowOf_L {n : Nat} (h : Lt 1000 n) : rowOf .u32 (rowL n) = some (limbs n) := rowOf_row (Nat.le_trans (len_l h) (by decide))
theorem k64 {n : Nat} (h : Lt 64 n) : Lt 1000 n := h.up (by decide)

theorem Gcd_c {m n : Nat} (hm : Lt 64 m) (hn : Lt 64 n) : Evc 44 [rowL m, rowL n] (okP (rowL (Nat.gcd m n))) := by
  refine evc_ext ?_
  obtain ⟨K, hK⟩ := Gcd_l hm hn
  refine ⟨K, fun k hk => ?_⟩
  rw [ext_nat_Gcd]
  simp only [x_nat_Gcd, rowOf_L (k64 hm), rowOf_L (k64 hn), hK k hk]
  rfl
theorem Div_c {m n : Nat} (hm : Lt 64 m) (hn : Lt 64 n) (h0 : n ≠ 0) : Evc 37 [rowL m, rowL n] (.tup [rowL (m / n), rowL (m % n), e0]) := by
  refine evc_ext ?_
  obtain ⟨K, hK⟩ := Div_l hm hn h0
  refine ⟨K, fun k hk => ?_⟩
  rw [ext_nat_Div]
  simp only [x_nat_Div, rowOf_L (k64 hm), rowOf_L (k64 hn), hK k hk]
  rfl
theorem Add_c {m n : Nat} (hm : Lt 64 m) (hn : Lt 64 n) : Evc 38 [rowL m, rowL n] (okP (rowL (m + n))) := by
  refine evc_ext ?_
  obtain ⟨K, hK⟩ := Add_l hm hn
  refine ⟨K, fun k hk => ?_⟩
  rw [ext_nat_Add]
  simp only [x_nat_Add, rowOf_L (k64 hm), rowOf_L (k64 hn), hK k hk]
  rfl
theorem Mul_c {m n : Nat} (hm : Lt 64 m) (hn : Lt 64 n) : Evc 57 [rowL m, rowL n] (okP (rowL (m * n))) := by
  refine evc_ext ?_
  obtain ⟨K, hK⟩ := Mul_l hm hn
  refine ⟨K, fun k hk => ?_⟩
  rw [ext_nat_Mul]
  simp only [x_nat_Mul, rowOf_L (k64 hm), rowOf_L (k64 hn), hK k hk]
  rfl
theorem Sub_c {m n : Nat} (hm : Lt 64 m) (hn : Lt 64 n) (h : n ≤ m) : Evc 56 [rowL m, rowL n] (okP (rowL (m - n))) := by
  refine evc_ext ?_
  obtain ⟨K, hK⟩ := Sub_l hm hn h
  refine ⟨K, fun k hk => ?_⟩
  rw [ext_nat_Sub]
  simp only [x_nat_Sub, rowOf_L (k64 hm), rowOf_L (k64 hn), hK k hk]
  rfl
theorem NCmp_c {m n : Nat} (hm : Lt 64 m) (hn : Lt 64 n) {c : Int} (hc : cmpI m n = c) : Evc 55 [rowL m, rowL n] (intP c) := by
  refine evc_ext ?_
  obtain ⟨K, hK⟩ := Cmp_l hm hn
  refine ⟨K, fun k hk => ?_⟩
  rw [ext_nat_Cmp]
  simp only [x_nat_Cmp, rowOf_L (k64 hm), rowOf_L (k64 hn), hK k hk, hc]
  rfl
theorem NOf_c (n : Nat) (h : n < 18446744073709551616) : Evc 35 [.int .u64 n] (rowL n) := by
  refine evc_ext ?_
  obtain ⟨K, hK⟩ := Of_n n h
  refine ⟨K, fun k hk => ?_⟩
  rw [ext_nat_Of]
  simp only [x_nat_Of, hK k hk]
  rfl
theorem Equal_c {m n : Nat} (hm : Lt 1000 m) (hn : Lt 1000 n) {b : Bool} (h : decide (m = n) = b) : Evc 39 [rowL m, rowL n] (.bool b) := by
  refine evc_ext ?_
  obtain ⟨K, hK⟩ := equal_l (n := n) hm
  refine ⟨K, fun k hk => ?_⟩
  rw [ext_slices_Equal_uint32_uint32]
  simp only [x_slices_Equal_uint32_uint32, rowOf_L hm, rowOf_L hn, hK k hk, h]
theorem NText_c {m : Nat} (hm : Lt 64 m) : Evc 40 [rowL m] (okP (.str (textL m))) := by
  refine evc_ext ?_
  obtain ⟨K, hK⟩ := Text_l hm
  refine ⟨K, fun k hk => ?_⟩
  rw [ext_nat_Text]
  simp only [x_nat_Text, rowOf_L (k64 hm), hK k hk]
  rfl
theorem NRead_c (s : List UInt8) : Evc 43 [.str s] (.tup [row .u32 (readS s).1, .int .i64 (readS s).2]) := by
  refine evc_ext ?_
  obtain ⟨K, hK⟩ := Read_ev s
  refine ⟨K, fun k hk => ?_⟩
  rw [ext_nat_Read]
  have h := hK k hk
  simp only [x_nat_Read]
  show (match nat_Read.f k (str s) with | none => none | some (r1, r2) => some (PV.tup [row .u32 r1, PV.int .i64 r2])) = _
  rw [show nat_Read.f k (str s) = some (readS s) from h]
theorem Cut_c (s : List UInt8) (hs : s.length < 1000000) : Evc 42 [.str s, .str [47]] (.tup [.str (cutS s).1, .str (cutS s).2.1, .bool (cutS s).2.2]) := by
  refine evc_ext ⟨0, fun k _ => ?_⟩
  rw [ext_strings_Cut]
  simp only [x_strings_Cut]
  show (match strings_Cut.f (str s) (⟨#[47]⟩ : ByteArray) with | none => none | some (r1, r2, r3) => some (PV.tup [strP r1, strP r2, PV.bool r3])) = _
  rw [cut_f s hs]
  rfl
theorem CutPrefix_c (s : List UInt8) {t : List UInt8} {neg : Bool} (h : (if s.head? = some 45 then (s.tail, true) else (s, false)) = (t, neg)) : Evc 41 [.str s, .str [45]] (.tup [.str t, .bool neg]) := by
  refine evc_ext ⟨0, fun k _ => ?_⟩
  rw [ext_strings_CutPrefix]
  simp only [x_strings_CutPrefix]
  show (match strings_CutPrefix.f (str s) (⟨#[45]⟩ : ByteArray) with | none => none | some (r1, r2) => some (PV.tup [strP r1, PV.bool r2])) = _
  rw [cutPrefix_f]
  by_cases hh : s.head? = some 45
  · rw [if_pos hh] at h ⊢
    cases h
    rfl
  · rw [if_neg hh] at h ⊢
    cases h
    rfl

/-- All but the bare words, as answered otherwise. -/
def known : FuncId → Bool := fun f => dom f || (Nat.ble 9 f && Nat.ble f 36)
def fl0 : Flags := { len := true, bin := fun _ t _ _ => t == 3 || t == 9 }

def lenI (n : Nat) : Item := .len 24 (.pv (rowL n)) (limbs n).length
def gtrI (n : Nat) (m : Int) (b : Bool) : Item := .bin .gtr 3 (.pv (.int .i64 ((limbs n).length : Nat))) (.pv (.int .i64 m)) true (.pv (.bool b))
def eqlI (n : Nat) (b : Bool) : Item := .bin .eql 3 (.pv (.int .i64 ((limbs n).length : Nat))) (.pv (.int .i64 0)) true (.pv (.bool b))
theorem und24 : Tryd.prog.underlying 24 = some (.slice 49) := by kernel_rfl
theorem lenI_owed {n : Nat} (h : Lt 1000 n) : Owed (lenI n) := by
  refine ⟨?_, Nat.le_trans (len_l h) (by decide)⟩
  simp only [lenA, und24, AV.pure?, rowL, row, List.length_map]
theorem gtrI_owed {n : Nat} {m : Int} {b : Bool} (h : decide (((limbs n).length : Int) > m) = b) : Owed (gtrI n m b) := by
  subst h
  show binA Tryd.prog .gtr 3 _ _ _ = _
  simp only [binA, intOp, ne_eq, not_true, if_false]
theorem eqlI_owed {n : Nat} {b : Bool} (h : (((limbs n).length : Int) == 0) = b) : Owed (eqlI n b) := by
  subst h
  show binA Tryd.prog .eql 3 _ _ _ = _
  simp only [binA, intOp, ne_eq, not_true, if_false]
theorem gt16 {n : Nat} (h : Lt 16 n) : Owed (gtrI n 16 false) := gtrI_owed (decide_eq_false (fun e => len16.1 e h))
theorem gt16t {n : Nat} (h : ¬ Lt 16 n) : Owed (gtrI n 16 true) := gtrI_owed (decide_eq_true (len16.2 h))
theorem eq0 {n : Nat} (h : n ≠ 0) : Owed (eqlI n false) := eqlI_owed (beq_eq_false_iff_ne.2 fun e => h (limbs_eq_nil.1 (List.eq_nil_of_length_eq_zero (by omega))))
theorem eq0t {n : Nat} (h : n = 0) : Owed (eqlI n true) := eqlI_owed (by subst h; rw [limbs_zero]; rfl)
theorem gt0 {n : Nat} : Owed (gtrI n 0 (decide (0 < n))) := gtrI_owed lenpos

theorem one_c : Evc 36 [] (rowL 1) :=
  evc_script (known := known) (fl := {}) (n := 3) (L := [.call 35 [.int .u64 1] (rowL 1)]) (by kernel_rfl) (owed_cons (NOf_c 1 (by decide)) owed_nil)
theorem lt1 : Lt 1000 1 := lt_lit (by decide) (by decide)
theorem lt1' : Lt 64 1 := lt_lit (by decide) (by decide)
theorem Check_c {s : Bool} {n d : Nat} (h : CanR s n d) : Evc 20 [rp s n d] e0 := by
  have hn : Lt 16 n := h.n16
  have hd : Lt 16 d := h.d16
  have gc : Evc 44 [rowL n, rowL d] (okP (rowL 1)) := by
    have := Gcd_c (hn.up (j := 64) (by decide)) (hd.up (j := 64) (by decide))
    rwa [h.g] at this
  cases s with
  | false =>
    refine evc_script (known := known) (fl := fl0) (n := 3) (L := [lenI n, gtrI n 16 false, lenI d, gtrI d 16 false, .call 44 [rowL n, rowL d] (okP (rowL 1)), lenI d, eqlI d false, .call 36 [] (rowL 1), .call 39 [rowL 1, rowL 1] (.bool true)]) (by kernel_rfl) ?_
    exact owed_cons (lenI_owed (hn.up (by decide))) (owed_cons (gt16 hn) (owed_cons (lenI_owed (hd.up (by decide))) (owed_cons (gt16 hd) (owed_cons gc (owed_cons (lenI_owed (hd.up (by decide))) (owed_cons (eq0 h.d0) (owed_cons one_c (owed_cons (Equal_c lt1 lt1 rfl) owed_nil))))))))
  | true =>
    refine evc_script (known := known) (fl := fl0) (n := 3) (L := [lenI n, gtrI n 16 false, lenI d, gtrI d 16 false, .call 44 [rowL n, rowL d] (okP (rowL 1)), lenI d, eqlI d false, lenI n, eqlI n false, .call 36 [] (rowL 1), .call 39 [rowL 1, rowL 1] (.bool true)]) (by kernel_rfl) ?_
    exact owed_cons (lenI_owed (hn.up (by decide))) (owed_cons (gt16 hn) (owed_cons (lenI_owed (hd.up (by decide))) (owed_cons (gt16 hd) (owed_cons gc (owed_cons (lenI_owed (hd.up (by decide))) (owed_cons (eq0 h.d0) (owed_cons (lenI_owed (hn.up (by decide))) (owed_cons (eq0 (h.neg rfl)) (owed_cons one_c (owed_cons (Equal_c lt1 lt1 rfl) owed_nil))))))))))
theorem both_c {s1 : Bool} {n1 d1 : Nat} (h1 : CanR s1 n1 d1) {s2 : Bool} {n2 d2 : Nat} (h2 : CanR s2 n2 d2) : Evc 31 [rp s1 n1 d1, rp s2 n2 d2] e0 :=
  evc_script (known := known) (fl := {}) (n := 3) (L := [.call 20 [rp s1 n1 d1] e0, .call 20 [rp s2 n2 d2] e0]) (by kernel_rfl) (owed_cons (Check_c h1) (owed_cons (Check_c h2) owed_nil))
def pairP (m n : Nat) : PV := .sl (some true) 1 [rowL m, rowL n]
theorem product_c {m n : Nat} (hm : Lt 64 m) (hn : Lt 64 n) : Evc 33 [pairP m n] (rowL (m * n)) := by
  refine evc_script (known := known) (fl := {}) (n := 9) (L := [.call 36 [] (rowL 1), .call 57 [rowL 1, rowL m] (okP (rowL m)), .call 57 [rowL m, rowL n] (okP (rowL (m * n)))]) (by kernel_rfl) ?_
  refine owed_cons one_c (owed_cons ?_ (owed_cons (Mul_c hm hn) owed_nil))
  have := Mul_c lt1' hm
  rwa [Nat.one_mul] at this
theorem sum_c (a : Bool) {m : Nat} (b : Bool) {n : Nat} (hm : Lt 64 m) (hn : Lt 64 n) : Evc 32 [.bool a, rowL m, .bool b, rowL n] (.tup [.bool (sumR a m b n).1, rowL (sumR a m b n).2]) := by
  unfold sumR
  by_cases hab : a = b
  · rw [if_pos hab]
    subst hab
    cases a <;> exact evc_script (known := known) (fl := {}) (n := 3) (L := [.call 38 [rowL m, rowL n] (okP (rowL (m + n)))]) (by kernel_rfl) (owed_cons (Add_c hm hn) owed_nil)
  · rw [if_neg hab]
    by_cases hl : m < n
    · rw [if_pos hl]
      have hc : cmpI m n = -1 := if_pos hl
      cases a <;> cases b <;> first
        | exact absurd rfl hab
        | exact evc_script (known := known) (fl := {}) (n := 3) (L := [.call 55 [rowL m, rowL n] (intP (-1)), .call 56 [rowL n, rowL m] (okP (rowL (n - m)))]) (by kernel_rfl) (owed_cons (NCmp_c hm hn hc) (owed_cons (Sub_c hn hm (Nat.le_of_lt hl)) owed_nil))
    · rw [if_neg hl]
      by_cases he : n < m
      · have hc : cmpI m n = 1 := by unfold cmpI; rw [if_neg hl, if_pos he]
        cases a <;> cases b <;> first
          | exact absurd rfl hab
          | exact evc_script (known := known) (fl := {}) (n := 3) (L := [.call 55 [rowL m, rowL n] (intP 1), .call 56 [rowL m, rowL n] (okP (rowL (m - n)))]) (by kernel_rfl) (owed_cons (NCmp_c hm hn hc) (owed_cons (Sub_c hm hn (by omega)) owed_nil))
      · have hc : cmpI m n = 0 := by unfold cmpI; rw [if_neg hl, if_neg he]
        cases a <;> cases b <;> first
          | exact absurd rfl hab
          | exact evc_script (known := known) (fl := {}) (n := 3) (L := [.call 55 [rowL m, rowL n] (intP 0), .call 56 [rowL m, rowL n] (okP (rowL (m - n)))]) (by kernel_rfl) (owed_cons (NCmp_c hm hn hc) (owed_cons (Sub_c hm hn (by omega)) owed_nil))
def redP (s : Bool) (n d : Nat) : PV :=
  if n / Nat.gcd n d < 4294967296 ^ 16 ∧ d / Nat.gcd n d < 4294967296 ^ 16 then okP (rp (s && decide (0 < n / Nat.gcd n d)) (n / Nat.gcd n d) (d / Nat.gcd n d)) else .tup [zeroR, .int .i64 20]
theorem reduced_c (s : Bool) {n d : Nat} (hn : Lt 64 n) (hd : Lt 64 d) (h0 : d ≠ 0) : Evc 34 [.bool s, rowL n, rowL d] (redP s n d) := by
  have hg0 : Nat.gcd n d ≠ 0 := fun e => h0 (Nat.eq_zero_of_gcd_eq_zero_right e)
  have hg : Lt 64 (Nat.gcd n d) := hd.le (Nat.le_of_dvd (Nat.pos_of_ne_zero h0) (Nat.gcd_dvd_right n d))
  have a1 := Gcd_c hn hd
  have a2 := Div_c hn hg hg0
  have a3 := Div_c hd hg hg0
  unfold redP
  have l1 : Lt 64 (n / Nat.gcd n d) := hn.le (Nat.div_le_self _ _)
  have l2 : Lt 64 (d / Nat.gcd n d) := hd.le (Nat.div_le_self _ _)
  generalize n % Nat.gcd n d = r1 at *
  generalize d % Nat.gcd n d = r2 at *
  generalize n / Nat.gcd n d = n' at *
  generalize d / Nat.gcd n d = d' at *
  generalize Nat.gcd n d = g at *
  by_cases c1 : n' < 4294967296 ^ 16
  · by_cases c2 : d' < 4294967296 ^ 16
    · rw [if_pos ⟨c1, c2⟩]
      cases s with
      | false =>
        exact evc_script (known := known) (fl := fl0) (n := 3) (L := [.call 44 [rowL n, rowL d] (okP (rowL g)), .call 37 [rowL n, rowL g] (.tup [rowL n', rowL r1, e0]), .call 37 [rowL d, rowL g] (.tup [rowL d', rowL r2, e0]), lenI n', gtrI n' 16 false, lenI d', gtrI d' 16 false]) (by kernel_rfl)
          (owed_cons a1 (owed_cons a2 (owed_cons a3 (owed_cons (lenI_owed (k64 l1)) (owed_cons (gt16 c1) (owed_cons (lenI_owed (k64 l2)) (owed_cons (gt16 c2) owed_nil)))))))
      | true =>
        exact evc_script (known := known) (fl := fl0) (n := 3) (L := [.call 44 [rowL n, rowL d] (okP (rowL g)), .call 37 [rowL n, rowL g] (.tup [rowL n', rowL r1, e0]), .call 37 [rowL d, rowL g] (.tup [rowL d', rowL r2, e0]), lenI n', gtrI n' 16 false, lenI d', gtrI d' 16 false, lenI n', gtrI n' 0 (decide (0 < n'))]) (by kernel_rfl)
          (owed_cons a1 (owed_cons a2 (owed_cons a3 (owed_cons (lenI_owed (k64 l1)) (owed_cons (gt16 c1) (owed_cons (lenI_owed (k64 l2)) (owed_cons (gt16 c2) (owed_cons (lenI_owed (k64 l1)) (owed_cons gt0 owed_nil)))))))))
    · rw [if_neg (fun h => c2 h.2)]
      cases s <;> exact evc_script (known := known) (fl := fl0) (n := 3) (L := [.call 44 [rowL n, rowL d] (okP (rowL g)), .call 37 [rowL n, rowL g] (.tup [rowL n', rowL r1, e0]), .call 37 [rowL d, rowL g] (.tup [rowL d', rowL r2, e0]), lenI n', gtrI n' 16 false, lenI d', gtrI d' 16 true]) (by kernel_rfl)
          (owed_cons a1 (owed_cons a2 (owed_cons a3 (owed_cons (lenI_owed (k64 l1)) (owed_cons (gt16 c1) (owed_cons (lenI_owed (k64 l2)) (owed_cons (gt16t c2) owed_nil)))))))
  · rw [if_neg (fun h => c1 h.1)]
    cases s <;> exact evc_script (known := known) (fl := fl0) (n := 3) (L := [.call 44 [rowL n, rowL d] (okP (rowL g)), .call 37 [rowL n, rowL g] (.tup [rowL n', rowL r1, e0]), .call 37 [rowL d, rowL g] (.tup [rowL d', rowL r2, e0]), lenI n', gtrI n' 16 true]) (by kernel_rfl)
          (owed_cons a1 (owed_cons a2 (owed_cons a3 (owed_cons (lenI_owed (k64 l1)) (owed_cons (gt16t c1) owed_nil)))))
end Go.Proofs.YtkjdpojbmkpkgaaDoor.AV

/- The rational calls, over the fractions of the prover's own library. -/
namespace Go.Proofs.YtkjdpojbmkpkgaaDoor.AV
open Go Go.RowKit Go.Proofs.YtkjdpojbmkpkgaaDoorW.PrintWords Go.Proofs.YtkjdpojbmkpkgaaDoorW.PrintLast Go.Proofs.YtkjdpojbmkpkgaaDoorW.PrintMore Go.Proofs.YtkjdpojbmkpkgaaDoor.M Go.Proofs.YtkjdpojbmkpkgaaDoor.P Go.Proofs.YtkjdpojbmkpkgaaDoor.E

def ratP (q : Rat) : PV := rp (decide (q.num < 0)) q.num.natAbs q.den
def Fits (q : Rat) : Prop := q.num.natAbs < 4294967296 ^ 16 ∧ q.den < 4294967296 ^ 16
theorem Fits.can {q : Rat} (h : Fits q) : CanR (decide (q.num < 0)) q.num.natAbs q.den :=
  ⟨h.1, h.2, q.den_nz, q.reduced, fun h => by have := of_decide_eq_true h; omega⟩
def sg (s : Bool) (n : Nat) : Int := if s = true then -(n : Int) else n
theorem sg_num (z : Int) (d : Nat) : sg (decide (z < 0)) (z.natAbs * d) = z * d := by
  unfold sg
  by_cases h : z < 0
  · rw [if_pos (decide_eq_true h)]
    push_cast
    rw [show ((z.natAbs : Nat) : Int) = -z by omega]
    grind
  · rw [if_neg (by simpa using h)]
    push_cast
    rw [show ((z.natAbs : Nat) : Int) = z by omega]
theorem sg_not (s : Bool) (n : Nat) : sg (!s) n = - sg s n := by
  unfold sg
  cases s <;> simp
theorem sg_sumR (a : Bool) (m : Nat) (b : Bool) (n : Nat) : sg (sumR a m b n).1 (sumR a m b n).2 = sg a m + sg b n := by
  unfold sumR sg
  cases a <;> cases b <;> simp <;> (try split) <;> (try simp) <;> omega
theorem redP_rat {s : Bool} {n d : Nat} {q : Rat} (hd : d ≠ 0) (hq : mkRat (sg s n) d = q) (hf : Fits q) : redP s n d = okP (ratP q) := by
  have hg : Nat.gcd n d ≠ 0 := fun e => hd (Nat.eq_zero_of_gcd_eq_zero_right e)
  have hga : (sg s n).natAbs = n := by unfold sg; split <;> simp
  have hden : q.den = d / Nat.gcd n d := by rw [← hq, Rat.den_mkRat, if_neg hd, hga, Nat.gcd_comm]
  have hnum : q.num = sg s n / (Nat.gcd n d : Nat) := by rw [← hq, Rat.num_mkRat, if_neg hd, hga, Nat.gcd_comm]
  obtain ⟨m, hm⟩ := Nat.gcd_dvd_left n d
  have hdiv : n / Nat.gcd n d = m := by
    have := Nat.mul_div_cancel_left m (Nat.pos_of_ne_zero hg)
    rwa [← hm] at this
  have hnum2 : q.num = sg s m := by
    rw [hnum]
    have hgz : ((Nat.gcd n d : Nat) : Int) ≠ 0 := by omega
    unfold sg
    split
    · rw [show (-(n : Int)) = (Nat.gcd n d : Nat) * (-(m : Int)) by
        have : (n : Int) = (Nat.gcd n d : Nat) * (m : Int) := by exact_mod_cast hm
        rw [Int.mul_neg, ← this]]
      exact Int.mul_ediv_cancel_left _ hgz
    · rw [show (n : Int) = (Nat.gcd n d : Nat) * (m : Int) by exact_mod_cast hm]
      exact Int.mul_ediv_cancel_left _ hgz
  have hna : q.num.natAbs = m := by rw [hnum2]; unfold sg; split <;> simp
  unfold redP
  rw [hdiv, ← hden]
  rw [if_pos ⟨by rw [← hna]; exact hf.1, hf.2⟩]
  unfold ratP
  rw [hna]
  have hb : (s && decide (0 < m)) = decide (q.num < 0) := by
    rw [hnum2]
    unfold sg
    cases s <;> simp <;> omega
  rw [hb]

/-- What two of them are to one another. -/
def cmpQ (p q : Rat) : Int := if p < q then -1 else if q < p then 1 else 0

theorem lt16 {n : Nat} (h : n < 4294967296 ^ 16) : Lt 16 n := h
theorem up64 {n : Nat} (h : n < 4294967296 ^ 16) : Lt 64 n := (lt16 h).up (by decide)
theorem up1000 {n : Nat} (h : n < 4294967296 ^ 16) : Lt 1000 n := (lt16 h).up (by decide)
theorem mul32 {m n : Nat} (hm : m < 4294967296 ^ 16) (hn : n < 4294967296 ^ 16) : Lt 32 (m * n) := (lt16 hm).mul (lt16 hn) (by decide)
theorem mul64 {m n : Nat} (hm : m < 4294967296 ^ 16) (hn : n < 4294967296 ^ 16) : Lt 64 (m * n) := (mul32 hm hn).up (by decide)
theorem sumR_lt' {a : Bool} {m : Nat} {b : Bool} {n : Nat} (hm : Lt 32 m) (hn : Lt 32 n) : Lt 64 (sumR a m b n).2 := by
  unfold sumR
  split
  · exact (hm.add hn (j := 33) (by decide)).up (by decide)
  · split
    · exact (hn.le (Nat.sub_le _ _)).up (by decide)
    · exact (hm.le (Nat.sub_le _ _)).up (by decide)

theorem Add_evc {p q : Rat} (hp : Fits p) (hq : Fits q) (hs : Fits (p + q)) : Evc 14 [ratP p, ratP q] (okP (ratP (p + q))) := by
  have hd : p.den * q.den ≠ 0 := Nat.mul_ne_zero p.den_nz q.den_nz
  have r := reduced_c (sumR (decide (p.num < 0)) (p.num.natAbs * q.den) (decide (q.num < 0)) (q.num.natAbs * p.den)).1 (sumR_lt' (a := decide (p.num < 0)) (b := decide (q.num < 0)) (mul32 hp.1 hq.2) (mul32 hq.1 hp.2)) (mul64 hp.2 hq.2) hd
  rw [redP_rat (q := p + q) hd (by rw [sg_sumR, sg_num, sg_num, Rat.add_def']) hs] at r
  have b := both_c hp.can hq.can
  have s := sum_c (decide (p.num < 0)) (decide (q.num < 0)) (mul64 hp.1 hq.2) (mul64 hq.1 hp.2)
  generalize sumR (decide (p.num < 0)) (p.num.natAbs * q.den) (decide (q.num < 0)) (q.num.natAbs * p.den) = S at *
  exact evc_script (known := known) (fl := {}) (n := 3) (L := [.call 31 [ratP p, ratP q] e0, .call 33 [pairP p.num.natAbs q.den] (rowL (p.num.natAbs * q.den)), .call 33 [pairP q.num.natAbs p.den] (rowL (q.num.natAbs * p.den)),
      .call 32 [.bool (decide (p.num < 0)), rowL (p.num.natAbs * q.den), .bool (decide (q.num < 0)), rowL (q.num.natAbs * p.den)] (.tup [.bool S.1, rowL S.2]), .call 33 [pairP p.den q.den] (rowL (p.den * q.den)), .call 34 [.bool S.1, rowL S.2, rowL (p.den * q.den)] (okP (ratP (p + q)))]) (by kernel_rfl)
    (owed_cons b (owed_cons (product_c (up64 hp.1) (up64 hq.2)) (owed_cons (product_c (up64 hq.1) (up64 hp.2)) (owed_cons s (owed_cons (product_c (up64 hp.2) (up64 hq.2)) (owed_cons r owed_nil))))))
theorem Sub_evc {p q : Rat} (hp : Fits p) (hq : Fits q) (hs : Fits (p - q)) : Evc 12 [ratP p, ratP q] (okP (ratP (p - q))) := by
  have hd : p.den * q.den ≠ 0 := Nat.mul_ne_zero p.den_nz q.den_nz
  have r := reduced_c (sumR (decide (p.num < 0)) (p.num.natAbs * q.den) (!decide (q.num < 0)) (q.num.natAbs * p.den)).1 (sumR_lt' (a := decide (p.num < 0)) (b := !decide (q.num < 0)) (mul32 hp.1 hq.2) (mul32 hq.1 hp.2)) (mul64 hp.2 hq.2) hd
  rw [redP_rat (q := p - q) hd (by rw [sg_sumR, sg_not, sg_num, sg_num, Rat.sub_def', Int.sub_eq_add_neg]) hs] at r
  have b := both_c hp.can hq.can
  have s := sum_c (decide (p.num < 0)) (!decide (q.num < 0)) (mul64 hp.1 hq.2) (mul64 hq.1 hp.2)
  generalize sumR (decide (p.num < 0)) (p.num.natAbs * q.den) (!decide (q.num < 0)) (q.num.natAbs * p.den) = S at *
  exact evc_script (known := known) (fl := {}) (n := 3) (L := [.call 31 [ratP p, ratP q] e0, .call 33 [pairP p.num.natAbs q.den] (rowL (p.num.natAbs * q.den)), .call 33 [pairP q.num.natAbs p.den] (rowL (q.num.natAbs * p.den)),
      .call 32 [.bool (decide (p.num < 0)), rowL (p.num.natAbs * q.den), .bool (!decide (q.num < 0)), rowL (q.num.natAbs * p.den)] (.tup [.bool S.1, rowL S.2]), .call 33 [pairP p.den q.den] (rowL (p.den * q.den)), .call 34 [.bool S.1, rowL S.2, rowL (p.den * q.den)] (okP (ratP (p - q)))]) (by kernel_rfl)
    (owed_cons b (owed_cons (product_c (up64 hp.1) (up64 hq.2)) (owed_cons (product_c (up64 hq.1) (up64 hp.2)) (owed_cons s (owed_cons (product_c (up64 hp.2) (up64 hq.2)) (owed_cons r owed_nil))))))
theorem sg_mul (z y : Int) : sg (decide (z < 0) != decide (y < 0)) (z.natAbs * y.natAbs) = z * y := by
  unfold sg
  have hz : ((z.natAbs : Nat) : Int) = if z < 0 then -z else z := by split <;> omega
  have hy : ((y.natAbs : Nat) : Int) = if y < 0 then -y else y := by split <;> omega
  push_cast
  rw [hz, hy]
  by_cases h : z < 0 <;> by_cases h2 : y < 0 <;> simp [h, h2] <;> grind
theorem Mul_evc {p q : Rat} (hp : Fits p) (hq : Fits q) (hs : Fits (p * q)) : Evc 15 [ratP p, ratP q] (okP (ratP (p * q))) := by
  have hd : p.den * q.den ≠ 0 := Nat.mul_ne_zero p.den_nz q.den_nz
  have r := reduced_c (decide (p.num < 0) != decide (q.num < 0)) (mul64 hp.1 hq.1) (mul64 hp.2 hq.2) hd
  rw [redP_rat (q := p * q) hd (by rw [sg_mul, Rat.mul_def']) hs] at r
  exact evc_script (known := known) (fl := {}) (n := 3) (L := [.call 31 [ratP p, ratP q] e0, .call 33 [pairP p.num.natAbs q.num.natAbs] (rowL (p.num.natAbs * q.num.natAbs)), .call 33 [pairP p.den q.den] (rowL (p.den * q.den)),
      .call 34 [.bool (!(decide (p.num < 0) == decide (q.num < 0))), rowL (p.num.natAbs * q.num.natAbs), rowL (p.den * q.den)] (okP (ratP (p * q)))]) (by kernel_rfl)
    (owed_cons (both_c hp.can hq.can) (owed_cons (product_c (up64 hp.1) (up64 hq.1)) (owed_cons (product_c (up64 hp.2) (up64 hq.2)) (owed_cons r owed_nil))))
theorem div_mk {p q : Rat} (h : q.num ≠ 0) : mkRat (sg (decide (p.num < 0) != decide (q.num < 0)) (p.num.natAbs * q.den)) (p.den * q.num.natAbs) = p / q := by
  have hq : q ≠ 0 := fun e => h (by rw [e]; rfl)
  have hx : mkRat (sg (decide (p.num < 0) != decide (q.num < 0)) (p.num.natAbs * q.den)) (p.den * q.num.natAbs) * q = p := by
    conv => lhs; arg 2; rw [← Rat.mkRat_self q]
    conv => rhs; rw [← Rat.mkRat_self p]
    rw [Rat.mkRat_mul_mkRat, Rat.mkRat_eq_iff (Nat.mul_ne_zero (Nat.mul_ne_zero p.den_nz (by omega)) q.den_nz) p.den_nz]
    have hz : ((p.num.natAbs : Nat) : Int) = if p.num < 0 then -p.num else p.num := by split <;> omega
    have hy : ((q.num.natAbs : Nat) : Int) = if q.num < 0 then -q.num else q.num := by split <;> omega
    unfold sg
    push_cast
    rw [hz, hy]
    by_cases h1 : p.num < 0 <;> by_cases h2 : q.num < 0 <;> simp [h1, h2] <;> grind
  conv => rhs; rw [← hx]
  rw [Rat.mul_div_cancel hq]
theorem Div_evc {p q : Rat} (hp : Fits p) (hq : Fits q) (h0 : q ≠ 0) (hs : Fits (p / q)) : Evc 22 [ratP p, ratP q] (okP (ratP (p / q))) := by
  have hn : q.num ≠ 0 := fun e => h0 (Rat.num_eq_zero.1 e)
  have hd : p.den * q.num.natAbs ≠ 0 := Nat.mul_ne_zero p.den_nz (by omega)
  have r := reduced_c (decide (p.num < 0) != decide (q.num < 0)) (mul64 hp.1 hq.2) (mul64 hp.2 hq.1) hd
  rw [redP_rat (q := p / q) hd (div_mk hn) hs] at r
  exact evc_script (known := known) (fl := fl0) (n := 3) (L := [.call 31 [ratP p, ratP q] e0, lenI q.num.natAbs, eqlI q.num.natAbs false, .call 33 [pairP p.num.natAbs q.den] (rowL (p.num.natAbs * q.den)), .call 33 [pairP p.den q.num.natAbs] (rowL (p.den * q.num.natAbs)),
      .call 34 [.bool (!(decide (p.num < 0) == decide (q.num < 0))), rowL (p.num.natAbs * q.den), rowL (p.den * q.num.natAbs)] (okP (ratP (p / q)))]) (by kernel_rfl)
    (owed_cons (both_c hp.can hq.can) (owed_cons (lenI_owed (up1000 hq.1)) (owed_cons (eq0 (by omega)) (owed_cons (product_c (up64 hp.1) (up64 hq.2)) (owed_cons (product_c (up64 hp.2) (up64 hq.1)) (owed_cons r owed_nil))))))
theorem Cmp_evc {p q : Rat} (hp : Fits p) (hq : Fits q) : Evc 11 [ratP p, ratP q] (okP (intP (cmpQ p q))) := by
  have hs : sg (sumR (decide (p.num < 0)) (p.num.natAbs * q.den) (!decide (q.num < 0)) (q.num.natAbs * p.den)).1 (sumR (decide (p.num < 0)) (p.num.natAbs * q.den) (!decide (q.num < 0)) (q.num.natAbs * p.den)).2 = p.num * q.den - q.num * p.den := by
    rw [sg_sumR, sg_not, sg_num, sg_num, Int.sub_eq_add_neg]
  have e : (if (sumR (decide (p.num < 0)) (p.num.natAbs * q.den) (!decide (q.num < 0)) (q.num.natAbs * p.den)).2 = 0 then (0 : Int) else if (sumR (decide (p.num < 0)) (p.num.natAbs * q.den) (!decide (q.num < 0)) (q.num.natAbs * p.den)).1 = true then (-1) else 1) = cmpQ p q := by
    unfold cmpQ
    simp only [Rat.lt_iff]
    generalize p.num * (q.den : Int) = X at hs ⊢
    generalize q.num * (p.den : Int) = Y at hs ⊢
    unfold sg at hs
    split
    · rename_i h0
      rw [h0] at hs
      have : X = Y := by split at hs <;> omega
      rw [if_neg (by omega), if_neg (by omega)]
    · split
      · rename_i h1
        rw [if_pos h1] at hs
        rw [if_pos (by omega)]
      · rename_i h1
        rw [if_neg h1] at hs
        rw [if_neg (by omega), if_pos (by omega)]
  rw [← e]
  clear e hs
  have l := sumR_lt' (a := decide (p.num < 0)) (b := !decide (q.num < 0)) (mul32 hp.1 hq.2) (mul32 hq.1 hp.2)
  have s := sum_c (decide (p.num < 0)) (!decide (q.num < 0)) (mul64 hp.1 hq.2) (mul64 hq.1 hp.2)
  generalize sumR (decide (p.num < 0)) (p.num.natAbs * q.den) (!decide (q.num < 0)) (q.num.natAbs * p.den) = S at *
  obtain ⟨b, m⟩ := S
  by_cases h0 : m = 0
  · simp only [if_pos h0]
    exact evc_script (known := known) (fl := fl0) (n := 3) (L := [.call 31 [ratP p, ratP q] e0, .call 33 [pairP p.num.natAbs q.den] (rowL (p.num.natAbs * q.den)), .call 33 [pairP q.num.natAbs p.den] (rowL (q.num.natAbs * p.den)),
        .call 32 [.bool (decide (p.num < 0)), rowL (p.num.natAbs * q.den), .bool (!decide (q.num < 0)), rowL (q.num.natAbs * p.den)] (.tup [.bool b, rowL m]), lenI m, eqlI m true]) (by kernel_rfl)
      (owed_cons (both_c hp.can hq.can) (owed_cons (product_c (up64 hp.1) (up64 hq.2)) (owed_cons (product_c (up64 hq.1) (up64 hp.2)) (owed_cons s (owed_cons (lenI_owed (l.up (by decide))) (owed_cons (eq0t h0) owed_nil))))))
  · simp only [if_neg h0]
    cases b with
    | false =>
      exact evc_script (known := known) (fl := fl0) (n := 3) (L := [.call 31 [ratP p, ratP q] e0, .call 33 [pairP p.num.natAbs q.den] (rowL (p.num.natAbs * q.den)), .call 33 [pairP q.num.natAbs p.den] (rowL (q.num.natAbs * p.den)),
        .call 32 [.bool (decide (p.num < 0)), rowL (p.num.natAbs * q.den), .bool (!decide (q.num < 0)), rowL (q.num.natAbs * p.den)] (.tup [.bool false, rowL m]), lenI m, eqlI m false]) (by kernel_rfl)
        (owed_cons (both_c hp.can hq.can) (owed_cons (product_c (up64 hp.1) (up64 hq.2)) (owed_cons (product_c (up64 hq.1) (up64 hp.2)) (owed_cons s (owed_cons (lenI_owed (l.up (by decide))) (owed_cons (eq0 h0) owed_nil))))))
    | true =>
      exact evc_script (known := known) (fl := fl0) (n := 3) (L := [.call 31 [ratP p, ratP q] e0, .call 33 [pairP p.num.natAbs q.den] (rowL (p.num.natAbs * q.den)), .call 33 [pairP q.num.natAbs p.den] (rowL (q.num.natAbs * p.den)),
        .call 32 [.bool (decide (p.num < 0)), rowL (p.num.natAbs * q.den), .bool (!decide (q.num < 0)), rowL (q.num.natAbs * p.den)] (.tup [.bool true, rowL m]), lenI m, eqlI m false]) (by kernel_rfl)
        (owed_cons (both_c hp.can hq.can) (owed_cons (product_c (up64 hp.1) (up64 hq.2)) (owed_cons (product_c (up64 hq.1) (up64 hp.2)) (owed_cons s (owed_cons (lenI_owed (l.up (by decide))) (owed_cons (eq0 h0) owed_nil))))))
theorem same_iff (p q : Rat) : p = q ↔ (decide (p.num < 0) = decide (q.num < 0) ∧ p.num.natAbs = q.num.natAbs ∧ p.den = q.den) := by
  constructor
  · rintro rfl
    exact ⟨rfl, rfl, rfl⟩
  · rintro ⟨h1, h2, h3⟩
    have h1 := decide_eq_decide.1 h1
    exact Rat.ext (by omega) h3
theorem same_c {s1 : Bool} {n1 d1 : Nat} {s2 : Bool} {n2 d2 : Nat} (h1 : Lt 1000 n1) (h2 : Lt 1000 d1) (h3 : Lt 1000 n2) (h4 : Lt 1000 d2) : Evc 17 [rp s1 n1 d1, rp s2 n2 d2] (.bool (decide (s1 = s2 ∧ n1 = n2 ∧ d1 = d2))) := by
  by_cases hs : s1 = s2
  · subst hs
    by_cases hn : n1 = n2
    · by_cases hd : d1 = d2
      · rw [decide_eq_true ⟨rfl, hn, hd⟩]
        cases s1 <;> exact evc_script (known := known) (fl := {}) (n := 3) (L := [.call 39 [rowL n1, rowL n2] (.bool true), .call 39 [rowL d1, rowL d2] (.bool true)]) (by kernel_rfl)
          (owed_cons (Equal_c h1 h3 (decide_eq_true hn)) (owed_cons (Equal_c h2 h4 (decide_eq_true hd)) owed_nil))
      · rw [decide_eq_false (fun h => hd h.2.2)]
        cases s1 <;> exact evc_script (known := known) (fl := {}) (n := 3) (L := [.call 39 [rowL n1, rowL n2] (.bool true), .call 39 [rowL d1, rowL d2] (.bool false)]) (by kernel_rfl)
          (owed_cons (Equal_c h1 h3 (decide_eq_true hn)) (owed_cons (Equal_c h2 h4 (decide_eq_false hd)) owed_nil))
    · rw [decide_eq_false (fun h => hn h.2.1)]
      cases s1 <;> exact evc_script (known := known) (fl := {}) (n := 3) (L := [.call 39 [rowL n1, rowL n2] (.bool false)]) (by kernel_rfl)
          (owed_cons (Equal_c h1 h3 (decide_eq_false hn)) owed_nil)
  · rw [decide_eq_false (fun h => hs h.1)]
    cases s1 <;> cases s2 <;> first | exact absurd rfl hs | exact evc_script (known := known) (fl := {}) (n := 3) (L := []) (by kernel_rfl) owed_nil
theorem Same_evc {p q : Rat} (hp : Fits p) (hq : Fits q) : Evc 17 [ratP p, ratP q] (.bool (decide (p = q))) := by
  have := same_c (s1 := decide (p.num < 0)) (s2 := decide (q.num < 0)) (up1000 hp.1) (up1000 hp.2) (up1000 hq.1) (up1000 hq.2)
  rwa [show decide (decide (p.num < 0) = decide (q.num < 0) ∧ p.num.natAbs = q.num.natAbs ∧ p.den = q.den) = decide (p = q) from decide_eq_decide.2 (same_iff p q).symm] at this
def lssI (n : Int) (b : Bool) : Item := .bin .lss 3 (.pv (.int .i64 n)) (.pv (.int .i64 0)) true (.pv (.bool b))
theorem lssI_owed {n : Int} {b : Bool} (h : decide (n < 0) = b) : Owed (lssI n b) := by
  subst h
  show binA Tryd.prog .lss 3 _ _ _ = _
  simp only [binA, intOp, ne_eq, not_true, if_false]
theorem Of_evc {n : Int} (h0 : -9223372036854775808 ≤ n) (h1 : n < 9223372036854775808) : Evc 13 [intP n] (ratP (n : Rat)) := by
  unfold ratP
  rw [Rat.num_intCast, Rat.den_intCast]
  by_cases h : n < 0
  · rw [decide_eq_true h]
    have e : IntKind.u64.wrap (0 - IntKind.u64.wrap n) = ((n.natAbs : Nat) : Int) := by
      simp only [IntKind.wrap, IntKind.bits, IntKind.signed]
      simp
      omega
    refine evc_script (known := known) (fl := fl0) (n := 3) (L := [lssI n true, lssI n true, .call 35 [.int .u64 (IntKind.u64.wrap (0 - IntKind.u64.wrap n))] (rowL n.natAbs), .call 36 [] (rowL 1)]) (by kernel_rfl)
      (owed_cons (lssI_owed (decide_eq_true h)) (owed_cons (lssI_owed (decide_eq_true h)) (owed_cons ?_ (owed_cons one_c owed_nil))))
    rw [e]
    exact NOf_c _ (by omega)
  · rw [decide_eq_false h]
    have e : IntKind.u64.wrap n = ((n.natAbs : Nat) : Int) := by
      simp only [IntKind.wrap, IntKind.bits, IntKind.signed]
      simp
      omega
    refine evc_script (known := known) (fl := fl0) (n := 3) (L := [lssI n false, lssI n false, .call 35 [.int .u64 (IntKind.u64.wrap n)] (rowL n.natAbs), .call 36 [] (rowL 1)]) (by kernel_rfl)
      (owed_cons (lssI_owed (decide_eq_false h)) (owed_cons (lssI_owed (decide_eq_false h)) (owed_cons ?_ (owed_cons one_c owed_nil))))
    rw [e]
    exact NOf_c _ (by omega)
theorem Floor_evc {p : Rat} (hp : Fits p) (hs : Fits (p.floor : Rat)) : Evc 16 [ratP p] (okP (ratP (p.floor : Rat))) := by
  have hd := p.den_nz
  have e : mkRat (sg (decide (p.num < 0)) (if decide (p.num < 0) = true ∧ p.num.natAbs % p.den ≠ 0 then p.num.natAbs / p.den + 1 else p.num.natAbs / p.den)) 1 = (p.floor : Rat) := by
    have : sg (decide (p.num < 0)) (if decide (p.num < 0) = true ∧ p.num.natAbs % p.den ≠ 0 then p.num.natAbs / p.den + 1 else p.num.natAbs / p.den) = p.floor := by
      rw [Rat.floor_def]
      have hdm := Nat.div_add_mod p.num.natAbs p.den
      have hml := Nat.mod_lt p.num.natAbs (Nat.pos_of_ne_zero hd)
      generalize p.num.natAbs / p.den = Q at *
      generalize p.num.natAbs % p.den = R at *
      symm
      unfold sg
      by_cases hn : p.num < 0
      · rw [if_pos (decide_eq_true hn)]
        have hz : p.num = -((p.den * Q + R : Nat) : Int) := by omega
        by_cases hr : R ≠ 0
        · rw [if_pos ⟨decide_eq_true hn, hr⟩]
          rw [Int.ediv_eq_iff_of_pos (by omega)]
          rw [hz]; push_cast
          constructor <;> grind
        · rw [if_neg (fun h => hr h.2)]
          rw [Int.ediv_eq_iff_of_pos (by omega)]
          rw [hz]; push_cast
          constructor <;> grind
      · rw [if_neg (by simpa using hn), if_neg (by simp [hn])]
        have hz : p.num = ((p.den * Q + R : Nat) : Int) := by omega
        rw [Int.ediv_eq_iff_of_pos (by omega)]
        rw [hz]; push_cast
        constructor <;> grind
    rw [this]
    apply Rat.ext
    · rw [Rat.num_mkRat]; simp
    · rw [Rat.den_mkRat]; simp
  have lq : Lt 64 (p.num.natAbs / p.den) := (up64 hp.1).le (Nat.div_le_self _ _)
  have lq1 : Lt 64 (p.num.natAbs / p.den + 1) := (((lt16 hp.1).le (Nat.div_le_self _ _)).add (lt_lit (by decide) (by decide) : Lt 16 1) (j := 64) (by decide))
  have lr : Lt 64 (p.num.natAbs % p.den) := (up64 hp.1).le (Nat.mod_le _ _)
  have a2 := Div_c (up64 hp.1) (up64 hp.2) hd
  have ck := Check_c hp.can
  have hr : ∀ m, m = (if decide (p.num < 0) = true ∧ p.num.natAbs % p.den ≠ 0 then p.num.natAbs / p.den + 1 else p.num.natAbs / p.den) → Lt 64 m → Evc 34 [.bool (decide (p.num < 0)), rowL m, rowL 1] (okP (ratP (p.floor : Rat))) := fun m hm lm => by
    have := reduced_c (decide (p.num < 0)) lm lt1' (by decide)
    rwa [redP_rat (q := (p.floor : Rat)) (by decide) (by rw [hm]; exact e) hs] at this
  clear e
  generalize (p.floor : Rat) = fl at *
  show Evc _ [rp (decide (p.num < 0)) p.num.natAbs p.den] _
  generalize p.num.natAbs / p.den = Q at *
  generalize p.num.natAbs % p.den = R at *
  by_cases hn : p.num < 0
  · rw [decide_eq_true hn] at hr ck ⊢
    by_cases h0 : R = 0
    · exact evc_script (known := known) (fl := fl0) (n := 3) (L := [.call 20 [rp true p.num.natAbs p.den] e0, .call 37 [rowL p.num.natAbs, rowL p.den] (.tup [rowL Q, rowL R, e0]), lenI R, gtrI R 0 false, .call 36 [] (rowL 1), .call 34 [.bool true, rowL Q, rowL 1] (okP (ratP fl))]) (by kernel_rfl)
        (owed_cons ck (owed_cons a2 (owed_cons (lenI_owed (k64 lr)) (owed_cons (by have := gt0 (n := R); rwa [decide_eq_false (by omega : ¬ 0 < R)] at this) (owed_cons one_c (owed_cons (hr Q (by rw [if_neg (fun h => h.2 h0)]) lq) owed_nil))))))
    · exact evc_script (known := known) (fl := fl0) (n := 3) (L := [.call 20 [rp true p.num.natAbs p.den] e0, .call 37 [rowL p.num.natAbs, rowL p.den] (.tup [rowL Q, rowL R, e0]), lenI R, gtrI R 0 true, .call 36 [] (rowL 1), .call 38 [rowL Q, rowL 1] (okP (rowL (Q + 1))), .call 36 [] (rowL 1), .call 34 [.bool true, rowL (Q + 1), rowL 1] (okP (ratP fl))]) (by kernel_rfl)
        (owed_cons ck (owed_cons a2 (owed_cons (lenI_owed (k64 lr)) (owed_cons (by have := gt0 (n := R); rwa [decide_eq_true (by omega : 0 < R)] at this) (owed_cons one_c (owed_cons (Add_c lq lt1') (owed_cons one_c (owed_cons (hr (Q + 1) (by rw [if_pos ⟨rfl, h0⟩]) lq1) owed_nil))))))))
  · rw [decide_eq_false hn] at hr ck ⊢
    exact evc_script (known := known) (fl := fl0) (n := 3) (L := [.call 20 [rp false p.num.natAbs p.den] e0, .call 37 [rowL p.num.natAbs, rowL p.den] (.tup [rowL Q, rowL R, e0]), .call 36 [] (rowL 1), .call 34 [.bool false, rowL Q, rowL 1] (okP (ratP fl))]) (by kernel_rfl)
        (owed_cons ck (owed_cons a2 (owed_cons one_c (owed_cons (hr Q (by rw [if_neg (fun h => by cases h.1)]) lq) owed_nil))))
theorem Check_evc {p : Rat} (hp : Fits p) : Evc 20 [ratP p] e0 := Check_c hp.can
/-- How long they are at most. -/
def Fit (j : Nat) (q : Rat) : Prop := q.num.natAbs < 2 ^ j ∧ q.den < 2 ^ j
theorem Fit.fits {j : Nat} {q : Rat} (h : Fit j q) (hj : j ≤ 512) : Fits q := by
  obtain ⟨m, e, hm⟩ : ∃ m : Nat, (2 : Nat) ^ m = 4294967296 ^ 16 ∧ m = 512 := ⟨32 * 16, (Nat.pow_mul 2 32 16).trans (congrArg (· ^ 16) (by decide : (2 : Nat) ^ 32 = 4294967296)), rfl⟩
  have : 2 ^ j ≤ 2 ^ m := Nat.pow_le_pow_right (by decide) (by omega)
  exact ⟨by rw [← e]; exact Nat.lt_of_lt_of_le h.1 this, by rw [← e]; exact Nat.lt_of_lt_of_le h.2 this⟩
theorem mk_le (n : Int) {d : Nat} (hd : d ≠ 0) : (mkRat n d).num.natAbs ≤ n.natAbs ∧ (mkRat n d).den ≤ d := by
  rw [Rat.num_mkRat, Rat.den_mkRat, if_neg hd, if_neg hd]
  exact ⟨by rw [Int.natAbs_ediv_of_dvd (Int.ofNat_dvd_left.2 (Nat.gcd_dvd_right ..))]; exact Nat.div_le_self _ _, Nat.div_le_self _ _⟩
theorem mul_fit {a b i j : Nat} (ha : a < 2 ^ i) (hb : b < 2 ^ j) : a * b < 2 ^ (i + j) := by
  rw [Nat.pow_add]
  exact Nat.mul_lt_mul'' ha hb
theorem Fit.add {i j : Nat} {p q : Rat} (hp : Fit i p) (hq : Fit j q) : Fit (i + j + 1) (p + q) := by
  have h := mk_le (p.num * q.den + q.num * p.den) (Nat.mul_ne_zero p.den_nz q.den_nz)
  rw [← Rat.add_def'] at h
  have h1 := mul_fit hp.1 hq.2
  have h2 := mul_fit hp.2 hq.1
  have h3 := mul_fit hp.2 hq.2
  have h4 : (p.num * q.den + q.num * p.den).natAbs ≤ p.num.natAbs * q.den + p.den * q.num.natAbs := by
    refine Nat.le_trans (Int.natAbs_add_le _ _) ?_
    rw [Int.natAbs_mul, Int.natAbs_mul, Int.natAbs_natCast, Int.natAbs_natCast, Nat.mul_comm q.num.natAbs]
    exact Nat.le_refl _
  have e : 2 ^ (i + j + 1) = 2 ^ (i + j) * 2 := Nat.pow_succ ..
  exact ⟨by omega, by omega⟩
theorem Fit.div {i j : Nat} {p q : Rat} (hp : Fit i p) (hq : Fit j q) (h0 : q ≠ 0) : Fit (i + j) (p / q) := by
  have hn : q.num ≠ 0 := fun e => h0 (Rat.num_eq_zero.1 e)
  have h := mk_le (sg (decide (p.num < 0) != decide (q.num < 0)) (p.num.natAbs * q.den)) (d := p.den * q.num.natAbs) (Nat.mul_ne_zero p.den_nz (by omega))
  rw [div_mk hn, show (sg (decide (p.num < 0) != decide (q.num < 0)) (p.num.natAbs * q.den)).natAbs = p.num.natAbs * q.den by unfold sg; split <;> simp [Int.natAbs_mul]] at h
  exact ⟨Nat.lt_of_le_of_lt h.1 (mul_fit hp.1 hq.2), Nat.lt_of_le_of_lt h.2 (mul_fit hp.2 hq.1)⟩
theorem Fit.of {j : Nat} {n : Int} (h : n.natAbs < 2 ^ j) (hj : 0 < j) : Fit j (n : Rat) := by
  refine ⟨by rw [Rat.num_intCast]; exact h, ?_⟩
  rw [Rat.den_intCast]
  exact Nat.one_lt_two_pow (by omega)
end Go.Proofs.YtkjdpojbmkpkgaaDoor.AV


/- Read and Text, the chapter's examples: what the evaluator answers. -/
namespace Go.Proofs.YtkjdpojbmkpkgaaDoor.AV
open Go Go.RowKit Go.Proofs.YtkjdpojbmkpkgaaDoorW.PrintWords Go.Proofs.YtkjdpojbmkpkgaaDoorW.PrintLast Go.Proofs.YtkjdpojbmkpkgaaDoorW.PrintMore Go.Proofs.YtkjdpojbmkpkgaaDoor.M Go.Proofs.YtkjdpojbmkpkgaaDoor.P Go.Proofs.YtkjdpojbmkpkgaaDoor.E

def readP (a : List UInt8) : PV := .tup [row .u32 (readS a).1, .int .i64 (readS a).2]
theorem readP_ok {a : List UInt8} {n : Nat} (h : readS a = (limbs n, 0)) : readP a = okP (rowL n) := by unfold readP; rw [h]; rfl
theorem readP_bad {a : List UInt8} {l : List Int} {e : Int} (h : readS a = (l, e)) : readP a = .tup [row .u32 l, .int .i64 e] := by unfold readP; rw [h]
structure RS (s t a b : List UInt8) (neg has : Bool) : Prop where
  h1 : (if s.head? = some 45 then (s.tail, true) else (s, false)) = (t, neg)
  h2 : cutS t = (a, b, has)
  hs : s.length < 1000000
def readPre (s t a b : List UInt8) (neg has : Bool) (pa pb : PV) : List Item :=
  [.call 41 [.str s, .str [45]] (.tup [.str t, .bool neg]), .call 42 [.str t, .str [47]] (.tup [.str a, .str b, .bool has]), .call 43 [.str a] pa, .call 36 [] (rowL 1)] ++ (if has then [.call 43 [.str b] pb] else [])
theorem owed_app {L M : List Item} (h1 : ∀ i ∈ L, Owed i) (h2 : ∀ i ∈ M, Owed i) : ∀ i ∈ L ++ M, Owed i := fun i hi => (List.mem_append.1 hi).elim (h1 i) (h2 i)
theorem readPre_owed {s t a b : List UInt8} {neg has : Bool} (h : RS s t a b neg has) {pa pb : PV} (ha : readP a = pa) (hb : has = true → readP b = pb) : ∀ i ∈ readPre s t a b neg has pa pb, Owed i := by
  have lt : t.length ≤ s.length := by
    have := h.h1
    split at this
    · rw [Prod.mk.injEq] at this; rw [← this.1]; simp
    · rw [Prod.mk.injEq] at this; rw [← this.1]; exact Nat.le_refl _
  have hcut := Cut_c t (Nat.lt_of_le_of_lt lt h.hs)
  rw [h.h2] at hcut
  have e1 : Evc 43 [.str a] pa := by rw [← ha]; exact NRead_c a
  refine owed_app (owed_cons (CutPrefix_c s h.h1) (owed_cons hcut (owed_cons e1 (owed_cons one_c owed_nil)))) ?_
  cases has with
  | false => exact owed_nil
  | true => exact owed_cons (by rw [← hb rfl]; exact NRead_c b) owed_nil
def noP (e : Int) : PV := .tup [zeroR, .int .i64 e]
def readAns (neg has : Bool) (n d : Nat) : PV := if d = 0 ∨ (has = true ∧ d = 1) ∨ (neg = true ∧ n = 0) ∨ Nat.gcd n d ≠ 1 then noP 4 else redP neg n d
theorem Read_c {s t a b : List UInt8} {neg has : Bool} (h : RS s t a b neg has) {n d : Nat} (hn : readS a = (limbs n, 0)) (hd : (if has = true then readS b else (limbs 1, 0)) = (limbs d, 0)) (ln : Lt 64 n) (ld : Lt 64 d) :
    Evc 19 [.str s] (readAns neg has n d) := by
  have pre := readPre_owed h (readP_ok hn) (pb := okP (rowL d)) (fun e => readP_ok (by rwa [if_pos e] at hd))
  have hd1 : has = false → d = 1 := fun e => by
    rw [if_neg (by rw [e]; decide)] at hd
    exact (limbs_inj (by injection hd)).symm
  have ld0 := lenI_owed (k64 ld)
  have ln0 := lenI_owed (k64 ln)
  unfold readAns
  by_cases c0 : d = 0
  · rw [if_pos (.inl c0)]
    cases has with
    | false => exact absurd (hd1 rfl) (by omega)
    | true => cases neg <;> exact evc_script (known := known) (fl := fl0) (n := 3) (L := readPre s t a b _ true (okP (rowL n)) (okP (rowL d)) ++ [lenI d, eqlI d true]) (by kernel_rfl) (owed_app pre (owed_cons ld0 (owed_cons (eq0t c0) owed_nil)))
  · have hg : Lt 64 (Nat.gcd n d) := ld.le (Nat.le_of_dvd (Nat.pos_of_ne_zero c0) (Nat.gcd_dvd_right n d))
    have hgc := Gcd_c ln ld
    have hred := fun neg => reduced_c neg ln ld c0
    by_cases c1 : has = true ∧ d = 1
    · rw [if_pos (.inr (.inl c1))]
      obtain ⟨rfl, c1⟩ := c1
      cases neg <;> exact evc_script (known := known) (fl := fl0) (n := 3) (L := readPre s t a b _ true (okP (rowL n)) (okP (rowL d)) ++ [lenI d, eqlI d false, .call 36 [] (rowL 1), .call 39 [rowL d, rowL 1] (.bool true)]) (by kernel_rfl) (owed_app pre (owed_cons ld0 (owed_cons (eq0 c0) (owed_cons one_c (owed_cons (Equal_c (k64 ld) lt1 (decide_eq_true c1)) owed_nil)))))
    · have hmid : ∃ M, (has = true → M = [.call 36 [] (rowL 1), .call 39 [rowL d, rowL 1] (.bool false)]) ∧ (has = false → M = []) ∧ ∀ i ∈ M, Owed i := by
        cases has with
        | false => exact ⟨[], fun e => (by cases e), fun _ => rfl, owed_nil⟩
        | true => exact ⟨_, fun _ => rfl, fun e => (by cases e), owed_cons one_c (owed_cons (Equal_c (k64 ld) lt1 (decide_eq_false fun e => c1 ⟨rfl, e⟩)) owed_nil)⟩
      obtain ⟨M, m1, m2, m3⟩ := hmid
      by_cases c2 : neg = true ∧ n = 0
      · rw [if_pos (.inr (.inr (.inl c2)))]
        obtain ⟨rfl, c2⟩ := c2
        cases has with
        | false => rw [m2 rfl] at m3; exact evc_script (known := known) (fl := fl0) (n := 3) (L := readPre s t a b true false (okP (rowL n)) (okP (rowL d)) ++ ([lenI 1, eqlI 1 false] ++ ([] ++ [lenI n, eqlI n true]))) (by kernel_rfl) (owed_app pre (owed_app (owed_cons (lenI_owed lt1) (owed_cons (eq0 (by decide)) owed_nil)) (owed_app m3 (owed_cons ln0 (owed_cons (eq0t c2) owed_nil)))))
        | true => rw [m1 rfl] at m3; exact evc_script (known := known) (fl := fl0) (n := 3) (L := readPre s t a b true true (okP (rowL n)) (okP (rowL d)) ++ ([lenI d, eqlI d false] ++ ([.call 36 [] (rowL 1), .call 39 [rowL d, rowL 1] (.bool false)] ++ [lenI n, eqlI n true]))) (by kernel_rfl) (owed_app pre (owed_app (owed_cons ld0 (owed_cons (eq0 c0) owed_nil)) (owed_app m3 (owed_cons ln0 (owed_cons (eq0t c2) owed_nil)))))
      · have hneg : ∃ N, (neg = true → N = [lenI n, eqlI n false]) ∧ (neg = false → N = []) ∧ ∀ i ∈ N, Owed i := by
          cases neg with
          | false => exact ⟨[], fun e => (by cases e), fun _ => rfl, owed_nil⟩
          | true => exact ⟨_, fun _ => rfl, fun e => (by cases e), owed_cons ln0 (owed_cons (eq0 fun e => c2 ⟨rfl, e⟩) owed_nil)⟩
        obtain ⟨N, n1, n2, n3⟩ := hneg
        by_cases c3 : Nat.gcd n d = 1
        · rw [if_neg (by rintro (e | e | e | e); exact c0 e; exact c1 e; exact c2 e; exact e c3)]
          have tail : ∀ i ∈ [Item.call 44 [rowL n, rowL d] (okP (rowL 1)), .call 36 [] (rowL 1), .call 39 [rowL 1, rowL 1] (.bool true), .call 34 [.bool neg, rowL n, rowL d] (redP neg n d)], Owed i :=
            owed_cons (by rw [c3] at hgc; exact hgc) (owed_cons one_c (owed_cons (Equal_c lt1 lt1 rfl) (owed_cons (hred neg) owed_nil)))
          have hr : ∃ r e, redP neg n d = .tup [r, .int .i64 e] ∧ ∃ bo r1 r2, r = .agg [.bool bo, r1, r2] ∧ r1.one = true ∧ r2.one = true := by
            unfold redP
            split
            · exact ⟨_, _, rfl, _, _, _, rfl, rfl, rfl⟩
            · exact ⟨_, _, rfl, _, _, _, rfl, rfl, rfl⟩
          have hred2 : (∃ bo l1 l2 e, redP neg n d = .tup [.agg [.bool bo, rowL l1, rowL l2], .int .i64 e]) ∨ redP neg n d = noP 20 := by
            unfold redP
            split
            · exact .inl ⟨_, _, _, _, rfl⟩
            · exact .inr rfl
          rcases hred2 with ⟨bo, l1, l2, e, hr2⟩ | hr2 <;> rw [hr2] at tail ⊢ <;> cases has <;> cases neg
          · rw [m2 rfl] at m3; rw [n2 rfl] at n3; obtain rfl := hd1 rfl; exact evc_script (known := known) (fl := fl0) (n := 3) (L := readPre s t a b false false (okP (rowL n)) (okP (rowL 1)) ++ ([lenI 1, eqlI 1 false] ++ ([] ++ ([] ++ _)))) (by kernel_rfl) (owed_app pre (owed_app (owed_cons ld0 (owed_cons (eq0 c0) owed_nil)) (owed_app m3 (owed_app n3 tail))))
          · rw [m2 rfl] at m3; rw [n1 rfl] at n3; obtain rfl := hd1 rfl; exact evc_script (known := known) (fl := fl0) (n := 3) (L := readPre s t a b true false (okP (rowL n)) (okP (rowL 1)) ++ ([lenI 1, eqlI 1 false] ++ ([] ++ ([lenI n, eqlI n false] ++ _)))) (by kernel_rfl) (owed_app pre (owed_app (owed_cons ld0 (owed_cons (eq0 c0) owed_nil)) (owed_app m3 (owed_app n3 tail))))
          · rw [m1 rfl] at m3; rw [n2 rfl] at n3; exact evc_script (known := known) (fl := fl0) (n := 3) (L := readPre s t a b false true (okP (rowL n)) (okP (rowL d)) ++ ([lenI d, eqlI d false] ++ (_ ++ ([] ++ _)))) (by kernel_rfl) (owed_app pre (owed_app (owed_cons ld0 (owed_cons (eq0 c0) owed_nil)) (owed_app m3 (owed_app n3 tail))))
          · rw [m1 rfl] at m3; rw [n1 rfl] at n3; exact evc_script (known := known) (fl := fl0) (n := 3) (L := readPre s t a b true true (okP (rowL n)) (okP (rowL d)) ++ ([lenI d, eqlI d false] ++ (_ ++ ([lenI n, eqlI n false] ++ _)))) (by kernel_rfl) (owed_app pre (owed_app (owed_cons ld0 (owed_cons (eq0 c0) owed_nil)) (owed_app m3 (owed_app n3 tail))))
          · rw [m2 rfl] at m3; rw [n2 rfl] at n3; obtain rfl := hd1 rfl; exact evc_script (known := known) (fl := fl0) (n := 3) (L := readPre s t a b false false (okP (rowL n)) (okP (rowL 1)) ++ ([lenI 1, eqlI 1 false] ++ ([] ++ ([] ++ _)))) (by kernel_rfl) (owed_app pre (owed_app (owed_cons ld0 (owed_cons (eq0 c0) owed_nil)) (owed_app m3 (owed_app n3 tail))))
          · rw [m2 rfl] at m3; rw [n1 rfl] at n3; obtain rfl := hd1 rfl; exact evc_script (known := known) (fl := fl0) (n := 3) (L := readPre s t a b true false (okP (rowL n)) (okP (rowL 1)) ++ ([lenI 1, eqlI 1 false] ++ ([] ++ ([lenI n, eqlI n false] ++ _)))) (by kernel_rfl) (owed_app pre (owed_app (owed_cons ld0 (owed_cons (eq0 c0) owed_nil)) (owed_app m3 (owed_app n3 tail))))
          · rw [m1 rfl] at m3; rw [n2 rfl] at n3; exact evc_script (known := known) (fl := fl0) (n := 3) (L := readPre s t a b false true (okP (rowL n)) (okP (rowL d)) ++ ([lenI d, eqlI d false] ++ (_ ++ ([] ++ _)))) (by kernel_rfl) (owed_app pre (owed_app (owed_cons ld0 (owed_cons (eq0 c0) owed_nil)) (owed_app m3 (owed_app n3 tail))))
          · rw [m1 rfl] at m3; rw [n1 rfl] at n3; exact evc_script (known := known) (fl := fl0) (n := 3) (L := readPre s t a b true true (okP (rowL n)) (okP (rowL d)) ++ ([lenI d, eqlI d false] ++ (_ ++ ([lenI n, eqlI n false] ++ _)))) (by kernel_rfl) (owed_app pre (owed_app (owed_cons ld0 (owed_cons (eq0 c0) owed_nil)) (owed_app m3 (owed_app n3 tail))))
        · rw [if_pos (.inr (.inr (.inr c3)))]
          have tail : ∀ i ∈ [Item.call 44 [rowL n, rowL d] (okP (rowL (Nat.gcd n d))), .call 36 [] (rowL 1), .call 39 [rowL (Nat.gcd n d), rowL 1] (.bool false)], Owed i :=
            owed_cons hgc (owed_cons one_c (owed_cons (Equal_c (k64 hg) lt1 (decide_eq_false c3)) owed_nil))
          cases has <;> cases neg
          · rw [m2 rfl] at m3; rw [n2 rfl] at n3; obtain rfl := hd1 rfl; exact evc_script (known := known) (fl := fl0) (n := 3) (L := readPre s t a b false false (okP (rowL n)) (okP (rowL 1)) ++ ([lenI 1, eqlI 1 false] ++ ([] ++ ([] ++ _)))) (by kernel_rfl) (owed_app pre (owed_app (owed_cons ld0 (owed_cons (eq0 c0) owed_nil)) (owed_app m3 (owed_app n3 tail))))
          · rw [m2 rfl] at m3; rw [n1 rfl] at n3; obtain rfl := hd1 rfl; exact evc_script (known := known) (fl := fl0) (n := 3) (L := readPre s t a b true false (okP (rowL n)) (okP (rowL 1)) ++ ([lenI 1, eqlI 1 false] ++ ([] ++ ([lenI n, eqlI n false] ++ _)))) (by kernel_rfl) (owed_app pre (owed_app (owed_cons ld0 (owed_cons (eq0 c0) owed_nil)) (owed_app m3 (owed_app n3 tail))))
          · rw [m1 rfl] at m3; rw [n2 rfl] at n3; exact evc_script (known := known) (fl := fl0) (n := 3) (L := readPre s t a b false true (okP (rowL n)) (okP (rowL d)) ++ ([lenI d, eqlI d false] ++ (_ ++ ([] ++ _)))) (by kernel_rfl) (owed_app pre (owed_app (owed_cons ld0 (owed_cons (eq0 c0) owed_nil)) (owed_app m3 (owed_app n3 tail))))
          · rw [m1 rfl] at m3; rw [n1 rfl] at n3; exact evc_script (known := known) (fl := fl0) (n := 3) (L := readPre s t a b true true (okP (rowL n)) (okP (rowL d)) ++ ([lenI d, eqlI d false] ++ (_ ++ ([lenI n, eqlI n false] ++ _)))) (by kernel_rfl) (owed_app pre (owed_app (owed_cons ld0 (owed_cons (eq0 c0) owed_nil)) (owed_app m3 (owed_app n3 tail))))
/-- What is no number's text ahead of the stroke. -/
theorem Read_bad_a {s t a b : List UInt8} {neg has : Bool} (h : RS s t a b neg has) {e : Int} (he : e = 4 ∨ e = 5) (ha : readS a = ([], e)) (hb : has = true → ∃ l f, readS b = (l, f) ∧ (f = 0 ∨ f = 4 ∨ f = 5)) : Evc 19 [.str s] (noP 4) := by
  cases has with
  | false =>
    have pre := readPre_owed h (readP_bad ha) (pb := e0) (fun e => by cases e)
    rcases he with rfl | rfl <;> cases neg <;> exact evc_script (known := known) (fl := fl0) (n := 3) (by kernel_rfl) pre
  | true =>
    obtain ⟨l, f, hb, hf⟩ := hb rfl
    have pre := readPre_owed h (readP_bad ha) (fun _ => readP_bad hb)
    rcases he with rfl | rfl <;> rcases hf with rfl | rfl | rfl <;> cases neg <;> exact evc_script (known := known) (fl := fl0) (n := 3) (by kernel_rfl) pre
theorem Read_bad_b {s t a b : List UInt8} {neg : Bool} (h : RS s t a b neg true) {n : Nat} {e : Int} (he : e = 4 ∨ e = 5) (ha : readS a = (limbs n, 0)) (hb : readS b = ([], e)) : Evc 19 [.str s] (noP 4) := by
  have pre := readPre_owed h (readP_ok ha) (fun _ => readP_bad hb)
  rcases he with rfl | rfl <;> cases neg <;> exact evc_script (known := known) (fl := fl0) (n := 3) (by kernel_rfl) pre

/-- A number's text. -/
def textQ (neg : Bool) (n d : Nat) : List UInt8 := (if neg = true then [45] else []) ++ textL n ++ (if d = 1 then [] else [47] ++ textL d)
theorem textL_len {m : Nat} (hm : Lt 16 m) : (textL m).length < 1000 := by
  have h1 : m < 10 ^ 200 := Nat.lt_trans hm (by decide)
  unfold textL
  split
  · simp
  · exact Nat.lt_of_le_of_lt (decL_length_le h1) (by decide)
def addI (a b : List UInt8) (yc : Bool) : Item := .bin .add 9 (.pv (.str a)) (.pv (.str b)) yc (.pv (.str (a ++ b)))
theorem addI_owed {a b : List UInt8} {yc : Bool} (h : a.length + b.length ≤ 100000) : Owed (addI a b yc) := by
  show binA Tryd.prog .add 9 _ _ _ = _
  simp only [binA, strOp]
  rw [if_pos (by omega)]
theorem Text_c {s : Bool} {n d : Nat} (h : CanR s n d) : Evc 18 [rp s n d] (okP (.str (textQ s n d))) := by
  have ck := Check_c h
  have tn := NText_c ((lt16 h.n16).up (j := 64) (by decide))
  have td := NText_c ((lt16 h.d16).up (j := 64) (by decide))
  have ln := textL_len h.n16
  have ld := textL_len h.d16
  have up : Lt 1000 d := (lt16 h.d16).up (by decide)
  unfold textQ
  by_cases h1 : d = 1
  · rw [if_pos h1]
    have eq := Equal_c up lt1 (decide_eq_true h1)
    cases s with
    | false =>
      rw [if_neg (by decide), List.nil_append, List.append_nil]
      exact evc_script (known := known) (fl := fl0) (n := 3) (L := [.call 20 [rp false n d] e0, .call 40 [rowL n] (okP (.str (textL n))), .call 36 [] (rowL 1), .call 39 [rowL d, rowL 1] (.bool true)]) (by kernel_rfl) (owed_cons ck (owed_cons tn (owed_cons one_c (owed_cons eq owed_nil))))
    | true =>
      rw [if_pos rfl, List.append_nil]
      exact evc_script (known := known) (fl := fl0) (n := 3) (L := [.call 20 [rp true n d] e0, .call 40 [rowL n] (okP (.str (textL n))), addI [45] (textL n) false, .call 36 [] (rowL 1), .call 39 [rowL d, rowL 1] (.bool true)]) (by kernel_rfl)
        (owed_cons ck (owed_cons tn (owed_cons (addI_owed (by simp; omega)) (owed_cons one_c (owed_cons eq owed_nil)))))
  · rw [if_neg h1]
    have eq := Equal_c up lt1 (decide_eq_false h1)
    cases s with
    | false =>
      rw [if_neg (by decide), List.nil_append, ← List.append_assoc]
      exact evc_script (known := known) (fl := fl0) (n := 3) (L := [.call 20 [rp false n d] e0, .call 40 [rowL n] (okP (.str (textL n))), .call 36 [] (rowL 1), .call 39 [rowL d, rowL 1] (.bool false), .call 40 [rowL d] (okP (.str (textL d))), addI (textL n) [47] true, addI (textL n ++ [47]) (textL d) false]) (by kernel_rfl)
        (owed_cons ck (owed_cons tn (owed_cons one_c (owed_cons eq (owed_cons td (owed_cons (addI_owed (by simp; omega)) (owed_cons (addI_owed (by simp; omega)) owed_nil)))))))
    | true =>
      rw [if_pos rfl, ← List.append_assoc]
      exact evc_script (known := known) (fl := fl0) (n := 3) (L := [.call 20 [rp true n d] e0, .call 40 [rowL n] (okP (.str (textL n))), addI [45] (textL n) false, .call 36 [] (rowL 1), .call 39 [rowL d, rowL 1] (.bool false), .call 40 [rowL d] (okP (.str (textL d))), addI ([45] ++ textL n) [47] true, addI ([45] ++ textL n ++ [47]) (textL d) false]) (by kernel_rfl)
        (owed_cons ck (owed_cons tn (owed_cons (addI_owed (by simp; omega)) (owed_cons one_c (owed_cons eq (owed_cons td (owed_cons (addI_owed (by simp; omega)) (owed_cons (addI_owed (by simp; omega)) owed_nil))))))))
def textP (q : Rat) : List UInt8 := textQ (decide (q.num < 0)) q.num.natAbs q.den
theorem Text_evc {q : Rat} (h : Fits q) : Evc 18 [ratP q] (okP (.str (textP q))) := Text_c h.can
theorem fits64 {q : Rat} (h1 : q.num.natAbs < 18446744073709551616) (h2 : q.den < 18446744073709551616) : Fits q := ⟨lt_lit h1 (by decide), lt_lit h2 (by decide)⟩

theorem redP_self {q : Rat} (h : Fits q) : redP (decide (q.num < 0)) q.num.natAbs q.den = okP (ratP q) :=
  redP_rat q.den_nz (by rw [show sg (decide (q.num < 0)) q.num.natAbs = q.num from by have := sg_num q.num 1; simpa using this]; exact Rat.mkRat_self q) h
/-- A number's own text is read so. -/
theorem Read_q {s t a b : List UInt8} {has : Bool} {q : Rat} (h : RS s t a b (decide (q.num < 0)) has) (hf : Fits q) (hn : readS a = (limbs q.num.natAbs, 0)) (hd : (if has = true then readS b else (limbs 1, 0)) = (limbs q.den, 0)) (h1 : ¬ (has = true ∧ q.den = 1)) :
    Evc 19 [.str s] (okP (ratP q)) := by
  have := Read_c h hn hd (up64 hf.1) (up64 hf.2)
  have hr := q.reduced
  rwa [readAns, if_neg (by
    rintro (e | e | e | e)
    · exact q.den_nz e
    · exact h1 e
    · have := of_decide_eq_true e.1; omega
    · exact e hr), redP_self hf] at this
theorem of_c {s : List UInt8} {q : Rat} (h : Evc 19 [.str s] (okP (ratP q))) : Evc 29 [.str s] (ratP q) :=
  evc_script (known := known) (fl := {}) (n := 3) (L := [.call 19 [.str s] (okP (ratP q))]) (by kernel_rfl) (owed_cons h owed_nil)
theorem fails_c {s : List UInt8} (h : Evc 19 [.str s] (noP 4)) : Evc 27 [.str s] (.bool true) :=
  evc_script (known := known) (fl := {}) (n := 3) (L := [.call 19 [.str s] (noP 4)]) (by kernel_rfl) (owed_cons h owed_nil)
theorem is_c {s : List UInt8} {q : Rat} (hf : Fits q) (h : textP q = s) : Evc 30 [ratP q, e0, .str s] (.bool true) := by
  subst h
  exact evc_script (known := known) (fl := { bin := fun _ t _ _ => t == 9 }) (n := 3) (L := [.call 18 [ratP q] (okP (.str (textP q))), .bin .eql 9 (.pv (.str (textP q))) (.pv (.str (textP q))) false (.pv (.bool true)), .call 20 [ratP q] e0]) (by kernel_rfl)
    (owed_cons (Text_evc hf) (owed_cons (by show binA Tryd.prog .eql 9 _ _ _ = _; simp [binA, strOp]) (owed_cons (Check_evc hf) owed_nil)))
end Go.Proofs.YtkjdpojbmkpkgaaDoor.AV

/- The chapter's examples: what the evaluator answers. -/
namespace Go.Proofs.YtkjdpojbmkpkgaaDoor.AV
open Go Go.RowKit Go.Proofs.YtkjdpojbmkpkgaaDoorW.PrintWords Go.Proofs.YtkjdpojbmkpkgaaDoorW.PrintLast Go.Proofs.YtkjdpojbmkpkgaaDoorW.PrintMore Go.Proofs.YtkjdpojbmkpkgaaDoor.M Go.Proofs.YtkjdpojbmkpkgaaDoor.P Go.Proofs.YtkjdpojbmkpkgaaDoor.E

theorem of_12 : Evc 29 [.str [49, 47, 50]] (ratP (1/2)) :=
  of_c (Read_q (s := [49, 47, 50]) (t := [49, 47, 50]) (a := [49]) (b := [50]) (has := true) (q := 1/2) ⟨by decide +kernel, by decide +kernel, by decide +kernel⟩ (fits64 (by decide +kernel) (by decide +kernel)) (readS_num (by decide +kernel) (by decide +kernel) (by decide +kernel)) ((if_pos rfl).trans (readS_num (by decide +kernel) (by decide +kernel) (by decide +kernel))) (by decide +kernel))
theorem of_13 : Evc 29 [.str [49, 47, 51]] (ratP (1/3)) :=
  of_c (Read_q (s := [49, 47, 51]) (t := [49, 47, 51]) (a := [49]) (b := [51]) (has := true) (q := 1/3) ⟨by decide +kernel, by decide +kernel, by decide +kernel⟩ (fits64 (by decide +kernel) (by decide +kernel)) (readS_num (by decide +kernel) (by decide +kernel) (by decide +kernel)) ((if_pos rfl).trans (readS_num (by decide +kernel) (by decide +kernel) (by decide +kernel))) (by decide +kernel))
theorem of_23 : Evc 29 [.str [50, 47, 51]] (ratP (2/3)) :=
  of_c (Read_q (s := [50, 47, 51]) (t := [50, 47, 51]) (a := [50]) (b := [51]) (has := true) (q := 2/3) ⟨by decide +kernel, by decide +kernel, by decide +kernel⟩ (fits64 (by decide +kernel) (by decide +kernel)) (readS_num (by decide +kernel) (by decide +kernel) (by decide +kernel)) ((if_pos rfl).trans (readS_num (by decide +kernel) (by decide +kernel) (by decide +kernel))) (by decide +kernel))
theorem of_34 : Evc 29 [.str [51, 47, 52]] (ratP (3/4)) :=
  of_c (Read_q (s := [51, 47, 52]) (t := [51, 47, 52]) (a := [51]) (b := [52]) (has := true) (q := 3/4) ⟨by decide +kernel, by decide +kernel, by decide +kernel⟩ (fits64 (by decide +kernel) (by decide +kernel)) (readS_num (by decide +kernel) (by decide +kernel) (by decide +kernel)) ((if_pos rfl).trans (readS_num (by decide +kernel) (by decide +kernel) (by decide +kernel))) (by decide +kernel))
theorem of_1 : Evc 29 [.str [49]] (ratP (1)) :=
  of_c (Read_q (s := [49]) (t := [49]) (a := [49]) (b := []) (has := false) (q := 1) ⟨by decide +kernel, by decide +kernel, by decide +kernel⟩ (fits64 (by decide +kernel) (by decide +kernel)) (readS_num (by decide +kernel) (by decide +kernel) (by decide +kernel)) rfl (by decide +kernel))
theorem of_m2 : Evc 29 [.str [45, 50]] (ratP (-2)) :=
  of_c (Read_q (s := [45, 50]) (t := [50]) (a := [50]) (b := []) (has := false) (q := -2) ⟨by decide +kernel, by decide +kernel, by decide +kernel⟩ (fits64 (by decide +kernel) (by decide +kernel)) (readS_num (by decide +kernel) (by decide +kernel) (by decide +kernel)) rfl (by decide +kernel))
theorem of_m12 : Evc 29 [.str [45, 49, 47, 50]] (ratP (-1/2)) :=
  of_c (Read_q (s := [45, 49, 47, 50]) (t := [49, 47, 50]) (a := [49]) (b := [50]) (has := true) (q := -1/2) ⟨by decide +kernel, by decide +kernel, by decide +kernel⟩ (fits64 (by decide +kernel) (by decide +kernel)) (readS_num (by decide +kernel) (by decide +kernel) (by decide +kernel)) ((if_pos rfl).trans (readS_num (by decide +kernel) (by decide +kernel) (by decide +kernel))) (by decide +kernel))
theorem textP_of {q : Rat} {s : Bool} {n d : Nat} (h1 : decide (q.num < 0) = s) (h2 : q.num.natAbs = n) (h3 : q.den = d) : textP q = textQ s n d := by unfold textP; rw [h1, h2, h3]
theorem is_56 : Evc 30 [ratP (5/6), e0, .str [53, 47, 54]] (.bool true) := is_c (fits64 (by decide +kernel) (by decide +kernel)) (by rw [textP_of (s := false) (n := 5) (d := 6) (by decide +kernel) (by decide +kernel) (by decide +kernel)]; unfold textQ; rw [textL_digit (by decide +kernel) (by decide +kernel), textL_digit (by decide +kernel) (by decide +kernel)]; rfl)
theorem is_12 : Evc 30 [ratP (1/2), e0, .str [49, 47, 50]] (.bool true) := is_c (fits64 (by decide +kernel) (by decide +kernel)) (by rw [textP_of (s := false) (n := 1) (d := 2) (by decide +kernel) (by decide +kernel) (by decide +kernel)]; unfold textQ; rw [textL_digit (by decide +kernel) (by decide +kernel), textL_digit (by decide +kernel) (by decide +kernel)]; rfl)
theorem is_m12 : Evc 30 [ratP (-1/2), e0, .str [45, 49, 47, 50]] (.bool true) := is_c (fits64 (by decide +kernel) (by decide +kernel)) (by rw [textP_of (s := true) (n := 1) (d := 2) (by decide +kernel) (by decide +kernel) (by decide +kernel)]; unfold textQ; rw [textL_digit (by decide +kernel) (by decide +kernel), textL_digit (by decide +kernel) (by decide +kernel)]; rfl)
theorem is_0 : Evc 30 [ratP (0), e0, .str [48]] (.bool true) := is_c (fits64 (by decide +kernel) (by decide +kernel)) (by rw [textP_of (s := false) (n := 0) (d := 1) (by decide +kernel) (by decide +kernel) (by decide +kernel)]; unfold textQ; rw [if_pos rfl]; rfl)
theorem is_m1 : Evc 30 [ratP (-1), e0, .str [45, 49]] (.bool true) := is_c (fits64 (by decide +kernel) (by decide +kernel)) (by rw [textP_of (s := true) (n := 1) (d := 1) (by decide +kernel) (by decide +kernel) (by decide +kernel)]; unfold textQ; rw [textL_digit (by decide +kernel) (by decide +kernel), if_pos rfl, if_pos rfl]; rfl)
theorem fails_64 : Evc 27 [.str [54, 47, 52]] (.bool true) := by
  have := Read_c (s := [54, 47, 52]) (t := [54, 47, 52]) (a := [54]) (b := [52]) (neg := false) (has := true) (n := 6) (d := 4) ⟨by decide +kernel, by decide +kernel, by decide +kernel⟩ (readS_num (by decide +kernel) (by decide +kernel) (by decide +kernel)) ((if_pos rfl).trans (readS_num (by decide +kernel) (by decide +kernel) (by decide +kernel))) (lt_lit (by decide +kernel) (by decide +kernel)) (lt_lit (by decide +kernel) (by decide +kernel))
  rw [readAns, if_pos (by decide +kernel)] at this
  exact fails_c this
theorem fails_m0 : Evc 27 [.str [45, 48]] (.bool true) := by
  have := Read_c (s := [45, 48]) (t := [48]) (a := [48]) (b := []) (neg := true) (has := false) (n := 0) (d := 1) ⟨by decide +kernel, by decide +kernel, by decide +kernel⟩ (readS_num (by decide +kernel) (by decide +kernel) (by decide +kernel)) rfl (lt_lit (by decide +kernel) (by decide +kernel)) (lt_lit (by decide +kernel) (by decide +kernel))
  rw [readAns, if_pos (by decide +kernel)] at this
  exact fails_c this
theorem fails_31 : Evc 27 [.str [51, 47, 49]] (.bool true) := by
  have := Read_c (s := [51, 47, 49]) (t := [51, 47, 49]) (a := [51]) (b := [49]) (neg := false) (has := true) (n := 3) (d := 1) ⟨by decide +kernel, by decide +kernel, by decide +kernel⟩ (readS_num (by decide +kernel) (by decide +kernel) (by decide +kernel)) ((if_pos rfl).trans (readS_num (by decide +kernel) (by decide +kernel) (by decide +kernel))) (lt_lit (by decide +kernel) (by decide +kernel)) (lt_lit (by decide +kernel) (by decide +kernel))
  rw [readAns, if_pos (by decide +kernel)] at this
  exact fails_c this
theorem fails_30 : Evc 27 [.str [51, 47, 48]] (.bool true) := by
  have := Read_c (s := [51, 47, 48]) (t := [51, 47, 48]) (a := [51]) (b := [48]) (neg := false) (has := true) (n := 3) (d := 0) ⟨by decide +kernel, by decide +kernel, by decide +kernel⟩ (readS_num (by decide +kernel) (by decide +kernel) (by decide +kernel)) ((if_pos rfl).trans (readS_num (by decide +kernel) (by decide +kernel) (by decide +kernel))) (lt_lit (by decide +kernel) (by decide +kernel)) (lt_lit (by decide +kernel) (by decide +kernel))
  rw [readAns, if_pos (by decide +kernel)] at this
  exact fails_c this
theorem works_evc : Evc 9 [] (.bool true) :=
  evc_script (known := known) (fl := {}) (n := 3) (L := [
    .call 29 [.str [49, 47, 50]] (ratP (1/2)),
    .call 29 [.str [49, 47, 51]] (ratP (1/3)),
    .call 14 [ratP (1/2), ratP (1/3)] (okP (ratP (5/6))),
    .call 29 [.str [50, 47, 51]] (ratP (2/3)),
    .call 29 [.str [51, 47, 52]] (ratP (3/4)),
    .call 15 [ratP (2/3), ratP (3/4)] (okP (ratP (1/2))),
    .call 29 [.str [49]] (ratP (1)),
    .call 29 [.str [45, 50]] (ratP (-2)),
    .call 22 [ratP (1), ratP (-2)] (okP (ratP (-1/2))),
    .call 29 [.str [49, 47, 50]] (ratP (1/2)),
    .call 29 [.str [49, 47, 50]] (ratP (1/2)),
    .call 12 [ratP (1/2), ratP (1/2)] (okP (ratP (0))),
    .call 29 [.str [45, 49, 47, 50]] (ratP (-1/2)),
    .call 16 [ratP (-1/2)] (okP (ratP (-1))),
    .call 29 [.str [49, 47, 51]] (ratP (1/3)),
    .call 29 [.str [49, 47, 50]] (ratP (1/2)),
    .call 11 [ratP (1/3), ratP (1/2)] (okP (intP (-1))),
    .call 30 [ratP (5/6), e0, .str [53, 47, 54]] (.bool true),
    .call 30 [ratP (1/2), e0, .str [49, 47, 50]] (.bool true),
    .call 30 [ratP (-1/2), e0, .str [45, 49, 47, 50]] (.bool true),
    .call 30 [ratP (0), e0, .str [48]] (.bool true),
    .call 30 [ratP (-1), e0, .str [45, 49]] (.bool true),
    .call 27 [.str [54, 47, 52]] (.bool true),
    .call 27 [.str [45, 48]] (.bool true),
    .call 27 [.str [51, 47, 49]] (.bool true),
    .call 27 [.str [51, 47, 48]] (.bool true)]) (by kernel_rfl)
    (owed_cons of_12 (owed_cons of_13 (owed_cons (by have := Add_evc (p := 1/2) (q := 1/3) (fits64 (by decide +kernel) (by decide +kernel)) (fits64 (by decide +kernel) (by decide +kernel)) (fits64 (by decide +kernel) (by decide +kernel)); rw [show ((1/2 : Rat) + (1/3) : Rat) = 5/6 by decide +kernel] at this; exact this) (owed_cons of_23 (owed_cons of_34 (owed_cons (by have := Mul_evc (p := 2/3) (q := 3/4) (fits64 (by decide +kernel) (by decide +kernel)) (fits64 (by decide +kernel) (by decide +kernel)) (fits64 (by decide +kernel) (by decide +kernel)); rw [show ((2/3 : Rat) * (3/4) : Rat) = 1/2 by decide +kernel] at this; exact this) (owed_cons of_1 (owed_cons of_m2 (owed_cons (by have := Div_evc (p := 1) (q := -2) (fits64 (by decide +kernel) (by decide +kernel)) (fits64 (by decide +kernel) (by decide +kernel)) (by decide +kernel) (fits64 (by decide +kernel) (by decide +kernel)); rw [show ((1 : Rat) / (-2) : Rat) = -1/2 by decide +kernel] at this; exact this) (owed_cons of_12 (owed_cons of_12 (owed_cons (by have := Sub_evc (p := 1/2) (q := 1/2) (fits64 (by decide +kernel) (by decide +kernel)) (fits64 (by decide +kernel) (by decide +kernel)) (fits64 (by decide +kernel) (by decide +kernel)); rw [show ((1/2 : Rat) - (1/2) : Rat) = 0 by decide +kernel] at this; exact this) (owed_cons of_m12 (owed_cons (by have := Floor_evc (p := -1/2) (fits64 (by decide +kernel) (by decide +kernel)) (fits64 (by decide +kernel) (by decide +kernel)); rw [show ((Rat.floor (-1/2) : Int) : Rat) = -1 by decide +kernel] at this; exact this) (owed_cons of_13 (owed_cons of_12 (owed_cons (by have := Cmp_evc (p := 1/3) (q := 1/2) (fits64 (by decide +kernel) (by decide +kernel)) (fits64 (by decide +kernel) (by decide +kernel)); rw [show cmpQ (1/3) (1/2) = -1 by decide +kernel] at this; exact this) (owed_cons is_56 (owed_cons is_12 (owed_cons is_m12 (owed_cons is_0 (owed_cons is_m1 (owed_cons fails_64 (owed_cons fails_m0 (owed_cons fails_31 (owed_cons fails_30 owed_nil))))))))))))))))))))))))))
end Go.Proofs.YtkjdpojbmkpkgaaDoor.AV

/- near, RatOrder and RatField: what the evaluator answers. -/
namespace Go.Proofs.YtkjdpojbmkpkgaaDoor.AV
open Go Go.RowKit Go.Proofs.YtkjdpojbmkpkgaaDoorW.PrintWords Go.Proofs.YtkjdpojbmkpkgaaDoorW.PrintLast Go.Proofs.YtkjdpojbmkpkgaaDoorW.PrintMore Go.Proofs.YtkjdpojbmkpkgaaDoor.M Go.Proofs.YtkjdpojbmkpkgaaDoor.P Go.Proofs.YtkjdpojbmkpkgaaDoor.E

theorem wrap_id {n : Int} (h0 : -9223372036854775808 ≤ n) (h1 : n < 9223372036854775808) : IntKind.i64.wrap n = n := by
  simp only [IntKind.wrap, IntKind.bits, IntKind.signed]
  simp
  omega
theorem bring_evc {n m : Int} (h0 : 0 < m) (h1 : m ≤ 1099511627776) : Evc 21 [intP n, intP m] (intP (n % m)) := by
  refine evc_ext ⟨0, fun k _ => ?_⟩
  rw [ext_driftnetlaw02_bring]
  have e : driftnetlaw02_bring.f n m = some (n % m) := by
    unfold driftnetlaw02_bring.f driftnetref00_Bring.f
    have ht : Int.tmod n m = n % m - ↑(if 0 ≤ n ∨ m ∣ n then 0 else Int.natAbs m) := Int.tmod_eq_emod
    have h2 := Int.emod_nonneg n (show m ≠ 0 by omega)
    have h3 := Int.emod_lt_of_pos n h0
    rw [if_neg (by omega), if_neg (by omega)]
    split
    · rename_i hn
      simp only [Option.bind_some]
      rw [show Int.tmod n m + m = n % m by
        rw [ht] at hn ⊢
        split at hn
        · omega
        · rw [if_neg (by assumption)]
          omega]
      congr 1
      simp only [wrap64]
      omega
    · rename_i hn
      simp only [Option.bind_some]
      rw [ht] at hn ⊢
      split at hn
      · rw [if_pos (by assumption)]; simp
      · rw [if_neg (by assumption)]
        omega
  simp only [x_driftnetlaw02_bring, intP, e]

def nearQ (x y z : Int) : Rat := ((x : Int) : Rat) / ((1 + y % 1099511627776 : Int) : Rat) + ((z % 1000 : Int) : Rat) / ((1 + (z.tdiv 1000) % 1000 : Int) : Rat)
def arr3 (x y z : Int) : PV := .agg [intP x, intP y, intP z]
theorem cast_ne {n : Int} (h : n ≠ 0) : ((n : Int) : Rat) ≠ 0 := fun e => h (by
  have := congrArg Rat.num e
  rwa [Rat.num_intCast] at this)
structure I64 (n : Int) : Prop where
  lo : -9223372036854775808 ≤ n
  hi : n < 9223372036854775808
theorem i64_of {n : Int} (h : (Lit.int .i64 n).wf = true) : I64 n := by
  simp [Lit.wf] at h
  exact ⟨Int.le_trans (by decide) h.1, Int.lt_of_le_of_lt h.2 (by decide)⟩
theorem fit_x {x : Int} (h : I64 x) : Fit 64 (x : Rat) := Fit.of (by have := h.lo; have := h.hi; omega) (by decide)
theorem fit_y (y : Int) : Fit 41 ((1 + y % 1099511627776 : Int) : Rat) := Fit.of (by omega) (by decide)
theorem fit_z (z : Int) : Fit 10 ((z % 1000 : Int) : Rat) := Fit.of (by omega) (by decide)
theorem fit_z1 (z : Int) : Fit 10 ((1 + z % 1000 : Int) : Rat) := Fit.of (by omega) (by decide)
theorem near_fit {x y z : Int} (hx : I64 x) : Fit 126 (nearQ x y z) :=
  ((fit_x hx).div (fit_y y) (cast_ne (by omega))).add ((fit_z z).div (fit_z1 _) (cast_ne (by omega)))
theorem Of_ev {n : Int} (h : I64 n) : Evc 13 [intP n] (ratP (n : Rat)) := Of_evc h.lo h.hi
theorem Of_wrap {n m : Int} (h : I64 n) (e : m = n) : Evc 13 [intP m] (ratP (n : Rat)) := by rw [e]; exact Of_ev h

theorem near_evc {x y z : Int} (hx : I64 x) (hz : I64 z) : Evc 10 [arr3 x y z] (ratP (nearQ x y z)) := by
  have hzl := hz.lo
  have hzh := hz.hi
  have t1 : -9223372036854776 ≤ z.tdiv 1000 ∧ z.tdiv 1000 ≤ 9223372036854776 := by
    rw [Int.tdiv_eq_ediv]
    split
    · omega
    · rw [show Int.sign 1000 = 1 from rfl]; omega
  refine evc_script (known := known) (fl := {}) (n := 5) (L := [
    .call 13 [intP x] (ratP (x : Rat)),
    .call 21 [intP y, intP 1099511627776] (intP (y % 1099511627776)),
    .call 13 [intP (IntKind.i64.wrap (1 + y % 1099511627776))] (ratP ((1 + y % 1099511627776 : Int) : Rat)),
    .call 22 [ratP (x : Rat), ratP ((1 + y % 1099511627776 : Int) : Rat)] (okP (ratP ((x : Rat) / ((1 + y % 1099511627776 : Int) : Rat)))),
    .call 21 [intP z, intP 1000] (intP (z % 1000)),
    .call 13 [intP (z % 1000)] (ratP ((z % 1000 : Int) : Rat)),
    .call 21 [intP (IntKind.i64.wrap (z.tdiv 1000)), intP 1000] (intP (z.tdiv 1000 % 1000)),
    .call 13 [intP (IntKind.i64.wrap (1 + z.tdiv 1000 % 1000))] (ratP ((1 + z.tdiv 1000 % 1000 : Int) : Rat)),
    .call 22 [ratP ((z % 1000 : Int) : Rat), ratP ((1 + z.tdiv 1000 % 1000 : Int) : Rat)] (okP (ratP (((z % 1000 : Int) : Rat) / ((1 + z.tdiv 1000 % 1000 : Int) : Rat)))),
    .call 14 [ratP ((x : Rat) / ((1 + y % 1099511627776 : Int) : Rat)), ratP (((z % 1000 : Int) : Rat) / ((1 + z.tdiv 1000 % 1000 : Int) : Rat))] (okP (ratP (nearQ x y z)))]) (by kernel_rfl) ?_
  have f1 := fit_x hx
  have f2 := fit_y y
  have f3 := fit_z z
  have f4 := fit_z1 (z.tdiv 1000)
  have n2 : ((1 + y % 1099511627776 : Int) : Rat) ≠ 0 := cast_ne (by omega)
  have n4 : ((1 + z.tdiv 1000 % 1000 : Int) : Rat) ≠ 0 := cast_ne (by omega)
  have f5 := f1.div f2 n2
  have f6 := f3.div f4 n4
  refine owed_cons (Of_ev hx) (owed_cons (bring_evc (by decide) (by decide)) (owed_cons (Of_wrap ⟨by omega, by omega⟩ (wrap_id (by omega) (by omega))) (owed_cons (Div_evc (f1.fits (by decide)) (f2.fits (by decide)) n2 (f5.fits (by decide)))
    (owed_cons (bring_evc (by decide) (by decide)) (owed_cons (Of_ev ⟨by omega, by omega⟩) (owed_cons ?_ (owed_cons (Of_wrap ⟨by omega, by omega⟩ (wrap_id (by omega) (by omega)))
    (owed_cons (Div_evc (f3.fits (by decide)) (f4.fits (by decide)) n4 (f6.fits (by decide))) (owed_cons (Add_evc (f5.fits (by decide)) (f6.fits (by decide)) ((near_fit hx).fits (by decide))) owed_nil)))))))))
  rw [wrap_id (by omega) (by omega)]
  exact bring_evc (by decide) (by decide)
end Go.Proofs.YtkjdpojbmkpkgaaDoor.AV

/- RatBack: what the evaluator answers. -/
namespace Go.Proofs.YtkjdpojbmkpkgaaDoor.AV
open Go Go.RowKit Go.Proofs.YtkjdpojbmkpkgaaDoorW.PrintWords Go.Proofs.YtkjdpojbmkpkgaaDoorW.PrintLast Go.Proofs.YtkjdpojbmkpkgaaDoorW.PrintMore Go.Proofs.YtkjdpojbmkpkgaaDoor.M Go.Proofs.YtkjdpojbmkpkgaaDoor.P Go.Proofs.YtkjdpojbmkpkgaaDoor.E

theorem cutS_spec : ∀ (s : List UInt8), (∀ a b, cutS s = (a, b, true) → s = a ++ [47] ++ b ∧ (47 : UInt8) ∉ a) ∧ (∀ a b, cutS s = (a, b, false) → s = a ∧ b = [])
  | [] => ⟨fun a b h => by simp [cutS] at h, fun a b h => by simp [cutS] at h; exact ⟨h.1.symm ▸ rfl, h.2.symm ▸ rfl⟩⟩
  | c :: t => by
    have ih := cutS_spec t
    refine ⟨fun a b h => ?_, fun a b h => ?_⟩
    · unfold cutS at h
      split at h
      · rename_i hc
        cases h
        exact ⟨by simp [hc], by simp⟩
      · rename_i hc
        rw [Prod.mk.injEq, Prod.mk.injEq] at h
        obtain ⟨h1, h2, h3⟩ := h
        obtain ⟨e1, e2⟩ := ih.1 (cutS t).1 b (by rw [← h2, ← h3])
        refine ⟨by rw [← h1]; conv => lhs; rw [e1]
                   rfl, ?_⟩
        rw [← h1]
        simp only [List.mem_cons, not_or]
        exact ⟨fun e => hc e.symm, e2⟩
    · unfold cutS at h
      split at h
      · cases h
      · rw [Prod.mk.injEq, Prod.mk.injEq] at h
        obtain ⟨h1, h2, h3⟩ := h
        obtain ⟨e1, e2⟩ := ih.2 (cutS t).1 b (by rw [← h2, ← h3])
        exact ⟨by rw [← h1, ← e1], e2⟩
theorem cutS_join {a : List UInt8} (h : (47 : UInt8) ∉ a) (b : List UInt8) : cutS (a ++ [47] ++ b) = (a, b, true) := by
  induction a with
  | nil => simp [cutS]
  | cons c a ih =>
    simp only [List.mem_cons, not_or] at h
    have e : cutS (a ++ 47 :: b) = (a, b, true) := by simpa using ih h.2
    rw [show (c :: a) ++ [47] ++ b = c :: (a ++ 47 :: b) by simp]
    simp only [cutS, e]
    rw [if_neg (fun e => h.1 e.symm)]
theorem cutS_whole {a : List UInt8} (h : (47 : UInt8) ∉ a) : cutS a = (a, [], false) := by
  induction a with
  | nil => rfl
  | cons c a ih =>
    simp only [List.mem_cons, not_or] at h
    simp only [cutS, ih h.2]
    rw [if_neg (fun e => h.1 e.symm)]
theorem digits_no {a : List UInt8} (h : allD a = true) {c : UInt8} (hc : c.toNat < 48) : c ∉ a := fun hm => by
  unfold allD at h
  have := List.all_eq_true.1 h c hm
  unfold isD at this
  simp only [Bool.and_eq_true, decide_eq_true_eq] at this
  omega
theorem textL_D (n : Nat) : allD (textL n) = true := ((numeral_iff _).1 (numeral_textL n)).2.1
theorem textL_ne (n : Nat) : textL n ≠ [] := ((numeral_iff _).1 (numeral_textL n)).1
theorem readS_textL {n : Nat} (h : Lt 16 n) : readS (textL n) = (limbs n, 0) := by
  have hl : (textL n).length ≤ 600 := by
    have h1 : n < 10 ^ 200 := Nat.lt_trans h (by decide)
    unfold textL
    split
    · simp
    · exact Nat.le_trans (decL_length_le h1) (by decide)
  exact readS_num (numeral_textL n) hl (nv_textL n)
theorem head_D {a : List UInt8} (h : allD a = true) : a.head? ≠ some 45 := fun e => by
  cases a with
  | nil => cases e
  | cons c a =>
    simp at e
    subst e
    exact digits_no h (c := 45) (by decide) (List.mem_cons_self ..)
/-- A number's text is read as that number. -/
theorem Read_text {q : Rat} (h : Fits q) : Evc 19 [.str (textP q)] (okP (ratP q)) := by
  have l1 := textL_len h.1
  have l2 := textL_len h.2
  have no : ∀ n, (47 : UInt8) ∉ textL n := fun n => digits_no (textL_D n) (by decide)
  unfold textP textQ
  generalize hs : decide (q.num < 0) = s
  have hsg : ∀ t : List UInt8, t.head? ≠ some 45 → t ≠ [] → (if ((if s = true then [45] else []) ++ t).head? = some 45 then (((if s = true then [45] else []) ++ t).tail, true) else ((if s = true then [45] else []) ++ t, false)) = (t, s) := fun t ht hne => by
    cases s with
    | false => simp only [Bool.false_eq_true, if_false, List.nil_append]; rw [if_neg ht]
    | true => simp
  by_cases h1 : q.den = 1
  · rw [if_pos h1, List.append_nil]
    refine Read_q (s := (if s = true then [45] else []) ++ textL q.num.natAbs) (t := textL q.num.natAbs) (a := textL q.num.natAbs) (b := []) (has := false) ⟨?_, cutS_whole (no _), ?_⟩ h (readS_textL h.1) (by rw [if_neg (by decide), h1]) (fun e => by cases e.1)
    · rw [hs]
      exact hsg _ (head_D (textL_D _)) (textL_ne _)
    · cases s <;> simp <;> omega
  · rw [if_neg h1, List.append_assoc]
    refine Read_q (s := (if s = true then [45] else []) ++ (textL q.num.natAbs ++ ([47] ++ textL q.den))) (t := textL q.num.natAbs ++ ([47] ++ textL q.den)) (a := textL q.num.natAbs) (b := textL q.den) (has := true) ⟨?_, ?_, ?_⟩ h (readS_textL h.1) (by rw [if_pos rfl]; exact readS_textL h.2) (fun e => h1 e.2)
    · rw [hs]
      refine hsg _ ?_ (by simp)
      have := head_D (textL_D q.num.natAbs)
      have hne := textL_ne q.num.natAbs
      cases ht : textL q.num.natAbs with
      | nil => exact absurd ht hne
      | cons c r => rw [ht] at this; simpa using this
    · rw [← List.append_assoc]; exact cutS_join (no _) _
    · cases s <;> simp <;> omega

theorem readS_cases (s : List UInt8) (hl : s.length ≤ 600) : (numeral s = true ∧ readS s = (limbs (nv s), 0)) ∨ (numeral s = false ∧ readS s = ([], 4)) := by
  cases h : numeral s with
  | true => exact .inl ⟨rfl, readS_num h hl rfl⟩
  | false => exact .inr ⟨rfl, by unfold readS; rw [if_neg (by omega), if_neg (by rw [h]; decide)]⟩
theorem nv_64 {s : List UInt8} (h : numeral s = true) (hl : s.length ≤ 300) : Lt 64 (nv s) := by
  have h1 := nv_lt s ((numeral_iff s).1 h).2.1
  obtain ⟨m, hm⟩ : ∃ m : Nat, m = 34 := ⟨_, rfl⟩
  have h2 : 10 ^ s.length ≤ 4294967296 ^ 64 := Nat.le_trans (Nat.pow_le_pow_right (by decide) (show s.length ≤ 9 * m by omega)) (by
    rw [Nat.pow_mul]
    exact Nat.le_trans (Nat.pow_le_pow_left (by decide) m) (Nat.pow_le_pow_right (by decide) (by omega)))
  exact Nat.lt_of_lt_of_le h1 h2
/-- What is read: no number, one too big, or the number whose text it is. -/
theorem Read_all (s : List UInt8) (hl : s.length ≤ 300) : Evc 19 [.str s] (noP 4) ∨ Evc 19 [.str s] (noP 20) ∨ ∃ q, Fits q ∧ Evc 19 [.str s] (okP (ratP q)) ∧ textP q = s := by
  obtain ⟨t, neg, h1⟩ : ∃ t neg, (if s.head? = some 45 then (s.tail, true) else (s, false)) = (t, neg) := ⟨_, _, rfl⟩
  have hs : s = (if neg = true then [45] else []) ++ t := by
    split at h1
    · rename_i hh
      cases h1
      cases s with
      | nil => cases hh
      | cons c r => simp at hh; subst hh; rfl
    · cases h1; rfl
  have lt : t.length ≤ 300 := by
    have := congrArg List.length hs
    rw [List.length_append] at this
    omega
  obtain ⟨a, b, has, h2⟩ : ∃ a b has, cutS t = (a, b, has) := ⟨_, _, _, rfl⟩
  have rs : RS s t a b neg has := ⟨h1, h2, by omega⟩
  have la : a.length ≤ 300 := by
    cases has with
    | true => have := ((cutS_spec t).1 a b h2).1; have := congrArg List.length this; simp at this; omega
    | false => have := ((cutS_spec t).2 a b h2).1; rw [← this]; exact lt
  have lb : b.length ≤ 300 := by
    cases has with
    | true => have := ((cutS_spec t).1 a b h2).1; have := congrArg List.length this; simp at this; omega
    | false => have := ((cutS_spec t).2 a b h2).2; rw [this]; simp
  rcases readS_cases a (by omega) with ⟨na, ra⟩ | ⟨na, ra⟩
  · have key : ∀ d, (if has = true then readS b else (limbs 1, 0)) = (limbs d, 0) → Lt 64 d → (has = true → textL d = b) → (has = false → d = 1) → Evc 19 [.str s] (noP 4) ∨ Evc 19 [.str s] (noP 20) ∨ ∃ q, Fits q ∧ Evc 19 [.str s] (okP (ratP q)) ∧ textP q = s := by
      intro d hd ld hb1 hb0
      have h := Read_c rs ra hd (nv_64 na la) ld
      unfold readAns at h
      split at h
      · exact .inl h
      · rename_i hc
        simp only [not_or, not_and, Classical.not_not, ne_eq] at hc
        obtain ⟨c1, c2, c3, c4⟩ := hc
        have hgd : Nat.gcd (nv a) d = 1 := c4
        unfold redP at h
        rw [hgd, Nat.div_one, Nat.div_one] at h
        split at h
        · rename_i hf
          refine .inr (.inr ?_)
          have hco : (sg neg (nv a)).natAbs.Coprime d := by
            rw [show (sg neg (nv a)).natAbs = nv a by unfold sg; split <;> simp]
            exact hgd
          refine ⟨⟨sg neg (nv a), d, c1, hco⟩, ⟨by show (sg neg (nv a)).natAbs < _; rw [show (sg neg (nv a)).natAbs = nv a by unfold sg; split <;> simp]; exact hf.1, hf.2⟩, ?_, ?_⟩
          · have e : ratP ⟨sg neg (nv a), d, c1, hco⟩ = rp (neg && decide (0 < nv a)) (nv a) d := by
              show rp (decide (sg neg (nv a) < 0)) (sg neg (nv a)).natAbs d = _
              rw [show (sg neg (nv a)).natAbs = nv a by unfold sg; split <;> simp]
              congr 1
              unfold sg
              cases neg <;> simp <;> omega
            rw [e]
            exact h
          · show textQ (decide (sg neg (nv a) < 0)) (sg neg (nv a)).natAbs d = s
            rw [show (sg neg (nv a)).natAbs = nv a by unfold sg; split <;> simp]
            have e : decide (sg neg (nv a) < 0) = neg := by
              unfold sg
              cases neg with
              | false => simp
              | true => have := c3 rfl; simp; omega
            rw [e]
            unfold textQ
            rw [textL_nv na]
            conv => rhs; rw [hs]
            cases has with
            | false =>
              rw [if_pos (hb0 rfl), List.append_nil, ((cutS_spec t).2 a b h2).1]
            | true =>
              rw [if_neg (c2 rfl), hb1 rfl, List.append_assoc]
              rw [((cutS_spec t).1 a b h2).1, List.append_assoc]
        · exact .inr (.inl h)
    cases has with
    | false => exact key 1 (if_neg (by decide)) lt1' (fun e => by cases e) (fun _ => rfl)
    | true =>
      rcases readS_cases b (by omega) with ⟨nb, rb⟩ | ⟨nb, rb⟩
      · exact key (nv b) ((if_pos rfl).trans rb) (nv_64 nb lb) (fun _ => textL_nv nb) (fun e => by cases e)
      · exact .inl (Read_bad_b rs (.inl rfl) ra rb)
  · refine .inl (Read_bad_a rs (.inl rfl) ra (fun _ => ?_))
    rcases readS_cases b (by omega) with ⟨_, rb⟩ | ⟨_, rb⟩
    · exact ⟨_, _, rb, .inl rfl⟩
    · exact ⟨_, _, rb, .inr (.inl rfl)⟩

theorem EqualNil_c : Evc 39 [nilR, nilR] (.bool true) := by
  refine evc_ext ?_
  obtain ⟨K, hK⟩ := equal_ev (a := []) (b := []) (by decide)
  refine ⟨K, fun k hk => ?_⟩
  rw [ext_slices_Equal_uint32_uint32]
  have e : rowOf .u32 nilR = some [] := by unfold nilR rowOf; simp [ints]
  simp only [x_slices_Equal_uint32_uint32, e, hK k hk]
  rfl
theorem SameZero_c : Evc 17 [zeroR, zeroR] (.bool true) :=
  evc_script (known := known) (fl := {}) (n := 3) (L := [.call 39 [nilR, nilR] (.bool true), .call 39 [nilR, nilR] (.bool true)]) (by kernel_rfl) (owed_cons EqualNil_c (owed_cons EqualNil_c owed_nil))

def flB : Flags := { len := true, cut := true, bin := fun _ t _ _ => t == 9 }
def backL (x y z : Int) (a : Rat) (s s2 : List UInt8) : List Item := [
  .call 9 [] (.bool true), .call 10 [arr3 x y z] (ratP a), .call 18 [ratP a] (okP (.str (textP a))), .call 19 [.str (textP a)] (okP (ratP a)), .call 17 [ratP a, ratP a] (.bool true),
  .len 9 (.pv (.str s)) s.length, .cut 9 (.pv (.str s)) none (some (if (300 : Int) < (s.length : Nat) then 300 else ((s.length : Nat) : Int))) none (.pv (.str s2))]
theorem RatBack_evc {x y z : Int} (hx : I64 x) (hz : I64 z) (s : List UInt8) (hs : s.length ≤ 140737488351232) : Evc 4 [arr3 x y z, .str s] (.bool true) := by
  have ga := (near_fit (y := y) (z := z) hx).fits (by decide)
  have ea := near_evc (y := y) hx hz
  generalize nearQ x y z = a at *
  have hsame := Same_evc ga ga
  rw [decide_eq_true rfl] at hsame
  have u9 : Tryd.prog.underlying 9 = some .string := by kernel_rfl
  have pre : ∀ i ∈ backL x y z a s (s.take 300), Owed i := by
    refine owed_cons works_evc (owed_cons ea (owed_cons (Text_evc ga) (owed_cons (Read_text ga) (owed_cons hsame (owed_cons ⟨?_, by omega⟩ (owed_cons ?_ owed_nil))))))
    · simp only [lenA, u9]
    · show sliceA Tryd.prog 9 _ _ _ _ = _
      simp only [sliceA, u9]
      by_cases h : (300 : Int) < (s.length : Nat)
      · rw [if_pos h]
        simp only [cutB, Option.getD_some, Option.getD_none]
        rw [if_pos ⟨by omega, by omega, by omega⟩]
        rfl
      · rw [if_neg h]
        simp only [cutB, Option.getD_some, Option.getD_none]
        rw [if_pos ⟨by omega, by omega, by omega⟩]
        simp only [Int.toNat_natCast, Int.toNat_zero, List.drop_zero]
        rw [List.take_of_length_le (Nat.le_refl _), List.take_of_length_le (by omega)]
  have hl : (s.take 300).length ≤ 300 := by rw [List.length_take]; omega
  generalize s.take 300 = s2 at *
  rcases Read_all s2 hl with h | h | ⟨q, hq, h, ht⟩
  · refine evc_script (known := known) (fl := flB) (n := 5) (L := backL x y z a s s2 ++ [.call 19 [.str s2] (noP 4), .call 17 [zeroR, zeroR] (.bool true)]) (by kernel_rfl) (owed_app pre ?_)
    exact (owed_cons h (owed_cons SameZero_c owed_nil))
  · refine evc_script (known := known) (fl := flB) (n := 5) (L := backL x y z a s s2 ++ [.call 19 [.str s2] (noP 20), .call 17 [zeroR, zeroR] (.bool true)]) (by kernel_rfl) (owed_app pre ?_)
    exact (owed_cons h (owed_cons SameZero_c owed_nil))
  · subst ht
    refine evc_script (known := known) (fl := flB) (n := 5) (L := backL x y z a s (textP q) ++ [.call 19 [.str (textP q)] (okP (ratP q)), .call 18 [ratP q] (okP (.str (textP q))), .bin .eql 9 (.pv (.str (textP q))) (.pv (.str (textP q))) false (.pv (.bool true)), .call 20 [ratP q] e0]) (by kernel_rfl) (owed_app pre ?_)
    exact (owed_cons h (owed_cons (Text_evc hq) (owed_cons (by show binA Tryd.prog .eql 9 _ _ _ = _; simp [binA, strOp]) (owed_cons (Check_evc hq) owed_nil))))
end Go.Proofs.YtkjdpojbmkpkgaaDoor.AV
