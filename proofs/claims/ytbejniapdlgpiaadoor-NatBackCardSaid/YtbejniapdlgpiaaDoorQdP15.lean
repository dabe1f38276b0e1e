/- Of the texts that the proof of driftnet's law needs: P15. -/
import Derived.Test.YtbejniapdlgpiaaDoorQdP0
import Derived.Test.YtbejniapdlgpiaaDoorQdP1
import Derived.Test.YtbejniapdlgpiaaDoorQdP4
import Derived.Test.YtbejniapdlgpiaaDoorQdP5
import Derived.Test.YtbejniapdlgpiaaDoorQdP6
import Derived.Test.YtbejniapdlgpiaaDoorQdP8
import Derived.Test.YtbejniapdlgpiaaDoorQdP13
import Derived.Test.YtbejniapdlgpiaaDoorQdP14
-- By program (mp.py over the kit's print, with functions of this session's own).
namespace Go.Proofs.YtbejniapdlgpiaaDoor.P
open Go.RowKit Go.Proofs.YtbejniapdlgpiaaDoor.M Go.Proofs.YtbejniapdlgpiaaDoor.MW Go.Proofs.YtbejniapdlgpiaaDoor.MS Go.Proofs.YtbejniapdlgpiaaDoorW.PrintWords Go.Proofs.YtbejniapdlgpiaaDoorW.PrintLast Go.Proofs.YtbejniapdlgpiaaDoorW.PrintMore
attribute [local go_sem] max2_int min2_int max_two min_two
set_option linter.unusedVariables false
set_option linter.unusedSimpArgs false

mutual
def driftnetlaw01_NatBack.j0 : Nat → List Int → Bool → Option (Bool)
  | 0, _, _ => none
  | k + 1, x1, x58 => if x58 = true then (none) else (driftnetlaw01_NatBack.l0 k x1 (⟨#[]⟩ : ByteArray) 0)
def driftnetlaw01_NatBack.j2 : Nat → ByteArray → Option (Bool)
  | 0, _ => none
  | k + 1, x10 => (strings_TrimLeft.f x10 (⟨#[48]⟩ : ByteArray)).bind fun t730 => (if t730.toList = ([] : List UInt8) then (some true) else ((nat_Read.f k t730).bind fun bt731 => ((nat_Text.f k bt731.1).bind fun bt735 => (if t730.size + 1 ≤ 9223372036854775807 then ((nat_Read.f k (t730 ++ (⟨#[48]⟩ : ByteArray))).bind fun bt737 => ((nat_Of.f k 10).bind fun t741 => ((nat_Mul.f k bt731.1 t741).bind fun bt744 => (if bt731.2 = 0 then (if bt735.2 = 0 then (if bt735.1.toList = t730.toList then (if bt737.2 = 0 then (if bt744.2 = 0 then ((driftnetref01_Eq.f k bt737.1 bt744.1).bind fun t748 => (some t748)) else (none)) else (none)) else (none)) else (none)) else (none))))) else (none)))))
def driftnetlaw01_NatBack.l0 : Nat → List Int → ByteArray → Int → Option (Bool)
  | 0, _, _, _ => none
  | k + 1, x1, x10, x11 => if x11 < (x1.length : Int) then (if x11 < 300 then (if 0 ≤ x11 then ((some (([(48 + (Int.tmod (rd x1 x11) 10)) % 256] : List Int) : List Int)).bind fun y727 => (if x10.size + (strOfNums y727).size ≤ 9223372036854775807 then (driftnetlaw01_NatBack.l0 k x1 (x10 ++ (strOfNums y727)) (wrap64 (x11 + 1))) else (none))) else (none)) else (driftnetlaw01_NatBack.j2 k x10)) else (driftnetlaw01_NatBack.j2 k x10)
end
def driftnetlaw01_NatBack.f (k : Nat) (l0 : List Int) (l1 : List Int) : Option (Bool) := (driftnetlaw01_works.f k).bind fun t715 => (if t715 = true then ((driftnetlaw01_near.f k l0).bind fun t716 => ((nat_Text.f k t716).bind fun bt719 => ((nat_Read.f k bt719.1).bind fun bt721 => (if bt719.2 = 0 then (if bt721.2 = 0 then ((driftnetref01_Eq.f k t716 bt721.1).bind fun t725 => (if t725 = true then (if bt719.1.toList = ([] : List UInt8) then (none) else (if 0 < (bt719.1.size : Int) then (if (bt bt719.1 0) = 48 then (driftnetlaw01_NatBack.j0 k l1 (bt719.1.toList != ([48] : List UInt8))) else (driftnetlaw01_NatBack.j0 k l1 false)) else (none))) else (none))) else (none)) else (none))))) else (none))
set_option maxHeartbeats 8000000 in
set_option maxRecDepth 100000 in
theorem driftnetlaw01_NatBack.calls (k : Nat) (A0 : Option Addr) (c0 : Nat) (l0 : List Int) (A1 : Option Addr) (c1 : Nat) (l1 : List Int) (r : Bool) (w : World) (hr0 : Kd.C (Kd.int .u32) w A0 l0.length l0) (hc0 : l0.length ≤ c0) (hr1 : Kd.C (Kd.int .u8) w A1 l1.length l1) (hc1 : l1.length ≤ c1) (h : driftnetlaw01_NatBack.f k l0 l1 = some r) :
    Calls Tryd.prog 8 #[.slice A0 l0.length c0, .slice A1 l1.length c1] w fun e w' => e = .returned (.bool r) ∧ Below w.heap.size w w' := by
  have HR0 := Aside0.mk hr0
  have HC0 := Aside0.mk hc0
  clear hr0 hc0
  have HR1 := Aside0.mk hr1
  have HC1 := Aside0.mk hc1
  clear hr1 hc1
  have HB := Aside0.mk (Below.refl w.heap.size w)
  have H : ((driftnetlaw01_works.f k).bind fun t715 => (if t715 = true then ((driftnetlaw01_near.f k l0).bind fun t716 => ((nat_Text.f k t716).bind fun bt719 => ((nat_Read.f k bt719.1).bind fun bt721 => (if bt719.2 = 0 then (if bt721.2 = 0 then ((driftnetref01_Eq.f k t716 bt721.1).bind fun t725 => (if t725 = true then (if bt719.1.toList = ([] : List UInt8) then (none) else (if 0 < (bt719.1.size : Int) then (if (bt bt719.1 0) = 48 then (driftnetlaw01_NatBack.j0 k l1 (bt719.1.toList != ([48] : List UInt8))) else (driftnetlaw01_NatBack.j0 k l1 false)) else (none))) else (none))) else (none)) else (none))))) else (none))) = some r := h
  clear h
  replace H := Option.bind_eq_some_iff.mp H
  obtain ⟨t715, A30, H⟩ := H
  replace H : (if t715 = true then ((driftnetlaw01_near.f k l0).bind fun t716 => ((nat_Text.f k t716).bind fun bt719 => ((nat_Read.f k bt719.1).bind fun bt721 => (if bt719.2 = 0 then (if bt721.2 = 0 then ((driftnetref01_Eq.f k t716 bt721.1).bind fun t725 => (if t725 = true then (if bt719.1.toList = ([] : List UInt8) then (none) else (if 0 < (bt719.1.size : Int) then (if (bt bt719.1 0) = 48 then (driftnetlaw01_NatBack.j0 k l1 (bt719.1.toList != ([48] : List UInt8))) else (driftnetlaw01_NatBack.j0 k l1 false)) else (none))) else (none))) else (none)) else (none))))) else (none)) = some r := H
  have A3 := Aside0.mk A30
  clear A30
  by_cases c4 : t715 = true
  · subst c4
    have H1 : ((driftnetlaw01_near.f k l0).bind fun t716 => ((nat_Text.f k t716).bind fun bt719 => ((nat_Read.f k bt719.1).bind fun bt721 => (if bt719.2 = 0 then (if bt721.2 = 0 then ((driftnetref01_Eq.f k t716 bt721.1).bind fun t725 => (if t725 = true then (if bt719.1.toList = ([] : List UInt8) then (none) else (if 0 < (bt719.1.size : Int) then (if (bt bt719.1 0) = 48 then (driftnetlaw01_NatBack.j0 k l1 (bt719.1.toList != ([48] : List UInt8))) else (driftnetlaw01_NatBack.j0 k l1 false)) else (none))) else (none))) else (none)) else (none))))) = some r := by rw [if_pos rfl] at H; exact H
    clear H
    have H := H1
    clear H1
    replace H := Option.bind_eq_some_iff.mp H
    obtain ⟨t716, A50, H⟩ := H
    replace H : ((nat_Text.f k t716).bind fun bt719 => ((nat_Read.f k bt719.1).bind fun bt721 => (if bt719.2 = 0 then (if bt721.2 = 0 then ((driftnetref01_Eq.f k t716 bt721.1).bind fun t725 => (if t725 = true then (if bt719.1.toList = ([] : List UInt8) then (none) else (if 0 < (bt719.1.size : Int) then (if (bt bt719.1 0) = 48 then (driftnetlaw01_NatBack.j0 k l1 (bt719.1.toList != ([48] : List UInt8))) else (driftnetlaw01_NatBack.j0 k l1 false)) else (none))) else (none))) else (none)) else (none)))) = some r := H
    have A5 := Aside0.mk A50
    clear A50
    replace H := Option.bind_eq_some_iff.mp H
    obtain ⟨⟨t719, t720⟩, A60, H⟩ := H
    replace H : ((nat_Read.f k t719).bind fun bt721 => (if t720 = 0 then (if bt721.2 = 0 then ((driftnetref01_Eq.f k t716 bt721.1).bind fun t725 => (if t725 = true then (if t719.toList = ([] : List UInt8) then (none) else (if 0 < (t719.size : Int) then (if (bt t719 0) = 48 then (driftnetlaw01_NatBack.j0 k l1 (t719.toList != ([48] : List UInt8))) else (driftnetlaw01_NatBack.j0 k l1 false)) else (none))) else (none))) else (none)) else (none))) = some r := H
    have A6 := Aside0.mk A60
    clear A60
    replace H := Option.bind_eq_some_iff.mp H
    obtain ⟨⟨t721, t722⟩, A70, H⟩ := H
    replace H : (if t720 = 0 then (if t722 = 0 then ((driftnetref01_Eq.f k t716 t721).bind fun t725 => (if t725 = true then (if t719.toList = ([] : List UInt8) then (none) else (if 0 < (t719.size : Int) then (if (bt t719 0) = 48 then (driftnetlaw01_NatBack.j0 k l1 (t719.toList != ([48] : List UInt8))) else (driftnetlaw01_NatBack.j0 k l1 false)) else (none))) else (none))) else (none)) else (none)) = some r := H
    have A7 := Aside0.mk A70
    clear A70
    have HC8 := Aside0.mk H
    clear H
    go_enter Tryd.func8, Tryd.ntmps8
    go_upto_region 6 with (first | ((with_reducible refine gate_callee (f := 14) rfl ?_); refine goesL_ (some 20) rfl rfl Tryd.func14 (by kernel_rfl) rfl #[] rfl (by (try simp only [List.map_toArray, List.map_cons, List.map_nil]); first | done | rfl | (simp only [List.length_drop, List.length_take]; rfl) | (simp [Act.eval, IntKind.wrap, IntKind.bits, IntKind.signed]; done) | (simp [Act.eval, IntKind.wrap, IntKind.bits, IntKind.signed]; omega)) ?_; (with_reducible refine (driftnetlaw01_works.calls k  true _ A3.out).mono ?_); rintro e w9 ⟨rfl, hb⟩; refine ⟨_, rfl, ?_⟩; have n0_ := Aside0.mk (below_step (by repeat (first | (with_reducible first | exact HB.out | apply below_alloc | apply pw_below_drewN | apply below_drew1) | exact HB.out)) hb); clear HB; have HB := n0_; clear n0_; (try clear hb); (try clear hb2); (try clear hk); (try clear hi)) | ((with_reducible refine gate_callee (f := 25) rfl ?_); refine goesL_ (some 23) rfl rfl Tryd.func25 (by kernel_rfl) rfl #[.slice A0 l0.length c0] rfl (by (try simp only [List.map_toArray, List.map_cons, List.map_nil]); first | done | rfl | (simp only [List.length_drop, List.length_take]; rfl) | (simp [Act.eval, IntKind.wrap, IntKind.bits, IntKind.signed]; done) | (simp [Act.eval, IntKind.wrap, IntKind.bits, IntKind.signed]; omega)) ?_; (with_reducible refine (driftnetlaw01_near.calls k _ _ l0 t716 _ ?side1 ?side2 A5.out).mono ?_); (case side1 => repeat (first | exact (Kd.C_below HR0.out HB.out) | (with_reducible refine Kd.C_alloc ?_ _) | (with_reducible refine Kd.C_drewN ?_ _) | (with_reducible refine Kd.C_drew ?_))); (case side2 => exact HC0.out); rintro e w10 ⟨v717, rfl, ho0, hb⟩; refine ⟨_, rfl, ?_⟩; have n0_ := Aside0.mk (Kd.R_lower ho0 (below_size (by repeat (first | (with_reducible first | exact HB.out | apply below_alloc | apply pw_below_drewN | apply below_drew1) | exact HB.out)))); have n1_ := Aside0.mk (below_step (by repeat (first | (with_reducible first | exact HB.out | apply below_alloc | apply pw_below_drewN | apply below_drew1) | exact HB.out)) hb); clear HB; have HO718 := n0_; have HB := n1_; clear n0_ n1_; (try clear hb); (try clear hb2); (try clear hk); (try clear hi); (try clear ho0); obtain ⟨Ao11, co11, eo11⟩ := Kd.R_slice HO718.out; subst eo11) | ((with_reducible refine gate_callee (f := 21) rfl ?_); refine goesL_ (some 26) rfl rfl Tryd.func21 (by kernel_rfl) rfl #[.slice Ao11 t716.length co11] rfl (by (try simp only [List.map_toArray, List.map_cons, List.map_nil]); first | done | rfl | (simp only [List.length_drop, List.length_take]; rfl) | (simp [Act.eval, IntKind.wrap, IntKind.bits, IntKind.signed]; done) | (simp [Act.eval, IntKind.wrap, IntKind.bits, IntKind.signed]; omega)) ?_; (with_reducible refine (nat_Text.calls k (fun k_ => some k_ = (.slice Ao11 t716.length co11 : Value).ownBlock) _ _ t716 t719 t720 _ ?side1 A6.out).mono ?_); (case side1 => exact Kd.R_V (Kd.R_tight rfl (HO718.out))); rintro e w12 ⟨rfl, hb⟩; refine ⟨_, rfl, ?_⟩; have n0_ := Aside0.mk (Kd.R_below (by (with_reducible repeat (first | apply Kd.R_alloc | apply Kd.R_drewN | apply Kd.R_drew)); exact HO718.out) hb); have n1_ := Aside0.mk (below_step (by repeat (first | (with_reducible first | exact HB.out | apply below_alloc | apply pw_below_drewN | apply below_drew1) | exact HB.out)) hb); clear HO718; clear HB; have HO718 := n0_; have HB := n1_; clear n0_ n1_; (try clear hb); (try clear hb2); (try clear hk); (try clear hi)) | ((with_reducible refine gate_callee (f := 23) rfl ?_); refine goesL_ (some 31) rfl rfl Tryd.func23 (by kernel_rfl) rfl #[.string t719] rfl (by (try simp only [List.map_toArray, List.map_cons, List.map_nil]); first | done | rfl | (simp only [List.length_drop, List.length_take]; rfl) | (simp [Act.eval, IntKind.wrap, IntKind.bits, IntKind.signed]; done) | (simp [Act.eval, IntKind.wrap, IntKind.bits, IntKind.signed]; omega)) ?_; (with_reducible refine (nat_Read.calls k t719 t721 t722 _ A7.out).mono ?_); rintro e w13 ⟨v723, rfl, ho0, hb⟩; refine ⟨_, rfl, ?_⟩; have n0_ := Aside0.mk (Kd.R_elder' (by (with_reducible repeat (first | apply Kd.R_alloc | apply Kd.R_drewN | apply Kd.R_drew)); exact HO718.out) (Kd.R_base ho0) hb); have n1_ := Aside0.mk (Kd.R_lower (Kd.R_new' ho0 (Kd.R_lt (by (with_reducible repeat (first | apply Kd.R_alloc | apply Kd.R_drewN | apply Kd.R_drew)); exact HO718.out))) (below_size (by repeat (first | (with_reducible first | exact HB.out | apply below_alloc | apply pw_below_drewN | apply below_drew1) | exact HB.out)))); have n2_ := Aside0.mk (below_step (by repeat (first | (with_reducible first | exact HB.out | apply below_alloc | apply pw_below_drewN | apply below_drew1) | exact HB.out)) hb); clear HO718; clear HB; have HO718 := n0_; have HO724 := n1_; have HB := n2_; clear n0_ n1_ n2_; (try clear hb); (try clear hb2); (try clear hk); (try clear hi); (try clear ho0)))
    (try simp only [Act.put, List.setIfInBounds_toArray, List.set_cons_zero, List.set_cons_succ])
    go_cut [58] (fun v58 wc => ∃ (kq : Nat) (x58_7 : Bool), v58 = .bool x58_7 ∧ Aside0 (driftnetlaw01_NatBack.j0 kq l1 x58_7 = some r) ∧ Aside0 (kq ≤ k) ∧ Aside0 (Below w.heap.size w wc))
    case first =>
      have H := HC8.out
      clear HC8
      by_cases c14 : t720 = 0
      · rw [if_pos c14] at H
        have c14b0 : (t720 == 0) = true := beq_iff_eq.mpr c14
        have c14b1 : (t720 != 0) = false := bne_eq_false_iff_eq.mpr c14
        clear c14
        (first | rw [c14b0] | rw [c14b1] | (simp only [i64_w, i32_w]; rw [c14b0]) | skip)
        by_cases c15 : t722 = 0
        · rw [if_pos c15] at H
          have c15b0 : (t722 == 0) = true := beq_iff_eq.mpr c15
          have c15b1 : (t722 != 0) = false := bne_eq_false_iff_eq.mpr c15
          clear c15
          replace H := Option.bind_eq_some_iff.mp H
          obtain ⟨t725, A160, H⟩ := H
          replace H : (if t725 = true then (if t719.toList = ([] : List UInt8) then (none) else (if 0 < (t719.size : Int) then (if (bt t719 0) = 48 then (driftnetlaw01_NatBack.j0 k l1 (t719.toList != ([48] : List UInt8))) else (driftnetlaw01_NatBack.j0 k l1 false)) else (none))) else (none)) = some r := H
          have A16 := Aside0.mk A160
          clear A160
          by_cases c17 : t725 = true
          · subst c17
            have H1 : (if t719.toList = ([] : List UInt8) then (none) else (if 0 < (t719.size : Int) then (if (bt t719 0) = 48 then (driftnetlaw01_NatBack.j0 k l1 (t719.toList != ([48] : List UInt8))) else (driftnetlaw01_NatBack.j0 k l1 false)) else (none))) = some r := by rw [if_pos rfl] at H; exact H
            clear H
            have H := H1
            clear H1
            by_cases c18 : t719.toList = ([] : List UInt8)
            · rw [if_pos c18] at H
              exact absurd H (by simp)
            · rw [if_neg c18] at H
              have c18b0 : (t719.toList == ([] : List UInt8)) = false := beq_eq_false_iff_ne.mpr c18
              have c18b1 : (t719.toList != ([] : List UInt8)) = true := bne_iff_ne.mpr c18
              by_cases c19 : 0 < (t719.size : Int)
              · rw [if_pos c19] at H
                have c19b0 : decide (0 < (t719.size : Int)) = true := decide_eq_true c19
                have c19b1 : decide (0 < t719.size) = true := decide_eq_true (by omega)
                clear c19
                by_cases c21 : (bt t719 0) = 48
                · rw [if_pos c21] at H
                  have c21b0 : ((bt t719 0) == 48) = true := beq_iff_eq.mpr c21
                  have c21b1 : ((bt t719 0) != 48) = false := bne_eq_false_iff_eq.mpr c21
                  clear c21
                  have H' := Aside0.mk H
                  clear H
                  obtain ⟨Ao22, co22, eo22⟩ := Kd.R_slice HO724.out
                  subst eo22
                  go_wp2_with (first | (go_at_call 19; (with_reducible refine (driftnetref01_Eq.calls k _ _ t716 _ _ t721 true _ ?side1 ?side2 ?side3 ?side4 A16.out).mono ?_); (case side1 => repeat (first | exact (Kd.R_reads' HO718.out).2.2 | (with_reducible refine Kd.C_alloc ?_ _) | (with_reducible refine Kd.C_drewN ?_ _) | (with_reducible refine Kd.C_drew ?_))); (case side2 => exact (Kd.R_reads' HO718.out).2.1); (case side3 => repeat (first | exact (Kd.R_reads' HO724.out).2.2 | (with_reducible refine Kd.C_alloc ?_ _) | (with_reducible refine Kd.C_drewN ?_ _) | (with_reducible refine Kd.C_drew ?_))); (case side4 => exact (Kd.R_reads' HO724.out).2.1); rintro e w' ⟨rfl, ⟨nd, rfl⟩⟩; have p20 : 0 ≤ (0 : Int) := (by omega); have q20 : 0 < t719.size := (by have : (0 : Int) < (t719.size : Int) := of_decide_eq_true (by first | (with_reducible assumption) | assumption); omega); have hx20 : ∀ h : 0 < t719.size, ((t719[0]'h).toNat : Int) = bt t719 0 := bt_at t719 0; clear p20; have qi20 : (0 < (t719.size : Int)) = True := eq_true (of_decide_eq_true (by first | (with_reducible assumption) | assumption)); replace q20 := eq_true q20))
                  go_meet
                  case rel => exact ⟨_, ((t719.toList != ([48] : List UInt8))), (by first | rfl | (simp; done) | (simp [*]; done)), H', ⟨by first | omega | exact Nat.le_refl _⟩, ⟨by repeat (first | (with_reducible first | exact HB.out | apply below_alloc | apply pw_below_drewN | apply below_drew1) | exact HB.out)⟩⟩
                · rw [if_neg c21] at H
                  have c21b0 : ((bt t719 0) == 48) = false := beq_eq_false_iff_ne.mpr c21
                  have c21b1 : ((bt t719 0) != 48) = true := bne_iff_ne.mpr c21
                  have H' := Aside0.mk H
                  clear H
                  obtain ⟨Ao23, co23, eo23⟩ := Kd.R_slice HO724.out
                  subst eo23
                  go_wp2_with (first | (go_at_call 19; (with_reducible refine (driftnetref01_Eq.calls k _ _ t716 _ _ t721 true _ ?side1 ?side2 ?side3 ?side4 A16.out).mono ?_); (case side1 => repeat (first | exact (Kd.R_reads' HO718.out).2.2 | (with_reducible refine Kd.C_alloc ?_ _) | (with_reducible refine Kd.C_drewN ?_ _) | (with_reducible refine Kd.C_drew ?_))); (case side2 => exact (Kd.R_reads' HO718.out).2.1); (case side3 => repeat (first | exact (Kd.R_reads' HO724.out).2.2 | (with_reducible refine Kd.C_alloc ?_ _) | (with_reducible refine Kd.C_drewN ?_ _) | (with_reducible refine Kd.C_drew ?_))); (case side4 => exact (Kd.R_reads' HO724.out).2.1); rintro e w' ⟨rfl, ⟨nd, rfl⟩⟩; have p20 : 0 ≤ (0 : Int) := (by omega); have q20 : 0 < t719.size := (by have : (0 : Int) < (t719.size : Int) := of_decide_eq_true (by first | (with_reducible assumption) | assumption); omega); have hx20 : ∀ h : 0 < t719.size, ((t719[0]'h).toNat : Int) = bt t719 0 := bt_at t719 0; clear p20; have qi20 : (0 < (t719.size : Int)) = True := eq_true (of_decide_eq_true (by first | (with_reducible assumption) | assumption)); replace q20 := eq_true q20))
                  go_meet
                  case rel => exact ⟨_, (false), (by first | rfl | (simp; done) | (simp [*]; done)), H', ⟨by first | omega | exact Nat.le_refl _⟩, ⟨by repeat (first | (with_reducible first | exact HB.out | apply below_alloc | apply pw_below_drewN | apply below_drew1) | exact HB.out)⟩⟩
              · rw [if_neg c19] at H
                exact absurd H (by simp)
          · replace c17 := Bool.eq_false_iff.mpr c17
            subst c17
            have H1 : (none) = some r := by rw [if_neg (show ¬ (false = true) by decide)] at H; exact H
            clear H
            have H := H1
            clear H1
            exact absurd H (by simp)
        · rw [if_neg c15] at H
          exact absurd H (by simp)
      · rw [if_neg c14] at H
        exact absurd H (by simp)
    case rest =>
      clear HC8
      try clear c1
      try clear c2
      try clear p2
      try clear q2
      try clear hx2
      try clear qi2
      try clear c4
      try clear c8
      try clear c14
      try clear c14b0
      try clear c14b1
      try clear c15
      try clear c15b0
      try clear c15b1
      try clear c17
      try clear c18
      try clear c18b0
      try clear c18b1
      try clear c19
      try clear c19b0
      try clear c19b1
      try clear p20
      try clear q20
      try clear hx20
      try clear qi20
      try clear c21
      try clear c21b0
      try clear c21b1
      try clear c23
      try clear p20
      try clear q20
      obtain ⟨kq, x58_7, rfl, HA, HJ7, HB⟩ := hcut
      cases kq with
      | zero => exact absurd HA.out (by simp [driftnetlaw01_NatBack.j0])
      | succ kj7 =>
        have H := HA.out
        clear HA
        simp only [driftnetlaw01_NatBack.j0] at H
        by_cases c24 : x58_7 = true
        · subst c24
          have H1 : (none) = some r := by rw [if_pos rfl] at H; exact H
          clear H
          have H := H1
          clear H1
          exact absurd H (by simp)
        · replace c24 := Bool.eq_false_iff.mpr c24
          subst c24
          have H1 : (driftnetlaw01_NatBack.l0 kj7 l1 (⟨#[]⟩ : ByteArray) 0) = some r := by rw [if_neg (show ¬ (false = true) by decide)] at H; exact H
          clear H
          have H := H1
          clear H1
          have HC25 := Aside0.mk H
          clear H
          go_upto_block 0 with (fail)
          go_cut [10] (fun v10 wc => ∃ (kq : Nat) (x10_24 : ByteArray), v10 = .string x10_24 ∧ Aside0 (driftnetlaw01_NatBack.j2 kq x10_24 = some r) ∧ Aside0 (kq ≤ kj7) ∧ Aside0 (Below w.heap.size w wc))
          case first =>
            have H := HC25.out
            clear HC25
            have H' := Aside0.mk H
            clear H
            go_wp2
            go_loopg [10, 11] kj7 (fun kq v10 v11 w' => ∃ (x10_2 : ByteArray) (x11_2 : Int), v10 = .string x10_2 ∧ v11 = .int .i64 x11_2 ∧ Aside0 (driftnetlaw01_NatBack.l0 kq l1 x10_2 x11_2 = some r) ∧ Aside0 (kq ≤ kj7) ∧ Aside0 (Below w.heap.size w w'))
            case atStart => exact ⟨((⟨#[]⟩ : ByteArray)), (0), (by first | rfl | (simp; done) | (simp [*]; done)), (by first | rfl | (simp; done) | (simp [*]; done)), H', ⟨Nat.le_refl _⟩, ⟨by repeat (first | (with_reducible first | exact HB.out | apply below_alloc | apply pw_below_drewN | apply below_drew1) | exact HB.out)⟩⟩
            case round =>
              clear H'
              try clear c1
              try clear c2
              try clear p2
              try clear q2
              try clear hx2
              try clear qi2
              try clear c4
              try clear c8
              try clear c14
              try clear c14b0
              try clear c14b1
              try clear c15
              try clear c15b0
              try clear c15b1
              try clear c17
              try clear c18
              try clear c18b0
              try clear c18b1
              try clear c19
              try clear c19b0
              try clear c19b1
              try clear p20
              try clear q20
              try clear hx20
              try clear qi20
              try clear c21
              try clear c21b0
              try clear c21b1
              try clear c23
              try clear c24
              try clear c25
              try clear p2
              try clear p20
              try clear q2
              try clear q20
              obtain ⟨x10_2, x11_2, rfl, rfl, HA, HK2, HB⟩ := hrel
              cases gk with
              | zero => exact absurd HA.out (by simp [driftnetlaw01_NatBack.l0])
              | succ k2 =>
                have H := HA.out
                clear HA
                simp only [driftnetlaw01_NatBack.l0] at H
                by_cases c26 : x11_2 < (l1.length : Int)
                · rw [if_pos c26] at H
                  have c26b0 : decide (x11_2 < (l1.length : Int)) = true := decide_eq_true c26
                  clear c26
                  (first | rw [c26b0] | rw [c26b1] | (simp only [i64_w, i32_w]; rw [c26b0]) | skip)
                  by_cases c27 : x11_2 < 300
                  · rw [if_pos c27] at H
                    have c27b0 : decide (x11_2 < 300) = true := decide_eq_true c27
                    clear c27
                    by_cases c28 : 0 ≤ x11_2
                    · rw [if_pos c28] at H
                      have c28b0 : decide (0 ≤ x11_2) = true := decide_eq_true c28
                      clear c28
                      obtain ⟨y727, hy727⟩ : ∃ y_ : List Int, y_ = (([(48 + (Int.tmod (rd l1 x11_2) 10)) % 256] : List Int)) := ⟨_, rfl⟩
                      replace H : (if x10_2.size + (strOfNums y727).size ≤ 9223372036854775807 then (driftnetlaw01_NatBack.l0 k2 l1 (x10_2 ++ (strOfNums y727)) (wrap64 (x11_2 + 1))) else (none)) = some r := by first | (rw [hy727]; with_reducible exact H) | (have H2_ := (Option.bind_some _ _).symm.trans H; rw [hy727]; with_reducible exact H2_) | (have H2_ := (Option.bind_some _ _).symm.trans H; with_reducible exact H2_) | with_reducible exact H | (rw [hy727]; exact H) | exact H
                      have Ny727 := Aside0.mk hy727
                      clear hy727
                      by_cases c29 : x10_2.size + (strOfNums y727).size ≤ 9223372036854775807
                      · rw [if_pos c29] at H
                        have c29b0 := eq_true c29
                        have c29b1 : decide (x10_2.size + (strOfNums y727).size ≤ 9223372036854775807) = true := decide_eq_true c29
                        try have c29b2 : (9223372036854775807 < x10_2.size + (strOfNums y727).size) = False := eq_false (Nat.not_lt.2 c29)
                        have H' := Aside0.mk H
                        clear H
                        have p726 : 0 ≤ (x11_2 : Int) := of_decide_eq_true (by first | (with_reducible assumption) | assumption)
                        have q726 : x11_2 < (l1.length : Int) := of_decide_eq_true (by first | (with_reducible assumption) | assumption)
                        obtain ⟨ad726, e726, hx726_0⟩ := Kd.at_int HR1.out x11_2 p726 q726
                        cases e726
                        replace hx726_0 := (HB.out.cell (World.block_lt_of_cell? w _ hx726_0)).trans hx726_0
                        replace p726 := eq_true p726
                        replace q726 := eq_true q726
                        go_wp2_with (first | ((with_reducible refine gate_dst (N := 76) rfl ?_); refine Kd.R_lit (Kd.int .u8) _ 5 ?hg (N := 76) ?hd (xs := ([(48 + (Int.tmod (rd l1 x11_2) 10)) % 256] : List Int)) (inner := [.int .u8 ((48 + (Int.tmod (rd l1 x11_2) 10)) % 256)]) (ok := fun _ => True) (okp := fun _ => True) ?hr ?hp (fun _ hk => hk) trivial (Below.refl _ _) (Nat.le_refl _) (by simp) ?_; (case hd => rfl); (case hg => rfl); (case hr => first | (go_simp; done) | (go_simp; rfl)); (case hp => exact (Reps.one (show Kd.M (Kd.int .u8) _ _ _ ((48 + (Int.tmod (rd l1 x11_2) 10)) % 256) [.int .u8 ((48 + (Int.tmod (rd l1 x11_2) 10)) % 256)] from rfl) (Reps.none _ _))); intro v728 w30 ho31 hb hg_ hnew_; clear hg_ hnew_; (first | rw [← Ny727.out] at ho31 | (simp only [Int.reduceToNat] at ho31; rw [← Ny727.out] at ho31)); have n0_ := Aside0.mk (Kd.R_lower ho31 (below_size (by repeat (first | (with_reducible first | exact HB.out | apply below_alloc | apply pw_below_drewN | apply below_drew1) | exact HB.out)))); have n1_ := Aside0.mk (below_step (by repeat (first | (with_reducible first | exact HB.out | apply below_alloc | apply pw_below_drewN | apply below_drew1) | exact HB.out)) hb); clear HB; have HO729 := n0_; have HB := n1_; clear n0_ n1_; clear hb ho31; have hcv32 := own_string (P := Tryd.prog) Tryd.underlying39 Tryd.underlying5 Tryd.underlying9 (Kd.own_of_R HO729.out)))
                        go_roundg k2
                        case measure => have := HJ7.out; have := HK2.out; omega
                        case rel => exact ⟨(x10_2 ++ (strOfNums y727)), (wrap64 (x11_2 + 1)), (by first | rfl | (simp; done) | (simp [*]; done)), (by first | rfl | (simp; done) | (simp [*]; done)), H', ⟨by have := HJ7.out; have := HK2.out; omega⟩, ⟨by repeat (first | (with_reducible first | exact HB.out | apply below_alloc | apply pw_below_drewN | apply below_drew1) | exact HB.out)⟩⟩
                      · rw [if_neg c29] at H
                        exact absurd H (by simp)
                    · rw [if_neg c28] at H
                      exact absurd H (by simp)
                  · rw [if_neg c27] at H
                    have c27b0 : decide (x11_2 < 300) = false := decide_eq_false c27
                    clear c27
                    have H' := Aside0.mk H
                    clear H
                    go_wp2
                    go_meet
                    case rel => exact ⟨_, (x10_2), (by first | rfl | (simp; done) | (simp [*]; done)), H', ⟨by have := HJ7.out; have := HK2.out; first | omega | exact Nat.le_refl _⟩, ⟨by repeat (first | (with_reducible first | exact HB.out | apply below_alloc | apply pw_below_drewN | apply below_drew1) | exact HB.out)⟩⟩
                · rw [if_neg c26] at H
                  have c26b0 : decide (x11_2 < (l1.length : Int)) = false := decide_eq_false c26
                  clear c26
                  (first | rw [c26b0] | rw [c26b1] | (simp only [i64_w, i32_w]; rw [c26b0]) | skip)
                  have H' := Aside0.mk H
                  clear H
                  go_wp2
                  go_meet
                  case rel => exact ⟨_, (x10_2), (by first | rfl | (simp; done) | (simp [*]; done)), H', ⟨by have := HJ7.out; have := HK2.out; first | omega | exact Nat.le_refl _⟩, ⟨by repeat (first | (with_reducible first | exact HB.out | apply below_alloc | apply pw_below_drewN | apply below_drew1) | exact HB.out)⟩⟩
          case rest =>
            clear HC25
            try clear c1
            try clear c2
            try clear p2
            try clear q2
            try clear hx2
            try clear qi2
            try clear hcv3
            try clear c4
            try clear p6
            try clear p7
            try clear q7
            try clear hx7
            try clear c8
            try clear c14
            try clear c14b0
            try clear c14b1
            try clear c15
            try clear c15b0
            try clear c15b1
            try clear c17
            try clear c18
            try clear c18b0
            try clear c18b1
            try clear c19
            try clear c19b0
            try clear c19b1
            try clear p20
            try clear q20
            try clear hx20
            try clear qi20
            try clear c21
            try clear c21b0
            try clear c21b1
            try clear c23
            try clear c24
            try clear c25
            try clear c26
            try clear c26b0
            try clear c27
            try clear c27b0
            try clear c28
            try clear c28b0
            try clear c29
            try clear c29b0
            try clear c29b1
            try clear c29b2
            try clear hcv32
            try clear hx726_0
            try clear p2
            try clear p20
            try clear p726
            try clear q2
            try clear q20
            try clear q726
            obtain ⟨kq, x10_24, rfl, HA, HJ24, HB⟩ := hcut
            cases kq with
            | zero => exact absurd HA.out (by simp [driftnetlaw01_NatBack.j2])
            | succ kj24 =>
              have H := HA.out
              clear HA
              simp only [driftnetlaw01_NatBack.j2] at H
              replace H := Option.bind_eq_some_iff.mp H
              obtain ⟨t730, A330, H⟩ := H
              replace H : (if t730.toList = ([] : List UInt8) then (some true) else ((nat_Read.f kj24 t730).bind fun bt731 => ((nat_Text.f kj24 bt731.1).bind fun bt735 => (if t730.size + 1 ≤ 9223372036854775807 then ((nat_Read.f kj24 (t730 ++ (⟨#[48]⟩ : ByteArray))).bind fun bt737 => ((nat_Of.f kj24 10).bind fun t741 => ((nat_Mul.f kj24 bt731.1 t741).bind fun bt744 => (if bt731.2 = 0 then (if bt735.2 = 0 then (if bt735.1.toList = t730.toList then (if bt737.2 = 0 then (if bt744.2 = 0 then ((driftnetref01_Eq.f kj24 bt737.1 bt744.1).bind fun t748 => (some t748)) else (none)) else (none)) else (none)) else (none)) else (none))))) else (none))))) = some r := H
              have A33 := Aside0.mk A330
              clear A330
              by_cases c34 : t730.toList = ([] : List UInt8)
              · rw [if_pos c34] at H
                have c34b0 : (t730.toList == ([] : List UInt8)) = true := beq_iff_eq.mpr c34
                have c34b1 : (t730.toList != ([] : List UInt8)) = false := bne_eq_false_iff_eq.mpr c34
                clear c34
                obtain rfl := Option.some.inj H
                go_wp2_with (first | ((with_reducible refine gate_callee (f := 30) rfl ?_); refine goesL_ (some 80) rfl rfl Tryd.func30 (by kernel_rfl) rfl #[.string x10_24, .string (⟨#[48]⟩ : ByteArray)] rfl (by (try simp only [List.map_toArray, List.map_cons, List.map_nil]); first | done | rfl | (simp only [List.length_drop, List.length_take]; rfl) | (simp [Act.eval, IntKind.wrap, IntKind.bits, IntKind.signed]; done) | (simp [Act.eval, IntKind.wrap, IntKind.bits, IntKind.signed]; omega)) ?_; (with_reducible refine (strings_TrimLeft.calls x10_24 (⟨#[48]⟩ : ByteArray) t730 _ A33.out).mono ?_); rintro e w35 ⟨rfl, hb⟩; refine ⟨_, rfl, ?_⟩; have n0_ := Aside0.mk (below_step (by repeat (first | (with_reducible first | exact HB.out | apply below_alloc | apply pw_below_drewN | apply below_drew1) | exact HB.out)) hb); clear HB; have HB := n0_; clear n0_; (try clear hb); (try clear hb2); (try clear hk); (try clear hi)))
                go_ret
                exact ⟨by first | rfl | (simp [errW_none, errW_some] <;> rfl) | (simp [*, errW_none, errW_some] <;> rfl), by repeat (first | (with_reducible first | exact HB.out | apply below_alloc | apply pw_below_drewN | apply below_drew1) | exact HB.out)⟩
              · rw [if_neg c34] at H
                have c34b0 : (t730.toList == ([] : List UInt8)) = false := beq_eq_false_iff_ne.mpr c34
                have c34b1 : (t730.toList != ([] : List UInt8)) = true := bne_iff_ne.mpr c34
                replace H := Option.bind_eq_some_iff.mp H
                obtain ⟨⟨t731, t732⟩, A360, H⟩ := H
                replace H : ((nat_Text.f kj24 t731).bind fun bt735 => (if t730.size + 1 ≤ 9223372036854775807 then ((nat_Read.f kj24 (t730 ++ (⟨#[48]⟩ : ByteArray))).bind fun bt737 => ((nat_Of.f kj24 10).bind fun t741 => ((nat_Mul.f kj24 t731 t741).bind fun bt744 => (if t732 = 0 then (if bt735.2 = 0 then (if bt735.1.toList = t730.toList then (if bt737.2 = 0 then (if bt744.2 = 0 then ((driftnetref01_Eq.f kj24 bt737.1 bt744.1).bind fun t748 => (some t748)) else (none)) else (none)) else (none)) else (none)) else (none))))) else (none))) = some r := H
                have A36 := Aside0.mk A360
                clear A360
                replace H := Option.bind_eq_some_iff.mp H
                obtain ⟨⟨t735, t736⟩, A370, H⟩ := H
                replace H : (if t730.size + 1 ≤ 9223372036854775807 then ((nat_Read.f kj24 (t730 ++ (⟨#[48]⟩ : ByteArray))).bind fun bt737 => ((nat_Of.f kj24 10).bind fun t741 => ((nat_Mul.f kj24 t731 t741).bind fun bt744 => (if t732 = 0 then (if t736 = 0 then (if t735.toList = t730.toList then (if bt737.2 = 0 then (if bt744.2 = 0 then ((driftnetref01_Eq.f kj24 bt737.1 bt744.1).bind fun t748 => (some t748)) else (none)) else (none)) else (none)) else (none)) else (none))))) else (none)) = some r := H
                have A37 := Aside0.mk A370
                clear A370
                by_cases c38 : t730.size + 1 ≤ 9223372036854775807
                · rw [if_pos c38] at H
                  have c38b0 := eq_true c38
                  have c38b1 : decide (t730.size + 1 ≤ 9223372036854775807) = true := decide_eq_true c38
                  try have c38b2 : (9223372036854775807 < t730.size + 1) = False := eq_false (Nat.not_lt.2 c38)
                  replace H := Option.bind_eq_some_iff.mp H
                  obtain ⟨⟨t737, t738⟩, A390, H⟩ := H
                  replace H : ((nat_Of.f kj24 10).bind fun t741 => ((nat_Mul.f kj24 t731 t741).bind fun bt744 => (if t732 = 0 then (if t736 = 0 then (if t735.toList = t730.toList then (if t738 = 0 then (if bt744.2 = 0 then ((driftnetref01_Eq.f kj24 t737 bt744.1).bind fun t748 => (some t748)) else (none)) else (none)) else (none)) else (none)) else (none)))) = some r := H
                  have A39 := Aside0.mk A390
                  clear A390
                  replace H := Option.bind_eq_some_iff.mp H
                  obtain ⟨t741, A400, H⟩ := H
                  replace H : ((nat_Mul.f kj24 t731 t741).bind fun bt744 => (if t732 = 0 then (if t736 = 0 then (if t735.toList = t730.toList then (if t738 = 0 then (if bt744.2 = 0 then ((driftnetref01_Eq.f kj24 t737 bt744.1).bind fun t748 => (some t748)) else (none)) else (none)) else (none)) else (none)) else (none))) = some r := H
                  have A40 := Aside0.mk A400
                  clear A400
                  replace H := Option.bind_eq_some_iff.mp H
                  obtain ⟨⟨t744, t745⟩, A410, H⟩ := H
                  replace H : (if t732 = 0 then (if t736 = 0 then (if t735.toList = t730.toList then (if t738 = 0 then (if t745 = 0 then ((driftnetref01_Eq.f kj24 t737 t744).bind fun t748 => (some t748)) else (none)) else (none)) else (none)) else (none)) else (none)) = some r := H
                  have A41 := Aside0.mk A410
                  clear A410
                  by_cases c42 : t732 = 0
                  · rw [if_pos c42] at H
                    have c42b0 : (t732 == 0) = true := beq_iff_eq.mpr c42
                    have c42b1 : (t732 != 0) = false := bne_eq_false_iff_eq.mpr c42
                    clear c42
                    by_cases c43 : t736 = 0
                    · rw [if_pos c43] at H
                      have c43b0 : (t736 == 0) = true := beq_iff_eq.mpr c43
                      have c43b1 : (t736 != 0) = false := bne_eq_false_iff_eq.mpr c43
                      clear c43
                      by_cases c44 : t735.toList = t730.toList
                      · rw [if_pos c44] at H
                        have c44b0 : (t735.toList == t730.toList) = true := beq_iff_eq.mpr c44
                        have c44b1 : (t735.toList != t730.toList) = false := bne_eq_false_iff_eq.mpr c44
                        clear c44
                        by_cases c45 : t738 = 0
                        · rw [if_pos c45] at H
                          have c45b0 : (t738 == 0) = true := beq_iff_eq.mpr c45
                          have c45b1 : (t738 != 0) = false := bne_eq_false_iff_eq.mpr c45
                          clear c45
                          by_cases c46 : t745 = 0
                          · rw [if_pos c46] at H
                            have c46b0 : (t745 == 0) = true := beq_iff_eq.mpr c46
                            have c46b1 : (t745 != 0) = false := bne_eq_false_iff_eq.mpr c46
                            clear c46
                            replace H := Option.bind_eq_some_iff.mp H
                            obtain ⟨t748, A470, H⟩ := H
                            replace H : (some t748) = some r := H
                            have A47 := Aside0.mk A470
                            clear A470
                            obtain rfl := Option.some.inj H
                            go_wp2_with (first | ((with_reducible refine gate_callee (f := 30) rfl ?_); refine goesL_ (some 80) rfl rfl Tryd.func30 (by kernel_rfl) rfl #[.string x10_24, .string (⟨#[48]⟩ : ByteArray)] rfl (by (try simp only [List.map_toArray, List.map_cons, List.map_nil]); first | done | rfl | (simp only [List.length_drop, List.length_take]; rfl) | (simp [Act.eval, IntKind.wrap, IntKind.bits, IntKind.signed]; done) | (simp [Act.eval, IntKind.wrap, IntKind.bits, IntKind.signed]; omega)) ?_; (with_reducible refine (strings_TrimLeft.calls x10_24 (⟨#[48]⟩ : ByteArray) t730 _ A33.out).mono ?_); rintro e w48 ⟨rfl, hb⟩; refine ⟨_, rfl, ?_⟩; have n0_ := Aside0.mk (below_step (by repeat (first | (with_reducible first | exact HB.out | apply below_alloc | apply pw_below_drewN | apply below_drew1) | exact HB.out)) hb); clear HB; have HB := n0_; clear n0_; (try clear hb); (try clear hb2); (try clear hk); (try clear hi)) | ((with_reducible refine gate_callee (f := 23) rfl ?_); refine goesL_ (some 85) rfl rfl Tryd.func23 (by kernel_rfl) rfl #[.string t730] rfl (by (try simp only [List.map_toArray, List.map_cons, List.map_nil]); first | done | rfl | (simp only [List.length_drop, List.length_take]; rfl) | (simp [Act.eval, IntKind.wrap, IntKind.bits, IntKind.signed]; done) | (simp [Act.eval, IntKind.wrap, IntKind.bits, IntKind.signed]; omega)) ?_; (with_reducible refine (nat_Read.calls kj24 t730 t731 t732 _ A36.out).mono ?_); rintro e w49 ⟨v733, rfl, ho0, hb⟩; refine ⟨_, rfl, ?_⟩; have n0_ := Aside0.mk (Kd.R_lower ho0 (below_size (by repeat (first | (with_reducible first | exact HB.out | apply below_alloc | apply pw_below_drewN | apply below_drew1) | exact HB.out)))); have n1_ := Aside0.mk (below_step (by repeat (first | (with_reducible first | exact HB.out | apply below_alloc | apply pw_below_drewN | apply below_drew1) | exact HB.out)) hb); clear HB; have HO734 := n0_; have HB := n1_; clear n0_ n1_; (try clear hb); (try clear hb2); (try clear hk); (try clear hi); (try clear ho0); obtain ⟨Ao50, co50, eo50⟩ := Kd.R_slice HO734.out; subst eo50) | ((with_reducible refine gate_callee (f := 21) rfl ?_); refine goesL_ (some 90) rfl rfl Tryd.func21 (by kernel_rfl) rfl #[.slice Ao50 t731.length co50] rfl (by (try simp only [List.map_toArray, List.map_cons, List.map_nil]); first | done | rfl | (simp only [List.length_drop, List.length_take]; rfl) | (simp [Act.eval, IntKind.wrap, IntKind.bits, IntKind.signed]; done) | (simp [Act.eval, IntKind.wrap, IntKind.bits, IntKind.signed]; omega)) ?_; (with_reducible refine (nat_Text.calls kj24 (fun k_ => some k_ = (.slice Ao50 t731.length co50 : Value).ownBlock) _ _ t731 t735 t736 _ ?side1 A37.out).mono ?_); (case side1 => exact Kd.R_V (Kd.R_tight rfl (HO734.out))); rintro e w51 ⟨rfl, hb⟩; refine ⟨_, rfl, ?_⟩; have n0_ := Aside0.mk (Kd.R_below (by (with_reducible repeat (first | apply Kd.R_alloc | apply Kd.R_drewN | apply Kd.R_drew)); exact HO734.out) hb); have n1_ := Aside0.mk (below_step (by repeat (first | (with_reducible first | exact HB.out | apply below_alloc | apply pw_below_drewN | apply below_drew1) | exact HB.out)) hb); clear HO734; clear HB; have HO734 := n0_; have HB := n1_; clear n0_ n1_; (try clear hb); (try clear hb2); (try clear hk); (try clear hi)) | ((with_reducible refine gate_callee (f := 23) rfl ?_); refine goesL_ (some 96) rfl rfl Tryd.func23 (by kernel_rfl) rfl #[.string (t730 ++ (⟨#[48]⟩ : ByteArray))] rfl (by (try simp only [List.map_toArray, List.map_cons, List.map_nil]); first | done | rfl | (simp only [List.length_drop, List.length_take]; rfl) | (simp [Act.eval, IntKind.wrap, IntKind.bits, IntKind.signed]; done) | (simp [Act.eval, IntKind.wrap, IntKind.bits, IntKind.signed]; omega)) ?_; (with_reducible refine (nat_Read.calls kj24 (t730 ++ (⟨#[48]⟩ : ByteArray)) t737 t738 _ A39.out).mono ?_); rintro e w52 ⟨v739, rfl, ho0, hb⟩; refine ⟨_, rfl, ?_⟩; have n0_ := Aside0.mk (Kd.R_elder' (by (with_reducible repeat (first | apply Kd.R_alloc | apply Kd.R_drewN | apply Kd.R_drew)); exact HO734.out) (Kd.R_base ho0) hb); have n1_ := Aside0.mk (Kd.R_lower (Kd.R_new' ho0 (Kd.R_lt (by (with_reducible repeat (first | apply Kd.R_alloc | apply Kd.R_drewN | apply Kd.R_drew)); exact HO734.out))) (below_size (by repeat (first | (with_reducible first | exact HB.out | apply below_alloc | apply pw_below_drewN | apply below_drew1) | exact HB.out)))); have n2_ := Aside0.mk (below_step (by repeat (first | (with_reducible first | exact HB.out | apply below_alloc | apply pw_below_drewN | apply below_drew1) | exact HB.out)) hb); clear HO734; clear HB; have HO734 := n0_; have HO740 := n1_; have HB := n2_; clear n0_ n1_ n2_; (try clear hb); (try clear hb2); (try clear hk); (try clear hi); (try clear ho0)) | ((with_reducible refine gate_callee (f := 31) rfl ?_); refine goesL_ (some 101) rfl rfl Tryd.func31 (by kernel_rfl) rfl #[.int .u64 10] rfl (by (try simp only [List.map_toArray, List.map_cons, List.map_nil]); first | done | rfl | (simp only [List.length_drop, List.length_take]; rfl) | (simp [Act.eval, IntKind.wrap, IntKind.bits, IntKind.signed]; done) | (simp [Act.eval, IntKind.wrap, IntKind.bits, IntKind.signed]; omega)) ?_; (with_reducible refine (nat_Of.calls kj24 10 t741 _ A40.out).mono ?_); rintro e w53 ⟨v742, rfl, ho0, hb⟩; refine ⟨_, rfl, ?_⟩; have n0_ := Aside0.mk (Kd.R_elder' (by (with_reducible repeat (first | apply Kd.R_alloc | apply Kd.R_drewN | apply Kd.R_drew)); exact HO734.out) (Kd.R_base ho0) hb); have n1_ := Aside0.mk (Kd.R_elder' (by (with_reducible repeat (first | apply Kd.R_alloc | apply Kd.R_drewN | apply Kd.R_drew)); exact HO740.out) (Kd.R_base ho0) hb); have n2_ := Aside0.mk (Kd.R_lower (Kd.R_new' (Kd.R_new' ho0 (Kd.R_lt (by (with_reducible repeat (first | apply Kd.R_alloc | apply Kd.R_drewN | apply Kd.R_drew)); exact HO734.out))) (Kd.R_lt (by (with_reducible repeat (first | apply Kd.R_alloc | apply Kd.R_drewN | apply Kd.R_drew)); exact HO740.out))) (below_size (by repeat (first | (with_reducible first | exact HB.out | apply below_alloc | apply pw_below_drewN | apply below_drew1) | exact HB.out)))); have n3_ := Aside0.mk (below_step (by repeat (first | (with_reducible first | exact HB.out | apply below_alloc | apply pw_below_drewN | apply below_drew1) | exact HB.out)) hb); clear HO734; clear HO740; clear HB; have HO734 := n0_; have HO740 := n1_; have HO743 := n2_; have HB := n3_; clear n0_ n1_ n2_ n3_; (try clear hb); (try clear hb2); (try clear hk); (try clear hi); (try clear ho0); obtain ⟨Ao54, co54, eo54⟩ := Kd.R_slice HO743.out; subst eo54) | ((with_reducible refine gate_callee (f := 28) rfl ?_); refine goesL_ (some 102) rfl rfl Tryd.func28 (by kernel_rfl) rfl #[.slice Ao50 t731.length co50, .slice Ao54 t741.length co54] rfl (by (try simp only [List.map_toArray, List.map_cons, List.map_nil]); first | done | rfl | (simp only [List.length_drop, List.length_take]; rfl) | (simp [Act.eval, IntKind.wrap, IntKind.bits, IntKind.signed]; done) | (simp [Act.eval, IntKind.wrap, IntKind.bits, IntKind.signed]; omega)) ?_; (with_reducible refine (nat_Mul.calls kj24 _ _ t731 _ _ t741 t744 t745 _ ?side1 ?side2 ?side3 ?side4 A41.out).mono ?_); (case side1 => repeat (first | exact (Kd.R_reads' HO734.out).2.2 | (with_reducible refine Kd.C_alloc ?_ _) | (with_reducible refine Kd.C_drewN ?_ _) | (with_reducible refine Kd.C_drew ?_))); (case side2 => exact (Kd.R_reads' HO734.out).2.1); (case side3 => repeat (first | exact (Kd.R_reads' HO743.out).2.2 | (with_reducible refine Kd.C_alloc ?_ _) | (with_reducible refine Kd.C_drewN ?_ _) | (with_reducible refine Kd.C_drew ?_))); (case side4 => exact (Kd.R_reads' HO743.out).2.1); rintro e w55 ⟨v746, rfl, ho0, hb⟩; refine ⟨_, rfl, ?_⟩; have n0_ := Aside0.mk (Kd.R_elder' (by (with_reducible repeat (first | apply Kd.R_alloc | apply Kd.R_drewN | apply Kd.R_drew)); exact HO734.out) (Kd.R_base ho0) hb); have n1_ := Aside0.mk (Kd.R_elder' (by (with_reducible repeat (first | apply Kd.R_alloc | apply Kd.R_drewN | apply Kd.R_drew)); exact HO740.out) (Kd.R_base ho0) hb); have n2_ := Aside0.mk (Kd.R_elder' (by (with_reducible repeat (first | apply Kd.R_alloc | apply Kd.R_drewN | apply Kd.R_drew)); exact HO743.out) (Kd.R_base ho0) hb); have n3_ := Aside0.mk (Kd.R_lower (Kd.R_new' (Kd.R_new' (Kd.R_new' ho0 (Kd.R_lt (by (with_reducible repeat (first | apply Kd.R_alloc | apply Kd.R_drewN | apply Kd.R_drew)); exact HO734.out))) (Kd.R_lt (by (with_reducible repeat (first | apply Kd.R_alloc | apply Kd.R_drewN | apply Kd.R_drew)); exact HO740.out))) (Kd.R_lt (by (with_reducible repeat (first | apply Kd.R_alloc | apply Kd.R_drewN | apply Kd.R_drew)); exact HO743.out))) (below_size (by repeat (first | (with_reducible first | exact HB.out | apply below_alloc | apply pw_below_drewN | apply below_drew1) | exact HB.out)))); have n4_ := Aside0.mk (below_step (by repeat (first | (with_reducible first | exact HB.out | apply below_alloc | apply pw_below_drewN | apply below_drew1) | exact HB.out)) hb); clear HO734; clear HO740; clear HO743; clear HB; have HO734 := n0_; have HO740 := n1_; have HO743 := n2_; have HO747 := n3_; have HB := n4_; clear n0_ n1_ n2_ n3_ n4_; (try clear hb); (try clear hb2); (try clear hk); (try clear hi); (try clear ho0); obtain ⟨Ao56, co56, eo56⟩ := Kd.R_slice HO740.out; subst eo56; obtain ⟨Ao57, co57, eo57⟩ := Kd.R_slice HO747.out; subst eo57) | (go_at_call 19; (with_reducible refine (driftnetref01_Eq.calls kj24 _ _ t737 _ _ t744 t748 _ ?side1 ?side2 ?side3 ?side4 A47.out).mono ?_); (case side1 => repeat (first | exact (Kd.R_reads' HO740.out).2.2 | (with_reducible refine Kd.C_alloc ?_ _) | (with_reducible refine Kd.C_drewN ?_ _) | (with_reducible refine Kd.C_drew ?_))); (case side2 => exact (Kd.R_reads' HO740.out).2.1); (case side3 => repeat (first | exact (Kd.R_reads' HO747.out).2.2 | (with_reducible refine Kd.C_alloc ?_ _) | (with_reducible refine Kd.C_drewN ?_ _) | (with_reducible refine Kd.C_drew ?_))); (case side4 => exact (Kd.R_reads' HO747.out).2.1); rintro e w' ⟨rfl, ⟨nd, rfl⟩⟩))
                            go_ret
                            exact ⟨by first | rfl | (simp [errW_none, errW_some] <;> rfl) | (simp [*, errW_none, errW_some] <;> rfl), by repeat (first | (with_reducible first | exact HB.out | apply below_alloc | apply pw_below_drewN | apply below_drew1) | exact HB.out)⟩
                          · rw [if_neg c46] at H
                            exact absurd H (by simp)
                        · rw [if_neg c45] at H
                          exact absurd H (by simp)
                      · rw [if_neg c44] at H
                        exact absurd H (by simp)
                    · rw [if_neg c43] at H
                      exact absurd H (by simp)
                  · rw [if_neg c42] at H
                    exact absurd H (by simp)
                · rw [if_neg c38] at H
                  exact absurd H (by simp)
  · replace c4 := Bool.eq_false_iff.mpr c4
    subst c4
    have H1 : (none) = some r := by rw [if_neg (show ¬ (false = true) by decide)] at H; exact H
    clear H
    have H := H1
    clear H1
    exact absurd H (by simp)

/-- THE ONE PURE STATEMENT of driftnetlaw01_NatBack: yours. -/
def driftnetlaw01_NatBack.Pure : Prop := ∀ (l0 : List Int) (l1 : List Int), l0.length ≤ maxLen → l0.length * 4 ≤ 140737488351232 → (∀ x ∈ l0, (Lit.int .u32 x).wf = true) → l1.length ≤ maxLen → l1.length * 1 ≤ 140737488351232 → (∀ x ∈ l1, (Lit.int .u8 x).wf = true) → ∃ k, driftnetlaw01_NatBack.f k l0 l1 = some true
theorem driftnetlaw01_NatBack.walk (P : driftnetlaw01_NatBack.Pure) (a0 : Option Addr) (len0 cap0 : Nat) (z0 : List Int) (a1 : Option Addr) (len1 cap1 : Nat) (z1 : List Int) (w : World) (w0 : (a0 = none ∧ len0 = 0 ∧ cap0 = 0 ∧ z0 = []) ∨ ∃ x, a0 = some x ∧ len0 ≤ cap0 ∧ cap0 ≤ maxLen ∧ z0.length = cap0 ∧ (∀ i, i < z0.length → w.cell? (x.add i) = some (.int .u32 (z0.getD i 0))) ∧ ∀ n ∈ z0, (Lit.int .u32 n).wf = true) (y0 : len0 * 4 ≤ 140737488351232) (w1 : (a1 = none ∧ len1 = 0 ∧ cap1 = 0 ∧ z1 = []) ∨ ∃ x, a1 = some x ∧ len1 ≤ cap1 ∧ cap1 ≤ maxLen ∧ z1.length = cap1 ∧ (∀ i, i < z1.length → w.cell? (x.add i) = some (.int .u8 (z1.getD i 0))) ∧ ∀ n ∈ z1, (Lit.int .u8 n).wf = true) (y1 : len1 * 1 ≤ 140737488351232) :
    Calls Tryd.prog 8 #[.slice a0 len0 cap0, .slice a1 len1 cap1] w fun e w' => e = .returned (.bool true) ∧ Below w.heap.size w w' := by
  obtain ⟨l0, rfl, hr0, hm0, hw0, hc0⟩ := ReadsInt.ofRowC w0
  obtain ⟨l1, rfl, hr1, hm1, hw1, hc1⟩ := ReadsInt.ofRowC w1
  obtain ⟨k, h⟩ := P l0 l1 hm0 y0 hw0 hm1 y1 hw1
  refine (driftnetlaw01_NatBack.calls k _ _ l0 _ _ l1 true w (Kd.C_of_reads (d := (0 : Int)) (h1 := fun _ => rfl) hr0) hc0 (Kd.C_of_reads (d := (0 : Int)) (h1 := fun _ => rfl) hr1) hc1 h).mono ?_
  rintro e w' ⟨rfl, hd⟩
  exact ⟨rfl, hd⟩

end Go.Proofs.YtbejniapdlgpiaaDoor.P
