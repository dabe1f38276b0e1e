/- Of the texts that the proof of driftnet's law needs: P0. -/
import Derived.Test.YtkjdpojbmkpkgaaGreatDoorProg
import Derived.Below
import Derived.Deep.Draws
import Derived.Deep.AppendLies
import Derived.Maps.AppendAt
import Derived.OwnWalk
import Derived.Laws.BytesArg
import Derived.Laws.MakeOwn
import Derived.Laws.OwnMore
import Derived.Deep.OwnRows
import Derived.Tactics
import Derived.Lib.ConvBytes
import Derived.Laws.Slices
import Derived.WalkKit
import Derived.KernelRfl
import Derived.RowKit3
import Derived.Deep.LoopGhost
import Derived.Deep.QuietTactic
import Derived.BigQuiet
import Derived.WideLaws
import Derived.Deep.DeepCutAuto
import Derived.Deep.CutBlock
import Derived.Deep.RegionHeld3
import Derived.Laws.Rows
import Derived.Lib.AppendStr
import Derived.ArgAppend
import Derived.Laws.IdiomCopy
import Derived.OrdersHeld
import Derived.Laws.BitsLemmas
import Derived.RowKit
import Derived.Test.YtkjdpojbmkpkgaaGreatDoorQtM
import Derived.Test.YtkjdpojbmkpkgaaGreatDoorQtMW
import Derived.Test.YtkjdpojbmkpkgaaGreatDoorQtMS
import Derived.Test.YtkjdpojbmkpkgaaGreatDoorQtWWords
import Derived.Test.YtkjdpojbmkpkgaaGreatDoorQtWLast
import Derived.Test.YtkjdpojbmkpkgaaGreatDoorQtWTab
import Derived.Test.YtkjdpojbmkpkgaaGreatDoorQtWApart
import Derived.Test.YtkjdpojbmkpkgaaGreatDoorQtWFoot
import Derived.Test.YtkjdpojbmkpkgaaGreatDoorQtWKept
import Derived.Test.YtkjdpojbmkpkgaaGreatDoorQtWShare
import Derived.Test.YtkjdpojbmkpkgaaGreatDoorQtWAt
import Derived.Laws.StructEq
import Derived.Test.YtkjdpojbmkpkgaaGreatDoorQtWRepsOne
import Derived.Test.YtkjdpojbmkpkgaaGreatDoorQtWGuard
import Derived.Test.YtkjdpojbmkpkgaaGreatDoorQtWMore
namespace Go.Proofs.YtkjdpojbmkpkgaaGreatDoor.P
open Go.RowKit Go.Proofs.YtkjdpojbmkpkgaaGreatDoor.M Go.Proofs.YtkjdpojbmkpkgaaGreatDoor.MW Go.Proofs.YtkjdpojbmkpkgaaGreatDoor.MS Go.Proofs.YtkjdpojbmkpkgaaGreatDoorW.PrintWords Go.Proofs.YtkjdpojbmkpkgaaGreatDoorW.PrintLast Go.Proofs.YtkjdpojbmkpkgaaGreatDoorW.PrintMore
attribute [local go_sem] max2_int min2_int max_two min_two max_three min_three max_four min_four
set_option linter.unusedVariables false
set_option linter.unusedSimpArgs false
def errW : Option Int → Value
  | none => .nilIface
  | some c => .iface 0 (.int .i64 c)
theorem z11 : errW none = .nilIface := rfl
theorem z12 (c : Int) : errW (some c) = .iface 0 (.int .i64 c) := rfl
theorem info5 : (Tryz.prog.info? 5).map (fun i => (i.zero, i.size, i.bytes)) = some (some (.int .u8 0), 1, 1) := by kernel_rfl
theorem info30 : (Tryz.prog.info? 30).map (fun i => (i.zero, i.size, i.bytes)) = some (some (.int .u32 0), 1, 4) := by kernel_rfl
attribute [local go_sem] max2_int min2_int max_two min_two max_three min_three max_four min_four
set_option linter.unusedVariables false
set_option linter.unusedSimpArgs false
def slices_Clone_uint32_uint32.f (l0 : List Int) : Option (List Int) := if l0.length < 35184372088832 then some l0 else none
theorem slices_Clone_uint32_uint32.nil_in {P : Program} (w : World) (d : Nat) (t e : TypeId) (a : Option Addr) (n c : Nat) (h : P.underlying t = some (.slice e)) :
    (Op.equalIn (d + 1) t (.slice a n c) (.slice none 0 0)).run P w = .ok a.isNone w := by
  cases a <;> simp [Op.equalIn, run_underlying h]
theorem slices_Clone_uint32_uint32.nil_q {P : Program} (w : World) (t e : TypeId) (a : Option Addr) (n c : Nat) (h : P.underlying t = some (.slice e)) :
    (binOp .eql t (.slice a n c) (.slice none 0 0)).run P w = .ok (.bool a.isNone) w := by
  simp only [binOp]
  simp [Op.equal, Op.maxDepth, slices_Clone_uint32_uint32.nil_in w 9999 t e a n c h]
theorem slices_Clone_uint32_uint32.build0 {P : Program} (w : World) (t e : TypeId) (ie : TypeInfo) (hu : P.underlying t = some (.slice e)) (hie : P.info? e = some ie) :
    (Instr.buildSlice t 0 #[]).run P w = .ok (.slice (some ⟨w.heap.size, 0, none⟩) 0 0) (w.alloc (.cells #[] e)) := by
  simp [Instr.buildSlice, run_underlying hu, sizeOf, typeInfo, hie, newRow, Instr.fill]
  congr 2
  apply Array.ext'
  simp
theorem slices_Clone_uint32_uint32.fresh {α : Type} (d : Kd α) (w : World) (e : TypeId) : d.R e (w.alloc (.cells #[] e)) w.heap.size (fun _ => True) (.slice (some ⟨w.heap.size, 0, none⟩) 0 0) [] := by
  refine ⟨fun _ _ => trivial, [], ⟨by simp, .inr ⟨w.heap.size, 0, #[], rfl, Nat.le_refl _, ?_, Nat.le_refl _, Nat.zero_le _, by simp, by simp⟩⟩, Reps.none _ _⟩
  show (w.heap.push (Obj.cells #[] e))[w.heap.size]? = _
  simp
set_option maxHeartbeats 8000000 in
set_option maxRecDepth 100000 in
theorem slices_Clone_uint32_uint32.calls (A0 : Option Addr) (c0 : Nat) (l0 : List Int) (r : List Int) (w : World) (hr0 : Kd.C (Kd.int .u32) w A0 l0.length l0) (hc0 : l0.length ≤ c0) (h : slices_Clone_uint32_uint32.f l0 = some r) :
    Calls Tryz.prog 66 #[.slice A0 l0.length c0] w fun e w' => ∃ v0_ : Value, e = .returned (v0_) ∧ Kd.R (Kd.int .u32) 30 w' w.heap.size (fun _ => True) v0_ r ∧ Below w.heap.size w w' := by
  unfold slices_Clone_uint32_uint32.f at h
  split at h
  case isFalse => cases h
  rename_i hlen
  obtain rfl := Option.some.inj h
  have HR0 := Aside0.mk hr0
  have HB := Aside0.mk (Below.refl w.heap.size w)
  clear h
  cases A0 with
  | none =>
    have h0 : l0 = [] := by
      cases l0 with
      | nil => rfl
      | cons x t =>
        obtain ⟨_, _, hh⟩ := hr0
        obtain ⟨ad, e, _⟩ := hh (by simp)
        cases e
    clear hr0
    subst h0
    have hq := fun w => slices_Clone_uint32_uint32.nil_q (P := Tryz.prog) w 22 30 none 0 c0 Tryz.underlying22
    go_enter Tryz.func66, Tryz.ntmps66
    go_wp2
    go_ret
    exact ⟨_, rfl, Kd.R_nil _ _ _ _ _, HB.out⟩
  | some A =>
    clear hr0
    have hq := fun w => slices_Clone_uint32_uint32.nil_q (P := Tryz.prog) w 22 30 (some A) l0.length c0 Tryz.underlying22
    obtain ⟨ie, hie, _⟩ := Option.map_eq_some_iff.1 info30
    have hb := fun w => slices_Clone_uint32_uint32.build0 (P := Tryz.prog) w 22 30 ie Tryz.underlying22 hie
    clear hie
    go_enter Tryz.func66, Tryz.ntmps66
    go_wp2_with (first | ((with_reducible refine gate_builtin (b := .append) (xs := #[.tmp 5, .tmp 6]) rfl ?_); at_builtin; refine Kd.R_append_rows (Kd.int .u32) (w0 := w) w.heap.size rfl (.tmp 5) (.tmp 6) 22 30 (.int .u32 0) 4 rfl Tryz.underlying22 info30 rfl (by decide) (by omega) (.slice (some ⟨w.heap.size, 0, none⟩) 0 0) ([] : List Int) l0 _ _ _ (fun _ => True) (fun _ => False) rfl rfl ?aO ?aR (fun _ _ h => h) (fun _ h => h.elim) ?aF ?aB ?aS ?aL ?_; (case aR => exact Kd.C_alloc HR0.out _); (case aB => exact z7 HB.out _); (case aF => exact (fun _ _ => trivial)); (case aO => exact slices_Clone_uint32_uint32.fresh (Kd.int .u32) w 30); (case aS => exact (z13 (z7 HB.out _))); (case aL => simp only [List.length_nil]; omega); intro v326 w3 ho hb3 hg hat; rw [List.nil_append] at ho; have n0_ := Aside0.mk hb3; have n1_ := Aside0.mk ho; clear HB; have HB := n0_; have HO327 := n1_; clear n0_ n1_; clear ho hb3 hg hat))
    go_ret
    exact ⟨_, rfl, HO327.out, HB.out⟩
def nat_Check.f (l0 : List Int) : Option (Int) := if (l0.length : Int) > 64 then (some 5) else (if (l0.length : Int) > 0 then (if 0 ≤ (wrap64 ((l0.length : Int) - 1)) then (if (wrap64 ((l0.length : Int) - 1)) < (l0.length : Int) then (if (rd l0 (wrap64 ((l0.length : Int) - 1))) = 0 then (some 2) else (some 0)) else (none)) else (none)) else (some 0))
set_option maxHeartbeats 8000000 in
set_option maxRecDepth 100000 in
theorem nat_Check.calls (A0 : Option Addr) (c0 : Nat) (l0 : List Int) (r : Int) (w : World) (hr0 : Kd.C (Kd.int .u32) w A0 l0.length l0) (hc0 : l0.length ≤ c0) (h : nat_Check.f l0 = some r) :
    Calls Tryz.prog 64 #[.slice A0 l0.length c0] w fun e w' => e = .returned (.int .i64 r) ∧ Drawn0 w w' := by
  have HR0 := Aside0.mk hr0
  have HC0 := Aside0.mk hc0
  clear hr0 hc0
  have H : (if (l0.length : Int) > 64 then (some 5) else (if (l0.length : Int) > 0 then (if 0 ≤ (wrap64 ((l0.length : Int) - 1)) then (if (wrap64 ((l0.length : Int) - 1)) < (l0.length : Int) then (if (rd l0 (wrap64 ((l0.length : Int) - 1))) = 0 then (some 2) else (some 0)) else (none)) else (none)) else (some 0))) = some r := h
  clear h
  by_cases c2 : (l0.length : Int) > 64
  · rw [if_pos c2] at H
    have c2b0 : decide (64 < (l0.length : Int)) = true := decide_eq_true c2
    have c2b1 : decide (64 < l0.length) = true := decide_eq_true (by omega)
    clear c2
    obtain rfl := Option.some.inj H
    go_enter Tryz.func64, Tryz.ntmps64
    go_wp2
    go_ret
    exact ⟨by first | rfl | (simp; done) | (simp [*]; done), by repeat (first | exact Drawn0.refl _ | apply Drawn0.step)⟩
  · rw [if_neg c2] at H
    have c2b0 : decide (64 < (l0.length : Int)) = false := decide_eq_false c2
    have c2b1 : decide (64 < l0.length) = false := decide_eq_false (by omega)
    clear c2
    by_cases c3 : (l0.length : Int) > 0
    · rw [if_pos c3] at H
      have c3b0 : decide (0 < (l0.length : Int)) = true := decide_eq_true c3
      have c3b1 : decide (0 < l0.length) = true := decide_eq_true (by omega)
      clear c3
      obtain ⟨ji4, hji4⟩ : ∃ j_ : Int, (wrap64 ((l0.length : Int) - 1)) = j_ := ⟨_, rfl⟩
      replace H : (if 0 ≤ (ji4) then (if (ji4) < (l0.length : Int) then (if (rd l0 (ji4)) = 0 then (some 2) else (some 0)) else (none)) else (none)) = some r := by first | (rw [hji4] at H; exact H) | (simp only [hji4] at H ⊢; exact H)
      have hji4w : (IntKind.i64.wrap ((l0.length : Int) - 1)) = ji4 := (i64_w _).trans hji4
      by_cases c5 : 0 ≤ (ji4)
      · rw [if_pos c5] at H
        have c5b0 : decide (0 ≤ (ji4)) = true := decide_eq_true c5
        clear c5
        by_cases c6 : (ji4) < (l0.length : Int)
        · rw [if_pos c6] at H
          have c6b0 : decide ((ji4) < (l0.length : Int)) = true := decide_eq_true c6
          clear c6
          by_cases c7 : (rd l0 (ji4)) = 0
          · rw [if_pos c7] at H
            have c7b0 : ((rd l0 (ji4)) == 0) = true := beq_iff_eq.mpr c7
            have c7b1 : ((rd l0 (ji4)) != 0) = false := bne_eq_false_iff_eq.mpr c7
            clear c7
            obtain rfl := Option.some.inj H
            have p101 : 0 ≤ ((ji4) : Int) := of_decide_eq_true (by first | (with_reducible assumption) | assumption)
            have q101 : (ji4) < (l0.length : Int) := of_decide_eq_true (by first | (with_reducible assumption) | assumption)
            obtain ⟨ad101, e101, hx101_0⟩ := Kd.at_int HR0.out (ji4) p101 q101
            cases e101
            replace p101 := eq_true p101
            replace q101 := eq_true q101
            go_enter Tryz.func64, Tryz.ntmps64
            go_wp2
            go_ret
            exact ⟨by first | rfl | (simp; done) | (simp only [← hji4] <;> (first | rfl | simp)) | (simp [*]; done), by repeat (first | exact Drawn0.refl _ | apply Drawn0.step)⟩
          · rw [if_neg c7] at H
            have c7b0 : ((rd l0 (ji4)) == 0) = false := beq_eq_false_iff_ne.mpr c7
            have c7b1 : ((rd l0 (ji4)) != 0) = true := bne_iff_ne.mpr c7
            obtain rfl := Option.some.inj H
            have p101 : 0 ≤ ((ji4) : Int) := of_decide_eq_true (by first | (with_reducible assumption) | assumption)
            have q101 : (ji4) < (l0.length : Int) := of_decide_eq_true (by first | (with_reducible assumption) | assumption)
            obtain ⟨ad101, e101, hx101_0⟩ := Kd.at_int HR0.out (ji4) p101 q101
            cases e101
            replace p101 := eq_true p101
            replace q101 := eq_true q101
            go_enter Tryz.func64, Tryz.ntmps64
            go_wp2
            go_ret
            exact ⟨by first | rfl | (simp; done) | (simp only [← hji4] <;> (first | rfl | simp)) | (simp [*]; done), by repeat (first | exact Drawn0.refl _ | apply Drawn0.step)⟩
        · rw [if_neg c6] at H
          exact absurd H (by simp)
      · rw [if_neg c5] at H
        exact absurd H (by simp)
    · rw [if_neg c3] at H
      have c3b0 : decide (0 < (l0.length : Int)) = false := decide_eq_false c3
      have c3b1 : decide (0 < l0.length) = false := decide_eq_false (by omega)
      clear c3
      obtain rfl := Option.some.inj H
      go_enter Tryz.func64, Tryz.ntmps64
      go_wp2
      go_ret
      exact ⟨by first | rfl | (simp; done) | (simp [*]; done), by repeat (first | exact Drawn0.refl _ | apply Drawn0.step)⟩
def nat_both.f (l0 : List Int) (l1 : List Int) : Option (Int) := (nat_Check.f l0).bind fun t102 => (if t102 = 0 then ((nat_Check.f l1).bind fun t103 => (some t103)) else (some t102))
set_option maxHeartbeats 8000000 in
set_option maxRecDepth 100000 in
theorem nat_both.calls (A0 : Option Addr) (c0 : Nat) (l0 : List Int) (A1 : Option Addr) (c1 : Nat) (l1 : List Int) (r : Int) (w : World) (hr0 : Kd.C (Kd.int .u32) w A0 l0.length l0) (hc0 : l0.length ≤ c0) (hr1 : Kd.C (Kd.int .u32) w A1 l1.length l1) (hc1 : l1.length ≤ c1) (h : nat_both.f l0 l1 = some r) :
    Calls Tryz.prog 91 #[.slice A0 l0.length c0, .slice A1 l1.length c1] w fun e w' => e = .returned (.int .i64 r) ∧ Drawn0 w w' := by
  have HR0 := Aside0.mk hr0
  have HC0 := Aside0.mk hc0
  clear hr0 hc0
  have HR1 := Aside0.mk hr1
  have HC1 := Aside0.mk hc1
  clear hr1 hc1
  have H : ((nat_Check.f l0).bind fun t102 => (if t102 = 0 then ((nat_Check.f l1).bind fun t103 => (some t103)) else (some t102))) = some r := h
  clear h
  replace H := Option.bind_eq_some_iff.mp H
  obtain ⟨t102, A30, H⟩ := H
  replace H : (if t102 = 0 then ((nat_Check.f l1).bind fun t103 => (some t103)) else (some t102)) = some r := H
  have A3 := Aside0.mk A30
  clear A30
  by_cases c4 : t102 = 0
  · rw [if_pos c4] at H
    have c4b0 : (t102 == 0) = true := beq_iff_eq.mpr c4
    have c4b1 : (t102 != 0) = false := bne_eq_false_iff_eq.mpr c4
    clear c4
    replace H := Option.bind_eq_some_iff.mp H
    obtain ⟨t103, A50, H⟩ := H
    replace H : (some t103) = some r := H
    have A5 := Aside0.mk A50
    clear A50
    obtain rfl := Option.some.inj H
    go_enter Tryz.func91, Tryz.ntmps91
    go_wp2_with (first | ((with_reducible refine z10 (f := 64) rfl ?_); refine goesL_ (some 7) rfl rfl Tryz.func64 (by kernel_rfl) rfl #[.slice A0 l0.length c0] rfl (by (try simp only [List.map_toArray, List.map_cons, List.map_nil]); first | done | rfl | (simp only [List.length_drop, List.length_take]; rfl) | (simp [Act.eval, IntKind.wrap, IntKind.bits, IntKind.signed]; done) | (simp [Act.eval, IntKind.wrap, IntKind.bits, IntKind.signed]; omega)) ?_; (with_reducible refine (nat_Check.calls _ _ l0 t102 _ ?side1 ?side2 A3.out).mono ?_); (case side1 => repeat (first | exact HR0.out | (with_reducible refine Kd.C_alloc ?_ _) | (with_reducible refine Kd.C_drewN ?_ _) | (with_reducible refine Kd.C_drew ?_))); (case side2 => exact HC0.out); rintro e w' ⟨rfl, ⟨nd, rfl⟩⟩; refine ⟨_, rfl, ?_⟩) | ((with_reducible refine z10 (f := 64) rfl ?_); refine goesL_ (some 12) rfl rfl Tryz.func64 (by kernel_rfl) rfl #[.slice A1 l1.length c1] rfl (by (try simp only [List.map_toArray, List.map_cons, List.map_nil]); first | done | rfl | (simp only [List.length_drop, List.length_take]; rfl) | (simp [Act.eval, IntKind.wrap, IntKind.bits, IntKind.signed]; done) | (simp [Act.eval, IntKind.wrap, IntKind.bits, IntKind.signed]; omega)) ?_; (with_reducible refine (nat_Check.calls _ _ l1 t103 _ ?side1 ?side2 A5.out).mono ?_); (case side1 => repeat (first | exact HR1.out | (with_reducible refine Kd.C_alloc ?_ _) | (with_reducible refine Kd.C_drewN ?_ _) | (with_reducible refine Kd.C_drew ?_))); (case side2 => exact HC1.out); rintro e w' ⟨rfl, ⟨nd, rfl⟩⟩; refine ⟨_, rfl, ?_⟩))
    go_ret
    exact ⟨by first | rfl | (simp; done) | (simp [*]; done), by repeat (first | exact Drawn0.refl _ | apply Drawn0.step)⟩
  · rw [if_neg c4] at H
    have c4b0 : (t102 == 0) = false := beq_eq_false_iff_ne.mpr c4
    have c4b1 : (t102 != 0) = true := bne_iff_ne.mpr c4
    obtain rfl := Option.some.inj H
    go_enter Tryz.func91, Tryz.ntmps91
    go_wp2_with (first | ((with_reducible refine z10 (f := 64) rfl ?_); refine goesL_ (some 7) rfl rfl Tryz.func64 (by kernel_rfl) rfl #[.slice A0 l0.length c0] rfl (by (try simp only [List.map_toArray, List.map_cons, List.map_nil]); first | done | rfl | (simp only [List.length_drop, List.length_take]; rfl) | (simp [Act.eval, IntKind.wrap, IntKind.bits, IntKind.signed]; done) | (simp [Act.eval, IntKind.wrap, IntKind.bits, IntKind.signed]; omega)) ?_; (with_reducible refine (nat_Check.calls _ _ l0 t102 _ ?side1 ?side2 A3.out).mono ?_); (case side1 => repeat (first | exact HR0.out | (with_reducible refine Kd.C_alloc ?_ _) | (with_reducible refine Kd.C_drewN ?_ _) | (with_reducible refine Kd.C_drew ?_))); (case side2 => exact HC0.out); rintro e w' ⟨rfl, ⟨nd, rfl⟩⟩; refine ⟨_, rfl, ?_⟩))
    go_ret
    exact ⟨by first | rfl | (simp; done) | (simp [*]; done), by repeat (first | exact Drawn0.refl _ | apply Drawn0.step)⟩
def nat_trim.l0 : Nat → List Int → Option (List Int)
  | 0, _ => none
  | k + 1, x0 => if (x0.length : Int) > 0 then (if 0 ≤ (wrap64 ((x0.length : Int) - 1)) then (if (wrap64 ((x0.length : Int) - 1)) < (x0.length : Int) then (if (rd x0 (wrap64 ((x0.length : Int) - 1))) = 0 then (if (wrap64 ((x0.length : Int) - 1)) ≤ (x0.length : Int) then (nat_trim.l0 k (x0.take ((wrap64 ((x0.length : Int) - 1)) : Int).toNat)) else (none)) else (some x0)) else (none)) else (none)) else (some x0)
def nat_trim.f (k : Nat) (l0 : List Int) : Option (List Int) := nat_trim.l0 k l0
set_option maxHeartbeats 8000000 in
set_option maxRecDepth 100000 in
theorem nat_trim.calls (k : Nat) (P0_ : Nat → Prop) (u9000_ : Value) (l0 : List Int) (r : List Int) (w0 w : World) (hB : Below w0.heap.size w0 w) (ho0 : Kd.R (Kd.int .u32) 30 w w0.heap.size P0_ u9000_ l0) (h : nat_trim.f k l0 = some r) :
    Calls Tryz.prog 98 #[u9000_] w fun e w' => ∃ v0_ : Value, e = .returned (v0_) ∧ Kd.R (Kd.int .u32) 30 w' w0.heap.size (fun k_ => (P0_ k_ ∨ w.heap.size ≤ k_)) v0_ r ∧ Below w0.heap.size w0 w' ∧ Kept w w' (fun k_ => P0_ k_) := by
  have HO0 := Aside0.mk (show Kd.R (Kd.int .u32) 30 w w0.heap.size (fun k_ => (P0_ k_ ∨ w.heap.size ≤ k_)) u9000_ l0 from Kd.R_mono ho0 (fun k_ hk => (.inl hk)))
  have HK := Aside0.mk (Kept.refl w (fun k_ => P0_ k_))
  have HW0 := Aside0.mk hB.size
  have HB := Aside0.mk hB
  clear hB
  have H : (nat_trim.l0 k l0) = some r := h
  clear h
  have H' := Aside0.mk H
  clear H
  go_enter Tryz.func98, Tryz.ntmps98
  go_wp2
  go_loopg [0] k (fun kq v0 w' => ∃ (x0_1 : List Int), Aside0 (nat_trim.l0 kq x0_1 = some r) ∧ Aside0 (kq ≤ k) ∧ Aside0 (Kd.R (Kd.int .u32) 30 w' w0.heap.size (fun k_ => (P0_ k_ ∨ w.heap.size ≤ k_)) v0 x0_1) ∧ Aside0 (Kept w w' (fun k_ => P0_ k_)) ∧ Aside0 (Below w0.heap.size w0 w'))
  case atStart => exact ⟨(l0), H', ⟨Nat.le_refl _⟩, ⟨by (with_reducible repeat (first | apply Kd.R_alloc | apply Kd.R_drewN | apply Kd.R_drew)); exact HO0.out⟩, ⟨by repeat (first | (with_reducible first | exact HK.out | apply Kept.alloc | apply Kept.drewN | apply Kept.drew) | exact HK.out)⟩, ⟨by repeat (first | (with_reducible first | exact HB.out | apply z7 | apply z6 | apply z8) | exact HB.out)⟩⟩
  case round =>
    clear H'
    obtain ⟨x0_1, HA, HK1, HO_0, HK, HB⟩ := hrel
    cases gk with
    | zero => exact absurd HA.out (by simp [nat_trim.l0])
    | succ k1 =>
      have H := HA.out
      clear HA
      simp only [nat_trim.l0] at H
      by_cases c2 : (x0_1.length : Int) > 0
      · rw [if_pos c2] at H
        have c2b0 : decide (0 < (x0_1.length : Int)) = true := decide_eq_true c2
        have c2b1 : decide (0 < x0_1.length) = true := decide_eq_true (by omega)
        clear c2
        obtain ⟨ji3, hji3⟩ : ∃ j_ : Int, (wrap64 ((x0_1.length : Int) - 1)) = j_ := ⟨_, rfl⟩
        replace H : (if 0 ≤ (ji3) then (if (ji3) < (x0_1.length : Int) then (if (rd x0_1 (ji3)) = 0 then (if (ji3) ≤ (x0_1.length : Int) then (nat_trim.l0 k1 (x0_1.take ((ji3) : Int).toNat)) else (none)) else (some x0_1)) else (none)) else (none)) = some r := by first | (rw [hji3] at H; exact H) | (simp only [hji3] at H ⊢; exact H)
        have hji3w : (IntKind.i64.wrap ((x0_1.length : Int) - 1)) = ji3 := (i64_w _).trans hji3
        by_cases c4 : 0 ≤ (ji3)
        · rw [if_pos c4] at H
          have c4b0 : decide (0 ≤ (ji3)) = true := decide_eq_true c4
          clear c4
          by_cases c5 : (ji3) < (x0_1.length : Int)
          · rw [if_pos c5] at H
            have c5b0 : decide ((ji3) < (x0_1.length : Int)) = true := decide_eq_true c5
            clear c5
            by_cases c6 : (rd x0_1 (ji3)) = 0
            · rw [if_pos c6] at H
              have c6b0 : ((rd x0_1 (ji3)) == 0) = true := beq_iff_eq.mpr c6
              have c6b1 : ((rd x0_1 (ji3)) != 0) = false := bne_eq_false_iff_eq.mpr c6
              clear c6
              by_cases c7 : (ji3) ≤ (x0_1.length : Int)
              · rw [if_pos c7] at H
                have c7b0 := eq_true c7
                have c7b1 : decide ((ji3) ≤ (x0_1.length : Int)) = true := decide_eq_true c7
                clear c7
                obtain ⟨y105, hy105⟩ : ∃ y_ : List Int, y_ = (x0_1.take ((ji3) : Int).toNat) := ⟨_, rfl⟩
                replace H : (nat_trim.l0 k1 y105) = some r := by first | (rw [hy105]; with_reducible exact H) | (have H2_ := (Option.bind_some _ _).symm.trans H; rw [hy105]; with_reducible exact H2_) | (have H2_ := (Option.bind_some _ _).symm.trans H; with_reducible exact H2_) | with_reducible exact H | (rw [hy105]; exact H) | exact H
                have Ny105 := Aside0.mk hy105
                clear hy105
                have H' := Aside0.mk H
                clear H
                obtain ⟨Ao8, co8, eo8⟩ := Kd.R_slice HO_0.out
                subst eo8
                have p104 : 0 ≤ ((ji3) : Int) := of_decide_eq_true (by first | (with_reducible assumption) | assumption)
                have q104 : (ji3) < (x0_1.length : Int) := of_decide_eq_true (by first | (with_reducible assumption) | assumption)
                obtain ⟨ad104, e104, hx104_0⟩ := Kd.at_int (Kd.R_reads' HO_0.out).2.2 (ji3) p104 q104
                cases e104
                replace p104 := eq_true p104
                replace q104 := eq_true q104
                have q9 : ((ji3) : Int) ≤ ((x0_1.length : Int) : Int) := of_decide_eq_true (by first | (with_reducible assumption) | assumption)
                obtain ⟨i09, hi09, _, hsz9, _⟩ := info_parts info30
                have hcut9 := cut_to (P := Tryz.prog) 22 30 .i64 Tryz.underlying22 hi09 (some ad104) x0_1.length co8 (ji3) (of_decide_eq_true (by first | (with_reducible assumption) | assumption)) q9 (Kd.R_reads' HO_0.out).2.1
                have hr9 := Kd.R_take (m := ((ji3) : Int).toNat) HO_0.out (by omega)
                have hy9 : y105.length = ((ji3) : Int).toNat := (by rw [Ny105.out, List.length_take]; omega)
                rw [← Ny105.out] at hr9
                rw [← hy9] at hr9 hcut9
                clear hy9 hi09 hsz9 HO_0
                have HO107 := Aside0.mk hr9
                clear hr9
                replace q9 := eq_true q9
                go_wp2
                go_roundg k1
                case measure => have := HK1.out; omega
                case rel => exact ⟨(y105), H', ⟨by have := HK1.out; omega⟩, ⟨by (with_reducible repeat (first | apply Kd.R_alloc | apply Kd.R_drewN | apply Kd.R_drew)); exact HO107.out⟩, ⟨by repeat (first | (with_reducible first | exact HK.out | apply Kept.alloc | apply Kept.drewN | apply Kept.drew) | exact HK.out)⟩, ⟨by repeat (first | (with_reducible first | exact HB.out | apply z7 | apply z6 | apply z8) | exact HB.out)⟩⟩
              · rw [if_neg c7] at H
                exact absurd H (by simp)
            · rw [if_neg c6] at H
              have c6b0 : ((rd x0_1 (ji3)) == 0) = false := beq_eq_false_iff_ne.mpr c6
              have c6b1 : ((rd x0_1 (ji3)) != 0) = true := bne_iff_ne.mpr c6
              obtain rfl := Option.some.inj H
              obtain ⟨Ao10, co10, eo10⟩ := Kd.R_slice HO_0.out
              subst eo10
              have p104 : 0 ≤ ((ji3) : Int) := of_decide_eq_true (by first | (with_reducible assumption) | assumption)
              have q104 : (ji3) < (x0_1.length : Int) := of_decide_eq_true (by first | (with_reducible assumption) | assumption)
              obtain ⟨ad104, e104, hx104_0⟩ := Kd.at_int (Kd.R_reads' HO_0.out).2.2 (ji3) p104 q104
              cases e104
              replace p104 := eq_true p104
              replace q104 := eq_true q104
              go_wp2
              go_ret
              exact ⟨_, by first | rfl | (simp [z11, z12] <;> rfl) | (simp only [← hji3]; first | rfl | (simp [z11, z12] <;> rfl)) | (simp [*, z11, z12] <;> rfl), by (with_reducible repeat (first | apply Kd.R_alloc | apply Kd.R_drewN | apply Kd.R_drew)); exact HO_0.out, by repeat (first | (with_reducible first | exact HB.out | apply z7 | apply z6 | apply z8) | exact HB.out), by repeat (first | (with_reducible first | exact HK.out | apply Kept.alloc | apply Kept.drewN | apply Kept.drew) | exact HK.out)⟩
          · rw [if_neg c5] at H
            exact absurd H (by simp)
        · rw [if_neg c4] at H
          exact absurd H (by simp)
      · rw [if_neg c2] at H
        have c2b0 : decide (0 < (x0_1.length : Int)) = false := decide_eq_false c2
        have c2b1 : decide (0 < x0_1.length) = false := decide_eq_false (by omega)
        clear c2
        obtain rfl := Option.some.inj H
        obtain ⟨Ao11, co11, eo11⟩ := Kd.R_slice HO_0.out
        subst eo11
        go_wp2
        go_ret
        exact ⟨_, by first | rfl | (simp [z11, z12] <;> rfl) | (simp [*, z11, z12] <;> rfl), by (with_reducible repeat (first | apply Kd.R_alloc | apply Kd.R_drewN | apply Kd.R_drew)); exact HO_0.out, by repeat (first | (with_reducible first | exact HB.out | apply z7 | apply z6 | apply z8) | exact HB.out), by repeat (first | (with_reducible first | exact HK.out | apply Kept.alloc | apply Kept.drewN | apply Kept.drew) | exact HK.out)⟩
def nat_Of.f (k : Nat) (a0 : Int) : Option (List Int) := (nat_trim.f k (([(a0) % 4294967296, (a0 / 4294967296) % 4294967296] : List Int))).bind fun t111 => (some t111)
set_option maxHeartbeats 8000000 in
set_option maxRecDepth 100000 in
theorem nat_Of.calls (k : Nat) (a0 : Int) (r : List Int) (w : World) (h : nat_Of.f k a0 = some r) :
    Calls Tryz.prog 73 #[.int .u64 a0] w fun e w' => ∃ v0_ : Value, e = .returned (v0_) ∧ Kd.R (Kd.int .u32) 30 w' w.heap.size (fun _ => True) v0_ r ∧ Below w.heap.size w w' := by
  have HB := Aside0.mk (Below.refl w.heap.size w)
  have H : ((nat_trim.f k (([(a0) % 4294967296, (a0 / 4294967296) % 4294967296] : List Int))).bind fun t111 => (some t111)) = some r := h
  clear h
  obtain ⟨y108, hy108⟩ : ∃ y_ : List Int, y_ = (([(a0) % 4294967296, (a0 / 4294967296) % 4294967296] : List Int)) := ⟨_, rfl⟩
  replace H : ((nat_trim.f k y108).bind fun t111 => (some t111)) = some r := by first | (rw [hy108]; with_reducible exact H) | (have H2_ := (Option.bind_some _ _).symm.trans H; rw [hy108]; with_reducible exact H2_) | (have H2_ := (Option.bind_some _ _).symm.trans H; with_reducible exact H2_) | with_reducible exact H | (rw [hy108]; exact H) | exact H
  have Ny108 := Aside0.mk hy108
  clear hy108
  replace H := Option.bind_eq_some_iff.mp H
  obtain ⟨t111, A20, H⟩ := H
  replace H : (some t111) = some r := H
  have A2 := Aside0.mk A20
  clear A20
  obtain rfl := Option.some.inj H
  go_enter Tryz.func73, Tryz.ntmps73
  go_wp2_with (first | ((with_reducible refine gate_dst (N := 8) rfl ?_); refine Kd.R_lit (Kd.int .u32) _ 30 ?hg (N := 8) ?hd (xs := ([(a0) % 4294967296, (a0 / 4294967296) % 4294967296] : List Int)) (inner := [.int .u32 ((a0) % 4294967296), .int .u32 ((a0 / 4294967296) % 4294967296)]) (ok := fun _ => True) (okp := fun _ => True) ?hr ?hp (fun _ hk => hk) trivial (Below.refl _ _) (Nat.le_refl _) (by simp) ?_; (case hd => rfl); (case hg => rfl); (case hr => first | (go_simp; done) | (go_simp; rfl)); (case hp => exact (Reps.one (show Kd.M (Kd.int .u32) _ _ _ ((a0) % 4294967296) [.int .u32 ((a0) % 4294967296)] from rfl) (Reps.one (show Kd.M (Kd.int .u32) _ _ _ ((a0 / 4294967296) % 4294967296) [.int .u32 ((a0 / 4294967296) % 4294967296)] from rfl) (Reps.none _ _)))); intro v109 w3 ho4 hb hg_ hnew_; clear hg_ hnew_; (first | rw [← Ny108.out] at ho4 | (simp only [Int.reduceToNat] at ho4; rw [← Ny108.out] at ho4)); have n0_ := Aside0.mk (Kd.R_lower ho4 (z13 (by repeat (first | (with_reducible first | exact HB.out | apply z7 | apply z6 | apply z8) | exact HB.out)))); have n1_ := Aside0.mk (z14 (by repeat (first | (with_reducible first | exact HB.out | apply z7 | apply z6 | apply z8) | exact HB.out)) hb); clear HB; have HO110 := n0_; have HB := n1_; clear n0_ n1_; clear hb ho4; obtain ⟨Ao5, co5, eo5⟩ := Kd.R_slice HO110.out; subst eo5) | ((with_reducible refine z10 (f := 98) rfl ?_); refine goesL_ (some 9) rfl rfl Tryz.func98 (by kernel_rfl) rfl #[.slice Ao5 y108.length co5] rfl (by (try simp only [List.map_toArray, List.map_cons, List.map_nil]); first | done | rfl | (simp only [List.length_drop, List.length_take]; rfl) | (simp [Act.eval, IntKind.wrap, IntKind.bits, IntKind.signed]; done) | (simp [Act.eval, IntKind.wrap, IntKind.bits, IntKind.signed]; omega)) ?_; (with_reducible refine (nat_trim.calls k (fun k_ => some k_ = (.slice Ao5 y108.length co5 : Value).ownBlock) (.slice Ao5 y108.length co5) y108 t111 w _ ?side1 ?side2 A2.out).mono ?_); (case side1 => repeat (first | (with_reducible first | exact HB.out | apply z7 | apply z6 | apply z8) | exact HB.out)); (case side2 => exact Kd.R_tight rfl HO110.out); rintro e w6 ⟨v112, rfl, ho0, hb, hkp⟩; refine ⟨_, rfl, ?_⟩; have n0_ := Aside0.mk (Kd.R_mono (ok' := fun k_ => True) ho0 (fun k_ hk_ => trivial)); have n1_ := Aside0.mk (hb); clear HB; clear HO110; have HO113 := n0_; have HB := n1_; clear n0_ n1_; (try clear hb); (try clear hkp); (try clear ho0)))
  go_ret
  exact ⟨_, by first | rfl | (simp [z11, z12] <;> rfl) | (simp [*, z11, z12] <;> rfl), by (with_reducible repeat (first | apply Kd.R_alloc | apply Kd.R_drewN | apply Kd.R_drew)); exact HO113.out, by repeat (first | (with_reducible first | exact HB.out | apply z7 | apply z6 | apply z8) | exact HB.out)⟩
def bits_Div32.f (a0 a1 a2 : Int) : Option (Int × Int) := if (0 ≤ a0 ∧ a0 < 4294967296) ∧ (0 ≤ a1 ∧ a1 < 4294967296) ∧ (0 < a2 ∧ a2 < 4294967296) ∧ a0 < a2 then some ((a0 * 4294967296 + a1) / a2, (a0 * 4294967296 + a1) % a2) else none
theorem bits_Div32.calls (a0 : Int) (a1 : Int) (a2 : Int) (r1 : Int) (r2 : Int) (w : World) (h : bits_Div32.f a0 a1 a2 = some (r1, r2)) :
    Calls Tryz.prog 104 #[.int .u32 a0, .int .u32 a1, .int .u32 a2] w fun e w' => e = .returned (.tuple #[.int .u32 r1, .int .u32 r2]) ∧ Drawn0 w w' := by
  unfold bits_Div32.f at h
  split at h
  case isFalse => cases h
  rename_i hc
  obtain ⟨⟨h0, h0'⟩, ⟨h1, h1'⟩, ⟨h2, h2'⟩, h3⟩ := hc
  simp only [Option.some.injEq, Prod.mk.injEq] at h
  obtain ⟨rfl, rfl⟩ := h
  have e1 : Go.bits .or .u64 (a0 * 4294967296) a1 = a0 * 4294967296 + a1 := by
    obtain ⟨n0, rfl⟩ : ∃ n : Nat, a0 = n := ⟨a0.toNat, by omega⟩
    obtain ⟨n1, rfl⟩ : ∃ n : Nat, a1 = n := ⟨a1.toNat, by omega⟩
    have hb := (bits_nat .u64 64 (by decide) (fun n h0 h => by simp only [IntKind.wrap, IntKind.bits, IntKind.signed]; simp; omega) (n0 * 4294967296) n1 (by omega) (by omega)).2
    have hl : n1 < 2 ^ 32 := by omega
    rw [show ((n0 * 4294967296 : Nat) : Int) = (n0 : Int) * 4294967296 from rfl, show n0 * 4294967296 = 2 ^ 32 * n0 from Nat.mul_comm _ _, ← Nat.two_pow_add_eq_or_of_lt hl] at hb
    rw [hb]; omega
  obtain ⟨z, hz⟩ : ∃ z, z = a0 * 4294967296 + a1 := ⟨_, rfl⟩
  have hz0 : 0 ≤ z := by omega
  have hz1 : z / a2 < 4294967296 := Int.ediv_lt_of_lt_mul h2 (by omega)
  have hz2 : 0 ≤ z / a2 := Int.ediv_nonneg hz0 (by omega)
  have hz3 : 0 ≤ z % a2 := Int.emod_nonneg z (by omega)
  have hz4 : z % a2 < a2 := Int.emod_lt_of_pos z h2
  have e2 : IntKind.u64.wrap (z.tdiv a2) % 4294967296 = z / a2 := by
    rw [Int.tdiv_eq_ediv_of_nonneg hz0]
    generalize z / a2 = q at *
    simp only [IntKind.wrap, IntKind.bits, IntKind.signed]; simp; omega
  have e3 : (z.tmod a2) % 4294967296 = z % a2 := by
    rw [Int.tmod_eq_emod_of_nonneg hz0]
    generalize z % a2 = q at *
    omega
  rw [← hz] at e1 ⊢
  clear hz hz0 hz1 hz2 hz3 hz4
  go_enter Tryz.func104, Tryz.ntmps104
  go_wp2
  go_quiet (fail)
  rw [e2, e3]
  go_wp2
  go_ret2
  exact ⟨rfl, by repeat (first | exact Drawn0.refl _ | apply Drawn0.step | exact ⟨_, rfl⟩)⟩
def nat_short.l0 : Nat → List Int → Int → List Int → Int → Int → Option (List Int × Int)
  | 0, _, _, _, _, _ => none
  | k + 1, x0, x1, x6, x7, x8 => if x8 ≥ 0 then (if 0 ≤ x8 then (if x8 < (x0.length : Int) then ((bits_Div32.f x7 (rd x0 x8) x1).bind fun bt118 => (if x8 < (x6.length : Int) then (nat_short.l0 k x0 x1 (x6.set (x8 : Int).toNat bt118.1) bt118.2 (wrap64 (x8 - 1))) else (none))) else (none)) else (none)) else ((nat_trim.f k x6).bind fun t121 => (some (t121, x7)))
def nat_short.f (k : Nat) (l0 : List Int) (a1 : Int) : Option (List Int × Int) := if 0 ≤ (l0.length : Int) then (if ((l0.length : Int) : Int).toNat ≤ 70368744177664 then (nat_short.l0 k l0 a1 (List.replicate ((l0.length : Int) : Int).toNat 0) 0 (wrap64 ((l0.length : Int) - 1))) else (none)) else (none)
set_option maxHeartbeats 8000000 in
set_option maxRecDepth 100000 in
theorem nat_short.calls (k : Nat) (A0 : Option Addr) (c0 : Nat) (l0 : List Int) (a1 : Int) (r1 : List Int) (r2 : Int) (w : World) (hr0 : Kd.C (Kd.int .u32) w A0 l0.length l0) (hc0 : l0.length ≤ c0) (h : nat_short.f k l0 a1 = some (r1, r2)) :
    Calls Tryz.prog 81 #[.slice A0 l0.length c0, .int .u32 a1] w fun e w' => ∃ v0_ : Value, e = .returned (.tuple #[v0_, .int .u32 r2]) ∧ Kd.R (Kd.int .u32) 30 w' w.heap.size (fun _ => True) v0_ r1 ∧ Below w.heap.size w w' := by
  have HR0 := Aside0.mk hr0
  have HC0 := Aside0.mk hc0
  clear hr0 hc0
  have HB := Aside0.mk (Below.refl w.heap.size w)
  have H : (if 0 ≤ (l0.length : Int) then (if ((l0.length : Int) : Int).toNat ≤ 70368744177664 then (nat_short.l0 k l0 a1 (List.replicate ((l0.length : Int) : Int).toNat 0) 0 (wrap64 ((l0.length : Int) - 1))) else (none)) else (none)) = some (r1, r2) := h
  clear h
  by_cases c3 : 0 ≤ (l0.length : Int)
  · rw [if_pos c3] at H
    have c3b0 := eq_true c3
    have c3b1 : decide (0 ≤ (l0.length : Int)) = true := decide_eq_true c3
    clear c3
    by_cases c4 : ((l0.length : Int) : Int).toNat ≤ 70368744177664
    · rw [if_pos c4] at H
      have c4b0 := eq_true c4
      have c4b1 : decide (((l0.length : Int) : Int).toNat ≤ 70368744177664) = true := decide_eq_true c4
      clear c4
      obtain ⟨y114, hy114⟩ : ∃ y_ : List Int, y_ = (List.replicate ((l0.length : Int) : Int).toNat 0) := ⟨_, rfl⟩
      replace H : (nat_short.l0 k l0 a1 y114 0 (wrap64 ((l0.length : Int) - 1))) = some (r1, r2) := by first | (rw [hy114]; with_reducible exact H) | (have H2_ := (Option.bind_some _ _).symm.trans H; rw [hy114]; with_reducible exact H2_) | (have H2_ := (Option.bind_some _ _).symm.trans H; with_reducible exact H2_) | with_reducible exact H | (rw [hy114]; exact H) | exact H
      have Ny114 := Aside0.mk hy114
      clear hy114
      have H' := Aside0.mk H
      clear H
      go_enter Tryz.func81, Tryz.ntmps81
      go_wp2_with (first | ((with_reducible refine gate_dst (N := 11) rfl ?_); refine Kd.R_make (Kd.int .u32) _ 30 rfl (N := 11) rfl 22 _ _ rfl (l0.length : Int) rfl rfl Tryz.underlying22 (.int .u32 0) 4 info30 rfl (by decide) (by omega) 0 (ok := fun _ => True) (okp := fun _ => True) rfl (fun _ hk => hk) trivial (of_decide_eq_true (by first | (with_reducible assumption) | assumption)) (Nat.le_trans (Nat.mul_le_mul_right _ (of_decide_eq_true (by first | (with_reducible assumption) | assumption) : (l0.length : Int).toNat ≤ 70368744177664)) (by omega)) (Below.refl _ _) (Nat.le_refl _) ?_; intro v115 w5 ho6 hb hg_ hnew_; clear hg_ hnew_; (first | rw [← Ny114.out] at ho6 | (simp only [Int.reduceToNat] at ho6; rw [← Ny114.out] at ho6)); have n0_ := Aside0.mk (Kd.R_lower ho6 (z13 (by repeat (first | (with_reducible first | exact HB.out | apply z7 | apply z6 | apply z8) | exact HB.out)))); have n1_ := Aside0.mk (z14 (by repeat (first | (with_reducible first | exact HB.out | apply z7 | apply z6 | apply z8) | exact HB.out)) hb); clear HB; have HO116 := n0_; have HB := n1_; clear n0_ n1_; clear hb ho6))
      go_loopg [7, 8] k (fun kq v7 v8 w' => ∃ (x6_1 : List Int) (x7_1 : Int) (x8_1 : Int), v7 = .int .u32 x7_1 ∧ v8 = .int .i64 x8_1 ∧ Aside0 (nat_short.l0 kq l0 a1 x6_1 x7_1 x8_1 = some (r1, r2)) ∧ Aside0 (kq ≤ k) ∧ Aside0 (Kd.R (Kd.int .u32) 30 w' w.heap.size (fun _ => True) v115 x6_1) ∧ Aside0 (Below w.heap.size w w'))
      case atStart => exact ⟨(y114), (0), (wrap64 ((l0.length : Int) - 1)), (by first | rfl | (simp; done) | (simp [*]; done)), (by first | rfl | (simp; done) | (simp [*]; done)), H', ⟨Nat.le_refl _⟩, ⟨by (with_reducible repeat (first | apply Kd.R_alloc | apply Kd.R_drewN | apply Kd.R_drew)); exact HO116.out⟩, ⟨by repeat (first | (with_reducible first | exact HB.out | apply z7 | apply z6 | apply z8) | exact HB.out)⟩⟩
      case round =>
        clear H'
        try clear p2
        try clear c3
        try clear c3b0
        try clear c3b1
        try clear c4
        try clear c4b0
        try clear c4b1
        try clear p6
        obtain ⟨x6_1, x7_1, x8_1, rfl, rfl, HA, HK1, HO_6, HB⟩ := hrel
        cases gk with
        | zero => exact absurd HA.out (by simp [nat_short.l0])
        | succ k1 =>
          have H := HA.out
          clear HA
          simp only [nat_short.l0] at H
          by_cases c7 : x8_1 ≥ 0
          · rw [if_pos c7] at H
            have c7b0 : decide (0 ≤ x8_1) = true := decide_eq_true c7
            clear c7
            by_cases c8 : 0 ≤ x8_1
            · rw [if_pos c8] at H
              have c8b0 : decide (0 ≤ x8_1) = true := decide_eq_true c8
              clear c8
              by_cases c9 : x8_1 < (l0.length : Int)
              · rw [if_pos c9] at H
                have c9b0 : decide (x8_1 < (l0.length : Int)) = true := decide_eq_true c9
                clear c9
                replace H := Option.bind_eq_some_iff.mp H
                obtain ⟨⟨t118, t119⟩, A100, H⟩ := H
                replace H : (if x8_1 < (x6_1.length : Int) then (nat_short.l0 k1 l0 a1 (x6_1.set (x8_1 : Int).toNat t118) t119 (wrap64 (x8_1 - 1))) else (none)) = some (r1, r2) := H
                have A10 := Aside0.mk A100
                clear A100
                by_cases c11 : x8_1 < (x6_1.length : Int)
                · rw [if_pos c11] at H
                  have c11b0 : decide (x8_1 < (x6_1.length : Int)) = true := decide_eq_true c11
                  clear c11
                  obtain ⟨y120, hy120⟩ : ∃ y_ : List Int, y_ = (x6_1.set (x8_1 : Int).toNat t118) := ⟨_, rfl⟩
                  replace H : (nat_short.l0 k1 l0 a1 y120 t119 (wrap64 (x8_1 - 1))) = some (r1, r2) := by first | (rw [hy120]; with_reducible exact H) | (have H2_ := (Option.bind_some _ _).symm.trans H; rw [hy120]; with_reducible exact H2_) | (have H2_ := (Option.bind_some _ _).symm.trans H; with_reducible exact H2_) | with_reducible exact H | (rw [hy120]; exact H) | exact H
                  have Ny120 := Aside0.mk hy120
                  clear hy120
                  have H' := Aside0.mk H
                  clear H
                  have p117 : 0 ≤ (x8_1 : Int) := of_decide_eq_true (by first | (with_reducible assumption) | assumption)
                  have q117 : x8_1 < (l0.length : Int) := of_decide_eq_true (by first | (with_reducible assumption) | assumption)
                  obtain ⟨ad117, e117, hx117_0⟩ := Kd.at_int HR0.out x8_1 p117 q117
                  cases e117
                  replace hx117_0 := (HB.out.cell (World.block_lt_of_cell? w _ hx117_0)).trans hx117_0
                  replace p117 := eq_true p117
                  replace q117 := eq_true q117
                  go_wp2_with (first | ((with_reducible refine z10 (f := 104) rfl ?_); refine goesL_ (some 28) rfl rfl Tryz.func104 (by kernel_rfl) rfl #[.int .u32 x7_1, .int .u32 (rd l0 x8_1), .int .u32 a1] rfl (by (try simp only [List.map_toArray, List.map_cons, List.map_nil]); first | done | rfl | (simp only [List.length_drop, List.length_take]; rfl) | (simp [Act.eval, IntKind.wrap, IntKind.bits, IntKind.signed]; done) | (simp [Act.eval, IntKind.wrap, IntKind.bits, IntKind.signed]; omega)) ?_; (with_reducible refine (bits_Div32.calls x7_1 (rd l0 x8_1) a1 t118 t119 _ A10.out).mono ?_); rintro e w' ⟨rfl, ⟨nd, rfl⟩⟩; refine ⟨_, rfl, ?_⟩; (try (rw [drewN_self wr]; generalize hq_ : World.drewN wr _ = wr; have n0_ : Aside0 (Kd.R (Kd.int .u32) 30 wr w.heap.size (fun _ => True) v115 x6_1) := ⟨by rw [← hq_]; exact (by (with_reducible repeat (first | apply Kd.R_alloc | apply Kd.R_drewN | apply Kd.R_drew)); exact HO_6.out)⟩; have n1_ : Aside0 (Below w.heap.size w wr) := ⟨by rw [← hq_]; exact (by repeat (first | (with_reducible first | exact HB.out | apply z7 | apply z6 | apply z8) | exact HB.out))⟩; clear HO_6 HB hq_; have HO_6 := n0_; have HB := n1_; clear n0_ n1_)); have p12 : 0 ≤ (x8_1 : Int) := of_decide_eq_true (by first | (with_reducible assumption) | assumption); have q12 : (x8_1 : Int) < ((x6_1.length : Int) : Int) := of_decide_eq_true (by first | (with_reducible assumption) | assumption); obtain ⟨go12, co12, eo12, gb12, gl12, cl12, HG12⟩ := Kd.R_form HO_6.out (by omega); (first | cases eo12 | (injection eo12 with ea_ en_ ec_; (first | subst ea_ | (injection ea_ with ea_; subst ea_)); subst ec_; clear en_)); have GB12 := Aside0.mk gb12; have GG12 := Aside0.mk HG12; clear gb12 gl12 HG12; obtain ⟨hx12_0, hf12_0⟩ := Kd.R_celln 0 HO_6.out (x8_1 : Int) p12 q12; replace p12 := eq_true p12; replace q12 := eq_true q12; obtain ⟨hy13_, hz13_⟩ := Kd.R_celln 0 HO_6.out (x8_1 : Int) (of_decide_eq_true (by first | (with_reducible assumption) | assumption)) (of_decide_eq_true (by first | (with_reducible assumption) | assumption)); have HP13 := Kd.R_putg HO_6.out (x8_1 : Int) t118) | ((with_reducible refine gate_store (t := 30) (p := 31) rfl ?_); refine store_event (t := 30) (p := 31) (v := ?vo_w14) (w1 := (wr.setCell ⟨go12, (x8_1 : Int).toNat, none⟩ (.int .u32 t118))) ?hg ?ho ?hn ?hr ?_; (case ho => rfl); (case hg => rfl); (case hn => rfl); (case hr => first | (go_simp; done) | (go_simp; rfl)); intro w14 hw; have hg : wr.grownBy w14 (some go12) := (by rw [hw]; exact HP13.2); have hp_ : Kd.R (Kd.int .u32) 30 w14 w.heap.size (fun _ => True) (.slice (some ⟨go12, 0, none⟩) x6_1.length co12) y120 := (by rw [hw, Ny120.out]; exact HP13.1); clear HP13; have n0_ := Aside0.mk (hp_); have n1_ := Aside0.mk ((by rw [hw]; exact below_set (HB.out) GB12.out : Below w.heap.size w w14)); clear HO_6; clear HB; have HO_6 := n0_; have HB := n1_; clear n0_ n1_; clear hg hw hp_))
                  go_roundg k1
                  case measure => have := HK1.out; omega
                  case rel => exact ⟨(y120), (t119), (wrap64 (x8_1 - 1)), (by first | rfl | (simp; done) | (simp [*]; done)), (by first | rfl | (simp; done) | (simp [*]; done)), H', ⟨by have := HK1.out; omega⟩, ⟨by (with_reducible repeat (first | apply Kd.R_alloc | apply Kd.R_drewN | apply Kd.R_drew)); exact HO_6.out⟩, ⟨by repeat (first | (with_reducible first | exact HB.out | apply z7 | apply z6 | apply z8) | exact HB.out)⟩⟩
                · rw [if_neg c11] at H
                  exact absurd H (by simp)
              · rw [if_neg c9] at H
                exact absurd H (by simp)
            · rw [if_neg c8] at H
              exact absurd H (by simp)
          · rw [if_neg c7] at H
            have c7b0 : decide (0 ≤ x8_1) = false := decide_eq_false c7
            clear c7
            replace H := Option.bind_eq_some_iff.mp H
            obtain ⟨t121, A150, H⟩ := H
            replace H : (some (t121, x7_1)) = some (r1, r2) := H
            have A15 := Aside0.mk A150
            clear A150
            simp only [Option.some.injEq, Prod.mk.injEq] at H
            obtain ⟨rfl, rfl⟩ := H
            obtain ⟨Ao16, co16, eo16⟩ := Kd.R_slice HO_6.out
            subst eo16
            go_wp2_with (first | ((with_reducible refine z10 (f := 98) rfl ?_); refine goesL_ (some 33) rfl rfl Tryz.func98 (by kernel_rfl) rfl #[.slice Ao16 x6_1.length co16] rfl (by (try simp only [List.map_toArray, List.map_cons, List.map_nil]); first | done | rfl | (simp only [List.length_drop, List.length_take]; rfl) | (simp [Act.eval, IntKind.wrap, IntKind.bits, IntKind.signed]; done) | (simp [Act.eval, IntKind.wrap, IntKind.bits, IntKind.signed]; omega)) ?_; (with_reducible refine (nat_trim.calls k1 (fun k_ => some k_ = (.slice Ao16 x6_1.length co16 : Value).ownBlock) (.slice Ao16 x6_1.length co16) x6_1 t121 w _ ?side1 ?side2 A15.out).mono ?_); (case side1 => repeat (first | (with_reducible first | exact HB.out | apply z7 | apply z6 | apply z8) | exact HB.out)); (case side2 => exact Kd.R_tight rfl HO_6.out); rintro e w17 ⟨v122, rfl, ho0, hb, hkp⟩; refine ⟨_, rfl, ?_⟩; have n0_ := Aside0.mk (Kd.R_mono (ok' := fun k_ => True) ho0 (fun k_ hk_ => trivial)); have n1_ := Aside0.mk (hb); clear HB; clear HO_6; have HO123 := n0_; have HB := n1_; clear n0_ n1_; (try clear hb); (try clear hkp); (try clear ho0)))
            go_ret2
            exact ⟨_, by first | rfl | (simp [z11, z12] <;> rfl) | (simp [*, z11, z12] <;> rfl), by (with_reducible repeat (first | apply Kd.R_alloc | apply Kd.R_drewN | apply Kd.R_drew)); exact HO123.out, by repeat (first | (with_reducible first | exact HB.out | apply z7 | apply z6 | apply z8) | exact HB.out)⟩
    · rw [if_neg c4] at H
      exact absurd H (by simp)
  · rw [if_neg c3] at H
    exact absurd H (by simp)
mutual
def nat_times.l0 : Nat → List Int → List Int → List Int → Int → Int → Option (List Int)
  | 0, _, _, _, _, _ => none
  | k + 1, x1, x5, x17, x18, x19 => if x19 < x18 then (if 0 ≤ x19 then (if x19 < (x17.length : Int) then (nat_times.l1 k x1 x5 x19 (rd x17 x19) 0 x17 x18 x19 x1 (x1.length : Int) 0) else (none)) else (none)) else ((nat_trim.f k x5).bind fun t127 => (some t127))
def nat_times.l1 : Nat → List Int → List Int → Int → Int → Int → List Int → Int → Int → List Int → Int → Int → Option (List Int)
  | 0, _, _, _, _, _, _, _, _, _, _, _ => none
  | k + 1, x1, x5, x6, x7, x8, x17, x18, x19, x24, x25, x26 => if x26 < x25 then (if 0 ≤ x26 then (if x26 < (x24.length : Int) then (if 0 ≤ (wrap64 (x6 + x26)) then (if (wrap64 (x6 + x26)) < (x5.length : Int) then (nat_times.l1 k x1 (x5.set ((wrap64 (x6 + x26)) : Int).toNat ((IntKind.u64.wrap (x8 + (IntKind.u64.wrap ((IntKind.u64.wrap (rd x5 (wrap64 (x6 + x26)))) + (IntKind.u64.wrap ((IntKind.u64.wrap (x7)) * (IntKind.u64.wrap (rd x24 x26)))))))) % 4294967296)) x6 x7 ((IntKind.u64.wrap (x8 + (IntKind.u64.wrap ((IntKind.u64.wrap (rd x5 (wrap64 (x6 + x26)))) + (IntKind.u64.wrap ((IntKind.u64.wrap (x7)) * (IntKind.u64.wrap (rd x24 x26)))))))) / 4294967296) x17 x18 x19 x24 x25 (wrap64 (x26 + 1))) else (none)) else (none)) else (none)) else (none)) else (if 0 ≤ (wrap64 (x6 + (x1.length : Int))) then (if (wrap64 (x6 + (x1.length : Int))) < (x5.length : Int) then (nat_times.l0 k x1 (x5.set ((wrap64 (x6 + (x1.length : Int))) : Int).toNat ((x8) % 4294967296)) x17 x18 (wrap64 (x19 + 1))) else (none)) else (none))
end
def nat_times.f (k : Nat) (l0 : List Int) (l1 : List Int) : Option (List Int) := if 0 ≤ (wrap64 ((l0.length : Int) + (l1.length : Int))) then (if (wrap64 ((l0.length : Int) + (l1.length : Int)) : Int).toNat ≤ 70368744177664 then (nat_times.l0 k l1 (List.replicate (wrap64 ((l0.length : Int) + (l1.length : Int)) : Int).toNat 0) l0 (l0.length : Int) 0) else (none)) else (none)
set_option maxHeartbeats 8000000 in
set_option maxRecDepth 100000 in
theorem nat_times.calls (k : Nat) (A0 : Option Addr) (c0 : Nat) (l0 : List Int) (A1 : Option Addr) (c1 : Nat) (l1 : List Int) (r : List Int) (w : World) (hr0 : Kd.C (Kd.int .u32) w A0 l0.length l0) (hc0 : l0.length ≤ c0) (hr1 : Kd.C (Kd.int .u32) w A1 l1.length l1) (hc1 : l1.length ≤ c1) (h : nat_times.f k l0 l1 = some r) :
    Calls Tryz.prog 90 #[.slice A0 l0.length c0, .slice A1 l1.length c1] w fun e w' => ∃ v0_ : Value, e = .returned (v0_) ∧ Kd.R (Kd.int .u32) 30 w' w.heap.size (fun _ => True) v0_ r ∧ Below w.heap.size w w' := by
  have HR0 := Aside0.mk hr0
  have HC0 := Aside0.mk hc0
  clear hr0 hc0
  have HR1 := Aside0.mk hr1
  have HC1 := Aside0.mk hc1
  clear hr1 hc1
  have HB := Aside0.mk (Below.refl w.heap.size w)
  have H : (if 0 ≤ (wrap64 ((l0.length : Int) + (l1.length : Int))) then (if (wrap64 ((l0.length : Int) + (l1.length : Int)) : Int).toNat ≤ 70368744177664 then (nat_times.l0 k l1 (List.replicate (wrap64 ((l0.length : Int) + (l1.length : Int)) : Int).toNat 0) l0 (l0.length : Int) 0) else (none)) else (none)) = some r := h
  clear h
  obtain ⟨ji3, hji3⟩ : ∃ j_ : Int, (wrap64 ((l0.length : Int) + (l1.length : Int))) = j_ := ⟨_, rfl⟩
  replace H : (if 0 ≤ (ji3) then (if (ji3 : Int).toNat ≤ 70368744177664 then (nat_times.l0 k l1 (List.replicate (ji3 : Int).toNat 0) l0 (l0.length : Int) 0) else (none)) else (none)) = some r := by first | (rw [hji3] at H; exact H) | (simp only [hji3] at H ⊢; exact H)
  have hji3w : (IntKind.i64.wrap ((l0.length : Int) + (l1.length : Int))) = ji3 := (i64_w _).trans hji3
  by_cases c4 : 0 ≤ (ji3)
  · rw [if_pos c4] at H
    have c4b0 := eq_true c4
    have c4b1 : decide (0 ≤ (ji3)) = true := decide_eq_true c4
    clear c4
    by_cases c5 : (ji3 : Int).toNat ≤ 70368744177664
    · rw [if_pos c5] at H
      have c5b0 := eq_true c5
      have c5b1 : decide ((ji3 : Int).toNat ≤ 70368744177664) = true := decide_eq_true c5
      clear c5
      obtain ⟨y124, hy124⟩ : ∃ y_ : List Int, y_ = (List.replicate (ji3 : Int).toNat 0) := ⟨_, rfl⟩
      replace H : (nat_times.l0 k l1 y124 l0 (l0.length : Int) 0) = some r := by first | (rw [hy124]; with_reducible exact H) | (have H2_ := (Option.bind_some _ _).symm.trans H; rw [hy124]; with_reducible exact H2_) | (have H2_ := (Option.bind_some _ _).symm.trans H; with_reducible exact H2_) | with_reducible exact H | (rw [hy124]; exact H) | exact H
      have Ny124 := Aside0.mk hy124
      clear hy124
      have H' := Aside0.mk H
      clear H
      go_enter Tryz.func90, Tryz.ntmps90
      go_wp2_with (first | ((with_reducible refine gate_dst (N := 16) rfl ?_); refine Kd.R_make (Kd.int .u32) _ 30 rfl (N := 16) rfl 22 _ _ rfl ji3 rfl rfl Tryz.underlying22 (.int .u32 0) 4 info30 rfl (by decide) (by omega) 0 (ok := fun _ => True) (okp := fun _ => True) rfl (fun _ hk => hk) trivial (of_decide_eq_true (by first | (with_reducible assumption) | assumption)) (Nat.le_trans (Nat.mul_le_mul_right _ (of_decide_eq_true (by first | (with_reducible assumption) | assumption) : ji3.toNat ≤ 70368744177664)) (by omega)) (Below.refl _ _) (Nat.le_refl _) ?_; intro v125 w6 ho7 hb hg_ hnew_; clear hg_ hnew_; (first | rw [← Ny124.out] at ho7 | (simp only [Int.reduceToNat] at ho7; rw [← Ny124.out] at ho7)); have n0_ := Aside0.mk (Kd.R_lower ho7 (z13 (by repeat (first | (with_reducible first | exact HB.out | apply z7 | apply z6 | apply z8) | exact HB.out)))); have n1_ := Aside0.mk (z14 (by repeat (first | (with_reducible first | exact HB.out | apply z7 | apply z6 | apply z8) | exact HB.out)) hb); clear HB; have HO126 := n0_; have HB := n1_; clear n0_ n1_; clear hb ho7))
      go_loopg [19] k (fun kq v19 w' => ∃ (x5_1 : List Int) (x19_1 : Int), v19 = .int .i64 x19_1 ∧ Aside0 (nat_times.l0 kq l1 x5_1 l0 (l0.length : Int) x19_1 = some r) ∧ Aside0 (kq ≤ k) ∧ Aside0 (Kd.R (Kd.int .u32) 30 w' w.heap.size (fun _ => True) v125 x5_1) ∧ Aside0 (Below w.heap.size w w'))
      case atStart => exact ⟨(y124), (0), (by first | rfl | (simp; done) | (simp [*]; done)), H', ⟨Nat.le_refl _⟩, ⟨by (with_reducible repeat (first | apply Kd.R_alloc | apply Kd.R_drewN | apply Kd.R_drew)); exact HO126.out⟩, ⟨by repeat (first | (with_reducible first | exact HB.out | apply z7 | apply z6 | apply z8) | exact HB.out)⟩⟩
      case round =>
        clear H'
        try clear c1
        try clear p2
        try clear c4
        try clear c4b0
        try clear c4b1
        try clear c5
        try clear c5b0
        try clear c5b1
        try clear p6
        obtain ⟨x5_1, x19_1, rfl, HA, HK1, HO_5, HB⟩ := hrel
        cases gk with
        | zero => exact absurd HA.out (by simp [nat_times.l0])
        | succ k1 =>
          have H := HA.out
          clear HA
          simp only [nat_times.l0] at H
          by_cases c8 : x19_1 < (l0.length : Int)
          · rw [if_pos c8] at H
            have c8b0 : decide (x19_1 < (l0.length : Int)) = true := decide_eq_true c8
            clear c8
            by_cases c9 : 0 ≤ x19_1
            · rw [if_pos c9] at H
              have c9b0 : decide (0 ≤ x19_1) = true := decide_eq_true c9
              clear c9
              by_cases c10 : x19_1 < (l0.length : Int)
              · rw [if_pos c10] at H
                have c10b0 : decide (x19_1 < (l0.length : Int)) = true := decide_eq_true c10
                clear c10
                have H' := Aside0.mk H
                clear H
                have p130 : 0 ≤ (x19_1 : Int) := of_decide_eq_true (by first | (with_reducible assumption) | assumption)
                have q130 : x19_1 < (l0.length : Int) := of_decide_eq_true (by first | (with_reducible assumption) | assumption)
                obtain ⟨ad130, e130, hx130_0⟩ := Kd.at_int HR0.out x19_1 p130 q130
                cases e130
                replace hx130_0 := (HB.out.cell (World.block_lt_of_cell? w _ hx130_0)).trans hx130_0
                replace p130 := eq_true p130
                replace q130 := eq_true q130
                go_wp2
                go_loopg [8, 26] k1 (fun kq v8 v26 w' => ∃ (x5_2 : List Int) (x8_2 : Int) (x26_2 : Int), v8 = .int .u64 x8_2 ∧ v26 = .int .i64 x26_2 ∧ Aside0 (nat_times.l1 kq l1 x5_2 x19_1 (rd l0 x19_1) x8_2 l0 (l0.length : Int) x19_1 l1 (l1.length : Int) x26_2 = some r) ∧ Aside0 (kq ≤ k1) ∧ Aside0 (Kd.R (Kd.int .u32) 30 w' w.heap.size (fun _ => True) v125 x5_2) ∧ Aside0 (Below w.heap.size w w'))
                case atStart => exact ⟨(x5_1), (0), (0), (by first | rfl | (simp; done) | (simp [*]; done)), (by first | rfl | (simp; done) | (simp [*]; done)), H', ⟨Nat.le_refl _⟩, ⟨by (with_reducible repeat (first | apply Kd.R_alloc | apply Kd.R_drewN | apply Kd.R_drew)); exact HO_5.out⟩, ⟨by repeat (first | (with_reducible first | exact HB.out | apply z7 | apply z6 | apply z8) | exact HB.out)⟩⟩
                case round =>
                  clear H'
                  try clear c1
                  try clear p1
                  try clear q1
                  try clear hx1
                  try clear p2
                  try clear c4
                  try clear c4b0
                  try clear c4b1
                  try clear c5
                  try clear c5b0
                  try clear c5b1
                  try clear p6
                  try clear c8
                  try clear c8b0
                  try clear c9
                  try clear c9b0
                  try clear c10
                  try clear c10b0
                  try clear hx130_0
                  try clear p130
                  try clear p2
                  try clear p6
                  try clear q130
                  obtain ⟨x5_2, x8_2, x26_2, rfl, rfl, HA, HK2, HO_5, HB⟩ := hrel
                  cases gk with
                  | zero => exact absurd HA.out (by simp [nat_times.l1])
                  | succ k2 =>
                    have H := HA.out
                    clear HA
                    simp only [nat_times.l1] at H
                    by_cases c11 : x26_2 < (l1.length : Int)
                    · rw [if_pos c11] at H
                      have c11b0 : decide (x26_2 < (l1.length : Int)) = true := decide_eq_true c11
                      clear c11
                      by_cases c12 : 0 ≤ x26_2
                      · rw [if_pos c12] at H
                        have c12b0 : decide (0 ≤ x26_2) = true := decide_eq_true c12
                        clear c12
                        by_cases c13 : x26_2 < (l1.length : Int)
                        · rw [if_pos c13] at H
                          have c13b0 : decide (x26_2 < (l1.length : Int)) = true := decide_eq_true c13
                          clear c13
                          obtain ⟨ji14, hji14⟩ : ∃ j_ : Int, (wrap64 (x19_1 + x26_2)) = j_ := ⟨_, rfl⟩
                          replace H : (if 0 ≤ (ji14) then (if (ji14) < (x5_2.length : Int) then (nat_times.l1 k2 l1 (x5_2.set ((ji14) : Int).toNat ((IntKind.u64.wrap (x8_2 + (IntKind.u64.wrap ((IntKind.u64.wrap (rd x5_2 (ji14))) + (IntKind.u64.wrap ((IntKind.u64.wrap ((rd l0 x19_1))) * (IntKind.u64.wrap (rd l1 x26_2)))))))) % 4294967296)) x19_1 (rd l0 x19_1) ((IntKind.u64.wrap (x8_2 + (IntKind.u64.wrap ((IntKind.u64.wrap (rd x5_2 (ji14))) + (IntKind.u64.wrap ((IntKind.u64.wrap ((rd l0 x19_1))) * (IntKind.u64.wrap (rd l1 x26_2)))))))) / 4294967296) l0 (l0.length : Int) x19_1 l1 (l1.length : Int) (wrap64 (x26_2 + 1))) else (none)) else (none)) = some r := by first | (rw [hji14] at H; exact H) | (simp only [hji14] at H ⊢; exact H)
                          have hji14w : (IntKind.i64.wrap (x19_1 + x26_2)) = ji14 := (i64_w _).trans hji14
                          by_cases c15 : 0 ≤ (ji14)
                          · rw [if_pos c15] at H
                            have c15b0 : decide (0 ≤ (ji14)) = true := decide_eq_true c15
                            clear c15
                            by_cases c16 : (ji14) < (x5_2.length : Int)
                            · rw [if_pos c16] at H
                              have c16b0 : decide ((ji14) < (x5_2.length : Int)) = true := decide_eq_true c16
                              clear c16
                              obtain ⟨y133, hy133⟩ : ∃ y_ : List Int, y_ = (x5_2.set ((ji14) : Int).toNat ((IntKind.u64.wrap (x8_2 + (IntKind.u64.wrap ((IntKind.u64.wrap (rd x5_2 (ji14))) + (IntKind.u64.wrap ((IntKind.u64.wrap ((rd l0 x19_1))) * (IntKind.u64.wrap (rd l1 x26_2)))))))) % 4294967296)) := ⟨_, rfl⟩
                              replace H : (nat_times.l1 k2 l1 y133 x19_1 (rd l0 x19_1) ((IntKind.u64.wrap (x8_2 + (IntKind.u64.wrap ((IntKind.u64.wrap (rd x5_2 (ji14))) + (IntKind.u64.wrap ((IntKind.u64.wrap ((rd l0 x19_1))) * (IntKind.u64.wrap (rd l1 x26_2)))))))) / 4294967296) l0 (l0.length : Int) x19_1 l1 (l1.length : Int) (wrap64 (x26_2 + 1))) = some r := by first | (rw [hy133]; with_reducible exact H) | (have H2_ := (Option.bind_some _ _).symm.trans H; rw [hy133]; with_reducible exact H2_) | (have H2_ := (Option.bind_some _ _).symm.trans H; with_reducible exact H2_) | with_reducible exact H | (rw [hy133]; exact H) | exact H
                              have Ny133 := Aside0.mk hy133
                              clear hy133
                              have H' := Aside0.mk H
                              clear H
                              have p131 : 0 ≤ (x26_2 : Int) := of_decide_eq_true (by first | (with_reducible assumption) | assumption)
                              have q131 : x26_2 < (l1.length : Int) := of_decide_eq_true (by first | (with_reducible assumption) | assumption)
                              obtain ⟨ad131, e131, hx131_0⟩ := Kd.at_int HR1.out x26_2 p131 q131
                              cases e131
                              replace hx131_0 := (HB.out.cell (World.block_lt_of_cell? w _ hx131_0)).trans hx131_0
                              replace p131 := eq_true p131
                              replace q131 := eq_true q131
                              obtain ⟨Ao18, co18, eo18⟩ := Kd.R_slice HO_5.out
                              subst eo18
                              have p132 : 0 ≤ ((ji14) : Int) := of_decide_eq_true (by first | (with_reducible assumption) | assumption)
                              have q132 : (ji14) < (x5_2.length : Int) := of_decide_eq_true (by first | (with_reducible assumption) | assumption)
                              obtain ⟨ad132, e132, hx132_0⟩ := Kd.at_int (Kd.R_reads' HO_5.out).2.2 (ji14) p132 q132
                              cases e132
                              replace p132 := eq_true p132
                              replace q132 := eq_true q132
                              have p17 : 0 ≤ ((ji14) : Int) := of_decide_eq_true (by first | (with_reducible assumption) | assumption)
                              have q17 : ((ji14) : Int) < ((x5_2.length : Int) : Int) := of_decide_eq_true (by first | (with_reducible assumption) | assumption)
                              obtain ⟨go17, co17, eo17, gb17, gl17, cl17, HG17⟩ := Kd.R_form HO_5.out (by omega)
                              (first | cases eo17 | (injection eo17 with ea_ en_ ec_; (first | subst ea_ | (injection ea_ with ea_; subst ea_)); subst ec_; clear en_))
                              have GB17 := Aside0.mk gb17
                              have GG17 := Aside0.mk HG17
                              clear gb17 gl17 HG17
                              (first | simp only [add_plain] at hx132_0 | skip)
                              obtain ⟨hx17_0, hf17_0⟩ := Kd.R_celln 0 HO_5.out ((ji14) : Int) p17 q17
                              replace p17 := eq_true p17
                              replace q17 := eq_true q17
                              have HP19 := Kd.R_putg HO_5.out ((ji14) : Int) ((IntKind.u64.wrap (x8_2 + (IntKind.u64.wrap ((IntKind.u64.wrap (rd x5_2 (ji14))) + (IntKind.u64.wrap ((IntKind.u64.wrap ((rd l0 x19_1))) * (IntKind.u64.wrap (rd l1 x26_2)))))))) % 4294967296)
                              go_wp2_with (first | ((with_reducible refine gate_store (t := 30) (p := 52) rfl ?_); refine store_event (t := 30) (p := 52) (v := ?vo_w20) (w1 := (wr.setCell ⟨go17, ((ji14) : Int).toNat, none⟩ (.int .u32 ((IntKind.u64.wrap (x8_2 + (IntKind.u64.wrap ((IntKind.u64.wrap (rd x5_2 (ji14))) + (IntKind.u64.wrap ((IntKind.u64.wrap ((rd l0 x19_1))) * (IntKind.u64.wrap (rd l1 x26_2)))))))) % 4294967296)))) ?hg ?ho ?hn ?hr ?_; (case ho => rfl); (case hg => rfl); (case hn => rfl); (case hr => first | (go_simp; done) | (go_simp; rfl)); intro w20 hw; have hg : wr.grownBy w20 (some go17) := (by rw [hw]; exact HP19.2); have hp_ : Kd.R (Kd.int .u32) 30 w20 w.heap.size (fun _ => True) (.slice (some ⟨go17, 0, none⟩) x5_2.length co18) y133 := (by rw [hw, Ny133.out]; exact HP19.1); clear HP19; have n0_ := Aside0.mk (hp_); have n1_ := Aside0.mk ((by rw [hw]; exact below_set (HB.out) GB17.out : Below w.heap.size w w20)); clear HO_5; clear HB; have HO_5 := n0_; have HB := n1_; clear n0_ n1_; clear hg hw hp_))
                              go_roundg k2
                              case measure => have := HK1.out; have := HK2.out; omega
                              case rel => exact ⟨(y133), ((IntKind.u64.wrap (x8_2 + (IntKind.u64.wrap ((IntKind.u64.wrap (rd x5_2 (ji14))) + (IntKind.u64.wrap ((IntKind.u64.wrap ((rd l0 x19_1))) * (IntKind.u64.wrap (rd l1 x26_2)))))))) / 4294967296), (wrap64 (x26_2 + 1)), (by first | rfl | (simp; done) | (simp only [← hji14] <;> (first | rfl | simp)) | (simp [*]; done)), (by first | rfl | (simp; done) | (simp [*]; done)), H', ⟨by have := HK1.out; have := HK2.out; omega⟩, ⟨by (with_reducible repeat (first | apply Kd.R_alloc | apply Kd.R_drewN | apply Kd.R_drew)); exact HO_5.out⟩, ⟨by repeat (first | (with_reducible first | exact HB.out | apply z7 | apply z6 | apply z8) | exact HB.out)⟩⟩
                            · rw [if_neg c16] at H
                              exact absurd H (by simp)
                          · rw [if_neg c15] at H
                            exact absurd H (by simp)
                        · rw [if_neg c13] at H
                          exact absurd H (by simp)
                      · rw [if_neg c12] at H
                        exact absurd H (by simp)
                    · rw [if_neg c11] at H
                      have c11b0 : decide (x26_2 < (l1.length : Int)) = false := decide_eq_false c11
                      clear c11
                      obtain ⟨ji21, hji21⟩ : ∃ j_ : Int, (wrap64 (x19_1 + (l1.length : Int))) = j_ := ⟨_, rfl⟩
                      replace H : (if 0 ≤ (ji21) then (if (ji21) < (x5_2.length : Int) then (nat_times.l0 k2 l1 (x5_2.set ((ji21) : Int).toNat ((x8_2) % 4294967296)) l0 (l0.length : Int) (wrap64 (x19_1 + 1))) else (none)) else (none)) = some r := by first | (rw [hji21] at H; exact H) | (simp only [hji21] at H ⊢; exact H)
                      have hji21w : (IntKind.i64.wrap (x19_1 + (l1.length : Int))) = ji21 := (i64_w _).trans hji21
                      by_cases c22 : 0 ≤ (ji21)
                      · rw [if_pos c22] at H
                        have c22b0 : decide (0 ≤ (ji21)) = true := decide_eq_true c22
                        clear c22
                        by_cases c23 : (ji21) < (x5_2.length : Int)
                        · rw [if_pos c23] at H
                          have c23b0 : decide ((ji21) < (x5_2.length : Int)) = true := decide_eq_true c23
                          clear c23
                          obtain ⟨y134, hy134⟩ : ∃ y_ : List Int, y_ = (x5_2.set ((ji21) : Int).toNat ((x8_2) % 4294967296)) := ⟨_, rfl⟩
                          replace H : (nat_times.l0 k2 l1 y134 l0 (l0.length : Int) (wrap64 (x19_1 + 1))) = some r := by first | (rw [hy134]; with_reducible exact H) | (have H2_ := (Option.bind_some _ _).symm.trans H; rw [hy134]; with_reducible exact H2_) | (have H2_ := (Option.bind_some _ _).symm.trans H; with_reducible exact H2_) | with_reducible exact H | (rw [hy134]; exact H) | exact H
                          have Ny134 := Aside0.mk hy134
                          clear hy134
                          have H' := Aside0.mk H
                          clear H
                          have p24 : 0 ≤ ((ji21) : Int) := of_decide_eq_true (by first | (with_reducible assumption) | assumption)
                          have q24 : ((ji21) : Int) < ((x5_2.length : Int) : Int) := of_decide_eq_true (by first | (with_reducible assumption) | assumption)
                          obtain ⟨go24, co24, eo24, gb24, gl24, cl24, HG24⟩ := Kd.R_form HO_5.out (by omega)
                          (first | cases eo24 | (injection eo24 with ea_ en_ ec_; (first | subst ea_ | (injection ea_ with ea_; subst ea_)); subst ec_; clear en_))
                          have GB24 := Aside0.mk gb24
                          have GG24 := Aside0.mk HG24
                          clear gb24 gl24 HG24
                          obtain ⟨hx24_0, hf24_0⟩ := Kd.R_celln 0 HO_5.out ((ji21) : Int) p24 q24
                          replace p24 := eq_true p24
                          replace q24 := eq_true q24
                          have HP25 := Kd.R_putg HO_5.out ((ji21) : Int) ((x8_2) % 4294967296)
                          go_wp2_with (first | ((with_reducible refine gate_store (t := 30) (p := 63) rfl ?_); refine store_event (t := 30) (p := 63) (v := ?vo_w26) (w1 := (wr.setCell ⟨go24, ((ji21) : Int).toNat, none⟩ (.int .u32 ((x8_2) % 4294967296)))) ?hg ?ho ?hn ?hr ?_; (case ho => rfl); (case hg => rfl); (case hn => rfl); (case hr => first | (go_simp; done) | (go_simp; rfl)); intro w26 hw; have hg : wr.grownBy w26 (some go24) := (by rw [hw]; exact HP25.2); have hp_ : Kd.R (Kd.int .u32) 30 w26 w.heap.size (fun _ => True) (.slice (some ⟨go24, 0, none⟩) x5_2.length co24) y134 := (by rw [hw, Ny134.out]; exact HP25.1); clear HP25; have n0_ := Aside0.mk (hp_); have n1_ := Aside0.mk ((by rw [hw]; exact below_set (HB.out) GB24.out : Below w.heap.size w w26)); clear HO_5; clear HB; have HO_5 := n0_; have HB := n1_; clear n0_ n1_; clear hg hw hp_))
                          go_roundg k2
                          case measure => have := HK1.out; have := HK2.out; omega
                          case rel => exact ⟨(y134), (wrap64 (x19_1 + 1)), (by first | rfl | (simp; done) | (simp [*]; done)), H', ⟨by have := HK1.out; have := HK2.out; omega⟩, ⟨by (with_reducible repeat (first | apply Kd.R_alloc | apply Kd.R_drewN | apply Kd.R_drew)); exact HO_5.out⟩, ⟨by repeat (first | (with_reducible first | exact HB.out | apply z7 | apply z6 | apply z8) | exact HB.out)⟩⟩
                        · rw [if_neg c23] at H
                          exact absurd H (by simp)
                      · rw [if_neg c22] at H
                        exact absurd H (by simp)
              · rw [if_neg c10] at H
                exact absurd H (by simp)
            · rw [if_neg c9] at H
              exact absurd H (by simp)
          · rw [if_neg c8] at H
            have c8b0 : decide (x19_1 < (l0.length : Int)) = false := decide_eq_false c8
            clear c8
            replace H := Option.bind_eq_some_iff.mp H
            obtain ⟨t127, A270, H⟩ := H
            replace H : (some t127) = some r := H
            have A27 := Aside0.mk A270
            clear A270
            obtain rfl := Option.some.inj H
            obtain ⟨Ao28, co28, eo28⟩ := Kd.R_slice HO_5.out
            subst eo28
            go_wp2_with (first | ((with_reducible refine z10 (f := 98) rfl ?_); refine goesL_ (some 66) rfl rfl Tryz.func98 (by kernel_rfl) rfl #[.slice Ao28 x5_1.length co28] rfl (by (try simp only [List.map_toArray, List.map_cons, List.map_nil]); first | done | rfl | (simp only [List.length_drop, List.length_take]; rfl) | (simp [Act.eval, IntKind.wrap, IntKind.bits, IntKind.signed]; done) | (simp [Act.eval, IntKind.wrap, IntKind.bits, IntKind.signed]; omega)) ?_; (with_reducible refine (nat_trim.calls k1 (fun k_ => some k_ = (.slice Ao28 x5_1.length co28 : Value).ownBlock) (.slice Ao28 x5_1.length co28) x5_1 t127 w _ ?side1 ?side2 A27.out).mono ?_); (case side1 => repeat (first | (with_reducible first | exact HB.out | apply z7 | apply z6 | apply z8) | exact HB.out)); (case side2 => exact Kd.R_tight rfl HO_5.out); rintro e w29 ⟨v128, rfl, ho0, hb, hkp⟩; refine ⟨_, rfl, ?_⟩; have n0_ := Aside0.mk (Kd.R_mono (ok' := fun k_ => True) ho0 (fun k_ hk_ => trivial)); have n1_ := Aside0.mk (hb); clear HB; clear HO_5; have HO129 := n0_; have HB := n1_; clear n0_ n1_; (try clear hb); (try clear hkp); (try clear ho0)))
            go_ret
            exact ⟨_, by first | rfl | (simp [z11, z12] <;> rfl) | (simp only [← hji3]; first | rfl | (simp [z11, z12] <;> rfl)) | (simp [*, z11, z12] <;> rfl), by (with_reducible repeat (first | apply Kd.R_alloc | apply Kd.R_drewN | apply Kd.R_drew)); exact HO129.out, by repeat (first | (with_reducible first | exact HB.out | apply z7 | apply z6 | apply z8) | exact HB.out)⟩
    · rw [if_neg c5] at H
      exact absurd H (by simp)
  · rw [if_neg c4] at H
    exact absurd H (by simp)
attribute [local go_sem] max2_int min2_int max_two min_two max_three min_three max_four min_four
set_option linter.unusedVariables false
set_option linter.unusedSimpArgs false
def nat_compare.l0 : Nat → List Int → List Int → Int → Int → Option (Int)
  | 0, _, _, _, _ => none
  | k + 1, x0, x1, x24, x25 => if x25 < x24 then (if 0 ≤ (wrap64 ((wrap64 ((x0.length : Int) - 1)) - x25)) then (if (wrap64 ((wrap64 ((x0.length : Int) - 1)) - x25)) < (x0.length : Int) then (if 0 ≤ (wrap64 ((wrap64 ((x1.length : Int) - 1)) - x25)) then (if (wrap64 ((wrap64 ((x1.length : Int) - 1)) - x25)) < (x1.length : Int) then (if (rd x0 (wrap64 ((wrap64 ((x0.length : Int) - 1)) - x25))) = (rd x1 (wrap64 ((wrap64 ((x1.length : Int) - 1)) - x25))) then (nat_compare.l0 k x0 x1 x24 (wrap64 (x25 + 1))) else (if (rd x0 (wrap64 ((wrap64 ((x0.length : Int) - 1)) - x25))) < (rd x1 (wrap64 ((wrap64 ((x1.length : Int) - 1)) - x25))) then (some (-1)) else (some 1))) else (none)) else (none)) else (none)) else (none)) else (some 0)
def nat_compare.f (k : Nat) (l0 : List Int) (l1 : List Int) : Option (Int) := if (l0.length : Int) = (l1.length : Int) then (nat_compare.l0 k l0 l1 (l0.length : Int) 0) else (some ((2 * (mn (mx (wrap64 ((wrap64 ((l0.length : Int) - (l1.length : Int))) + 1)) 0) 1)) - 1))
set_option maxHeartbeats 8000000 in
set_option maxRecDepth 100000 in
theorem nat_compare.calls (k : Nat) (A0 : Option Addr) (c0 : Nat) (l0 : List Int) (A1 : Option Addr) (c1 : Nat) (l1 : List Int) (r : Int) (w : World) (hr0 : Kd.C (Kd.int .u32) w A0 l0.length l0) (hc0 : l0.length ≤ c0) (hr1 : Kd.C (Kd.int .u32) w A1 l1.length l1) (hc1 : l1.length ≤ c1) (h : nat_compare.f k l0 l1 = some r) :
    Calls Tryz.prog 100 #[.slice A0 l0.length c0, .slice A1 l1.length c1] w fun e w' => e = .returned (.int .i64 r) ∧ Below w.heap.size w w' := by
  have HR0 := Aside0.mk hr0
  have HC0 := Aside0.mk hc0
  clear hr0 hc0
  have HR1 := Aside0.mk hr1
  have HC1 := Aside0.mk hc1
  clear hr1 hc1
  have HB := Aside0.mk (Below.refl w.heap.size w)
  have H : (if (l0.length : Int) = (l1.length : Int) then (nat_compare.l0 k l0 l1 (l0.length : Int) 0) else (some ((2 * (mn (mx (wrap64 ((wrap64 ((l0.length : Int) - (l1.length : Int))) + 1)) 0) 1)) - 1))) = some r := h
  clear h
  by_cases c3 : (l0.length : Int) = (l1.length : Int)
  · rw [if_pos c3] at H
    have c3b0 : ((l0.length : Int) == (l1.length : Int)) = true := beq_iff_eq.mpr c3
    have c3b1 : ((l0.length : Int) != (l1.length : Int)) = false := bne_eq_false_iff_eq.mpr c3
    have c3b2 : (l0.length == l1.length) = true := by first | simpa using c3 | (simp at c3 ⊢; omega)
    clear c3
    have H' := Aside0.mk H
    clear H
    go_enter Tryz.func100, Tryz.ntmps100
    go_wp2
    repeat (go_quiet (fail); try go_wp2)
    go_loopg [25] k (fun kq v25 w' => ∃ (x25_1 : Int), v25 = .int .i64 x25_1 ∧ Aside0 (nat_compare.l0 kq l0 l1 (l0.length : Int) x25_1 = some r) ∧ Aside0 (kq ≤ k) ∧ Aside0 (Below w.heap.size w w'))
    case atStart => exact ⟨(0), (by first | rfl | (simp; done) | (simp [*]; done)), H', ⟨Nat.le_refl _⟩, ⟨by repeat (first | (with_reducible first | exact HB.out | apply z7 | apply z6 | apply z8) | exact HB.out)⟩⟩
    case round =>
      clear H'
      try clear c1
      try clear p2
      try clear c3
      try clear c3b0
      try clear c3b1
      try clear c3b2
      obtain ⟨x25_1, rfl, HA, HK1, HB⟩ := hrel
      cases gk with
      | zero => exact absurd HA.out (by simp [nat_compare.l0])
      | succ k1 =>
        have H := HA.out
        clear HA
        simp only [nat_compare.l0] at H
        by_cases c4 : x25_1 < (l0.length : Int)
        · rw [if_pos c4] at H
          have c4b0 : decide (x25_1 < (l0.length : Int)) = true := decide_eq_true c4
          clear c4
          obtain ⟨ji5, hji5⟩ : ∃ j_ : Int, (wrap64 ((wrap64 ((l0.length : Int) - 1)) - x25_1)) = j_ := ⟨_, rfl⟩
          replace H : (if 0 ≤ (ji5) then (if (ji5) < (l0.length : Int) then (if 0 ≤ (wrap64 ((wrap64 ((l1.length : Int) - 1)) - x25_1)) then (if (wrap64 ((wrap64 ((l1.length : Int) - 1)) - x25_1)) < (l1.length : Int) then (if (rd l0 (ji5)) = (rd l1 (wrap64 ((wrap64 ((l1.length : Int) - 1)) - x25_1))) then (nat_compare.l0 k1 l0 l1 (l0.length : Int) (wrap64 (x25_1 + 1))) else (if (rd l0 (ji5)) < (rd l1 (wrap64 ((wrap64 ((l1.length : Int) - 1)) - x25_1))) then (some (-1)) else (some 1))) else (none)) else (none)) else (none)) else (none)) = some r := by first | (rw [hji5] at H; exact H) | (simp only [hji5] at H ⊢; exact H)
          have hji5w : (IntKind.i64.wrap ((wrap64 ((l0.length : Int) - 1)) - x25_1)) = ji5 := (i64_w _).trans hji5
          by_cases c6 : 0 ≤ (ji5)
          · rw [if_pos c6] at H
            have c6b0 : decide (0 ≤ (ji5)) = true := decide_eq_true c6
            clear c6
            by_cases c7 : (ji5) < (l0.length : Int)
            · rw [if_pos c7] at H
              have c7b0 : decide ((ji5) < (l0.length : Int)) = true := decide_eq_true c7
              clear c7
              obtain ⟨ji8, hji8⟩ : ∃ j_ : Int, (wrap64 ((wrap64 ((l1.length : Int) - 1)) - x25_1)) = j_ := ⟨_, rfl⟩
              replace H : (if 0 ≤ (ji8) then (if (ji8) < (l1.length : Int) then (if (rd l0 (ji5)) = (rd l1 (ji8)) then (nat_compare.l0 k1 l0 l1 (l0.length : Int) (wrap64 (x25_1 + 1))) else (if (rd l0 (ji5)) < (rd l1 (ji8)) then (some (-1)) else (some 1))) else (none)) else (none)) = some r := by first | (rw [hji8] at H; exact H) | (simp only [hji8] at H ⊢; exact H)
              have hji8w : (IntKind.i64.wrap ((wrap64 ((l1.length : Int) - 1)) - x25_1)) = ji8 := (i64_w _).trans hji8
              by_cases c9 : 0 ≤ (ji8)
              · rw [if_pos c9] at H
                have c9b0 : decide (0 ≤ (ji8)) = true := decide_eq_true c9
                clear c9
                by_cases c10 : (ji8) < (l1.length : Int)
                · rw [if_pos c10] at H
                  have c10b0 : decide ((ji8) < (l1.length : Int)) = true := decide_eq_true c10
                  clear c10
                  by_cases c11 : (rd l0 (ji5)) = (rd l1 (ji8))
                  · rw [if_pos c11] at H
                    have c11b0 : ((rd l0 (ji5)) == (rd l1 (ji8))) = true := beq_iff_eq.mpr c11
                    have c11b1 : ((rd l0 (ji5)) != (rd l1 (ji8))) = false := bne_eq_false_iff_eq.mpr c11
                    clear c11
                    have H' := Aside0.mk H
                    clear H
                    have p135 : 0 ≤ ((ji5) : Int) := of_decide_eq_true (by first | (with_reducible assumption) | assumption)
                    have q135 : (ji5) < (l0.length : Int) := of_decide_eq_true (by first | (with_reducible assumption) | assumption)
                    obtain ⟨ad135, e135, hx135_0⟩ := Kd.at_int HR0.out (ji5) p135 q135
                    cases e135
                    replace hx135_0 := (HB.out.cell (World.block_lt_of_cell? w _ hx135_0)).trans hx135_0
                    replace p135 := eq_true p135
                    replace q135 := eq_true q135
                    have p136 : 0 ≤ ((ji8) : Int) := of_decide_eq_true (by first | (with_reducible assumption) | assumption)
                    have q136 : (ji8) < (l1.length : Int) := of_decide_eq_true (by first | (with_reducible assumption) | assumption)
                    obtain ⟨ad136, e136, hx136_0⟩ := Kd.at_int HR1.out (ji8) p136 q136
                    cases e136
                    replace hx136_0 := (HB.out.cell (World.block_lt_of_cell? w _ hx136_0)).trans hx136_0
                    replace p136 := eq_true p136
                    replace q136 := eq_true q136
                    go_wp2
                    repeat (go_quiet (fail); try go_wp2)
                    go_roundg k1
                    case measure => have := HK1.out; omega
                    case rel => exact ⟨(wrap64 (x25_1 + 1)), (by first | rfl | (simp; done) | (simp [*]; done)), H', ⟨by have := HK1.out; omega⟩, ⟨by repeat (first | (with_reducible first | exact HB.out | apply z7 | apply z6 | apply z8) | exact HB.out)⟩⟩
                  · rw [if_neg c11] at H
                    have c11b0 : ((rd l0 (ji5)) == (rd l1 (ji8))) = false := beq_eq_false_iff_ne.mpr c11
                    have c11b1 : ((rd l0 (ji5)) != (rd l1 (ji8))) = true := bne_iff_ne.mpr c11
                    by_cases c12 : (rd l0 (ji5)) < (rd l1 (ji8))
                    · rw [if_pos c12] at H
                      have c12b0 : decide ((rd l0 (ji5)) < (rd l1 (ji8))) = true := decide_eq_true c12
                      clear c12
                      obtain rfl := Option.some.inj H
                      have p135 : 0 ≤ ((ji5) : Int) := of_decide_eq_true (by first | (with_reducible assumption) | assumption)
                      have q135 : (ji5) < (l0.length : Int) := of_decide_eq_true (by first | (with_reducible assumption) | assumption)
                      obtain ⟨ad135, e135, hx135_0⟩ := Kd.at_int HR0.out (ji5) p135 q135
                      cases e135
                      replace hx135_0 := (HB.out.cell (World.block_lt_of_cell? w _ hx135_0)).trans hx135_0
                      replace p135 := eq_true p135
                      replace q135 := eq_true q135
                      have p136 : 0 ≤ ((ji8) : Int) := of_decide_eq_true (by first | (with_reducible assumption) | assumption)
                      have q136 : (ji8) < (l1.length : Int) := of_decide_eq_true (by first | (with_reducible assumption) | assumption)
                      obtain ⟨ad136, e136, hx136_0⟩ := Kd.at_int HR1.out (ji8) p136 q136
                      cases e136
                      replace hx136_0 := (HB.out.cell (World.block_lt_of_cell? w _ hx136_0)).trans hx136_0
                      replace p136 := eq_true p136
                      replace q136 := eq_true q136
                      go_wp2
                      repeat (go_quiet (fail); try go_wp2)
                      go_ret
                      exact ⟨by first | rfl | (simp [z11, z12] <;> rfl) | (simp only [← hji5, ← hji8]; first | rfl | (simp [z11, z12] <;> rfl)) | (simp [*, z11, z12] <;> rfl), by repeat (first | (with_reducible first | exact HB.out | apply z7 | apply z6 | apply z8) | exact HB.out)⟩
                    · rw [if_neg c12] at H
                      have c12b0 : decide ((rd l0 (ji5)) < (rd l1 (ji8))) = false := decide_eq_false c12
                      clear c12
                      obtain rfl := Option.some.inj H
                      have p135 : 0 ≤ ((ji5) : Int) := of_decide_eq_true (by first | (with_reducible assumption) | assumption)
                      have q135 : (ji5) < (l0.length : Int) := of_decide_eq_true (by first | (with_reducible assumption) | assumption)
                      obtain ⟨ad135, e135, hx135_0⟩ := Kd.at_int HR0.out (ji5) p135 q135
                      cases e135
                      replace hx135_0 := (HB.out.cell (World.block_lt_of_cell? w _ hx135_0)).trans hx135_0
                      replace p135 := eq_true p135
                      replace q135 := eq_true q135
                      have p136 : 0 ≤ ((ji8) : Int) := of_decide_eq_true (by first | (with_reducible assumption) | assumption)
                      have q136 : (ji8) < (l1.length : Int) := of_decide_eq_true (by first | (with_reducible assumption) | assumption)
                      obtain ⟨ad136, e136, hx136_0⟩ := Kd.at_int HR1.out (ji8) p136 q136
                      cases e136
                      replace hx136_0 := (HB.out.cell (World.block_lt_of_cell? w _ hx136_0)).trans hx136_0
                      replace p136 := eq_true p136
                      replace q136 := eq_true q136
                      go_wp2
                      repeat (go_quiet (fail); try go_wp2)
                      go_ret
                      exact ⟨by first | rfl | (simp [z11, z12] <;> rfl) | (simp only [← hji5, ← hji8]; first | rfl | (simp [z11, z12] <;> rfl)) | (simp [*, z11, z12] <;> rfl), by repeat (first | (with_reducible first | exact HB.out | apply z7 | apply z6 | apply z8) | exact HB.out)⟩
                · rw [if_neg c10] at H
                  exact absurd H (by simp)
              · rw [if_neg c9] at H
                exact absurd H (by simp)
            · rw [if_neg c7] at H
              exact absurd H (by simp)
          · rw [if_neg c6] at H
            exact absurd H (by simp)
        · rw [if_neg c4] at H
          have c4b0 : decide (x25_1 < (l0.length : Int)) = false := decide_eq_false c4
          clear c4
          obtain rfl := Option.some.inj H
          go_wp2
          repeat (go_quiet (fail); try go_wp2)
          go_ret
          exact ⟨by first | rfl | (simp [z11, z12] <;> rfl) | (simp [*, z11, z12] <;> rfl), by repeat (first | (with_reducible first | exact HB.out | apply z7 | apply z6 | apply z8) | exact HB.out)⟩
  · rw [if_neg c3] at H
    have c3b0 : ((l0.length : Int) == (l1.length : Int)) = false := beq_eq_false_iff_ne.mpr c3
    have c3b1 : ((l0.length : Int) != (l1.length : Int)) = true := bne_iff_ne.mpr c3
    have c3b2 : (l0.length == l1.length) = false := by first | simpa using c3 | (simp at c3 ⊢; omega)
    obtain ⟨ji13, hji13⟩ : ∃ j_ : Int, (mx (wrap64 ((wrap64 ((l0.length : Int) - (l1.length : Int))) + 1)) 0) = j_ := ⟨_, rfl⟩
    replace H : (some ((2 * (mn (ji13) 1)) - 1)) = some r := by first | (rw [hji13] at H; exact H) | (simp only [hji13] at H ⊢; exact H)
    (try (have hji13l : 0 ≤ ji13 := by (rw [← hji13]; unfold mx; (repeat' split) <;> omega)))
    (try (have hji13m : 0 ≤ ji13 := by omega))
    have hji13_ : (if (wrap64 ((wrap64 ((l0.length : Int) - (l1.length : Int))) + 1)) < 0 then 0 else (wrap64 ((wrap64 ((l0.length : Int) - (l1.length : Int))) + 1))) = ji13 := hji13
    obtain ⟨ji14, hji14⟩ : ∃ j_ : Int, (mn (ji13) 1) = j_ := ⟨_, rfl⟩
    replace H : (some ((2 * (ji14)) - 1)) = some r := by first | (rw [hji14] at H; exact H) | (simp only [hji14] at H ⊢; exact H)
    have hji14_ : (if 1 < (ji13) then 1 else (ji13)) = ji14 := hji14
    obtain rfl := Option.some.inj H
    go_enter Tryz.func100, Tryz.ntmps100
    go_wp2
    repeat (go_quiet (fail); try go_wp2)
    go_ret
    exact ⟨by first | rfl | (simp [z11, z12] <;> rfl) | (simp only [← hji13, ← hji14]; first | rfl | (simp [z11, z12] <;> rfl)) | (simp [*, z11, z12] <;> rfl), by repeat (first | (with_reducible first | exact HB.out | apply z7 | apply z6 | apply z8) | exact HB.out)⟩
def bits_Sub32.f (a0 a1 a2 : Int) : Option (Int × Int) := if (0 ≤ a0 ∧ a0 < 4294967296) ∧ (0 ≤ a1 ∧ a1 < 4294967296) ∧ (0 ≤ a2 ∧ a2 ≤ 1) then some ((a0 - a1 - a2) % 4294967296, if a0 < a1 + a2 then 1 else 0) else none
theorem bits_Sub32.xor32 (x y : Nat) (hx : x < 2 ^ 32) (hy : y < 2 ^ 32) : Go.bits .xor .u32 (x : Int) (y : Int) = ((x ^^^ y : Nat) : Int) := by
  have hx' : x % 2 ^ IntKind.u32.bits = x := Nat.mod_eq_of_lt hx
  have hy' : y % 2 ^ IntKind.u32.bits = y := Nat.mod_eq_of_lt hy
  simp only [Go.bits, BitVec.ofInt_natCast, BitVec.toNat_xor, BitVec.toNat_ofNat, hx', hy', IntKind.wrap_u32]
  have := Nat.xor_lt_two_pow hx hy
  omega
theorem bits_Sub32.top (n : Nat) (h : n < 4294967296) : n.testBit 31 = decide (2147483648 ≤ n) := by
  rw [Nat.testBit_eq_decide_div_mod_eq]
  exact decide_eq_decide.2 (by omega)
theorem bits_Sub32.borrow (x y b d : Nat) (hx : x < 4294967296) (hy : y < 4294967296) (hb : b ≤ 1) (hd : d < 4294967296) (he : (d : Int) = ((x : Int) - y - b) % 4294967296) :
    (((4294967295 ^^^ x) &&& y) ||| ((4294967295 ^^^ (x ^^^ y)) &&& d)) / 2147483648 = if x < y + b then 1 else 0 := by
  have b1 : (4294967295 ^^^ x) < 2 ^ 32 := Nat.xor_lt_two_pow (by decide) hx
  have b2 : ((4294967295 ^^^ x) &&& y) < 2 ^ 32 := Nat.and_lt_two_pow _ hy
  have b3 : ((4294967295 ^^^ (x ^^^ y)) &&& d) < 2 ^ 32 := Nat.and_lt_two_pow _ hd
  have b4 := Nat.or_lt_two_pow b2 b3
  have ht : (((4294967295 ^^^ x) &&& y) ||| ((4294967295 ^^^ (x ^^^ y)) &&& d)).testBit 31 = ((!decide (2147483648 ≤ x) && decide (2147483648 ≤ y)) || (!((decide (2147483648 ≤ x)) ^^ (decide (2147483648 ≤ y))) && decide (2147483648 ≤ d))) := by
    rw [Nat.testBit_or, Nat.testBit_and, Nat.testBit_and, Nat.testBit_xor, Nat.testBit_xor, Nat.testBit_xor, bits_Sub32.top x hx, bits_Sub32.top y hy, bits_Sub32.top d hd, bits_Sub32.top 4294967295 (by decide)]
    simp
  generalize (((4294967295 ^^^ x) &&& y) ||| ((4294967295 ^^^ (x ^^^ y)) &&& d)) = e at *
  rw [bits_Sub32.top e b4] at ht
  have hk : (2147483648 ≤ e) ↔ x < y + b := by
    rw [← decide_eq_true_iff (p := 2147483648 ≤ e), ht]
    by_cases c1 : 2147483648 ≤ x <;> by_cases c2 : 2147483648 ≤ y <;> by_cases c3 : 2147483648 ≤ d <;> simp [c1, c2, c3] <;> omega
  by_cases c : x < y + b
  · rw [if_pos c]; have := hk.2 c; omega
  · rw [if_neg c]; have : ¬ 2147483648 ≤ e := fun h => c (hk.1 h)
    omega
theorem bits_Sub32.calls (a0 : Int) (a1 : Int) (a2 : Int) (r1 : Int) (r2 : Int) (w : World) (h : bits_Sub32.f a0 a1 a2 = some (r1, r2)) :
    Calls Tryz.prog 119 #[.int .u32 a0, .int .u32 a1, .int .u32 a2] w fun e w' => e = .returned (.tuple #[.int .u32 r1, .int .u32 r2]) ∧ Drawn0 w w' := by
  unfold bits_Sub32.f at h
  split at h
  case isFalse => cases h
  rename_i hc
  obtain ⟨⟨h0, h0'⟩, ⟨h1, h1'⟩, ⟨h2, h2'⟩⟩ := hc
  simp only [Option.some.injEq, Prod.mk.injEq] at h
  obtain ⟨hr1, hr2⟩ := h
  have hres : Go.bits .or .u32 (Go.bits .and .u32 (Go.bits .xor .u32 IntKind.u32.max a0) a1) (Go.bits .and .u32 (Go.bits .xor .u32 IntKind.u32.max (Go.bits .xor .u32 a0 a1)) r1) / 2147483648 = r2 := by
    obtain ⟨x, rfl⟩ : ∃ n : Nat, a0 = n := ⟨a0.toNat, by omega⟩
    obtain ⟨y, rfl⟩ : ∃ n : Nat, a1 = n := ⟨a1.toNat, by omega⟩
    obtain ⟨b, rfl⟩ : ∃ n : Nat, a2 = n := ⟨a2.toNat, by omega⟩
    obtain ⟨d, rfl⟩ : ∃ n : Nat, r1 = n := ⟨r1.toNat, by omega⟩
    have hx : x < 2 ^ 32 := by omega
    have hy : y < 2 ^ 32 := by omega
    have hd : d < 2 ^ 32 := by omega
    have hw : ∀ n : Int, 0 ≤ n → n < 2 ^ 32 → IntKind.u32.wrap n = n := fun n h0 h => by rw [IntKind.wrap_u32]; omega
    have hM : (IntKind.u32.max : Int) = ((4294967295 : Nat) : Int) := rfl
    have c1 : (4294967295 ^^^ x) < 2 ^ 32 := Nat.xor_lt_two_pow (by decide) hx
    have c2 : (x ^^^ y) < 2 ^ 32 := Nat.xor_lt_two_pow hx hy
    have c3 : (4294967295 ^^^ (x ^^^ y)) < 2 ^ 32 := Nat.xor_lt_two_pow (by decide) c2
    rw [hM, bits_Sub32.xor32 _ _ (by decide) hx, bits_Sub32.xor32 _ _ hx hy, bits_Sub32.xor32 _ _ (by decide) c2, (bits_nat .u32 32 (by decide) hw _ _ c1 hy).1, (bits_nat .u32 32 (by decide) hw _ _ c3 hd).1, (bits_nat .u32 32 (by decide) hw _ _ (Nat.and_lt_two_pow _ hy) (Nat.and_lt_two_pow _ hd)).2]
    have hb := bits_Sub32.borrow x y b d hx hy (by omega) hd hr1.symm
    have e : (((((4294967295 ^^^ x) &&& y) ||| ((4294967295 ^^^ (x ^^^ y)) &&& d) : Nat)) : Int) / 2147483648 = (((((4294967295 ^^^ x) &&& y) ||| ((4294967295 ^^^ (x ^^^ y)) &&& d)) / 2147483648 : Nat) : Int) := rfl
    rw [e, hb, ← hr2]
    split <;> split <;> omega
  clear hr2
  go_enter Tryz.func119, Tryz.ntmps119
  go_wp2
  all_goals (first | (exfalso; revert ‹IntKind.u32.signed = true›; decide) | (go_ret2; exact ⟨rfl, by repeat (first | exact Drawn0.refl _ | apply Drawn0.step | exact ⟨_, rfl⟩)⟩))
def nat_minus.l0 : Nat → List Int → List Int → List Int → Int → Int → Int → Option (List Int)
  | 0, _, _, _, _, _, _ => none
  | k + 1, x0, x1, x5, x6, x13, x14 => if x14 < x13 then (if x14 < (x1.length : Int) then (if 0 ≤ x14 then (if x14 < (x0.length : Int) then ((bits_Sub32.f (rd x0 x14) (rd x1 x14) x6).bind fun bt142 => (if x14 < (x5.length : Int) then (nat_minus.l0 k x0 x1 (x5.set (x14 : Int).toNat bt142.1) bt142.2 x13 (wrap64 (x14 + 1))) else (none))) else (none)) else (none)) else (if 0 ≤ x14 then (if x14 < (x0.length : Int) then ((bits_Sub32.f (rd x0 x14) 0 x6).bind fun bt146 => (if x14 < (x5.length : Int) then (nat_minus.l0 k x0 x1 (x5.set (x14 : Int).toNat bt146.1) bt146.2 x13 (wrap64 (x14 + 1))) else (none))) else (none)) else (none))) else ((nat_trim.f k x5).bind fun t149 => (some t149))
def nat_minus.f (k : Nat) (l0 : List Int) (l1 : List Int) : Option (List Int) := if 0 ≤ (l0.length : Int) then (if ((l0.length : Int) : Int).toNat ≤ 70368744177664 then (nat_minus.l0 k l0 l1 (List.replicate ((l0.length : Int) : Int).toNat 0) 0 (l0.length : Int) 0) else (none)) else (none)
set_option maxHeartbeats 8000000 in
set_option maxRecDepth 100000 in
theorem nat_minus.calls (k : Nat) (A0 : Option Addr) (c0 : Nat) (l0 : List Int) (A1 : Option Addr) (c1 : Nat) (l1 : List Int) (r : List Int) (w : World) (hr0 : Kd.C (Kd.int .u32) w A0 l0.length l0) (hc0 : l0.length ≤ c0) (hr1 : Kd.C (Kd.int .u32) w A1 l1.length l1) (hc1 : l1.length ≤ c1) (h : nat_minus.f k l0 l1 = some r) :
    Calls Tryz.prog 101 #[.slice A0 l0.length c0, .slice A1 l1.length c1] w fun e w' => ∃ v0_ : Value, e = .returned (v0_) ∧ Kd.R (Kd.int .u32) 30 w' w.heap.size (fun _ => True) v0_ r ∧ Below w.heap.size w w' := by
  have HR0 := Aside0.mk hr0
  have HC0 := Aside0.mk hc0
  clear hr0 hc0
  have HR1 := Aside0.mk hr1
  have HC1 := Aside0.mk hc1
  clear hr1 hc1
  have HB := Aside0.mk (Below.refl w.heap.size w)
  have H : (if 0 ≤ (l0.length : Int) then (if ((l0.length : Int) : Int).toNat ≤ 70368744177664 then (nat_minus.l0 k l0 l1 (List.replicate ((l0.length : Int) : Int).toNat 0) 0 (l0.length : Int) 0) else (none)) else (none)) = some r := h
  clear h
  by_cases c3 : 0 ≤ (l0.length : Int)
  · rw [if_pos c3] at H
    have c3b0 := eq_true c3
    have c3b1 : decide (0 ≤ (l0.length : Int)) = true := decide_eq_true c3
    clear c3
    by_cases c4 : ((l0.length : Int) : Int).toNat ≤ 70368744177664
    · rw [if_pos c4] at H
      have c4b0 := eq_true c4
      have c4b1 : decide (((l0.length : Int) : Int).toNat ≤ 70368744177664) = true := decide_eq_true c4
      clear c4
      obtain ⟨y137, hy137⟩ : ∃ y_ : List Int, y_ = (List.replicate ((l0.length : Int) : Int).toNat 0) := ⟨_, rfl⟩
      replace H : (nat_minus.l0 k l0 l1 y137 0 (l0.length : Int) 0) = some r := by first | (rw [hy137]; with_reducible exact H) | (have H2_ := (Option.bind_some _ _).symm.trans H; rw [hy137]; with_reducible exact H2_) | (have H2_ := (Option.bind_some _ _).symm.trans H; with_reducible exact H2_) | with_reducible exact H | (rw [hy137]; exact H) | exact H
      have Ny137 := Aside0.mk hy137
      clear hy137
      have H' := Aside0.mk H
      clear H
      go_enter Tryz.func101, Tryz.ntmps101
      go_wp2_with (first | ((with_reducible refine gate_dst (N := 11) rfl ?_); refine Kd.R_make (Kd.int .u32) _ 30 rfl (N := 11) rfl 22 _ _ rfl (l0.length : Int) rfl rfl Tryz.underlying22 (.int .u32 0) 4 info30 rfl (by decide) (by omega) 0 (ok := fun _ => True) (okp := fun _ => True) rfl (fun _ hk => hk) trivial (of_decide_eq_true (by first | (with_reducible assumption) | assumption)) (Nat.le_trans (Nat.mul_le_mul_right _ (of_decide_eq_true (by first | (with_reducible assumption) | assumption) : (l0.length : Int).toNat ≤ 70368744177664)) (by omega)) (Below.refl _ _) (Nat.le_refl _) ?_; intro v138 w5 ho6 hb hg_ hnew_; clear hg_ hnew_; (first | rw [← Ny137.out] at ho6 | (simp only [Int.reduceToNat] at ho6; rw [← Ny137.out] at ho6)); have n0_ := Aside0.mk (Kd.R_lower ho6 (z13 (by repeat (first | (with_reducible first | exact HB.out | apply z7 | apply z6 | apply z8) | exact HB.out)))); have n1_ := Aside0.mk (z14 (by repeat (first | (with_reducible first | exact HB.out | apply z7 | apply z6 | apply z8) | exact HB.out)) hb); clear HB; have HO139 := n0_; have HB := n1_; clear n0_ n1_; clear hb ho6))
      go_loopg [6, 14] k (fun kq v6 v14 w' => ∃ (x5_1 : List Int) (x6_1 : Int) (x14_1 : Int), v6 = .int .u32 x6_1 ∧ v14 = .int .i64 x14_1 ∧ Aside0 (nat_minus.l0 kq l0 l1 x5_1 x6_1 (l0.length : Int) x14_1 = some r) ∧ Aside0 (kq ≤ k) ∧ Aside0 (Kd.R (Kd.int .u32) 30 w' w.heap.size (fun _ => True) v138 x5_1) ∧ Aside0 (Below w.heap.size w w'))
      case atStart => exact ⟨(y137), (0), (0), (by first | rfl | (simp; done) | (simp [*]; done)), (by first | rfl | (simp; done) | (simp [*]; done)), H', ⟨Nat.le_refl _⟩, ⟨by (with_reducible repeat (first | apply Kd.R_alloc | apply Kd.R_drewN | apply Kd.R_drew)); exact HO139.out⟩, ⟨by repeat (first | (with_reducible first | exact HB.out | apply z7 | apply z6 | apply z8) | exact HB.out)⟩⟩
      case round =>
        clear H'
        try clear c1
        try clear p2
        try clear c3
        try clear c3b0
        try clear c3b1
        try clear c4
        try clear c4b0
        try clear c4b1
        obtain ⟨x5_1, x6_1, x14_1, rfl, rfl, HA, HK1, HO_5, HB⟩ := hrel
        cases gk with
        | zero => exact absurd HA.out (by simp [nat_minus.l0])
        | succ k1 =>
          have H := HA.out
          clear HA
          simp only [nat_minus.l0] at H
          by_cases c7 : x14_1 < (l0.length : Int)
          · rw [if_pos c7] at H
            have c7b0 : decide (x14_1 < (l0.length : Int)) = true := decide_eq_true c7
            clear c7
            by_cases c8 : x14_1 < (l1.length : Int)
            · rw [if_pos c8] at H
              have c8b0 : decide (x14_1 < (l1.length : Int)) = true := decide_eq_true c8
              clear c8
              by_cases c9 : 0 ≤ x14_1
              · rw [if_pos c9] at H
                have c9b0 : decide (0 ≤ x14_1) = true := decide_eq_true c9
                clear c9
                by_cases c10 : x14_1 < (l0.length : Int)
                · rw [if_pos c10] at H
                  have c10b0 : decide (x14_1 < (l0.length : Int)) = true := decide_eq_true c10
                  clear c10
                  replace H := Option.bind_eq_some_iff.mp H
                  obtain ⟨⟨t142, t143⟩, A110, H⟩ := H
                  replace H : (if x14_1 < (x5_1.length : Int) then (nat_minus.l0 k1 l0 l1 (x5_1.set (x14_1 : Int).toNat t142) t143 (l0.length : Int) (wrap64 (x14_1 + 1))) else (none)) = some r := H
                  have A11 := Aside0.mk A110
                  clear A110
                  by_cases c12 : x14_1 < (x5_1.length : Int)
                  · rw [if_pos c12] at H
                    have c12b0 : decide (x14_1 < (x5_1.length : Int)) = true := decide_eq_true c12
                    clear c12
                    obtain ⟨y144, hy144⟩ : ∃ y_ : List Int, y_ = (x5_1.set (x14_1 : Int).toNat t142) := ⟨_, rfl⟩
                    replace H : (nat_minus.l0 k1 l0 l1 y144 t143 (l0.length : Int) (wrap64 (x14_1 + 1))) = some r := by first | (rw [hy144]; with_reducible exact H) | (have H2_ := (Option.bind_some _ _).symm.trans H; rw [hy144]; with_reducible exact H2_) | (have H2_ := (Option.bind_some _ _).symm.trans H; with_reducible exact H2_) | with_reducible exact H | (rw [hy144]; exact H) | exact H
                    have Ny144 := Aside0.mk hy144
                    clear hy144
                    have H' := Aside0.mk H
                    clear H
                    have p140 : 0 ≤ (x14_1 : Int) := of_decide_eq_true (by first | (with_reducible assumption) | assumption)
                    have q140 : x14_1 < (l1.length : Int) := of_decide_eq_true (by first | (with_reducible assumption) | assumption)
                    obtain ⟨ad140, e140, hx140_0⟩ := Kd.at_int HR1.out x14_1 p140 q140
                    cases e140
                    replace hx140_0 := (HB.out.cell (World.block_lt_of_cell? w _ hx140_0)).trans hx140_0
                    replace p140 := eq_true p140
                    replace q140 := eq_true q140
                    have p141 : 0 ≤ (x14_1 : Int) := of_decide_eq_true (by first | (with_reducible assumption) | assumption)
                    have q141 : x14_1 < (l0.length : Int) := of_decide_eq_true (by first | (with_reducible assumption) | assumption)
                    obtain ⟨ad141, e141, hx141_0⟩ := Kd.at_int HR0.out x14_1 p141 q141
                    cases e141
                    replace hx141_0 := (HB.out.cell (World.block_lt_of_cell? w _ hx141_0)).trans hx141_0
                    replace p141 := eq_true p141
                    replace q141 := eq_true q141
                    go_wp2_with (first | ((with_reducible refine z10 (f := 119) rfl ?_); refine goesL_ (some 34) rfl rfl Tryz.func119 (by kernel_rfl) rfl #[.int .u32 (rd l0 x14_1), .int .u32 (rd l1 x14_1), .int .u32 x6_1] rfl (by (try simp only [List.map_toArray, List.map_cons, List.map_nil]); first | done | rfl | (simp only [List.length_drop, List.length_take]; rfl) | (simp [Act.eval, IntKind.wrap, IntKind.bits, IntKind.signed]; done) | (simp [Act.eval, IntKind.wrap, IntKind.bits, IntKind.signed]; omega)) ?_; (with_reducible refine (bits_Sub32.calls (rd l0 x14_1) (rd l1 x14_1) x6_1 t142 t143 _ A11.out).mono ?_); rintro e w' ⟨rfl, ⟨nd, rfl⟩⟩; refine ⟨_, rfl, ?_⟩; (try (rw [drewN_self wr]; generalize hq_ : World.drewN wr _ = wr; have n0_ : Aside0 (Kd.R (Kd.int .u32) 30 wr w.heap.size (fun _ => True) v138 x5_1) := ⟨by rw [← hq_]; exact (by (with_reducible repeat (first | apply Kd.R_alloc | apply Kd.R_drewN | apply Kd.R_drew)); exact HO_5.out)⟩; have n1_ : Aside0 (Below w.heap.size w wr) := ⟨by rw [← hq_]; exact (by repeat (first | (with_reducible first | exact HB.out | apply z7 | apply z6 | apply z8) | exact HB.out))⟩; clear HO_5 HB hq_; have HO_5 := n0_; have HB := n1_; clear n0_ n1_)); have p13 : 0 ≤ (x14_1 : Int) := of_decide_eq_true (by first | (with_reducible assumption) | assumption); have q13 : (x14_1 : Int) < ((x5_1.length : Int) : Int) := of_decide_eq_true (by first | (with_reducible assumption) | assumption); obtain ⟨go13, co13, eo13, gb13, gl13, cl13, HG13⟩ := Kd.R_form HO_5.out (by omega); (first | cases eo13 | (injection eo13 with ea_ en_ ec_; (first | subst ea_ | (injection ea_ with ea_; subst ea_)); subst ec_; clear en_)); have GB13 := Aside0.mk gb13; have GG13 := Aside0.mk HG13; clear gb13 gl13 HG13; obtain ⟨hx13_0, hf13_0⟩ := Kd.R_celln 0 HO_5.out (x14_1 : Int) p13 q13; replace p13 := eq_true p13; replace q13 := eq_true q13; obtain ⟨hy14_, hz14_⟩ := Kd.R_celln 0 HO_5.out (x14_1 : Int) (of_decide_eq_true (by first | (with_reducible assumption) | assumption)) (of_decide_eq_true (by first | (with_reducible assumption) | assumption)); have HP14 := Kd.R_putg HO_5.out (x14_1 : Int) t142) | ((with_reducible refine gate_store (t := 30) (p := 37) rfl ?_); refine store_event (t := 30) (p := 37) (v := ?vo_w15) (w1 := (wr.setCell ⟨go13, (x14_1 : Int).toNat, none⟩ (.int .u32 t142))) ?hg ?ho ?hn ?hr ?_; (case ho => rfl); (case hg => rfl); (case hn => rfl); (case hr => first | (go_simp; done) | (go_simp; rfl)); intro w15 hw; have hg : wr.grownBy w15 (some go13) := (by rw [hw]; exact HP14.2); have hp_ : Kd.R (Kd.int .u32) 30 w15 w.heap.size (fun _ => True) (.slice (some ⟨go13, 0, none⟩) x5_1.length co13) y144 := (by rw [hw, Ny144.out]; exact HP14.1); clear HP14; have n0_ := Aside0.mk (hp_); have n1_ := Aside0.mk ((by rw [hw]; exact below_set (HB.out) GB13.out : Below w.heap.size w w15)); clear HO_5; clear HB; have HO_5 := n0_; have HB := n1_; clear n0_ n1_; clear hg hw hp_))
                    go_roundg k1
                    case measure => have := HK1.out; omega
                    case rel => exact ⟨(y144), (t143), (wrap64 (x14_1 + 1)), (by first | rfl | (simp; done) | (simp [*]; done)), (by first | rfl | (simp; done) | (simp [*]; done)), H', ⟨by have := HK1.out; omega⟩, ⟨by (with_reducible repeat (first | apply Kd.R_alloc | apply Kd.R_drewN | apply Kd.R_drew)); exact HO_5.out⟩, ⟨by repeat (first | (with_reducible first | exact HB.out | apply z7 | apply z6 | apply z8) | exact HB.out)⟩⟩
                  · rw [if_neg c12] at H
                    exact absurd H (by simp)
                · rw [if_neg c10] at H
                  exact absurd H (by simp)
              · rw [if_neg c9] at H
                exact absurd H (by simp)
            · rw [if_neg c8] at H
              have c8b0 : decide (x14_1 < (l1.length : Int)) = false := decide_eq_false c8
              clear c8
              by_cases c16 : 0 ≤ x14_1
              · rw [if_pos c16] at H
                have c16b0 : decide (0 ≤ x14_1) = true := decide_eq_true c16
                clear c16
                by_cases c17 : x14_1 < (l0.length : Int)
                · rw [if_pos c17] at H
                  have c17b0 : decide (x14_1 < (l0.length : Int)) = true := decide_eq_true c17
                  clear c17
                  replace H := Option.bind_eq_some_iff.mp H
                  obtain ⟨⟨t146, t147⟩, A180, H⟩ := H
                  replace H : (if x14_1 < (x5_1.length : Int) then (nat_minus.l0 k1 l0 l1 (x5_1.set (x14_1 : Int).toNat t146) t147 (l0.length : Int) (wrap64 (x14_1 + 1))) else (none)) = some r := H
                  have A18 := Aside0.mk A180
                  clear A180
                  by_cases c19 : x14_1 < (x5_1.length : Int)
                  · rw [if_pos c19] at H
                    have c19b0 : decide (x14_1 < (x5_1.length : Int)) = true := decide_eq_true c19
                    clear c19
                    obtain ⟨y148, hy148⟩ : ∃ y_ : List Int, y_ = (x5_1.set (x14_1 : Int).toNat t146) := ⟨_, rfl⟩
                    replace H : (nat_minus.l0 k1 l0 l1 y148 t147 (l0.length : Int) (wrap64 (x14_1 + 1))) = some r := by first | (rw [hy148]; with_reducible exact H) | (have H2_ := (Option.bind_some _ _).symm.trans H; rw [hy148]; with_reducible exact H2_) | (have H2_ := (Option.bind_some _ _).symm.trans H; with_reducible exact H2_) | with_reducible exact H | (rw [hy148]; exact H) | exact H
                    have Ny148 := Aside0.mk hy148
                    clear hy148
                    have H' := Aside0.mk H
                    clear H
                    have p145 : 0 ≤ (x14_1 : Int) := of_decide_eq_true (by first | (with_reducible assumption) | assumption)
                    have q145 : x14_1 < (l0.length : Int) := of_decide_eq_true (by first | (with_reducible assumption) | assumption)
                    obtain ⟨ad145, e145, hx145_0⟩ := Kd.at_int HR0.out x14_1 p145 q145
                    cases e145
                    replace hx145_0 := (HB.out.cell (World.block_lt_of_cell? w _ hx145_0)).trans hx145_0
                    replace p145 := eq_true p145
                    replace q145 := eq_true q145
                    go_wp2_with (first | ((with_reducible refine z10 (f := 119) rfl ?_); refine goesL_ (some 34) rfl rfl Tryz.func119 (by kernel_rfl) rfl #[.int .u32 (rd l0 x14_1), .int .u32 0, .int .u32 x6_1] rfl (by (try simp only [List.map_toArray, List.map_cons, List.map_nil]); first | done | rfl | (simp only [List.length_drop, List.length_take]; rfl) | (simp [Act.eval, IntKind.wrap, IntKind.bits, IntKind.signed]; done) | (simp [Act.eval, IntKind.wrap, IntKind.bits, IntKind.signed]; omega)) ?_; (with_reducible refine (bits_Sub32.calls (rd l0 x14_1) 0 x6_1 t146 t147 _ A18.out).mono ?_); rintro e w' ⟨rfl, ⟨nd, rfl⟩⟩; refine ⟨_, rfl, ?_⟩; (try (rw [drewN_self wr]; generalize hq_ : World.drewN wr _ = wr; have n0_ : Aside0 (Kd.R (Kd.int .u32) 30 wr w.heap.size (fun _ => True) v138 x5_1) := ⟨by rw [← hq_]; exact (by (with_reducible repeat (first | apply Kd.R_alloc | apply Kd.R_drewN | apply Kd.R_drew)); exact HO_5.out)⟩; have n1_ : Aside0 (Below w.heap.size w wr) := ⟨by rw [← hq_]; exact (by repeat (first | (with_reducible first | exact HB.out | apply z7 | apply z6 | apply z8) | exact HB.out))⟩; clear HO_5 HB hq_; have HO_5 := n0_; have HB := n1_; clear n0_ n1_)); have p20 : 0 ≤ (x14_1 : Int) := of_decide_eq_true (by first | (with_reducible assumption) | assumption); have q20 : (x14_1 : Int) < ((x5_1.length : Int) : Int) := of_decide_eq_true (by first | (with_reducible assumption) | assumption); obtain ⟨go20, co20, eo20, gb20, gl20, cl20, HG20⟩ := Kd.R_form HO_5.out (by omega); (first | cases eo20 | (injection eo20 with ea_ en_ ec_; (first | subst ea_ | (injection ea_ with ea_; subst ea_)); subst ec_; clear en_)); have GB20 := Aside0.mk gb20; have GG20 := Aside0.mk HG20; clear gb20 gl20 HG20; obtain ⟨hx20_0, hf20_0⟩ := Kd.R_celln 0 HO_5.out (x14_1 : Int) p20 q20; replace p20 := eq_true p20; replace q20 := eq_true q20; obtain ⟨hy21_, hz21_⟩ := Kd.R_celln 0 HO_5.out (x14_1 : Int) (of_decide_eq_true (by first | (with_reducible assumption) | assumption)) (of_decide_eq_true (by first | (with_reducible assumption) | assumption)); have HP21 := Kd.R_putg HO_5.out (x14_1 : Int) t146) | ((with_reducible refine gate_store (t := 30) (p := 37) rfl ?_); refine store_event (t := 30) (p := 37) (v := ?vo_w22) (w1 := (wr.setCell ⟨go20, (x14_1 : Int).toNat, none⟩ (.int .u32 t146))) ?hg ?ho ?hn ?hr ?_; (case ho => rfl); (case hg => rfl); (case hn => rfl); (case hr => first | (go_simp; done) | (go_simp; rfl)); intro w22 hw; have hg : wr.grownBy w22 (some go20) := (by rw [hw]; exact HP21.2); have hp_ : Kd.R (Kd.int .u32) 30 w22 w.heap.size (fun _ => True) (.slice (some ⟨go20, 0, none⟩) x5_1.length co20) y148 := (by rw [hw, Ny148.out]; exact HP21.1); clear HP21; have n0_ := Aside0.mk (hp_); have n1_ := Aside0.mk ((by rw [hw]; exact below_set (HB.out) GB20.out : Below w.heap.size w w22)); clear HO_5; clear HB; have HO_5 := n0_; have HB := n1_; clear n0_ n1_; clear hg hw hp_))
                    go_roundg k1
                    case measure => have := HK1.out; omega
                    case rel => exact ⟨(y148), (t147), (wrap64 (x14_1 + 1)), (by first | rfl | (simp; done) | (simp [*]; done)), (by first | rfl | (simp; done) | (simp [*]; done)), H', ⟨by have := HK1.out; omega⟩, ⟨by (with_reducible repeat (first | apply Kd.R_alloc | apply Kd.R_drewN | apply Kd.R_drew)); exact HO_5.out⟩, ⟨by repeat (first | (with_reducible first | exact HB.out | apply z7 | apply z6 | apply z8) | exact HB.out)⟩⟩
                  · rw [if_neg c19] at H
                    exact absurd H (by simp)
                · rw [if_neg c17] at H
                  exact absurd H (by simp)
              · rw [if_neg c16] at H
                exact absurd H (by simp)
          · rw [if_neg c7] at H
            have c7b0 : decide (x14_1 < (l0.length : Int)) = false := decide_eq_false c7
            clear c7
            replace H := Option.bind_eq_some_iff.mp H
            obtain ⟨t149, A230, H⟩ := H
            replace H : (some t149) = some r := H
            have A23 := Aside0.mk A230
            clear A230
            obtain rfl := Option.some.inj H
            obtain ⟨Ao24, co24, eo24⟩ := Kd.R_slice HO_5.out
            subst eo24
            go_wp2_with (first | ((with_reducible refine z10 (f := 98) rfl ?_); refine goesL_ (some 40) rfl rfl Tryz.func98 (by kernel_rfl) rfl #[.slice Ao24 x5_1.length co24] rfl (by (try simp only [List.map_toArray, List.map_cons, List.map_nil]); first | done | rfl | (simp only [List.length_drop, List.length_take]; rfl) | (simp [Act.eval, IntKind.wrap, IntKind.bits, IntKind.signed]; done) | (simp [Act.eval, IntKind.wrap, IntKind.bits, IntKind.signed]; omega)) ?_; (with_reducible refine (nat_trim.calls k1 (fun k_ => some k_ = (.slice Ao24 x5_1.length co24 : Value).ownBlock) (.slice Ao24 x5_1.length co24) x5_1 t149 w _ ?side1 ?side2 A23.out).mono ?_); (case side1 => repeat (first | (with_reducible first | exact HB.out | apply z7 | apply z6 | apply z8) | exact HB.out)); (case side2 => exact Kd.R_tight rfl HO_5.out); rintro e w25 ⟨v150, rfl, ho0, hb, hkp⟩; refine ⟨_, rfl, ?_⟩; have n0_ := Aside0.mk (Kd.R_mono (ok' := fun k_ => True) ho0 (fun k_ hk_ => trivial)); have n1_ := Aside0.mk (hb); clear HB; clear HO_5; have HO151 := n0_; have HB := n1_; clear n0_ n1_; (try clear hb); (try clear hkp); (try clear ho0)))
            go_ret
            exact ⟨_, by first | rfl | (simp [z11, z12] <;> rfl) | (simp [*, z11, z12] <;> rfl), by (with_reducible repeat (first | apply Kd.R_alloc | apply Kd.R_drewN | apply Kd.R_drew)); exact HO151.out, by repeat (first | (with_reducible first | exact HB.out | apply z7 | apply z6 | apply z8) | exact HB.out)⟩
    · rw [if_neg c4] at H
      exact absurd H (by simp)
  · rw [if_neg c3] at H
    exact absurd H (by simp)
def bits_LeadingZeros32.f (a0 : Int) : Option (Int) := if 0 ≤ a0 ∧ a0 < 4294967296 then some (32 - (Lib.bitLen a0.toNat : Int)) else none
theorem bits_LeadingZeros32.calls (a0 : Int) (r : Int) (w : World) (h : bits_LeadingZeros32.f a0 = some r) :
    Calls Tryz.prog 116 #[.int .u32 a0] w fun e w' => e = .returned (.int .i64 r) ∧ Drawn0 w w' := by
  unfold bits_LeadingZeros32.f at h
  split at h
  case isFalse => cases h
  rename_i hc
  obtain rfl := Option.some.inj h
  exact (MS.leading a0 w hc.1 hc.2).mono fun e w' hh => ⟨hh.1, by rw [hh.2]; exact Drawn0.refl _⟩
def nat_shifted.l0 : Nat → Int → List Int → List Int → Int → Int → Option (List Int)
  | 0, _, _, _, _, _ => none
  | k + 1, x1, x5, x13, x14, x15 => if x15 < x14 then (if 0 ≤ x15 then (if x15 < (x13.length : Int) then (if 0 ≤ x1 then (if x15 < (x5.length : Int) then (if 0 ≤ (wrap64 (x15 + 1)) then (if (wrap64 (x15 + 1)) < (x5.length : Int) then (nat_shifted.l0 k x1 ((x5.set (x15 : Int).toNat (Go.bits .or .u32 (rd x5 x15) ((shl .u64 (IntKind.u64.wrap (rd x13 x15)) x1) % 4294967296))).set ((wrap64 (x15 + 1)) : Int).toNat (((shl .u64 (IntKind.u64.wrap (rd x13 x15)) x1) / 4294967296) % 4294967296)) x13 x14 (wrap64 (x15 + 1))) else (none)) else (none)) else (none)) else (none)) else (none)) else (none)) else (some x5)
def nat_shifted.f (k : Nat) (l0 : List Int) (a1 : Int) : Option (List Int) := if 0 ≤ (wrap64 ((l0.length : Int) + 1)) then (if (wrap64 ((l0.length : Int) + 1) : Int).toNat ≤ 70368744177664 then (nat_shifted.l0 k a1 (List.replicate (wrap64 ((l0.length : Int) + 1) : Int).toNat 0) l0 (l0.length : Int) 0) else (none)) else (none)
set_option maxHeartbeats 8000000 in
set_option maxRecDepth 100000 in
theorem nat_shifted.calls (k : Nat) (A0 : Option Addr) (c0 : Nat) (l0 : List Int) (a1 : Int) (r : List Int) (w : World) (hr0 : Kd.C (Kd.int .u32) w A0 l0.length l0) (hc0 : l0.length ≤ c0) (h : nat_shifted.f k l0 a1 = some r) :
    Calls Tryz.prog 117 #[.slice A0 l0.length c0, .int .i64 a1] w fun e w' => ∃ v0_ : Value, e = .returned (v0_) ∧ Kd.R (Kd.int .u32) 30 w' w.heap.size (fun _ => True) v0_ r ∧ Below w.heap.size w w' := by
  have HR0 := Aside0.mk hr0
  have HC0 := Aside0.mk hc0
  clear hr0 hc0
  have HB := Aside0.mk (Below.refl w.heap.size w)
  have H : (if 0 ≤ (wrap64 ((l0.length : Int) + 1)) then (if (wrap64 ((l0.length : Int) + 1) : Int).toNat ≤ 70368744177664 then (nat_shifted.l0 k a1 (List.replicate (wrap64 ((l0.length : Int) + 1) : Int).toNat 0) l0 (l0.length : Int) 0) else (none)) else (none)) = some r := h
  clear h
  obtain ⟨ji3, hji3⟩ : ∃ j_ : Int, (wrap64 ((l0.length : Int) + 1)) = j_ := ⟨_, rfl⟩
  replace H : (if 0 ≤ (ji3) then (if (ji3 : Int).toNat ≤ 70368744177664 then (nat_shifted.l0 k a1 (List.replicate (ji3 : Int).toNat 0) l0 (l0.length : Int) 0) else (none)) else (none)) = some r := by first | (rw [hji3] at H; exact H) | (simp only [hji3] at H ⊢; exact H)
  have hji3w : (IntKind.i64.wrap ((l0.length : Int) + 1)) = ji3 := (i64_w _).trans hji3
  by_cases c4 : 0 ≤ (ji3)
  · rw [if_pos c4] at H
    have c4b0 := eq_true c4
    have c4b1 : decide (0 ≤ (ji3)) = true := decide_eq_true c4
    clear c4
    by_cases c5 : (ji3 : Int).toNat ≤ 70368744177664
    · rw [if_pos c5] at H
      have c5b0 := eq_true c5
      have c5b1 : decide ((ji3 : Int).toNat ≤ 70368744177664) = true := decide_eq_true c5
      clear c5
      obtain ⟨y152, hy152⟩ : ∃ y_ : List Int, y_ = (List.replicate (ji3 : Int).toNat 0) := ⟨_, rfl⟩
      replace H : (nat_shifted.l0 k a1 y152 l0 (l0.length : Int) 0) = some r := by first | (rw [hy152]; with_reducible exact H) | (have H2_ := (Option.bind_some _ _).symm.trans H; rw [hy152]; with_reducible exact H2_) | (have H2_ := (Option.bind_some _ _).symm.trans H; with_reducible exact H2_) | with_reducible exact H | (rw [hy152]; exact H) | exact H
      have Ny152 := Aside0.mk hy152
      clear hy152
      have H' := Aside0.mk H
      clear H
      go_enter Tryz.func117, Tryz.ntmps117
      go_wp2_with (first | ((with_reducible refine gate_dst (N := 12) rfl ?_); refine Kd.R_make (Kd.int .u32) _ 30 rfl (N := 12) rfl 22 _ _ rfl ji3 rfl rfl Tryz.underlying22 (.int .u32 0) 4 info30 rfl (by decide) (by omega) 0 (ok := fun _ => True) (okp := fun _ => True) rfl (fun _ hk => hk) trivial (of_decide_eq_true (by first | (with_reducible assumption) | assumption)) (Nat.le_trans (Nat.mul_le_mul_right _ (of_decide_eq_true (by first | (with_reducible assumption) | assumption) : ji3.toNat ≤ 70368744177664)) (by omega)) (Below.refl _ _) (Nat.le_refl _) ?_; intro v153 w6 ho7 hb hg_ hnew_; clear hg_ hnew_; (first | rw [← Ny152.out] at ho7 | (simp only [Int.reduceToNat] at ho7; rw [← Ny152.out] at ho7)); have n0_ := Aside0.mk (Kd.R_lower ho7 (z13 (by repeat (first | (with_reducible first | exact HB.out | apply z7 | apply z6 | apply z8) | exact HB.out)))); have n1_ := Aside0.mk (z14 (by repeat (first | (with_reducible first | exact HB.out | apply z7 | apply z6 | apply z8) | exact HB.out)) hb); clear HB; have HO154 := n0_; have HB := n1_; clear n0_ n1_; clear hb ho7))
      go_loopg [15] k (fun kq v15 w' => ∃ (x5_1 : List Int) (x15_1 : Int), v15 = .int .i64 x15_1 ∧ Aside0 (nat_shifted.l0 kq a1 x5_1 l0 (l0.length : Int) x15_1 = some r) ∧ Aside0 (kq ≤ k) ∧ Aside0 (Kd.R (Kd.int .u32) 30 w' w.heap.size (fun _ => True) v153 x5_1) ∧ Aside0 (Below w.heap.size w w'))
      case atStart => exact ⟨(y152), (0), (by first | rfl | (simp; done) | (simp [*]; done)), H', ⟨Nat.le_refl _⟩, ⟨by (with_reducible repeat (first | apply Kd.R_alloc | apply Kd.R_drewN | apply Kd.R_drew)); exact HO154.out⟩, ⟨by repeat (first | (with_reducible first | exact HB.out | apply z7 | apply z6 | apply z8) | exact HB.out)⟩⟩
      case round =>
        clear H'
        try clear c1
        try clear p2
        try clear c4
        try clear c4b0
        try clear c4b1
        try clear c5
        try clear c5b0
        try clear c5b1
        try clear p6
        obtain ⟨x5_1, x15_1, rfl, HA, HK1, HO_5, HB⟩ := hrel
        cases gk with
        | zero => exact absurd HA.out (by simp [nat_shifted.l0])
        | succ k1 =>
          have H := HA.out
          clear HA
          simp only [nat_shifted.l0] at H
          by_cases c8 : x15_1 < (l0.length : Int)
          · rw [if_pos c8] at H
            have c8b0 : decide (x15_1 < (l0.length : Int)) = true := decide_eq_true c8
            clear c8
            by_cases c9 : 0 ≤ x15_1
            · rw [if_pos c9] at H
              have c9b0 : decide (0 ≤ x15_1) = true := decide_eq_true c9
              clear c9
              by_cases c10 : x15_1 < (l0.length : Int)
              · rw [if_pos c10] at H
                have c10b0 : decide (x15_1 < (l0.length : Int)) = true := decide_eq_true c10
                clear c10
                by_cases c11 : 0 ≤ a1
                · rw [if_pos c11] at H
                  have c11b0 := eq_true c11
                  have c11b1 : decide (0 ≤ a1) = true := decide_eq_true c11
                  clear c11
                  obtain ⟨ji12, hji12⟩ : ∃ j_ : Int, (shl .u64 (IntKind.u64.wrap (rd l0 x15_1)) a1) = j_ := ⟨_, rfl⟩
                  replace H : (if x15_1 < (x5_1.length : Int) then (if 0 ≤ (wrap64 (x15_1 + 1)) then (if (wrap64 (x15_1 + 1)) < (x5_1.length : Int) then (nat_shifted.l0 k1 a1 ((x5_1.set (x15_1 : Int).toNat (Go.bits .or .u32 (rd x5_1 x15_1) ((ji12) % 4294967296))).set ((wrap64 (x15_1 + 1)) : Int).toNat (((ji12) / 4294967296) % 4294967296)) l0 (l0.length : Int) (wrap64 (x15_1 + 1))) else (none)) else (none)) else (none)) = some r := by first | (rw [hji12] at H; exact H) | (simp only [hji12] at H ⊢; exact H)
                  have hji12_ : (IntKind.u64.wrap ((IntKind.u64.wrap (rd l0 x15_1)) * 2 ^ min a1.toNat 64)) = ji12 := hji12
                  have hji12z : a1 ≤ 64 → (IntKind.u64.wrap ((IntKind.u64.wrap (rd l0 x15_1)) * 2 ^ a1.toNat)) = ji12 := shl_small hji12
                  by_cases c13 : x15_1 < (x5_1.length : Int)
                  · rw [if_pos c13] at H
                    have c13b0 : decide (x15_1 < (x5_1.length : Int)) = true := decide_eq_true c13
                    clear c13
                    obtain ⟨y157, hy157⟩ : ∃ y_ : List Int, y_ = (x5_1.set (x15_1 : Int).toNat (Go.bits .or .u32 (rd x5_1 x15_1) ((ji12) % 4294967296))) := ⟨_, rfl⟩
                    replace H : (if 0 ≤ (wrap64 (x15_1 + 1)) then (if (wrap64 (x15_1 + 1)) < (x5_1.length : Int) then (nat_shifted.l0 k1 a1 (y157.set ((wrap64 (x15_1 + 1)) : Int).toNat (((ji12) / 4294967296) % 4294967296)) l0 (l0.length : Int) (wrap64 (x15_1 + 1))) else (none)) else (none)) = some r := by first | (rw [hy157]; with_reducible exact H) | (have H2_ := (Option.bind_some _ _).symm.trans H; rw [hy157]; with_reducible exact H2_) | (have H2_ := (Option.bind_some _ _).symm.trans H; with_reducible exact H2_) | with_reducible exact H | (rw [hy157]; exact H) | exact H
                    have Ny157 := Aside0.mk hy157
                    clear hy157
                    obtain ⟨ji15, hji15⟩ : ∃ j_ : Int, (wrap64 (x15_1 + 1)) = j_ := ⟨_, rfl⟩
                    replace H : (if 0 ≤ (ji15) then (if (ji15) < (x5_1.length : Int) then (nat_shifted.l0 k1 a1 (y157.set ((ji15) : Int).toNat (((ji12) / 4294967296) % 4294967296)) l0 (l0.length : Int) ji15) else (none)) else (none)) = some r := by first | (rw [hji15] at H; exact H) | (simp only [hji15] at H ⊢; exact H)
                    have hji15w : (IntKind.i64.wrap (x15_1 + 1)) = ji15 := (i64_w _).trans hji15
                    by_cases c16 : 0 ≤ (ji15)
                    · rw [if_pos c16] at H
                      have c16b0 : decide (0 ≤ (ji15)) = true := decide_eq_true c16
                      clear c16
                      by_cases c17 : (ji15) < (x5_1.length : Int)
                      · rw [if_pos c17] at H
                        have c17b0 : decide ((ji15) < (x5_1.length : Int)) = true := decide_eq_true c17
                        clear c17
                        obtain ⟨y158, hy158⟩ : ∃ y_ : List Int, y_ = (y157.set ((ji15) : Int).toNat (((ji12) / 4294967296) % 4294967296)) := ⟨_, rfl⟩
                        replace H : (nat_shifted.l0 k1 a1 y158 l0 (l0.length : Int) ji15) = some r := by first | (rw [hy158]; with_reducible exact H) | (have H2_ := (Option.bind_some _ _).symm.trans H; rw [hy158]; with_reducible exact H2_) | (have H2_ := (Option.bind_some _ _).symm.trans H; with_reducible exact H2_) | with_reducible exact H | (rw [hy158]; exact H) | exact H
                        have Ny158 := Aside0.mk hy158
                        clear hy158
                        have H' := Aside0.mk H
                        clear H
                        have p155 : 0 ≤ (x15_1 : Int) := of_decide_eq_true (by first | (with_reducible assumption) | assumption)
                        have q155 : x15_1 < (l0.length : Int) := of_decide_eq_true (by first | (with_reducible assumption) | assumption)
                        obtain ⟨ad155, e155, hx155_0⟩ := Kd.at_int HR0.out x15_1 p155 q155
                        cases e155
                        replace hx155_0 := (HB.out.cell (World.block_lt_of_cell? w _ hx155_0)).trans hx155_0
                        replace p155 := eq_true p155
                        replace q155 := eq_true q155
                        obtain ⟨Ao19, co19, eo19⟩ := Kd.R_slice HO_5.out
                        subst eo19
                        have p156 : 0 ≤ (x15_1 : Int) := of_decide_eq_true (by first | (with_reducible assumption) | assumption)
                        have q156 : x15_1 < (x5_1.length : Int) := of_decide_eq_true (by first | (with_reducible assumption) | assumption)
                        obtain ⟨ad156, e156, hx156_0⟩ := Kd.at_int (Kd.R_reads' HO_5.out).2.2 x15_1 p156 q156
                        cases e156
                        replace p156 := eq_true p156
                        replace q156 := eq_true q156
                        have p14 : 0 ≤ (x15_1 : Int) := of_decide_eq_true (by first | (with_reducible assumption) | assumption)
                        have q14 : (x15_1 : Int) < ((x5_1.length : Int) : Int) := of_decide_eq_true (by first | (with_reducible assumption) | assumption)
                        obtain ⟨go14, co14, eo14, gb14, gl14, cl14, HG14⟩ := Kd.R_form HO_5.out (by omega)
                        (first | cases eo14 | (injection eo14 with ea_ en_ ec_; (first | subst ea_ | (injection ea_ with ea_; subst ea_)); subst ec_; clear en_))
                        have GB14 := Aside0.mk gb14
                        have GG14 := Aside0.mk HG14
                        clear gb14 gl14 HG14
                        (first | simp only [add_plain] at hx156_0 | skip)
                        obtain ⟨hx14_0, hf14_0⟩ := Kd.R_celln 0 HO_5.out (x15_1 : Int) p14 q14
                        replace p14 := eq_true p14
                        replace q14 := eq_true q14
                        have HP20 := Kd.R_putg HO_5.out (x15_1 : Int) (Go.bits .or .u32 (rd x5_1 x15_1) ((ji12) % 4294967296))
                        go_wp2_with (first | ((with_reducible refine gate_store (t := 30) (p := 31) rfl ?_); refine store_event (t := 30) (p := 31) (v := ?vo_w21) (w1 := (wr.setCell ⟨go14, (x15_1 : Int).toNat, none⟩ (.int .u32 (Go.bits .or .u32 (rd x5_1 x15_1) ((ji12) % 4294967296))))) ?hg ?ho ?hn ?hr ?_; (case ho => rfl); (case hg => rfl); (case hn => rfl); (case hr => first | (go_simp; done) | (go_simp; rfl)); intro w21 hw; have hg : wr.grownBy w21 (some go14) := (by rw [hw]; exact HP20.2); have hp_ : Kd.R (Kd.int .u32) 30 w21 w.heap.size (fun _ => True) (.slice (some ⟨go14, 0, none⟩) x5_1.length co19) y157 := (by rw [hw, Ny157.out]; exact HP20.1); clear HP20; have n0_ := Aside0.mk (hp_); have n1_ := Aside0.mk ((by rw [hw]; exact below_set (HB.out) GB14.out : Below w.heap.size w w21)); clear HO_5; clear HB; have HO_5 := n0_; have HB := n1_; clear n0_ n1_; clear hg hw hp_; have p18 : 0 ≤ ((ji15) : Int) := of_decide_eq_true (by first | (with_reducible assumption) | assumption); have q18 : ((ji15) : Int) < ((x5_1.length : Int) : Int) := of_decide_eq_true (by first | (with_reducible assumption) | assumption); obtain ⟨hx18_0, hf18_0⟩ := Kd.R_celln 0 HO_5.out ((ji15) : Int) p18 q18; replace p18 := eq_true p18; replace q18 := eq_true q18; obtain ⟨hy22_, hz22_⟩ := Kd.R_celln 0 HO_5.out ((ji15) : Int) (of_decide_eq_true (by first | (with_reducible assumption) | assumption)) (of_decide_eq_true (by first | (with_reducible assumption) | assumption)); have HP22 := Kd.R_putg HO_5.out ((ji15) : Int) (((ji12) / 4294967296) % 4294967296)) | ((with_reducible refine gate_store (t := 30) (p := 38) rfl ?_); refine store_event (t := 30) (p := 38) (v := ?vo_w23) (w1 := (w21.setCell ⟨go14, ((ji15) : Int).toNat, none⟩ (.int .u32 (((ji12) / 4294967296) % 4294967296)))) ?hg ?ho ?hn ?hr ?_; (case ho => rfl); (case hg => rfl); (case hn => rfl); (case hr => first | (go_simp; done) | (go_simp; rfl)); intro w23 hw; have hg : w21.grownBy w23 (some go14) := (by rw [hw]; exact HP22.2); have hp_ : Kd.R (Kd.int .u32) 30 w23 w.heap.size (fun _ => True) (.slice (some ⟨go14, 0, none⟩) x5_1.length co19) y158 := (by rw [hw, Ny158.out]; exact HP22.1); clear HP22; have n0_ := Aside0.mk (hp_); have n1_ := Aside0.mk ((by rw [hw]; exact below_set (HB.out) GB14.out : Below w.heap.size w w23)); clear HO_5; clear HB; have HO_5 := n0_; have HB := n1_; clear n0_ n1_; clear hg hw hp_))
                        go_roundg k1
                        case measure => have := HK1.out; omega
                        case rel => exact ⟨(y158), (ji15), (by first | rfl | (simp; done) | (simp only [← hji15] <;> (first | rfl | simp)) | (simp [*]; done)), H', ⟨by have := HK1.out; omega⟩, ⟨by (with_reducible repeat (first | apply Kd.R_alloc | apply Kd.R_drewN | apply Kd.R_drew)); exact HO_5.out⟩, ⟨by repeat (first | (with_reducible first | exact HB.out | apply z7 | apply z6 | apply z8) | exact HB.out)⟩⟩
                      · rw [if_neg c17] at H
                        exact absurd H (by simp)
                    · rw [if_neg c16] at H
                      exact absurd H (by simp)
                  · rw [if_neg c13] at H
                    exact absurd H (by simp)
                · rw [if_neg c11] at H
                  exact absurd H (by simp)
              · rw [if_neg c10] at H
                exact absurd H (by simp)
            · rw [if_neg c9] at H
              exact absurd H (by simp)
          · rw [if_neg c8] at H
            have c8b0 : decide (x15_1 < (l0.length : Int)) = false := decide_eq_false c8
            clear c8
            obtain rfl := Option.some.inj H
            go_wp2
            go_ret
            exact ⟨_, by first | rfl | (simp [z11, z12] <;> rfl) | (simp only [← hji3]; first | rfl | (simp [z11, z12] <;> rfl)) | (simp [*, z11, z12] <;> rfl), by (with_reducible repeat (first | apply Kd.R_alloc | apply Kd.R_drewN | apply Kd.R_drew)); exact HO_5.out, by repeat (first | (with_reducible first | exact HB.out | apply z7 | apply z6 | apply z8) | exact HB.out)⟩
    · rw [if_neg c5] at H
      exact absurd H (by simp)
  · rw [if_neg c4] at H
    exact absurd H (by simp)
attribute [local go_sem] max2_int min2_int max_two min_two max_three min_three max_four min_four
set_option linter.unusedVariables false
set_option linter.unusedSimpArgs false
def nat_divide.topOf (x y : Int) : Int := Go.bits .or .u64 (IntKind.u64.wrap ((IntKind.u64.wrap x) * 4294967296)) (IntKind.u64.wrap y)
def nat_divide.guessOf (x y z : Int) : Int := mn (IntKind.u64.wrap (Int.tdiv (nat_divide.topOf x y) (IntKind.u64.wrap z))) 4294967295
def nat_divide.lay (left r : List Int) (n i : Nat) : List Int := left.take i ++ (r ++ List.replicate (n + 1 - r.length) 0) ++ left.drop (i + n + 1)
def nat_divide.restAt (left : List Int) (up : Int) (i : Nat) : Int := shr .u64 (nat_divide.topOf (rd left ((i + 1 : Nat) : Int)) (rd left (i : Int))) up % 4294967296
def nat_divide.restOf (left : List Int) (up : Int) (n : Nat) : List Int := (List.range n).map (nat_divide.restAt left up)
def nat_divide.step (k : Nat) (by_ part : List Int) (g : Nat) (next : Option (Nat × List Int)) : Option (Nat × List Int) :=
  (nat_Of.f k (g : Int)).bind fun o => (nat_times.f k o by_).bind fun own => (slices_Clone_uint32_uint32.f part).bind fun cl => (nat_trim.f k cl).bind fun t => (nat_compare.f k own t).bind fun c =>
    if c ≤ 0 then (nat_minus.f k part own).bind fun r => (if r.length ≤ part.length then some (g, r) else none) else next
def nat_divide.l1 (k : Nat) (by_ part : List Int) : Nat → Option (Nat × List Int)
  | 0 => nat_divide.step k by_ part 0 none
  | g + 1 => nat_divide.step k by_ part (g + 1) (nat_divide.l1 k by_ part g)
def nat_divide.l0 (k : Nat) (by_ : List Int) : Nat → List Int → List Int → Option (List Int × List Int)
  | 0, left, q => some (left, q)
  | i + 1, left, q => if i + by_.length < left.length ∧ i < q.length ∧ IntKind.u64.wrap (rd by_ ((by_.length - 1 : Nat) : Int)) ≠ 0 ∧ 0 ≤ nat_divide.guessOf (rd left ((i + by_.length : Nat) : Int)) (rd left ((i + by_.length - 1 : Nat) : Int)) (rd by_ ((by_.length - 1 : Nat) : Int)) then
      (nat_divide.l1 k by_ ((left.take (i + by_.length + 1)).drop i) (nat_divide.guessOf (rd left ((i + by_.length : Nat) : Int)) (rd left ((i + by_.length - 1 : Nat) : Int)) (rd by_ ((by_.length - 1 : Nat) : Int))).toNat).bind fun t =>
        nat_divide.l0 k by_ i (nat_divide.lay left t.2 by_.length i) (q.set i ((t.1 : Int) % 4294967296)) else none
def nat_divide.f (k : Nat) (l0 : List Int) (l1 : List Int) : Option (List Int × List Int) := (nat_compare.f k l0 l1).bind fun t159 => (if t159 < 0 then ((slices_Clone_uint32_uint32.f l0).bind fun t160 => (some (([] : List Int), t160))) else (if (l1.length : Int) = 1 then (if 0 < (l1.length : Int) then ((nat_short.f k l0 (rd l1 0)).bind fun bt164 => ((nat_Of.f k (IntKind.u64.wrap (bt164.2))).bind fun t168 => (some (bt164.1, t168)))) else (none)) else
  (if 0 < l1.length ∧ l0.length < 1000000 then (bits_LeadingZeros32.f (rd l1 ((l1.length - 1 : Nat) : Int))).bind fun up => (nat_shifted.f k l0 up).bind fun left => (nat_shifted.f k l1 up).bind fun s => (nat_trim.f k s).bind fun by_ =>
    (if 0 < by_.length ∧ by_.length ≤ l0.length ∧ left.length = l0.length + 1 ∧ 0 ≤ up then (nat_divide.l0 k by_ (l0.length - by_.length + 1) left (List.replicate (l0.length - by_.length + 1) 0)).bind fun t => (nat_trim.f k t.2).bind fun q => (nat_trim.f k (nat_divide.restOf t.1 up by_.length)).bind fun r => some (q, r) else none) else none)))
theorem nat_divide.wI' {x y : Int} (e : y = x) (h1 : -9223372036854775808 ≤ x) (h2 : x ≤ 9223372036854775807) : IntKind.i64.wrap x = y := by
  rw [i64_w, e]; unfold wrap64; omega
theorem nat_divide.seg (l : List Int) (k : Nat) (v : Int) (rest : List Int) (hk : k + (rest.length + 1) ≤ l.length) :
    (l.set k v).take (k + 1) ++ rest ++ (l.set k v).drop (k + 1 + rest.length) = l.take k ++ (v :: rest) ++ l.drop (k + (rest.length + 1)) := by
  have hlen : (l.take k).length = k := by rw [List.length_take]; omega
  have e : l.set k v = l.take k ++ v :: l.drop (k + 1) := by rw [List.set_eq_take_append_cons_drop, if_pos (by omega)]
  have t1 := List.take_length_add_append (l₁ := l.take k) (l₂ := v :: l.drop (k + 1)) 1
  have t2 := List.drop_length_add_append (l₁ := l.take k) (l₂ := v :: l.drop (k + 1)) (1 + rest.length)
  rw [hlen] at t1 t2
  rw [e, t1, show k + 1 + rest.length = k + (1 + rest.length) by omega, t2]
  simp only [List.take_succ_cons, List.take_zero, List.append_assoc, List.cons_append, List.nil_append, show 1 + rest.length = rest.length + 1 by omega, List.drop_succ_cons, List.drop_drop]
  rw [show k + 1 + rest.length = k + (rest.length + 1) by omega]
theorem nat_divide.setCells_R {e base g n cap : Nat} {ok : Nat → Prop} : ∀ (ys : List Int) (lo : Nat) (W : World) (xs : List Int), Kd.R (Kd.int .u32) e W base ok (.slice (some ⟨g, 0, none⟩) n cap) xs → lo + ys.length ≤ n →
    Kd.R (Kd.int .u32) e (W.setCells g lo (nums .u32 ys)) base ok (.slice (some ⟨g, 0, none⟩) n cap) (xs.take lo ++ ys ++ xs.drop (lo + ys.length))
  | [], lo, W, xs, h, _ => by simpa [nums, World.setCells] using h
  | y :: ys, lo, W, xs, h, hl => by
    have h1 := Kd.R_putn h ((lo : Nat) : Int) y
    have h2 := nat_divide.setCells_R ys (lo + 1) _ _ h1 (by simp at hl; omega)
    have hn : n = xs.length := (Kd.R_reads' h).1
    rw [Int.toNat_natCast, nat_divide.seg xs lo y ys (by simp at hl; omega)] at h2
    exact h2
theorem nat_divide.setCells_far {e base g : Nat} {ok : Nat → Prop} {v : Value} {xs : List Int} (hok : ∀ k, ok k → k ≠ g) : ∀ (vs : List Value) (lo : Nat) (W : World), Kd.R (Kd.int .u32) e W base ok v xs → Kd.R (Kd.int .u32) e (W.setCells g lo vs) base ok v xs
  | [], _, _, h => h
  | u :: vs, lo, W, h => nat_divide.setCells_far hok vs (lo + 1) _ (Kd.R_far (p := ⟨g, lo, none⟩) h hok u)
theorem nat_divide.setCells_below {w : World} {g : Nat} (hg : w.heap.size ≤ g) : ∀ (vs : List Value) (lo : Nat) (W : World), Below w.heap.size w W → Below w.heap.size w (W.setCells g lo vs)
  | [], _, _, h => h
  | u :: vs, lo, W, h => nat_divide.setCells_below hg vs (lo + 1) _ (below_set h hg)
theorem nat_divide.nums_cells {w : World} {A : Option Addr} {m : Nat} {ys : List Int} (h : Kd.C (Kd.int .u32) w A m ys) (hm : 0 < m) : ∃ ad, A = some ad ∧ ∀ j v, (nums .u32 ys)[j]? = some v → w.cell? (ad.add j) = some v := by
  obtain ⟨ad, hA, hc⟩ := h.2.2 hm
  refine ⟨ad, hA, fun j v hj => ?_⟩
  unfold nums at hj
  rw [List.getElem?_map] at hj
  obtain ⟨y, hy, rfl⟩ := Option.map_eq_some_iff.1 hj
  obtain ⟨c, _, hcc, hcell⟩ := hc j y hy
  have hcc : c = [Value.int .u32 y] := hcc
  subst hcc
  have := hcell 0 (Value.int .u32 y) rfl
  rwa [show j * (Kd.int .u32).sz + 0 = j from by show j * 1 + 0 = j; omega] at this
theorem nat_divide.copy_run {P : Program} {W : World} {e base g n cap : Nat} {ok : Nat → Prop} {xs ys : List Int} {A : Option Addr} (hu : P.underlying 22 = some (.slice 30)) (hs : (P.info? 30).map (·.size) = some 1)
    (h : Kd.R (Kd.int .u32) e W base ok (.slice (some ⟨g, 0, none⟩) n cap) xs) (hC : Kd.C (Kd.int .u32) W A ys.length ys) (lo dLen dCap sCap : Nat) (hm : ys.length ≤ dLen) (hlo : lo + ys.length ≤ n) :
    ∀ ty, (Builtin.copy_ #[22, 22] ty #[.slice (some ⟨g, lo, none⟩) dLen dCap, .slice A ys.length sCap]).run P W = .ok (goInt ys.length) (W.setCells g lo (nums .u32 ys)) := by
  intro ty
  have hn : n = xs.length := (Kd.R_reads' h).1
  rcases Nat.eq_zero_or_pos ys.length with h0 | hp
  · have hy : ys = [] := List.eq_nil_of_length_eq_zero h0
    subst hy
    exact run_copy_none W _ _ ty _ _ _ _ _ _ _ hu hs (Nat.zero_min _)
  · obtain ⟨ad, rfl, hcell⟩ := nat_divide.nums_cells hC hp
    have hl : (nums .u32 ys).length = ys.length := nums_length _ _
    have := run_copy_cells (P := P) W 22 22 ty 30 g lo dLen dCap ad ys.length sCap (nums .u32 ys) hu hs (by rw [hl]; exact (Nat.min_eq_left hm).symm) hcell ?_ ?_ ?_
    · rw [hl] at this; exact this
    · intro j hj
      rw [hl] at hj
      have hx := (Kd.R_celln 0 h ((lo + j : Nat) : Int) (by omega) (by omega)).1
      rw [Int.toNat_natCast] at hx
      rw [hx]; rfl
    · intro j hj
      rw [hl] at hj
      have hx := (Kd.R_celln 0 h ((lo + j : Nat) : Int) (by omega) (by omega)).2
      rw [Int.toNat_natCast] at hx
      exact hx
    · intro v hv
      unfold nums at hv
      obtain ⟨y, _, rfl⟩ := List.mem_map.1 hv
      rfl
theorem nat_divide.lay_eq (lf rr : List Int) (n i : Nat) (hl : i + n + 1 ≤ lf.length) (hr : rr.length ≤ n + 1) (X : List Int) (hX : X = lf.take i ++ List.replicate (n + 1) 0 ++ lf.drop (i + (List.replicate (n + 1) (0 : Int)).length)) :
    X.take i ++ rr ++ X.drop (i + rr.length) = nat_divide.lay lf rr n i := by
  subst hX
  have hlen : (lf.take i).length = i := by rw [List.length_take]; omega
  have t1 := List.take_length_add_append (l₁ := lf.take i) (l₂ := List.replicate (n + 1) 0 ++ lf.drop (i + (List.replicate (n + 1) (0 : Int)).length)) 0
  have t2 := List.drop_length_add_append (l₁ := lf.take i) (l₂ := List.replicate (n + 1) 0 ++ lf.drop (i + (List.replicate (n + 1) (0 : Int)).length)) rr.length
  rw [hlen] at t1 t2
  rw [← List.append_assoc] at t1 t2
  rw [show i + 0 = i from rfl] at t1
  rw [t1, t2, List.drop_append_of_le_length (by rw [List.length_replicate]; exact hr), List.drop_replicate, List.length_replicate]
  unfold nat_divide.lay
  simp [List.append_assoc, Nat.add_assoc]
theorem nat_divide.lay_length (lf rr : List Int) (n i : Nat) (hl : i + n + 1 ≤ lf.length) (hr : rr.length ≤ n + 1) : (nat_divide.lay lf rr n i).length = lf.length := by
  unfold nat_divide.lay
  simp only [List.length_append, List.length_take, List.length_replicate, List.length_drop]
  omega
def nat_divide.prev (k : Nat) (by_ part : List Int) : Nat → Option (Nat × List Int)
  | 0 => none
  | g + 1 => nat_divide.l1 k by_ part g
theorem nat_divide.l1_step (k : Nat) (by_ part : List Int) (g : Nat) : nat_divide.l1 k by_ part g = nat_divide.step k by_ part g (nat_divide.prev k by_ part g) := by
  cases g <;> rfl
theorem nat_divide.cut_run {P : Program} {i0 : TypeInfo} (hu : P.underlying 22 = some (.slice 30)) (hi : P.info? 30 = some i0) (hsz : i0.size = 1) (g n c i m : Nat) (lo hi' : Int) (e1 : lo = (i : Int)) (e2 : hi' = ((i + m : Nat) : Int)) (h2 : i + m ≤ n) (h3 : i < n) (hc : n ≤ c) :
    ∀ W : World, (Instr.slice 22 (.slice (some ⟨g, 0, none⟩) n c) (some (.int .i64 lo)) (some (.int .i64 hi')) none).run P W = .ok (.slice (some ⟨g, i, none⟩) m (c - i)) W := by
  intro W
  have := cut_mid 22 30 .i64 .i64 hu hi 1 hsz (some ⟨g, 0, none⟩) n c lo hi' (by omega) (by omega) (by omega) hc W
  rw [this, if_neg (by omega)]
  subst e1 e2
  simp only [Option.map_some, Int.toNat_natCast, Nat.mul_one, add_plain, show i + m - i = m by omega]
theorem nat_divide.part_C {W : World} {e base g n cap : Nat} {ok : Nat → Prop} {lf part : List Int} (h : Kd.R (Kd.int .u32) e W base ok (.slice (some ⟨g, 0, none⟩) n cap) lf) {i m : Nat} (hp : part = (lf.take (i + m)).drop i) (him : i + m ≤ n) (hi : i < n) : Kd.C (Kd.int .u32) W (some ⟨g, i, none⟩) part.length part := by
  obtain ⟨hn, hc, hr⟩ := Kd.R_reads' h
  have := Kd.C_mid (lo := i) (hi := i + m) hr (by omega) (by omega) (by omega : lf.length ≤ cap)
  rw [if_neg (by omega), ← hp] at this
  simpa [add_plain, show (Kd.int .u32).sz = 1 from rfl] using this
theorem nat_divide.wU' {x y : Int} (e : y = x) (h1 : 0 ≤ x) (h2 : x < 18446744073709551616) : IntKind.u64.wrap x = y := by
  rw [e]
  simp only [IntKind.wrap, IntKind.bits, IntKind.signed]
  simp
  omega
theorem nat_divide.lt_of_add {a b n : Nat} (h : a + (b + 1) ≤ n) : a < n := by omega
theorem nat_divide.ne_new {e base g m : Nat} {ok : Nat → Prop} {W : World} {v : Value} {xs : List Int} (h : Kd.R (Kd.int .u32) e W base ok v xs) (hg : v.ownBlock = some g) (h2 : W.heap.size ≤ m) : g ≠ m := Nat.ne_of_lt (Nat.lt_of_lt_of_le (Kd.R_lt h g hg) h2)
theorem nat_divide.size32 : (Tryz.prog.info? 30).map (·.size) = some 1 := by
  obtain ⟨ie, hie, h2⟩ := Option.map_eq_some_iff.1 info30
  simp only [Prod.mk.injEq] at h2
  rw [hie, Option.map_some, h2.2.1]
theorem nat_divide.two_copies {P : Program} {w W : World} {lf zs r_ by_ qq : List Int} {gL gB gQ LL cL cB cQ mq cR cZ n : Nat} {AR AZ : Option Addr} {okR okZ : Nat → Prop} (hu : P.underlying 22 = some (.slice 30)) (hs : (P.info? 30).map (·.size) = some 1)
    (hL : Kd.R (Kd.int .u32) 30 W w.heap.size (fun k_ => some k_ = (Value.slice (some ⟨gL, 0, none⟩) LL cL).ownBlock) (.slice (some ⟨gL, 0, none⟩) LL cL) lf)
    (hZ : Kd.R (Kd.int .u32) 30 W w.heap.size okZ (.slice AZ zs.length cZ) zs) (hR : Kd.R (Kd.int .u32) 30 W w.heap.size okR (.slice AR r_.length cR) r_)
    (hY : Kd.R (Kd.int .u32) 30 W w.heap.size (fun k_ => some k_ = (Value.slice (some ⟨gB, 0, none⟩) by_.length cB).ownBlock) (.slice (some ⟨gB, 0, none⟩) by_.length cB) by_)
    (hQ : Kd.R (Kd.int .u32) 30 W w.heap.size (fun k_ => some k_ = (Value.slice (some ⟨gQ, 0, none⟩) mq cQ).ownBlock) (.slice (some ⟨gQ, 0, none⟩) mq cQ) qq)
    (hB : Below w.heap.size w W) (hgL : w.heap.size ≤ gL) (i dLen dCap : Nat) (hLQ : gL ≠ gQ) (hLB : gL ≠ gB) (hLR : ∀ k_, (Value.slice AR r_.length cR).ownBlock = some k_ → gL ≠ k_)
    (hpl : dLen = n + 1) (hin : i + (n + 1) ≤ LL) (hlf : lf.length = LL) (hzs : zs = List.replicate dLen (0 : Int)) (hrl : r_.length ≤ dLen) :
    ∃ W1 W2 : World, (∀ ty, (Builtin.copy_ #[22, 22] ty #[.slice (some ⟨gL, i, none⟩) dLen dCap, .slice AZ zs.length cZ]).run P W = .ok (goInt zs.length) W1) ∧
      (∀ ty, (Builtin.copy_ #[22, 22] ty #[.slice (some ⟨gL, i, none⟩) dLen dCap, .slice AR r_.length cR]).run P W1 = .ok (goInt r_.length) W2) ∧
      Kd.R (Kd.int .u32) 30 W2 w.heap.size (fun k_ => some k_ = (Value.slice (some ⟨gL, 0, none⟩) LL cL).ownBlock) (.slice (some ⟨gL, 0, none⟩) LL cL) (nat_divide.lay lf r_ n i) ∧
      Kd.R (Kd.int .u32) 30 W2 w.heap.size (fun k_ => some k_ = (Value.slice (some ⟨gB, 0, none⟩) by_.length cB).ownBlock) (.slice (some ⟨gB, 0, none⟩) by_.length cB) by_ ∧
      Kd.R (Kd.int .u32) 30 W2 w.heap.size (fun k_ => some k_ = (Value.slice (some ⟨gQ, 0, none⟩) mq cQ).ownBlock) (.slice (some ⟨gQ, 0, none⟩) mq cQ) qq ∧ Below w.heap.size w W2 := by
  have hzl : zs.length = dLen := by rw [hzs, List.length_replicate]
  have farB : ∀ k_, some k_ = (Value.slice (some ⟨gB, 0, none⟩) by_.length cB).ownBlock → k_ ≠ gL := fun k_ h e => hLB (e.symm.trans (Option.some.inj h))
  have farQ : ∀ k_, some k_ = (Value.slice (some ⟨gQ, 0, none⟩) mq cQ).ownBlock → k_ ≠ gL := fun k_ h e => hLQ (e.symm.trans (Option.some.inj h))
  have farR : ∀ k_, some k_ = (Value.slice AR r_.length cR).ownBlock → k_ ≠ gL := fun k_ h e => hLR k_ h.symm e.symm
  have hR' := Kd.R_tight rfl hR
  have c1 := nat_divide.copy_run (P := P) hu hs hL (Kd.R_reads' hZ).2.2 i dLen dCap cZ (by omega) (by omega)
  have l1 := nat_divide.setCells_R zs i W lf hL (by omega)
  have r1 := nat_divide.setCells_far farR (nums .u32 zs) i W hR'
  have c2 := nat_divide.copy_run (P := P) hu hs l1 (Kd.R_reads' r1).2.2 i dLen dCap cR hrl (by omega)
  refine ⟨_, _, c1, c2, ?_, nat_divide.setCells_far farB _ i _ (nat_divide.setCells_far farB _ i W hY), nat_divide.setCells_far farQ _ i _ (nat_divide.setCells_far farQ _ i W hQ), nat_divide.setCells_below hgL _ i _ (nat_divide.setCells_below hgL _ i W hB)⟩
  have l2 := nat_divide.setCells_R r_ i _ _ l1 (by omega)
  rw [nat_divide.lay_eq lf r_ n i (by omega) (by omega) _ (by rw [hzs, hpl])] at l2
  exact l2
theorem nat_divide.rest_step (f : Nat → Int) (ix c : Nat) : ((List.range ix).map f ++ List.replicate (c + 1) 0).set ix (f ix) = (List.range (ix + 1)).map f ++ List.replicate c 0 := by
  have hl : ((List.range ix).map f).length = ix := by rw [List.length_map, List.length_range]
  rw [List.set_append, if_neg (by omega), hl, Nat.sub_self, List.replicate_succ, List.set_cons_zero, List.range_succ, List.map_append, List.append_assoc]
  rfl
set_option maxHeartbeats 16000000 in
set_option maxRecDepth 100000 in
theorem nat_divide.calls (k : Nat) (A0 : Option Addr) (c0 : Nat) (l0 : List Int) (A1 : Option Addr) (c1 : Nat) (l1 : List Int) (r1 : List Int) (r2 : List Int) (w : World) (hr0 : Kd.C (Kd.int .u32) w A0 l0.length l0) (hc0 : l0.length ≤ c0) (hr1 : Kd.C (Kd.int .u32) w A1 l1.length l1) (hc1 : l1.length ≤ c1) (h : nat_divide.f k l0 l1 = some (r1, r2)) :
    Calls Tryz.prog 92 #[.slice A0 l0.length c0, .slice A1 l1.length c1] w fun e w' => ∃ v0_ v1_ : Value, e = .returned (.tuple #[v0_, v1_]) ∧ Kd.R (Kd.int .u32) 30 w' w.heap.size (fun k_ => some k_ ≠ (v1_ : Value).ownBlock) v0_ r1 ∧ Kd.R (Kd.int .u32) 30 w' w.heap.size (fun k_ => some k_ ≠ (v0_ : Value).ownBlock) v1_ r2 ∧ Below w.heap.size w w' := by
  have HR0 := Aside0.mk hr0
  have HC0 := Aside0.mk hc0
  clear hr0 hc0
  have HR1 := Aside0.mk hr1
  have HC1 := Aside0.mk hc1
  clear hr1 hc1
  have HB := Aside0.mk (Below.refl w.heap.size w)
  have H := h
  clear h
  unfold nat_divide.f at H
  replace H := Option.bind_eq_some_iff.mp H
  obtain ⟨t159, A30, H⟩ := H
  try dsimp only at H
  have A3 := Aside0.mk A30
  clear A30
  by_cases c4 : t159 < 0
  · rw [if_pos c4] at H
    have c4b0 : decide (t159 < 0) = true := decide_eq_true c4
    clear c4
    replace H := Option.bind_eq_some_iff.mp H
    obtain ⟨t160, A50, H⟩ := H
    have A5 := Aside0.mk A50
    clear A50
    simp only [Option.some.injEq, Prod.mk.injEq] at H
    obtain ⟨rfl, rfl⟩ := H
    go_enter Tryz.func92, Tryz.ntmps92
    go_wp2
    go_step3
    go_wp2_with (first | ((with_reducible refine z10 (f := 100) rfl ?_); refine goesL_ (some 22) rfl rfl Tryz.func100 (by kernel_rfl) rfl #[.slice A0 l0.length c0, .slice A1 l1.length c1] rfl (by (try simp only [List.map_toArray, List.map_cons, List.map_nil]); first | done | rfl | (simp only [List.length_drop, List.length_take]; rfl) | (simp [Act.eval, IntKind.wrap, IntKind.bits, IntKind.signed]; done) | (simp [Act.eval, IntKind.wrap, IntKind.bits, IntKind.signed]; omega)) ?_; (with_reducible refine (nat_compare.calls k _ _ l0 _ _ l1 t159 _ ?side1 ?side2 ?side3 ?side4 A3.out).mono ?_); (case side1 => repeat (first | exact HR0.out | (with_reducible refine Kd.C_alloc ?_ _) | (with_reducible refine Kd.C_drewN ?_ _) | (with_reducible refine Kd.C_drew ?_))); (case side2 => exact HC0.out); (case side3 => repeat (first | exact HR1.out | (with_reducible refine Kd.C_alloc ?_ _) | (with_reducible refine Kd.C_drewN ?_ _) | (with_reducible refine Kd.C_drew ?_))); (case side4 => exact HC1.out); rintro e w6 ⟨rfl, hb⟩; refine ⟨_, rfl, ?_⟩; have n0_ := Aside0.mk (z14 (by repeat (first | (with_reducible first | exact HB.out | apply z7 | apply z6 | apply z8) | exact HB.out)) hb); clear HB; have HB := n0_; clear n0_; clear hb) | ((with_reducible refine z10 (f := 66) rfl ?_); refine goesL_ (some 25) rfl rfl Tryz.func66 (by kernel_rfl) rfl #[.slice A0 l0.length c0] rfl (by (try simp only [List.map_toArray, List.map_cons, List.map_nil]); first | done | rfl | (simp only [List.length_drop, List.length_take]; rfl) | (simp [Act.eval, IntKind.wrap, IntKind.bits, IntKind.signed]; done) | (simp [Act.eval, IntKind.wrap, IntKind.bits, IntKind.signed]; omega)) ?_; (with_reducible refine (slices_Clone_uint32_uint32.calls _ _ l0 t160 _ ?side1 ?side2 A5.out).mono ?_); (case side1 => repeat (first | exact (Kd.C_below HR0.out HB.out) | (with_reducible refine Kd.C_alloc ?_ _) | (with_reducible refine Kd.C_drewN ?_ _) | (with_reducible refine Kd.C_drew ?_))); (case side2 => exact HC0.out); rintro e w7 ⟨v161, rfl, ho0, hb⟩; refine ⟨_, rfl, ?_⟩; have n0_ := Aside0.mk (Kd.R_lower ho0 (z13 (by repeat (first | (with_reducible first | exact HB.out | apply z7 | apply z6 | apply z8) | exact HB.out)))); have n1_ := Aside0.mk (z14 (by repeat (first | (with_reducible first | exact HB.out | apply z7 | apply z6 | apply z8) | exact HB.out)) hb); clear HB; have HO162 := n0_; have HB := n1_; clear n0_ n1_; clear hb))
    simp only [Exit.noGoto_ret]
    go_ret2
    exact ⟨_, _, by first | rfl | (simp [z11, z12] <;> rfl), Kd.R_nil _ _ _ _ _, Kd.R_mono HO162.out (fun _ hk => (by simp [Value.ownBlock])), HB.out⟩
  · rw [if_neg c4] at H
    have c4b0 : decide (t159 < 0) = false := decide_eq_false c4
    clear c4
    by_cases c8 : (l1.length : Int) = 1
    · rw [if_pos c8] at H
      have c8b0 : ((l1.length : Int) == 1) = true := beq_iff_eq.mpr c8
      have c8b1 : ((l1.length : Int) != 1) = false := bne_eq_false_iff_eq.mpr c8
      clear c8
      by_cases c9 : 0 < (l1.length : Int)
      · rw [if_pos c9] at H
        replace H := Option.bind_eq_some_iff.mp H
        obtain ⟨⟨t164, t165⟩, A100, H⟩ := H
        have A10 := Aside0.mk A100
        clear A100
        replace H := Option.bind_eq_some_iff.mp H
        obtain ⟨t168, A110, H⟩ := H
        have A11 := Aside0.mk A110
        clear A110
        simp only [Option.some.injEq, Prod.mk.injEq] at H
        obtain ⟨rfl, rfl⟩ := H
        obtain ⟨ad163, e163, hx163_0⟩ := Kd.at_int HR1.out 0 (by omega) c9
        cases e163
        have c9b0 : decide (0 < (l1.length : Int)) = true := decide_eq_true c9
        have c9b1 : decide (0 < l1.length) = true := decide_eq_true (by omega)
        have p163 : (0 ≤ (0 : Int)) = True := eq_true (by omega)
        have q163 : (0 < (l1.length : Int)) = True := eq_true c9
        have qi163 : (0 < l1.length) = True := eq_true (by omega)
        rw [show ((0 : Int)).toNat = 0 from rfl] at hx163_0
        try rw [Addr.add_zero'] at hx163_0
        clear c9
        go_enter Tryz.func92, Tryz.ntmps92
        go_wp2
        go_step3
        go_wp2_with (first | ((with_reducible refine z10 (f := 100) rfl ?_); refine goesL_ (some 22) rfl rfl Tryz.func100 (by kernel_rfl) rfl #[.slice A0 l0.length c0, .slice (some ad163) l1.length c1] rfl (by (try simp only [List.map_toArray, List.map_cons, List.map_nil]); first | done | rfl | (simp only [List.length_drop, List.length_take]; rfl) | (simp [Act.eval, IntKind.wrap, IntKind.bits, IntKind.signed]; done) | (simp [Act.eval, IntKind.wrap, IntKind.bits, IntKind.signed]; omega)) ?_; (with_reducible refine (nat_compare.calls k _ _ l0 _ _ l1 t159 _ ?side1 ?side2 ?side3 ?side4 A3.out).mono ?_); (case side1 => repeat (first | exact HR0.out | (with_reducible refine Kd.C_alloc ?_ _) | (with_reducible refine Kd.C_drewN ?_ _) | (with_reducible refine Kd.C_drew ?_))); (case side2 => exact HC0.out); (case side3 => repeat (first | exact HR1.out | (with_reducible refine Kd.C_alloc ?_ _) | (with_reducible refine Kd.C_drewN ?_ _) | (with_reducible refine Kd.C_drew ?_))); (case side4 => exact HC1.out); rintro e w6 ⟨rfl, hb⟩; refine ⟨_, rfl, ?_⟩; replace hx163_0 := (hb.cell (World.block_lt_of_cell? w _ hx163_0)).trans hx163_0; have n0_ := Aside0.mk (z14 (by repeat (first | (with_reducible first | exact HB.out | apply z7 | apply z6 | apply z8) | exact HB.out)) hb); clear HB; have HB := n0_; clear n0_; clear hb) | ((with_reducible refine z10 (f := 81) rfl ?_); refine goesL_ (some 34) rfl rfl Tryz.func81 (by kernel_rfl) rfl #[.slice A0 l0.length c0, .int .u32 (rd l1 0)] rfl (by (try simp only [List.map_toArray, List.map_cons, List.map_nil]); first | done | rfl | (simp only [List.length_drop, List.length_take]; rfl) | (simp [Act.eval, IntKind.wrap, IntKind.bits, IntKind.signed]; done) | (simp [Act.eval, IntKind.wrap, IntKind.bits, IntKind.signed]; omega)) ?_; (with_reducible refine (nat_short.calls k _ _ l0 (rd l1 0) t164 t165 _ ?side1 ?side2 A10.out).mono ?_); (case side1 => repeat (first | exact (Kd.C_below HR0.out HB.out) | (with_reducible refine Kd.C_alloc ?_ _) | (with_reducible refine Kd.C_drewN ?_ _) | (with_reducible refine Kd.C_drew ?_))); (case side2 => exact HC0.out); rintro e w13 ⟨v166, rfl, ho0, hb⟩; refine ⟨_, rfl, ?_⟩; have n0_ := Aside0.mk (Kd.R_tight rfl (Kd.R_lower ho0 (z13 (by repeat (first | (with_reducible first | exact HB.out | apply z7 | apply z6 | apply z8) | exact HB.out))))); have n1_ := Aside0.mk (z14 (by repeat (first | (with_reducible first | exact HB.out | apply z7 | apply z6 | apply z8) | exact HB.out)) hb); clear HB; have HO167 := n0_; have HB := n1_; clear n0_ n1_; clear hb; clear ho0) | ((with_reducible refine z10 (f := 73) rfl ?_); refine goesL_ (some 40) rfl rfl Tryz.func73 (by kernel_rfl) rfl #[.int .u64 (IntKind.u64.wrap (t165))] rfl (by (try simp only [List.map_toArray, List.map_cons, List.map_nil]); first | done | rfl | (simp only [List.length_drop, List.length_take]; rfl) | (simp [Act.eval, IntKind.wrap, IntKind.bits, IntKind.signed]; done) | (simp [Act.eval, IntKind.wrap, IntKind.bits, IntKind.signed]; omega)) ?_; (with_reducible refine (nat_Of.calls k (IntKind.u64.wrap (t165)) t168 _ A11.out).mono ?_); rintro e w14 ⟨v169, rfl, ho0, hb⟩; refine ⟨_, rfl, ?_⟩; have HN := Aside0.mk (show ∀ k_, v169.ownBlock = some k_ → v166.ownBlock ≠ some k_ from fun k_ h1_ h2_ => by have := Kd.R_base ho0 k_ h1_; have := Kd.R_lt HO167.out k_ h2_; omega); have n0_ := Aside0.mk (Kd.R_tight rfl (Kd.R_lower ho0 (z13 (by repeat (first | (with_reducible first | exact HB.out | apply z7 | apply z6 | apply z8) | exact HB.out))))); have n1_ := Aside0.mk (Kd.R_below (by (with_reducible repeat (first | apply Kd.R_alloc | apply Kd.R_drewN | apply Kd.R_drew)); exact HO167.out) hb); have n2_ := Aside0.mk (z14 (by repeat (first | (with_reducible first | exact HB.out | apply z7 | apply z6 | apply z8) | exact HB.out)) hb); clear HO167; clear HB; have HO170 := n0_; have HO167 := n1_; have HB := n2_; clear n0_ n1_ n2_; clear hb; clear ho0))
        simp only [Exit.noGoto_ret]
        go_ret2
        exact ⟨_, _, by first | rfl | (simp [z11, z12] <;> rfl), Kd.R_mono HO167.out (fun k_ hk e => HN.out k_ e.symm hk.symm), Kd.R_mono HO170.out (fun k_ hk e => HN.out k_ hk.symm e.symm), HB.out⟩
      · rw [if_neg c9] at H
        exact absurd H (by simp)
    · rw [if_neg c8] at H
      have c8b0 : ((l1.length : Int) == 1) = false := beq_eq_false_iff_ne.mpr c8
      have c8b1 : ((l1.length : Int) != 1) = true := bne_iff_ne.mpr c8
      clear c8
      by_cases c9 : 0 < l1.length ∧ l0.length < 1000000
      case neg => rw [if_neg c9] at H; exact absurd H (by simp)
      rw [if_pos c9] at H
      replace H := Option.bind_eq_some_iff.mp H
      obtain ⟨up, A50, H⟩ := H
      replace H := Option.bind_eq_some_iff.mp H
      obtain ⟨left, A60, H⟩ := H
      replace H := Option.bind_eq_some_iff.mp H
      obtain ⟨sb, A70, H⟩ := H
      replace H := Option.bind_eq_some_iff.mp H
      obtain ⟨by_, A80, H⟩ := H
      try dsimp only at H
      by_cases c10 : 0 < by_.length ∧ by_.length ≤ l0.length ∧ left.length = l0.length + 1 ∧ 0 ≤ up
      case neg => rw [if_neg c10] at H; exact absurd H (by simp)
      rw [if_pos c10] at H
      replace H := Option.bind_eq_some_iff.mp H
      obtain ⟨⟨lz, qz⟩, A90, H⟩ := H
      replace H := Option.bind_eq_some_iff.mp H
      obtain ⟨q9, A110, H⟩ := H
      replace H := Option.bind_eq_some_iff.mp H
      obtain ⟨r9, A120, H⟩ := H
      simp only [Option.some.injEq, Prod.mk.injEq] at H
      obtain ⟨rfl, rfl⟩ := H
      try dsimp only at A110 A120
      obtain ⟨hl1, hl0⟩ := c9
      obtain ⟨hb0, hbl, hll, hup⟩ := c10
      have hl1m := HR1.out.2.1
      obtain ⟨j1, hj1v⟩ : ∃ j : Int, j = ((l1.length - 1 : Nat) : Int) := ⟨_, rfl⟩
      obtain ⟨mq, hmq⟩ : ∃ mq : Nat, mq = l0.length - by_.length + 1 := ⟨_, rfl⟩
      obtain ⟨m1, hm1v⟩ : ∃ j : Int, j = (l0.length : Int) - (by_.length : Int) := ⟨_, rfl⟩
      obtain ⟨xq, hxqv⟩ : ∃ j : Int, j = (mq : Int) - 1 := ⟨_, rfl⟩
      obtain ⟨LL, hLL⟩ : ∃ LL : Nat, LL = left.length := ⟨_, rfl⟩
      rw [← hmq] at A90
      rw [← hj1v] at A50
      obtain ⟨ad1, e1, hx1⟩ := Kd.at_int HR1.out j1 (by omega) (by omega)
      cases e1
      have p1 : (0 ≤ j1) = True := eq_true (by omega)
      have q1 : (j1 < (l1.length : Int)) = True := eq_true (by omega)
      have q1n : (j1.toNat < l1.length) = True := eq_true (by omega)
      have HNum := Aside0.mk (show 0 < by_.length ∧ by_.length ≤ l0.length ∧ LL = l0.length + 1 ∧ l0.length < 1000000 ∧ mq = l0.length - by_.length + 1 from ⟨hb0, hbl, by omega, hl0, hmq⟩)
      have HP0 := Aside0.mk hb0
      have HUP := Aside0.mk hup
      have HP1 := Aside0.mk (show 0 < mq from by omega)
      have HP2 := Aside0.mk (show mq * 4 ≤ 281474976710656 from by omega)
      have HP3 := Aside0.mk (show 0 < left.length from by omega)
      have HXQ := Aside0.mk hxqv
      have hmqn : (0 ≤ (mq : Int)) = True := eq_true (by omega)
      have hj1w : IntKind.i64.wrap ((l1.length : Int) - 1) = j1 := nat_divide.wI' (by omega) (by omega) (by omega)
      have hm1w : IntKind.i64.wrap ((l0.length : Int) - (by_.length : Int)) = m1 := nat_divide.wI' hm1v (by omega) (by omega)
      have hm2w : IntKind.i64.wrap (m1 + 1) = (mq : Int) := nat_divide.wI' (by omega) (by omega) (by omega)
      have hxqw : IntKind.i64.wrap ((mq : Int) - 1) = xq := nat_divide.wI' hxqv (by omega) (by omega)
      have A5 := Aside0.mk A50
      have A6 := Aside0.mk A60
      have A7 := Aside0.mk A70
      have A8 := Aside0.mk A80
      have A9 := Aside0.mk A90
      have A11 := Aside0.mk A110
      have A12 := Aside0.mk A120
      clear A50 A60 A70 A80 A90 A110 A120 hb0 hbl hl0 hmq hm1v hj1v hxqv hl1 hl1m hup hll
      go_enter Tryz.func92, Tryz.ntmps92
      go_wp2
      go_step3
      go_wp2_with (first | ((with_reducible refine z10 (f := 100) rfl ?_); refine goesL_ (some 22) rfl rfl Tryz.func100 (by kernel_rfl) rfl #[.slice A0 l0.length c0, .slice (some ad1) l1.length c1] rfl (by (try simp only [List.map_toArray, List.map_cons, List.map_nil]); first | done | rfl | (simp only [List.length_drop, List.length_take]; rfl) | (simp [Act.eval, IntKind.wrap, IntKind.bits, IntKind.signed]; done) | (simp [Act.eval, IntKind.wrap, IntKind.bits, IntKind.signed]; omega)) ?_; (with_reducible refine (nat_compare.calls k _ _ l0 _ _ l1 t159 _ ?side1 ?side2 ?side3 ?side4 A3.out).mono ?_); (case side1 => repeat (first | exact HR0.out | (with_reducible refine Kd.C_alloc ?_ _) | (with_reducible refine Kd.C_drewN ?_ _) | (with_reducible refine Kd.C_drew ?_))); (case side2 => exact HC0.out); (case side3 => repeat (first | exact HR1.out | (with_reducible refine Kd.C_alloc ?_ _) | (with_reducible refine Kd.C_drewN ?_ _) | (with_reducible refine Kd.C_drew ?_))); (case side4 => exact HC1.out); rintro e w6 ⟨rfl, hb⟩; refine ⟨_, rfl, ?_⟩; replace hx1 := (hb.cell (World.block_lt_of_cell? w _ hx1)).trans hx1; have n0_ := Aside0.mk (z14 (by repeat (first | (with_reducible first | exact HB.out | apply z7 | apply z6 | apply z8) | exact HB.out)) hb); clear HB; have HB := n0_; clear n0_; clear hb) | ((with_reducible refine z10 (f := 116) rfl ?_); refine goesL_ (some 47) rfl rfl Tryz.func116 (by kernel_rfl) rfl #[.int .u32 (rd l1 j1)] rfl (by (try simp only [List.map_toArray, List.map_cons, List.map_nil]); first | done | rfl | (simp only [List.length_drop, List.length_take]; rfl) | (simp [Act.eval, IntKind.wrap, IntKind.bits, IntKind.signed]; done) | (simp [Act.eval, IntKind.wrap, IntKind.bits, IntKind.signed]; omega)) ?_; (with_reducible refine (bits_LeadingZeros32.calls (rd l1 j1) up _ A5.out).mono ?_); rintro e w' ⟨rfl, ⟨nd, rfl⟩⟩; refine ⟨_, rfl, ?_⟩) | ((with_reducible refine z10 (f := 117) rfl ?_); refine goesL_ (some 50) rfl rfl Tryz.func117 (by kernel_rfl) rfl #[.slice A0 l0.length c0, .int .i64 up] rfl (by (try simp only [List.map_toArray, List.map_cons, List.map_nil]); first | done | rfl | (simp only [List.length_drop, List.length_take]; rfl) | (simp [Act.eval, IntKind.wrap, IntKind.bits, IntKind.signed]; done) | (simp [Act.eval, IntKind.wrap, IntKind.bits, IntKind.signed]; omega)) ?_; (with_reducible refine (nat_shifted.calls k _ _ l0 up left _ ?side1 ?side2 A6.out).mono ?_); (case side1 => repeat (first | exact (Kd.C_below HR0.out HB.out) | (with_reducible refine Kd.C_alloc ?_ _) | (with_reducible refine Kd.C_drewN ?_ _) | (with_reducible refine Kd.C_drew ?_))); (case side2 => exact HC0.out); rintro e w3 ⟨vL, rfl, ho0, hb⟩; refine ⟨_, rfl, ?_⟩; have n0_ := Aside0.mk (Kd.R_tight rfl (Kd.R_lower ho0 (z13 (by repeat (first | (with_reducible first | exact HB.out | apply z7 | apply z6 | apply z8) | exact HB.out))))); have n1_ := Aside0.mk (z14 (by repeat (first | (with_reducible first | exact HB.out | apply z7 | apply z6 | apply z8) | exact HB.out)) hb); clear HB; have HL := n0_; have HB := n1_; clear n0_ n1_; clear hb; clear ho0) | ((with_reducible refine z10 (f := 117) rfl ?_); refine goesL_ (some 53) rfl rfl Tryz.func117 (by kernel_rfl) rfl #[.slice (some ad1) l1.length c1, .int .i64 up] rfl (by (try simp only [List.map_toArray, List.map_cons, List.map_nil]); first | done | rfl | (simp only [List.length_drop, List.length_take]; rfl) | (simp [Act.eval, IntKind.wrap, IntKind.bits, IntKind.signed]; done) | (simp [Act.eval, IntKind.wrap, IntKind.bits, IntKind.signed]; omega)) ?_; (with_reducible refine (nat_shifted.calls k _ _ l1 up sb _ ?side1 ?side2 A7.out).mono ?_); (case side1 => repeat (first | exact (Kd.C_below HR1.out HB.out) | (with_reducible refine Kd.C_alloc ?_ _) | (with_reducible refine Kd.C_drewN ?_ _) | (with_reducible refine Kd.C_drew ?_))); (case side2 => exact HC1.out); rintro e w4 ⟨vS, rfl, ho0, hb⟩; refine ⟨_, rfl, ?_⟩; have HLS := Aside0.mk (show ∀ k_, vS.ownBlock = some k_ → vL.ownBlock ≠ some k_ from fun k_ h1_ h2_ => by have := Kd.R_base ho0 k_ h1_; have := Kd.R_lt HL.out k_ h2_; omega); have n0_ := Aside0.mk (Kd.R_tight rfl (Kd.R_lower ho0 (z13 (by repeat (first | (with_reducible first | exact HB.out | apply z7 | apply z6 | apply z8) | exact HB.out))))); have n1_ := Aside0.mk (Kd.R_below (by (with_reducible repeat (first | apply Kd.R_alloc | apply Kd.R_drewN | apply Kd.R_drew)); exact HL.out) hb); have n2_ := Aside0.mk (z14 (by repeat (first | (with_reducible first | exact HB.out | apply z7 | apply z6 | apply z8) | exact HB.out)) hb); clear HL; clear HB; have HS := n0_; have HL := n1_; have HB := n2_; clear n0_ n1_ n2_; clear hb; clear ho0) | ((with_reducible refine z10 (f := 98) rfl ?_); refine goesL_ (some 54) rfl rfl Tryz.func98 (by kernel_rfl) rfl #[vS] rfl (by (try simp only [List.map_toArray, List.map_cons, List.map_nil]); first | done | rfl | (simp only [List.length_drop, List.length_take]; rfl) | (simp [Act.eval, IntKind.wrap, IntKind.bits, IntKind.signed]; done) | (simp [Act.eval, IntKind.wrap, IntKind.bits, IntKind.signed]; omega)) ?_; (with_reducible refine (nat_trim.calls k (fun k_ => some k_ = vS.ownBlock) vS sb by_ w _ ?side1 ?side2 A8.out).mono ?_); (case side1 => exact (by repeat (first | (with_reducible first | exact HB.out | apply z7 | apply z6 | apply z8) | exact HB.out))); (case side2 => exact HS.out); rintro e w5 ⟨vB, rfl, ho0, hb, hkp⟩; refine ⟨_, rfl, ?_⟩; have HLB := Aside0.mk (show ∀ k_, vB.ownBlock = some k_ → vL.ownBlock ≠ some k_ from fun k_ h1_ h2_ => (ho0.1 k_ h1_).elim (fun e_ => HLS.out k_ e_.symm h2_) (fun e_ => by have := Kd.R_lt HL.out k_ h2_; omega)); have n0_ := Aside0.mk (Kd.R_step HL.out (fun k_ hk_ hlt_ => hkp.2 k_ hlt_ (fun e_ => HLS.out k_ e_.symm hk_.symm))); have n1_ := Aside0.mk (Kd.R_tight rfl ho0); have n2_ := Aside0.mk hb; clear HL HB HS HLS ho0 hb hkp; have HL := n0_; have HY := n1_; have HB := n2_; clear n0_ n1_ n2_; obtain ⟨gB, cB, eB, _, _, _⟩ := Kd.R_form HY.out HP0.out; subst eB; obtain ⟨gL, cL, eL, hgL, _, _⟩ := Kd.R_form HL.out HP3.out; subst eL; have e_ := hLL; rw [← e_] at HL; clear e_; rw [← hLL]) | ((with_reducible refine gate_dst (N := 62) rfl ?_); refine Kd.R_make (Kd.int .u32) _ 30 rfl (N := 62) rfl 22 _ _ rfl (mq : Int) rfl rfl Tryz.underlying22 (.int .u32 0) 4 info30 rfl (by decide) (by omega) 0 (ok := fun _ => True) (okp := fun _ => True) rfl (fun _ hk => hk) trivial (Int.natCast_nonneg _) (by rw [Int.toNat_natCast]; exact HP2.out) (Below.refl _ _) (Nat.le_refl _) ?_; intro vQ w7 hoq hb hg_ hnew_; clear hg_ hnew_; rw [Int.toNat_natCast] at hoq; have HLQ := Aside0.mk (show ∀ k_, vQ.ownBlock = some k_ → gL ≠ k_ from fun k_ h1_ h2_ => by have := Kd.R_base hoq k_ h1_; have := Kd.R_lt HL.out gL (by simp [Value.ownBlock]); omega); have HYQ := Aside0.mk (show ∀ k_, vQ.ownBlock = some k_ → (Value.slice (some ⟨gB, 0, none⟩) by_.length cB).ownBlock ≠ some k_ from fun k_ h1_ h2_ => by have := Kd.R_base hoq k_ h1_; have := Kd.R_lt HY.out k_ h2_; omega); have n0_ := Aside0.mk (Kd.R_tight rfl (Kd.R_lower hoq (z13 (by repeat (first | (with_reducible first | exact HB.out | apply z7 | apply z6 | apply z8) | exact HB.out))))); have n1_ := Aside0.mk (Kd.R_below (by (with_reducible repeat (first | apply Kd.R_alloc | apply Kd.R_drewN | apply Kd.R_drew)); exact HL.out) hb); have n2_ := Aside0.mk (Kd.R_below (by (with_reducible repeat (first | apply Kd.R_alloc | apply Kd.R_drewN | apply Kd.R_drew)); exact HY.out) hb); have n3_ := Aside0.mk (z14 (by repeat (first | (with_reducible first | exact HB.out | apply z7 | apply z6 | apply z8) | exact HB.out)) hb); clear HL; clear HY; clear HB; have HQ := n0_; have HL := n1_; have HY := n2_; have HB := n3_; clear n0_ n1_ n2_ n3_; clear hb; clear hoq; obtain ⟨gQ, cQ, eQ, hgQ, _, _⟩ := Kd.R_form HQ.out (by rw [List.length_replicate]; exact HP1.out); subst eQ; rw [List.length_replicate] at HQ ⊢))
      rw [← hLL]
      have HLL := Aside0.mk hLL
      clear hLL
      have HLQB := Aside0.mk (show gL ≠ gQ ∧ gL ≠ gB from ⟨HLQ.out gQ rfl, fun e_ => HLB.out gB rfl (by rw [e_]; rfl)⟩)
      have HBQ := Aside0.mk (show gB ≠ gQ from fun e_ => HYQ.out gQ rfl (by rw [e_]; rfl))
      clear HLQ HYQ HLB
      clear hx1 p1 q1 q1n hj1w hm1w hm2w c8b0 c8b1 c4b0 A3 A5 A6 A7 A8
      go_step3
      go_wp2
      go_loopg [12] mq (fun c v12 w' => ∃ (lf qq : List Int) (xi : Int), v12 = .int .i64 xi ∧ Aside0 (xi = (c : Int) - 1) ∧ Aside0 (nat_divide.l0 k by_ c lf qq = some (lz, qz)) ∧ Aside0 (c ≤ mq ∧ lf.length = LL ∧ qq.length = mq) ∧ Aside0 (Kd.R (Kd.int .u32) 30 w' w.heap.size (fun k_ => some k_ = (Value.slice (some ⟨gL, 0, none⟩) LL cL).ownBlock) (.slice (some ⟨gL, 0, none⟩) LL cL) lf) ∧ Aside0 (Kd.R (Kd.int .u32) 30 w' w.heap.size (fun k_ => some k_ = (Value.slice (some ⟨gB, 0, none⟩) by_.length cB).ownBlock) (.slice (some ⟨gB, 0, none⟩) by_.length cB) by_) ∧ Aside0 (Kd.R (Kd.int .u32) 30 w' w.heap.size (fun k_ => some k_ = (Value.slice (some ⟨gQ, 0, none⟩) mq cQ).ownBlock) (.slice (some ⟨gQ, 0, none⟩) mq cQ) qq) ∧ Aside0 (Below w.heap.size w w'))
      case atStart => exact ⟨left, List.replicate mq 0, xq, rfl, HXQ, A9, ⟨⟨Nat.le_refl _, HLL.out.symm, List.length_replicate⟩⟩, HL, HY, HQ, HB⟩
      case round =>
        clear A9 HL HY HQ HB
        obtain ⟨lf, qq, xi, rfl, HXI, HA, HLn, HL, HY, HQ, HB⟩ := hrel
        cases gk with
        | zero =>
          have H := HA.out
          clear HA
          simp only [nat_divide.l0, Option.some.injEq, Prod.mk.injEq] at H
          obtain ⟨rfl, rfl⟩ := H
          obtain ⟨hcm, hlf, hqq⟩ := HLn.out
          obtain ⟨hb0, hbl, hLL1, hl0m, hmq⟩ := HNum.out
          have hpm : by_.length * 4 ≤ 281474976710656 := by omega
          have pd : decide (0 ≤ xi) = false := decide_eq_false (by have := HXI.out; omega)
          have HPM := Aside0.mk hpm
          have HLF := Aside0.mk hlf
          clear hpm hb0 hbl hLL1 hl0m hmq hcm hlf hqq hmqn hxqw
          go_wp2_with (first | ((with_reducible refine gate_dst (N := 132) rfl ?_); refine Kd.R_make (Kd.int .u32) _ 30 rfl (N := 132) rfl 22 _ _ rfl (by_.length : Int) rfl rfl Tryz.underlying22 (.int .u32 0) 4 info30 rfl (by decide) (by omega) 0 (ok := fun _ => True) (okp := fun _ => True) rfl (fun _ hk => hk) trivial (Int.natCast_nonneg _) (by rw [Int.toNat_natCast]; exact HPM.out) (Below.refl _ _) (Nat.le_refl _) ?_; intro vX w31 hox hb hg_ hnew_; clear hg_ hnew_; rw [Int.toNat_natCast] at hox; have HNX := Aside0.mk (show ∀ k_, vX.ownBlock = some k_ → gL ≠ k_ ∧ gQ ≠ k_ from fun k_ h1_ => (fun h2_ => ⟨nat_divide.ne_new HL.out rfl h2_, nat_divide.ne_new HQ.out rfl h2_⟩) (Kd.R_base hox k_ h1_)); have n0_ := Aside0.mk (Kd.R_tight rfl (Kd.R_lower hox (z13 (by repeat (first | (with_reducible first | exact HB.out | apply z7 | apply z6 | apply z8) | exact HB.out))))); have n1_ := Aside0.mk (Kd.R_below (by (with_reducible repeat (first | apply Kd.R_alloc | apply Kd.R_drewN | apply Kd.R_drew)); exact HL.out) hb); have n2_ := Aside0.mk (Kd.R_below (by (with_reducible repeat (first | apply Kd.R_alloc | apply Kd.R_drewN | apply Kd.R_drew)); exact HQ.out) hb); have n3_ := Aside0.mk (z14 (by repeat (first | (with_reducible first | exact HB.out | apply z7 | apply z6 | apply z8) | exact HB.out)) hb); clear HL; clear HQ; clear HB; have HX := n0_; have HL := n1_; have HQ := n2_; have HB := n3_; clear n0_ n1_ n2_ n3_; clear hb; clear hox; obtain ⟨gX, cX, eX, hgX, _, _⟩ := Kd.R_form HX.out (by rw [List.length_replicate]; exact HP0.out); subst eX; rw [List.length_replicate] at HX HNX ⊢; have HXLQ := Aside0.mk (show gL ≠ gX ∧ gQ ≠ gX from HNX.out gX rfl); clear HNX))
          go_loopg [134] by_.length (fun c v134 w' => ∃ (x : Int) (xs : List Int), v134 = .int .i64 x ∧ Aside0 (x = (by_.length : Int) - (c : Int) ∧ c ≤ by_.length) ∧ Aside0 (xs = (List.range (by_.length - c)).map (nat_divide.restAt lf up) ++ List.replicate c 0) ∧ Aside0 (Kd.R (Kd.int .u32) 30 w' w.heap.size (fun k_ => some k_ = (Value.slice (some ⟨gX, 0, none⟩) by_.length cX).ownBlock) (.slice (some ⟨gX, 0, none⟩) by_.length cX) xs) ∧ Aside0 (Kd.R (Kd.int .u32) 30 w' w.heap.size (fun k_ => some k_ = (Value.slice (some ⟨gL, 0, none⟩) LL cL).ownBlock) (.slice (some ⟨gL, 0, none⟩) LL cL) lf) ∧ Aside0 (Kd.R (Kd.int .u32) 30 w' w.heap.size (fun k_ => some k_ = (Value.slice (some ⟨gQ, 0, none⟩) mq cQ).ownBlock) (.slice (some ⟨gQ, 0, none⟩) mq cQ) qq) ∧ Aside0 (Below w.heap.size w w'))
          case atStart => exact ⟨0, List.replicate by_.length 0, rfl, ⟨⟨by omega, Nat.le_refl _⟩⟩, ⟨by rw [Nat.sub_self]; rfl⟩, HX, HL, HQ, HB⟩
          case round =>
            clear HX HL HQ HB pd
            obtain ⟨x, xs, rfl, HXV, HXS, HX, HL, HQ, HB⟩ := hrel
            cases gk with
            | zero =>
              have hxs : xs = nat_divide.restOf lf up by_.length := by rw [HXS.out]; unfold nat_divide.restOf; rw [Nat.sub_zero, List.replicate_zero, List.append_nil]
              have qd : decide (x < (by_.length : Int)) = false := decide_eq_false (by have := HXV.out.1; omega)
              have A12' := A12.out
              rw [← hxs] at A12'
              have A13 := Aside0.mk A12'
              clear A12 A12' hxs
              go_wp2_with (first | ((with_reducible refine z10 (f := 98) rfl ?_); refine goesL_ (some 158) rfl rfl Tryz.func98 (by kernel_rfl) rfl #[.slice (some ⟨gQ, 0, none⟩) mq cQ] rfl (by (try simp only [List.map_toArray, List.map_cons, List.map_nil]); first | done | rfl | (simp only [List.length_drop, List.length_take]; rfl) | (simp [Act.eval, IntKind.wrap, IntKind.bits, IntKind.signed]; done) | (simp [Act.eval, IntKind.wrap, IntKind.bits, IntKind.signed]; omega)) ?_; (with_reducible refine (nat_trim.calls k (fun k_ => some k_ = (Value.slice (some ⟨gQ, 0, none⟩) mq cQ).ownBlock) (Value.slice (some ⟨gQ, 0, none⟩) mq cQ) qq q9 w _ ?side1 ?side2 A11.out).mono ?_); (case side1 => exact (by repeat (first | (with_reducible first | exact HB.out | apply z7 | apply z6 | apply z8) | exact HB.out))); (case side2 => exact HQ.out); rintro e w34 ⟨vq, rfl, ho0, hb, hkp⟩; refine ⟨_, rfl, ?_⟩; have HNQ := Aside0.mk (show ∀ k_, vq.ownBlock = some k_ → gX ≠ k_ from fun k_ h1_ => (ho0.1 k_ h1_).elim (fun e_ e2_ => HXLQ.out.2 ((Option.some.inj e_).symm.trans e2_.symm)) (fun h2_ => nat_divide.ne_new HX.out rfl h2_)); have n0_ := Aside0.mk (Kd.R_step HX.out (fun k_ hk_ hlt_ => hkp.2 k_ hlt_ (fun e_ => HXLQ.out.2 ((Option.some.inj e_).symm.trans (Option.some.inj hk_))))); have n1_ := Aside0.mk (Kd.R_tight rfl ho0); have n2_ := Aside0.mk hb; clear HX HQ HL HB ho0 hb hkp; have HX := n0_; have HQ9 := n1_; have HB := n2_; clear n0_ n1_ n2_) | ((with_reducible refine z10 (f := 98) rfl ?_); refine goesL_ (some 160) rfl rfl Tryz.func98 (by kernel_rfl) rfl #[.slice (some ⟨gX, 0, none⟩) by_.length cX] rfl (by (try simp only [List.map_toArray, List.map_cons, List.map_nil]); first | done | rfl | (simp only [List.length_drop, List.length_take]; rfl) | (simp [Act.eval, IntKind.wrap, IntKind.bits, IntKind.signed]; done) | (simp [Act.eval, IntKind.wrap, IntKind.bits, IntKind.signed]; omega)) ?_; (with_reducible refine (nat_trim.calls k (fun k_ => some k_ = (Value.slice (some ⟨gX, 0, none⟩) by_.length cX).ownBlock) (Value.slice (some ⟨gX, 0, none⟩) by_.length cX) xs r9 w _ ?side1 ?side2 A13.out).mono ?_); (case side1 => exact (by repeat (first | (with_reducible first | exact HB.out | apply z7 | apply z6 | apply z8) | exact HB.out))); (case side2 => exact HX.out); rintro e w35 ⟨vr, rfl, ho0, hb, hkp⟩; refine ⟨_, rfl, ?_⟩; have HN9 := Aside0.mk (show ∀ k_, vr.ownBlock = some k_ → vq.ownBlock ≠ some k_ from fun k_ h1_ h3_ => (ho0.1 k_ h1_).elim (fun e_ => HNQ.out k_ h3_ (Option.some.inj e_).symm) (fun h2_ => nat_divide.ne_new HQ9.out h3_ h2_ rfl)); have n0_ := Aside0.mk (Kd.R_step HQ9.out (fun k_ hk_ hlt_ => hkp.2 k_ hlt_ (fun e_ => HNQ.out k_ hk_.symm (Option.some.inj e_).symm))); have n1_ := Aside0.mk (Kd.R_tight rfl ho0); have n2_ := Aside0.mk hb; clear HX HQ9 HB ho0 hb hkp HNQ; have HQ9 := n0_; have HR9 := n1_; have HB := n2_; clear n0_ n1_ n2_))
              simp only [Exit.noGoto_ret]
              go_ret2
              exact ⟨_, _, by first | rfl | (simp [z11, z12] <;> rfl), Kd.R_mono HQ9.out (fun k_ hk e => HN9.out k_ e.symm hk.symm), Kd.R_mono HR9.out (fun k_ hk e => HN9.out k_ hk.symm e.symm), HB.out⟩
            | succ c =>
              obtain ⟨hxv, hcl⟩ := HXV.out
              obtain ⟨hb0, hbl, hLL1, hl0m, hmq⟩ := HNum.out
              obtain ⟨hcm, hlf, hqq⟩ := HLn.out
              obtain ⟨ix, hix⟩ : ∃ ix : Nat, ix = by_.length - (c + 1) := ⟨_, rfl⟩
              have hxi : x = (ix : Int) := by omega
              obtain ⟨x1, hx1⟩ : ∃ j : Int, j = ((ix + 1 : Nat) : Int) := ⟨_, rfl⟩
              obtain ⟨X, hX⟩ : ∃ y, y = rd lf x1 := ⟨_, rfl⟩
              obtain ⟨Y, hY⟩ : ∃ y, y = rd lf x := ⟨_, rfl⟩
              obtain ⟨T, hT⟩ : ∃ t, Go.bits .or .u64 (IntKind.u64.wrap ((IntKind.u64.wrap X) * 4294967296)) (IntKind.u64.wrap Y) = t := ⟨_, rfl⟩
              obtain ⟨S, hS⟩ : ∃ s, T / 2 ^ min up.toNat 64 = s := ⟨_, rfl⟩
              have hS' : shr .u64 T up = S := hS
              have hres : nat_divide.restAt lf up ix = S % 4294967296 := by unfold nat_divide.restAt nat_divide.topOf; rw [← hx1, ← hX, ← hxi, ← hY, hT, hS']
              have hXc : wr.cell? ⟨gL, x1.toNat, none⟩ = some (.int .u32 X) := by rw [hX]; exact (Kd.R_celln 0 HL.out x1 (by omega) (by omega)).1
              have hYc : wr.cell? ⟨gL, x.toNat, none⟩ = some (.int .u32 Y) := by rw [hY]; exact (Kd.R_celln 0 HL.out x (by omega) (by omega)).1
              obtain ⟨hRc, hRf⟩ := Kd.R_celln 0 HX.out x (by omega) (by omega)
              have pa : (0 ≤ x1) = True := eq_true (by omega)
              have qa : (x1 < (LL : Int)) = True := eq_true (by omega)
              have qan : (x1.toNat < LL) = True := eq_true (by omega)
              have pb : (0 ≤ x) = True := eq_true (by omega)
              have qb : (x < (LL : Int)) = True := eq_true (by omega)
              have qbn : (x.toNat < LL) = True := eq_true (by omega)
              have qc : (x < (by_.length : Int)) = True := eq_true (by omega)
              have qcn : (x.toNat < by_.length) = True := eq_true (by omega)
              have qd : decide (x < (by_.length : Int)) = true := decide_eq_true (by omega)
              have hup1 : (0 ≤ up) = True := eq_true HUP.out
              have hup2 : decide (0 ≤ up) = true := decide_eq_true HUP.out
              have hup3 : (up < 0) = False := eq_false (by have := HUP.out; omega)
              have hup4 : decide (up < 0) = false := decide_eq_false (by have := HUP.out; omega)
              have HI := Aside0.mk (show x = (ix : Int) ∧ ix = by_.length - (c + 1) ∧ c + 1 ≤ by_.length from ⟨hxi, hix, hcl⟩)
              have HX1 := Aside0.mk hx1
              have HRES := Aside0.mk hres
              have hw1 : IntKind.i64.wrap (x + 1) = x1 := nat_divide.wI' (by omega) (by omega) (by omega)
              clear hxv hcl hb0 hbl hLL1 hl0m hmq hcm hlf hqq hxi hix hx1 hX hY hres hS'
              go_wp2
              go_still_tail 19, (by kernel_rfl)
              change wpList _ _ _ _ _ wr.drew
              obtain ⟨w32, hw32⟩ : ∃ w32, w32 = wr.drew := ⟨_, rfl⟩
              rw [← hw32]
              have n0_ := Aside0.mk (show Kd.R (Kd.int .u32) 30 w32 w.heap.size (fun k_ => some k_ = (Value.slice (some ⟨gX, 0, none⟩) by_.length cX).ownBlock) (.slice (some ⟨gX, 0, none⟩) by_.length cX) xs from by rw [hw32]; exact Kd.R_drew HX.out)
              have n1_ := Aside0.mk (show Kd.R (Kd.int .u32) 30 w32 w.heap.size (fun k_ => some k_ = (Value.slice (some ⟨gL, 0, none⟩) LL cL).ownBlock) (.slice (some ⟨gL, 0, none⟩) LL cL) lf from by rw [hw32]; exact Kd.R_drew HL.out)
              have n2_ := Aside0.mk (show Kd.R (Kd.int .u32) 30 w32 w.heap.size (fun k_ => some k_ = (Value.slice (some ⟨gQ, 0, none⟩) mq cQ).ownBlock) (.slice (some ⟨gQ, 0, none⟩) mq cQ) qq from by rw [hw32]; exact Kd.R_drew HQ.out)
              have n3_ := Aside0.mk (show Below w.heap.size w w32 from by rw [hw32]; exact z8 HB.out)
              clear HX HL HQ HB hRc hRf hXc hYc hw32
              have HX := n0_
              have HL := n1_
              have HQ := n2_
              have HB := n3_
              clear n0_ n1_ n2_ n3_
              obtain ⟨hRc, hRf⟩ := Kd.R_celln 0 HX.out x (of_eq_true pb) (of_eq_true qc)
              go_wp2_with (first | ((with_reducible refine gate_store (t := 30) (p := 155) rfl ?_); refine store_event (t := 30) (p := 155) (v := ?vo_w33) (w1 := (w32.setCell ⟨gX, x.toNat, none⟩ (.int .u32 (S % 4294967296)))) ?hg ?ho ?hn ?hr ?_; (case ho => rfl); (case hg => rfl); (case hn => rfl); (case hr => first | (go_simp; done) | (go_simp; rfl)); intro w33 hw; have n0_ := Aside0.mk (show Kd.R (Kd.int .u32) 30 w33 w.heap.size (fun k_ => some k_ = (Value.slice (some ⟨gX, 0, none⟩) by_.length cX).ownBlock) (.slice (some ⟨gX, 0, none⟩) by_.length cX) (xs.set x.toNat (S % 4294967296)) from by rw [hw]; exact (Kd.R_putg HX.out x (S % 4294967296)).1); have n1_ := Aside0.mk (show Kd.R (Kd.int .u32) 30 w33 w.heap.size (fun k_ => some k_ = (Value.slice (some ⟨gL, 0, none⟩) LL cL).ownBlock) (.slice (some ⟨gL, 0, none⟩) LL cL) lf from by rw [hw]; exact Kd.R_far HL.out (fun k_ hk_ e_ => HXLQ.out.1 ((Option.some.inj hk_).symm.trans e_)) _); have n2_ := Aside0.mk (show Kd.R (Kd.int .u32) 30 w33 w.heap.size (fun k_ => some k_ = (Value.slice (some ⟨gQ, 0, none⟩) mq cQ).ownBlock) (.slice (some ⟨gQ, 0, none⟩) mq cQ) qq from by rw [hw]; exact Kd.R_far HQ.out (fun k_ hk_ e_ => HXLQ.out.2 ((Option.some.inj hk_).symm.trans e_)) _); have n3_ := Aside0.mk (show Below w.heap.size w w33 from by rw [hw]; exact below_set HB.out hgX); clear HX HL HQ HB hRc hRf hw; have HX := n0_; have HL := n1_; have HQ := n2_; have HB := n3_; clear n0_ n1_ n2_ n3_))
              have e1 : x.toNat = ix := by rw [HI.out.1]; rfl
              have e2 : xs.set x.toNat (S % 4294967296) = (List.range (by_.length - c)).map (nat_divide.restAt lf up) ++ List.replicate c 0 := by
                have e3 : by_.length - c = ix + 1 := by have := HI.out.2.1; have := HI.out.2.2; omega
                rw [HXS.out, ← HI.out.2.1, e1, ← HRES.out, e3]
                exact nat_divide.rest_step _ ix c
              have E2 := Aside0.mk e2
              have E1 := Aside0.mk (show x1 = (by_.length : Int) - (c : Int) ∧ c ≤ by_.length from by have := HX1.out; have := HI.out.2.1; have := HI.out.2.2; constructor <;> omega)
              clear e1 e2
              go_roundg c
              case measure => exact Nat.lt_succ_self c
              case rel => exact ⟨x1, _, rfl, E1, E2, HX, HL, HQ, HB⟩
        | succ i =>
          have H := HA.out
          clear HA
          simp only [nat_divide.l0] at H
          split at H
          case isFalse => cases H
          rename_i c1
          obtain ⟨hin, hiq, hz, hg0⟩ := c1
          replace H := Option.bind_eq_some_iff.mp H
          obtain ⟨⟨dg, rr⟩, A20, H⟩ := H
          try dsimp only at H A20
          obtain ⟨hcm, hlf, hqq⟩ := HLn.out
          obtain ⟨hb0, hbl, hLL1, hl0m, hmq⟩ := HNum.out
          have hxi : xi = (i : Int) := by have := HXI.out; omega
          obtain ⟨xin, hxin⟩ : ∃ j : Int, j = ((i + by_.length : Nat) : Int) := ⟨_, rfl⟩
          obtain ⟨xin1, hxin1⟩ : ∃ j : Int, j = ((i + by_.length - 1 : Nat) : Int) := ⟨_, rfl⟩
          obtain ⟨xn1, hxn1⟩ : ∃ j : Int, j = ((by_.length - 1 : Nat) : Int) := ⟨_, rfl⟩
          obtain ⟨xip, hxip⟩ : ∃ j : Int, j = ((i + (by_.length + 1) : Nat) : Int) := ⟨_, rfl⟩
          rw [← hxin, ← hxin1, ← hxn1] at A20 hg0
          rw [← hxn1] at hz
          obtain ⟨X, hX⟩ : ∃ x, x = rd lf xin := ⟨_, rfl⟩
          obtain ⟨Y, hY⟩ : ∃ x, x = rd lf xin1 := ⟨_, rfl⟩
          obtain ⟨Z, hZ⟩ : ∃ x, x = rd by_ xn1 := ⟨_, rfl⟩
          rw [← hX, ← hY, ← hZ] at A20 hg0
          rw [← hZ] at hz
          obtain ⟨Zw, hZw⟩ : ∃ z, IntKind.u64.wrap Z = z := ⟨_, rfl⟩
          obtain ⟨T, hT⟩ : ∃ t, Go.bits .or .u64 (IntKind.u64.wrap ((IntKind.u64.wrap X) * 4294967296)) (IntKind.u64.wrap Y) = t := ⟨_, rfl⟩
          obtain ⟨D, hD⟩ : ∃ d, IntKind.u64.wrap (Int.tdiv T Zw) = d := ⟨_, rfl⟩
          obtain ⟨G, hG⟩ : ∃ g, (if (4294967295 : Int) < D then (4294967295 : Int) else D) = g := ⟨_, rfl⟩
          have hGe : nat_divide.guessOf X Y Z = G := by unfold nat_divide.guessOf nat_divide.topOf mn; rw [hT, hZw, hD, hG]
          rw [hGe] at A20 hg0
          rw [hZw] at hz
          obtain ⟨part, hpart⟩ : ∃ p, p = (lf.take (i + by_.length + 1)).drop i := ⟨_, rfl⟩
          obtain ⟨gn, hgn⟩ : ∃ g : Nat, g = G.toNat := ⟨_, rfl⟩
          rw [← hpart, ← hgn] at A20
          have hGn : G = (gn : Int) := by omega
          have hGB : gn ≤ 4294967295 := by have : G ≤ 4294967295 := by rw [← hG]; split <;> omega
                                           omega
          have hpl : part.length = by_.length + 1 := by rw [hpart, List.length_drop, List.length_take]; omega
          have hyz : 0 < by_.length := hb0
          have hxc : wr.cell? ⟨gL, xin.toNat, none⟩ = some (.int .u32 X) := by rw [hX]; exact (Kd.R_celln 0 HL.out xin (by omega) (by omega)).1
          have hyc : wr.cell? ⟨gL, xin1.toNat, none⟩ = some (.int .u32 Y) := by rw [hY]; exact (Kd.R_celln 0 HL.out xin1 (by omega) (by omega)).1
          have hzc : wr.cell? ⟨gB, xn1.toNat, none⟩ = some (.int .u32 Z) := by rw [hZ]; exact (Kd.R_celln 0 HY.out xn1 (by omega) (by omega)).1
          have hLc := (Kd.R_reads' HL.out).2.1
          obtain ⟨i0, hi0, hi0s⟩ : ∃ i0, Tryz.prog.info? 30 = some i0 ∧ i0.size = 1 := by
            obtain ⟨ie, hie, h2⟩ := Option.map_eq_some_iff.1 info30
            simp only [Prod.mk.injEq] at h2
            exact ⟨ie, hie, h2.2.1⟩
          have hcut := nat_divide.cut_run (P := Tryz.prog) Tryz.underlying22 hi0 hi0s gL LL cL i (by_.length + 1) xi xip hxi hxip (by omega) (by omega) hLc
          rw [← hpl] at hcut
          have pa : (0 ≤ xin) = True := eq_true (by omega)
          have qa : (xin < (LL : Int)) = True := eq_true (by omega)
          have qan : (xin.toNat < LL) = True := eq_true (by omega)
          have pb : (0 ≤ xin1) = True := eq_true (by omega)
          have qb : (xin1 < (LL : Int)) = True := eq_true (by omega)
          have qbn : (xin1.toNat < LL) = True := eq_true (by omega)
          have pc : (0 ≤ xn1) = True := eq_true (by omega)
          have qc : (xn1 < (by_.length : Int)) = True := eq_true (by omega)
          have qcn : (xn1.toNat < by_.length) = True := eq_true (by omega)
          have pd : decide (0 ≤ xi) = true := decide_eq_true (by omega)
          have hz0 : (Zw == 0) = false := beq_eq_false_iff_ne.mpr hz
          have hz1 : (Zw = 0) = False := eq_false hz
          have HPL := Aside0.mk hpl
          have HI := Aside0.mk (show xi = (i : Int) ∧ i < mq ∧ i + (by_.length + 1) ≤ LL from ⟨hxi, by omega, by omega⟩)
          have HPART := Aside0.mk hpart
          have hw5 : IntKind.i64.wrap ((by_.length : Int) + 1) = (part.length : Int) := nat_divide.wI' (by omega) (by omega) (by omega)
          have hw1 : IntKind.i64.wrap (xi + (by_.length : Int)) = xin := nat_divide.wI' (by omega) (by omega) (by omega)
          have hw2 : IntKind.i64.wrap (xin - 1) = xin1 := nat_divide.wI' (by omega) (by omega) (by omega)
          have hw3 : IntKind.i64.wrap ((by_.length : Int) - 1) = xn1 := nat_divide.wI' (by omega) (by omega) (by omega)
          have hw4 : IntKind.i64.wrap (xin + 1) = xip := nat_divide.wI' (by omega) (by omega) (by omega)
          have A2 := Aside0.mk A20
          have H' := Aside0.mk H
          have HGN := Aside0.mk hGn
          have HGB := Aside0.mk hGB
          have HQQ := Aside0.mk hqq
          have HLF := Aside0.mk hlf
          clear A20 H hpl hxi hpart hb0 hbl hLL1 hl0m hmq hcm hlf hqq hxin hxin1 hxn1 hxip hX hY hZ hGe hg0 hin hiq hgn hLc hz hyz hGn hGB
          go_wp2
          repeat (go_quiet (fail); try go_wp2)
          go_loopg [14] gn (fun g v14 w' => ∃ xg : Int, v14 = .int .u64 xg ∧ Aside0 (xg = (g : Int) ∧ g ≤ gn) ∧ Aside0 (nat_divide.l1 k by_ part g = some (dg, rr)) ∧ Aside0 (Kd.R (Kd.int .u32) 30 w' w.heap.size (fun k_ => some k_ = (Value.slice (some ⟨gL, 0, none⟩) LL cL).ownBlock) (.slice (some ⟨gL, 0, none⟩) LL cL) lf) ∧ Aside0 (Kd.R (Kd.int .u32) 30 w' w.heap.size (fun k_ => some k_ = (Value.slice (some ⟨gB, 0, none⟩) by_.length cB).ownBlock) (.slice (some ⟨gB, 0, none⟩) by_.length cB) by_) ∧ Aside0 (Kd.R (Kd.int .u32) 30 w' w.heap.size (fun k_ => some k_ = (Value.slice (some ⟨gQ, 0, none⟩) mq cQ).ownBlock) (.slice (some ⟨gQ, 0, none⟩) mq cQ) qq) ∧ Aside0 (Below w.heap.size w w'))
          case atStart => exact ⟨G, rfl, ⟨HGN.out, Nat.le_refl _⟩, A2, ⟨(by (with_reducible repeat (first | apply Kd.R_alloc | apply Kd.R_drewN | apply Kd.R_drew)); exact HL.out)⟩, ⟨(by (with_reducible repeat (first | apply Kd.R_alloc | apply Kd.R_drewN | apply Kd.R_drew)); exact HY.out)⟩, ⟨(by (with_reducible repeat (first | apply Kd.R_alloc | apply Kd.R_drewN | apply Kd.R_drew)); exact HQ.out)⟩, ⟨(by repeat (first | (with_reducible first | exact HB.out | apply z7 | apply z6 | apply z8) | exact HB.out))⟩⟩
          case round =>
            clear A2 HL HY HQ HB hxc hyc hzc hcut pa qa qan pb qb qbn pc qc qcn pd hz0 hz1 hw1 hw2 hw3 hw4 hT hD hG hZw HGN hmqn hxqw
            obtain ⟨xg, rfl, HXG, HA, HL, HY, HQ, HB⟩ := hrel
            have H := HA.out
            clear HA
            rw [nat_divide.l1_step] at H
            unfold nat_divide.step at H
            replace H := Option.bind_eq_some_iff.mp H
            obtain ⟨o_, B10, H⟩ := H
            replace H := Option.bind_eq_some_iff.mp H
            obtain ⟨own_, B20, H⟩ := H
            replace H := Option.bind_eq_some_iff.mp H
            obtain ⟨cl_, B30, H⟩ := H
            replace H := Option.bind_eq_some_iff.mp H
            obtain ⟨t_, B40, H⟩ := H
            replace H := Option.bind_eq_some_iff.mp H
            obtain ⟨cc, B50, H⟩ := H
            try dsimp only at H
            rw [← HXG.out.1] at B10
            have B1 := Aside0.mk B10
            have B2 := Aside0.mk B20
            have B3 := Aside0.mk B30
            have B4 := Aside0.mk B40
            have B5 := Aside0.mk B50
            clear B10 B20 B30 B40 B50
            by_cases c2 : cc ≤ 0
            · rw [if_pos c2] at H
              have c2b0 : decide (cc ≤ 0) = true := decide_eq_true c2
              clear c2
              replace H := Option.bind_eq_some_iff.mp H
              obtain ⟨r_, B60, H⟩ := H
              split at H
              case isFalse => cases H
              rename_i c3
              simp only [Option.some.injEq, Prod.mk.injEq] at H
              obtain ⟨rfl, rfl⟩ := H
              have B6 := Aside0.mk B60
              have HRL := Aside0.mk c3
              clear B60 c3
              obtain ⟨xm, hxm⟩ : ∃ j : Int, j = (i : Int) - 1 := ⟨_, rfl⟩
              have HXM := Aside0.mk hxm
              have hw6 : IntKind.i64.wrap (xi - 1) = xm := by have := HI.out; have := HNum.out; exact nat_divide.wI' (by omega) (by omega) (by omega)
              have ps : (0 ≤ xi) = True := eq_true (by have := HI.out; omega)
              have qs : (xi < (mq : Int)) = True := eq_true (by have := HI.out; omega)
              have qsn : (xi.toNat < mq) = True := eq_true (by have := HI.out; omega)
              clear hxm
              go_wp2_with (first | ((with_reducible refine z10 (f := 73) rfl ?_); refine goesL_ (some 104) rfl rfl Tryz.func73 (by kernel_rfl) rfl #[.int .u64 xg] rfl (by (try simp only [List.map_toArray, List.map_cons, List.map_nil]); first | done | rfl | (simp only [List.length_drop, List.length_take]; rfl) | (simp [Act.eval, IntKind.wrap, IntKind.bits, IntKind.signed]; done) | (simp [Act.eval, IntKind.wrap, IntKind.bits, IntKind.signed]; omega)) ?_; (with_reducible refine (nat_Of.calls k xg o_ _ B1.out).mono ?_); rintro e w21 ⟨vO, rfl, ho0, hb⟩; refine ⟨_, rfl, ?_⟩; have n0_ := Aside0.mk (Kd.R_lower ho0 (z13 (by repeat (first | (with_reducible first | exact HB.out | apply z7 | apply z6 | apply z8) | exact HB.out)))); have n1_ := Aside0.mk (Kd.R_below (by (with_reducible repeat (first | apply Kd.R_alloc | apply Kd.R_drewN | apply Kd.R_drew)); exact HL.out) hb); have n2_ := Aside0.mk (Kd.R_below (by (with_reducible repeat (first | apply Kd.R_alloc | apply Kd.R_drewN | apply Kd.R_drew)); exact HY.out) hb); have n3_ := Aside0.mk (Kd.R_below (by (with_reducible repeat (first | apply Kd.R_alloc | apply Kd.R_drewN | apply Kd.R_drew)); exact HQ.out) hb); have n4_ := Aside0.mk (z14 (by repeat (first | (with_reducible first | exact HB.out | apply z7 | apply z6 | apply z8) | exact HB.out)) hb); clear HL; clear HY; clear HQ; clear HB; have HO := n0_; have HL := n1_; have HY := n2_; have HQ := n3_; have HB := n4_; clear n0_ n1_ n2_ n3_ n4_; clear hb; clear ho0; obtain ⟨AO, cO, eO⟩ := Kd.R_slice HO.out; subst eO) | ((with_reducible refine z10 (f := 90) rfl ?_); refine goesL_ (some 106) rfl rfl Tryz.func90 (by kernel_rfl) rfl #[.slice AO o_.length cO, .slice (some ⟨gB, 0, none⟩) by_.length cB] rfl (by (try simp only [List.map_toArray, List.map_cons, List.map_nil]); first | done | rfl | (simp only [List.length_drop, List.length_take]; rfl) | (simp [Act.eval, IntKind.wrap, IntKind.bits, IntKind.signed]; done) | (simp [Act.eval, IntKind.wrap, IntKind.bits, IntKind.signed]; omega)) ?_; (with_reducible refine (nat_times.calls k _ _ o_ _ _ by_ own_ _ ?side1 ?side2 ?side3 ?side4 B2.out).mono ?_); (case side1 => repeat (first | exact (Kd.R_reads' HO.out).2.2 | (with_reducible refine Kd.C_alloc ?_ _) | (with_reducible refine Kd.C_drewN ?_ _) | (with_reducible refine Kd.C_drew ?_))); (case side2 => exact (Kd.R_reads' HO.out).2.1); (case side3 => repeat (first | exact (Kd.R_reads' HY.out).2.2 | (with_reducible refine Kd.C_alloc ?_ _) | (with_reducible refine Kd.C_drewN ?_ _) | (with_reducible refine Kd.C_drew ?_))); (case side4 => exact (Kd.R_reads' HY.out).2.1); rintro e w22 ⟨vW, rfl, ho0, hb⟩; refine ⟨_, rfl, ?_⟩; have n0_ := Aside0.mk (Kd.R_tight rfl (Kd.R_lower ho0 (z13 (by repeat (first | (with_reducible first | exact HB.out | apply z7 | apply z6 | apply z8) | exact HB.out))))); have n1_ := Aside0.mk (Kd.R_below (by (with_reducible repeat (first | apply Kd.R_alloc | apply Kd.R_drewN | apply Kd.R_drew)); exact HL.out) hb); have n2_ := Aside0.mk (Kd.R_below (by (with_reducible repeat (first | apply Kd.R_alloc | apply Kd.R_drewN | apply Kd.R_drew)); exact HY.out) hb); have n3_ := Aside0.mk (Kd.R_below (by (with_reducible repeat (first | apply Kd.R_alloc | apply Kd.R_drewN | apply Kd.R_drew)); exact HQ.out) hb); have n4_ := Aside0.mk (z14 (by repeat (first | (with_reducible first | exact HB.out | apply z7 | apply z6 | apply z8) | exact HB.out)) hb); clear HL; clear HY; clear HQ; clear HB; have HW := n0_; have HL := n1_; have HY := n2_; have HQ := n3_; have HB := n4_; clear n0_ n1_ n2_ n3_ n4_; clear hb; clear ho0 HO; obtain ⟨AW, cW, eW⟩ := Kd.R_slice HW.out; subst eW) | ((with_reducible refine z10 (f := 66) rfl ?_); refine goesL_ (some 109) rfl rfl Tryz.func66 (by kernel_rfl) rfl #[.slice (some ⟨gL, i, none⟩) part.length (cL - i)] rfl (by (try simp only [List.map_toArray, List.map_cons, List.map_nil]); first | done | rfl | (simp only [List.length_drop, List.length_take]; rfl) | (simp [Act.eval, IntKind.wrap, IntKind.bits, IntKind.signed]; done) | (simp [Act.eval, IntKind.wrap, IntKind.bits, IntKind.signed]; omega)) ?_; (with_reducible refine (slices_Clone_uint32_uint32.calls _ _ part cl_ _ ?side1 ?side2 B3.out).mono ?_); (case side1 => exact nat_divide.part_C (m := by_.length + 1) HL.out HPART.out HI.out.2.2 (nat_divide.lt_of_add HI.out.2.2)); (case side2 => rw [HPL.out]; exact Nat.le_sub_of_add_le (by rw [Nat.add_comm]; exact Nat.le_trans HI.out.2.2 (Kd.R_reads' HL.out).2.1)); rintro e w23 ⟨vC, rfl, ho0, hb⟩; refine ⟨_, rfl, ?_⟩; have HNC := Aside0.mk (show ∀ k_, vC.ownBlock = some k_ → gL ≠ k_ ∧ gB ≠ k_ ∧ gQ ≠ k_ ∧ (Value.slice AW own_.length cW).ownBlock ≠ some k_ from fun k_ h1_ => (fun h2_ => ⟨nat_divide.ne_new HL.out rfl h2_, nat_divide.ne_new HY.out rfl h2_, nat_divide.ne_new HQ.out rfl h2_, fun h3_ => nat_divide.ne_new HW.out h3_ h2_ rfl⟩) (Kd.R_base ho0 k_ h1_)); have n0_ := Aside0.mk (Kd.R_tight rfl (Kd.R_lower ho0 (z13 (by repeat (first | (with_reducible first | exact HB.out | apply z7 | apply z6 | apply z8) | exact HB.out))))); have n1_ := Aside0.mk (Kd.R_below (by (with_reducible repeat (first | apply Kd.R_alloc | apply Kd.R_drewN | apply Kd.R_drew)); exact HL.out) hb); have n2_ := Aside0.mk (Kd.R_below (by (with_reducible repeat (first | apply Kd.R_alloc | apply Kd.R_drewN | apply Kd.R_drew)); exact HY.out) hb); have n3_ := Aside0.mk (Kd.R_below (by (with_reducible repeat (first | apply Kd.R_alloc | apply Kd.R_drewN | apply Kd.R_drew)); exact HQ.out) hb); have n4_ := Aside0.mk (Kd.R_below (by (with_reducible repeat (first | apply Kd.R_alloc | apply Kd.R_drewN | apply Kd.R_drew)); exact HW.out) hb); have n5_ := Aside0.mk (z14 (by repeat (first | (with_reducible first | exact HB.out | apply z7 | apply z6 | apply z8) | exact HB.out)) hb); clear HL; clear HY; clear HQ; clear HW; clear HB; have HCL := n0_; have HL := n1_; have HY := n2_; have HQ := n3_; have HW := n4_; have HB := n5_; clear n0_ n1_ n2_ n3_ n4_ n5_; clear hb; clear ho0) | ((with_reducible refine z10 (f := 98) rfl ?_); refine goesL_ (some 110) rfl rfl Tryz.func98 (by kernel_rfl) rfl #[vC] rfl (by (try simp only [List.map_toArray, List.map_cons, List.map_nil]); first | done | rfl | (simp only [List.length_drop, List.length_take]; rfl) | (simp [Act.eval, IntKind.wrap, IntKind.bits, IntKind.signed]; done) | (simp [Act.eval, IntKind.wrap, IntKind.bits, IntKind.signed]; omega)) ?_; (with_reducible refine (nat_trim.calls k (fun k_ => some k_ = vC.ownBlock) vC cl_ t_ w _ ?side1 ?side2 B4.out).mono ?_); (case side1 => exact (by repeat (first | (with_reducible first | exact HB.out | apply z7 | apply z6 | apply z8) | exact HB.out))); (case side2 => exact HCL.out); rintro e w24 ⟨vT, rfl, ho0, hb, hkp⟩; refine ⟨_, rfl, ?_⟩; have n0_ := Aside0.mk (Kd.R_step HL.out (fun k_ hk_ hlt_ => hkp.2 k_ hlt_ (fun e_ => (HNC.out k_ e_.symm).1 (Option.some.inj hk_).symm))); have n1_ := Aside0.mk (Kd.R_step HY.out (fun k_ hk_ hlt_ => hkp.2 k_ hlt_ (fun e_ => (HNC.out k_ e_.symm).2.1 (Option.some.inj hk_).symm))); have n2_ := Aside0.mk (Kd.R_step HQ.out (fun k_ hk_ hlt_ => hkp.2 k_ hlt_ (fun e_ => (HNC.out k_ e_.symm).2.2.1 (Option.some.inj hk_).symm))); have n3_ := Aside0.mk (Kd.R_step HW.out (fun k_ hk_ hlt_ => hkp.2 k_ hlt_ (fun e_ => (HNC.out k_ e_.symm).2.2.2 hk_.symm))); have n4_ := Aside0.mk ho0; have n5_ := Aside0.mk hb; clear HL HY HQ HW HCL HB HNC ho0 hb hkp; have HL := n0_; have HY := n1_; have HQ := n2_; have HW := n3_; have HT := n4_; have HB := n5_; clear n0_ n1_ n2_ n3_ n4_ n5_; obtain ⟨AT, cT, eT⟩ := Kd.R_slice HT.out; subst eT) | ((with_reducible refine z10 (f := 100) rfl ?_); refine goesL_ (some 111) rfl rfl Tryz.func100 (by kernel_rfl) rfl #[.slice AW own_.length cW, .slice AT t_.length cT] rfl (by (try simp only [List.map_toArray, List.map_cons, List.map_nil]); first | done | rfl | (simp only [List.length_drop, List.length_take]; rfl) | (simp [Act.eval, IntKind.wrap, IntKind.bits, IntKind.signed]; done) | (simp [Act.eval, IntKind.wrap, IntKind.bits, IntKind.signed]; omega)) ?_; (with_reducible refine (nat_compare.calls k _ _ own_ _ _ t_ cc _ ?side1 ?side2 ?side3 ?side4 B5.out).mono ?_); (case side1 => repeat (first | exact (Kd.R_reads' HW.out).2.2 | (with_reducible refine Kd.C_alloc ?_ _) | (with_reducible refine Kd.C_drewN ?_ _) | (with_reducible refine Kd.C_drew ?_))); (case side2 => exact (Kd.R_reads' HW.out).2.1); (case side3 => repeat (first | exact (Kd.R_reads' HT.out).2.2 | (with_reducible refine Kd.C_alloc ?_ _) | (with_reducible refine Kd.C_drewN ?_ _) | (with_reducible refine Kd.C_drew ?_))); (case side4 => exact (Kd.R_reads' HT.out).2.1); rintro e w25 ⟨rfl, hb⟩; refine ⟨_, rfl, ?_⟩; have n0_ := Aside0.mk (Kd.R_below (by (with_reducible repeat (first | apply Kd.R_alloc | apply Kd.R_drewN | apply Kd.R_drew)); exact HL.out) hb); have n1_ := Aside0.mk (Kd.R_below (by (with_reducible repeat (first | apply Kd.R_alloc | apply Kd.R_drewN | apply Kd.R_drew)); exact HY.out) hb); have n2_ := Aside0.mk (Kd.R_below (by (with_reducible repeat (first | apply Kd.R_alloc | apply Kd.R_drewN | apply Kd.R_drew)); exact HQ.out) hb); have n3_ := Aside0.mk (Kd.R_below (by (with_reducible repeat (first | apply Kd.R_alloc | apply Kd.R_drewN | apply Kd.R_drew)); exact HW.out) hb); have n4_ := Aside0.mk (z14 (by repeat (first | (with_reducible first | exact HB.out | apply z7 | apply z6 | apply z8) | exact HB.out)) hb); clear HL; clear HY; clear HQ; clear HW; clear HB; have HL := n0_; have HY := n1_; have HQ := n2_; have HW := n3_; have HB := n4_; clear n0_ n1_ n2_ n3_ n4_; clear hb; clear HT) | ((with_reducible refine z10 (f := 101) rfl ?_); refine goesL_ (some 115) rfl rfl Tryz.func101 (by kernel_rfl) rfl #[.slice (some ⟨gL, i, none⟩) part.length (cL - i), .slice AW own_.length cW] rfl (by (try simp only [List.map_toArray, List.map_cons, List.map_nil]); first | done | rfl | (simp only [List.length_drop, List.length_take]; rfl) | (simp [Act.eval, IntKind.wrap, IntKind.bits, IntKind.signed]; done) | (simp [Act.eval, IntKind.wrap, IntKind.bits, IntKind.signed]; omega)) ?_; (with_reducible refine (nat_minus.calls k _ _ part _ _ own_ r_ _ ?side1 ?side2 ?side3 ?side4 B6.out).mono ?_); (case side1 => exact nat_divide.part_C (m := by_.length + 1) HL.out HPART.out HI.out.2.2 (nat_divide.lt_of_add HI.out.2.2)); (case side2 => rw [HPL.out]; exact Nat.le_sub_of_add_le (by rw [Nat.add_comm]; exact Nat.le_trans HI.out.2.2 (Kd.R_reads' HL.out).2.1)); (case side3 => repeat (first | exact (Kd.R_reads' HW.out).2.2 | (with_reducible refine Kd.C_alloc ?_ _) | (with_reducible refine Kd.C_drewN ?_ _) | (with_reducible refine Kd.C_drew ?_))); (case side4 => exact (Kd.R_reads' HW.out).2.1); rintro e w26 ⟨vR, rfl, ho0, hb⟩; refine ⟨_, rfl, ?_⟩; have HNR := Aside0.mk (show ∀ k_, vR.ownBlock = some k_ → gL ≠ k_ from fun k_ h1_ => (fun h2_ => nat_divide.ne_new HL.out rfl h2_) (Kd.R_base ho0 k_ h1_)); have n0_ := Aside0.mk (Kd.R_tight rfl (Kd.R_lower ho0 (z13 (by repeat (first | (with_reducible first | exact HB.out | apply z7 | apply z6 | apply z8) | exact HB.out))))); have n1_ := Aside0.mk (Kd.R_below (by (with_reducible repeat (first | apply Kd.R_alloc | apply Kd.R_drewN | apply Kd.R_drew)); exact HL.out) hb); have n2_ := Aside0.mk (Kd.R_below (by (with_reducible repeat (first | apply Kd.R_alloc | apply Kd.R_drewN | apply Kd.R_drew)); exact HY.out) hb); have n3_ := Aside0.mk (Kd.R_below (by (with_reducible repeat (first | apply Kd.R_alloc | apply Kd.R_drewN | apply Kd.R_drew)); exact HQ.out) hb); have n4_ := Aside0.mk (z14 (by repeat (first | (with_reducible first | exact HB.out | apply z7 | apply z6 | apply z8) | exact HB.out)) hb); clear HL; clear HY; clear HQ; clear HB; have HR := n0_; have HL := n1_; have HY := n2_; have HQ := n3_; have HB := n4_; clear n0_ n1_ n2_ n3_ n4_; clear hb; clear ho0 HW; obtain ⟨AR, cR, eR⟩ := Kd.R_slice HR.out; subst eR) | ((with_reducible refine gate_dst (N := 119) rfl ?_); refine Kd.R_make (Kd.int .u32) _ 30 rfl (N := 119) rfl 22 _ _ rfl (part.length : Int) rfl rfl Tryz.underlying22 (.int .u32 0) 4 info30 rfl (by decide) (by omega) 0 (ok := fun _ => True) (okp := fun _ => True) rfl (fun _ hk => hk) trivial (Int.natCast_nonneg _) (by rw [Int.toNat_natCast, HPL.out]; have := HNum.out; omega) (Below.refl _ _) (Nat.le_refl _) ?_; intro vZ w27 hoz hb hg_ hnew_; clear hg_ hnew_; rw [Int.toNat_natCast] at hoz; obtain ⟨zs, hzs⟩ : ∃ z, z = List.replicate part.length (0 : Int) := ⟨_, rfl⟩; rw [← hzs] at hoz; have HZS := Aside0.mk hzs; clear hzs; have HNZ := Aside0.mk (show ∀ k_, vZ.ownBlock = some k_ → gL ≠ k_ from fun k_ h1_ => (fun h2_ => nat_divide.ne_new HL.out rfl h2_) (Kd.R_base hoz k_ h1_)); have n0_ := Aside0.mk (Kd.R_tight rfl (Kd.R_lower hoz (z13 (by repeat (first | (with_reducible first | exact HB.out | apply z7 | apply z6 | apply z8) | exact HB.out))))); have n1_ := Aside0.mk (Kd.R_below (by (with_reducible repeat (first | apply Kd.R_alloc | apply Kd.R_drewN | apply Kd.R_drew)); exact HL.out) hb); have n2_ := Aside0.mk (Kd.R_below (by (with_reducible repeat (first | apply Kd.R_alloc | apply Kd.R_drewN | apply Kd.R_drew)); exact HY.out) hb); have n3_ := Aside0.mk (Kd.R_below (by (with_reducible repeat (first | apply Kd.R_alloc | apply Kd.R_drewN | apply Kd.R_drew)); exact HQ.out) hb); have n4_ := Aside0.mk (Kd.R_below (by (with_reducible repeat (first | apply Kd.R_alloc | apply Kd.R_drewN | apply Kd.R_drew)); exact HR.out) hb); have n5_ := Aside0.mk (z14 (by repeat (first | (with_reducible first | exact HB.out | apply z7 | apply z6 | apply z8) | exact HB.out)) hb); clear HL; clear HY; clear HQ; clear HR; clear HB; have HZ := n0_; have HL := n1_; have HY := n2_; have HQ := n3_; have HR := n4_; have HB := n5_; clear n0_ n1_ n2_ n3_ n4_ n5_; clear hb; clear hoz; obtain ⟨AZ, cZ, eZ⟩ := Kd.R_slice HZ.out; subst eZ; obtain ⟨W1, W2, hcp1, hcp2, D1, D2, D3, D4⟩ := nat_divide.two_copies (P := Tryz.prog) (n := by_.length) Tryz.underlying22 nat_divide.size32 HL.out HZ.out HR.out HY.out HQ.out HB.out hgL i part.length (cL - i) HLQB.out.1 HLQB.out.2 HNR.out HPL.out HI.out.2.2 HLF.out HZS.out HRL.out; clear HL HY HQ HB HZ HR HNZ HNR; have HL := Aside0.mk D1; have HY := Aside0.mk D2; have HQ := Aside0.mk D3; have HB := Aside0.mk D4; clear D1 D2 D3 D4; obtain ⟨hqc, hqf⟩ := Kd.R_celln 0 HQ.out xi (of_eq_true ps) (of_eq_true qs)) | ((with_reducible refine gate_store (t := 30) (p := 128) rfl ?_); refine store_event (t := 30) (p := 128) (v := ?vo_w15) (w1 := (W2.setCell ⟨gQ, xi.toNat, none⟩ (.int .u32 (xg % 4294967296)))) ?hg ?ho ?hn ?hr ?_; (case ho => rfl); (case hg => rfl); (case hn => rfl); (case hr => first | (go_simp; done) | (go_simp; rfl)); intro w28 hw; have n0_ := Aside0.mk (show Kd.R (Kd.int .u32) 30 w28 w.heap.size (fun k_ => some k_ = (Value.slice (some ⟨gL, 0, none⟩) LL cL).ownBlock) (.slice (some ⟨gL, 0, none⟩) LL cL) (nat_divide.lay lf r_ by_.length i) from by rw [hw]; exact Kd.R_far HL.out (fun k_ hk_ e_ => HLQB.out.1 ((Option.some.inj hk_).symm.trans e_)) _); have n1_ := Aside0.mk (show Kd.R (Kd.int .u32) 30 w28 w.heap.size (fun k_ => some k_ = (Value.slice (some ⟨gB, 0, none⟩) by_.length cB).ownBlock) (.slice (some ⟨gB, 0, none⟩) by_.length cB) by_ from by rw [hw]; exact Kd.R_far HY.out (fun k_ hk_ e_ => HBQ.out ((Option.some.inj hk_).symm.trans e_)) _); have n2_ := Aside0.mk (show Kd.R (Kd.int .u32) 30 w28 w.heap.size (fun k_ => some k_ = (Value.slice (some ⟨gQ, 0, none⟩) mq cQ).ownBlock) (.slice (some ⟨gQ, 0, none⟩) mq cQ) (qq.set xi.toNat (xg % 4294967296)) from by rw [hw]; exact (Kd.R_putg HQ.out xi (xg % 4294967296)).1); have n3_ := Aside0.mk (show Below w.heap.size w w28 from by rw [hw]; exact below_set HB.out hgQ); clear HL HY HQ HB hqc hqf hw; have HL := n0_; have HY := n1_; have HQ := n2_; have HB := n3_; clear n0_ n1_ n2_ n3_))
              have e1 : xi.toNat = i := by rw [HI.out.1]; rfl
              have e2 : nat_divide.l0 k by_ i (nat_divide.lay lf r_ by_.length i) (qq.set xi.toNat (xg % 4294967296)) = some (lz, qz) := by rw [e1, HXG.out.1]; exact H'.out
              have e3 : i ≤ mq ∧ (nat_divide.lay lf r_ by_.length i).length = LL ∧ (qq.set xi.toNat (xg % 4294967296)).length = mq := ⟨Nat.le_of_lt HI.out.2.1, (nat_divide.lay_length _ _ _ _ (by rw [HLF.out]; exact HI.out.2.2) (by rw [← HPL.out]; exact HRL.out)).trans HLF.out, by rw [List.length_set]; exact HQQ.out⟩
              have E2 := Aside0.mk e2
              have E3 := Aside0.mk e3
              clear e1 e2 e3
              go_roundg i
              case measure => exact Nat.lt_succ_self i
              case rel => exact ⟨_, _, xm, rfl, HXM, E2, E3, HL, HY, HQ, HB⟩
            · rw [if_neg c2] at H
              have c2b0 : decide (cc ≤ 0) = false := decide_eq_false c2
              clear c2
              cases gk with
              | zero => cases H
              | succ g' =>
                have H2 : nat_divide.l1 k by_ part g' = some (dg, rr) := H
                have HA2 := Aside0.mk H2
                clear H H2
                obtain ⟨xg1, hxg1⟩ : ∃ j : Int, j = (g' : Int) := ⟨_, rfl⟩
                have HXG1 := Aside0.mk hxg1
                have hw7 : IntKind.u64.wrap (xg - 1) = xg1 := by have := HXG.out; have := HGB.out; exact nat_divide.wU' (by omega) (by omega) (by omega)
                clear hxg1
                go_wp2_with (first | ((with_reducible refine z10 (f := 73) rfl ?_); refine goesL_ (some 104) rfl rfl Tryz.func73 (by kernel_rfl) rfl #[.int .u64 xg] rfl (by (try simp only [List.map_toArray, List.map_cons, List.map_nil]); first | done | rfl | (simp only [List.length_drop, List.length_take]; rfl) | (simp [Act.eval, IntKind.wrap, IntKind.bits, IntKind.signed]; done) | (simp [Act.eval, IntKind.wrap, IntKind.bits, IntKind.signed]; omega)) ?_; (with_reducible refine (nat_Of.calls k xg o_ _ B1.out).mono ?_); rintro e w21 ⟨vO, rfl, ho0, hb⟩; refine ⟨_, rfl, ?_⟩; have n0_ := Aside0.mk (Kd.R_lower ho0 (z13 (by repeat (first | (with_reducible first | exact HB.out | apply z7 | apply z6 | apply z8) | exact HB.out)))); have n1_ := Aside0.mk (Kd.R_below (by (with_reducible repeat (first | apply Kd.R_alloc | apply Kd.R_drewN | apply Kd.R_drew)); exact HL.out) hb); have n2_ := Aside0.mk (Kd.R_below (by (with_reducible repeat (first | apply Kd.R_alloc | apply Kd.R_drewN | apply Kd.R_drew)); exact HY.out) hb); have n3_ := Aside0.mk (Kd.R_below (by (with_reducible repeat (first | apply Kd.R_alloc | apply Kd.R_drewN | apply Kd.R_drew)); exact HQ.out) hb); have n4_ := Aside0.mk (z14 (by repeat (first | (with_reducible first | exact HB.out | apply z7 | apply z6 | apply z8) | exact HB.out)) hb); clear HL; clear HY; clear HQ; clear HB; have HO := n0_; have HL := n1_; have HY := n2_; have HQ := n3_; have HB := n4_; clear n0_ n1_ n2_ n3_ n4_; clear hb; clear ho0; obtain ⟨AO, cO, eO⟩ := Kd.R_slice HO.out; subst eO) | ((with_reducible refine z10 (f := 90) rfl ?_); refine goesL_ (some 106) rfl rfl Tryz.func90 (by kernel_rfl) rfl #[.slice AO o_.length cO, .slice (some ⟨gB, 0, none⟩) by_.length cB] rfl (by (try simp only [List.map_toArray, List.map_cons, List.map_nil]); first | done | rfl | (simp only [List.length_drop, List.length_take]; rfl) | (simp [Act.eval, IntKind.wrap, IntKind.bits, IntKind.signed]; done) | (simp [Act.eval, IntKind.wrap, IntKind.bits, IntKind.signed]; omega)) ?_; (with_reducible refine (nat_times.calls k _ _ o_ _ _ by_ own_ _ ?side1 ?side2 ?side3 ?side4 B2.out).mono ?_); (case side1 => repeat (first | exact (Kd.R_reads' HO.out).2.2 | (with_reducible refine Kd.C_alloc ?_ _) | (with_reducible refine Kd.C_drewN ?_ _) | (with_reducible refine Kd.C_drew ?_))); (case side2 => exact (Kd.R_reads' HO.out).2.1); (case side3 => repeat (first | exact (Kd.R_reads' HY.out).2.2 | (with_reducible refine Kd.C_alloc ?_ _) | (with_reducible refine Kd.C_drewN ?_ _) | (with_reducible refine Kd.C_drew ?_))); (case side4 => exact (Kd.R_reads' HY.out).2.1); rintro e w22 ⟨vW, rfl, ho0, hb⟩; refine ⟨_, rfl, ?_⟩; have n0_ := Aside0.mk (Kd.R_tight rfl (Kd.R_lower ho0 (z13 (by repeat (first | (with_reducible first | exact HB.out | apply z7 | apply z6 | apply z8) | exact HB.out))))); have n1_ := Aside0.mk (Kd.R_below (by (with_reducible repeat (first | apply Kd.R_alloc | apply Kd.R_drewN | apply Kd.R_drew)); exact HL.out) hb); have n2_ := Aside0.mk (Kd.R_below (by (with_reducible repeat (first | apply Kd.R_alloc | apply Kd.R_drewN | apply Kd.R_drew)); exact HY.out) hb); have n3_ := Aside0.mk (Kd.R_below (by (with_reducible repeat (first | apply Kd.R_alloc | apply Kd.R_drewN | apply Kd.R_drew)); exact HQ.out) hb); have n4_ := Aside0.mk (z14 (by repeat (first | (with_reducible first | exact HB.out | apply z7 | apply z6 | apply z8) | exact HB.out)) hb); clear HL; clear HY; clear HQ; clear HB; have HW := n0_; have HL := n1_; have HY := n2_; have HQ := n3_; have HB := n4_; clear n0_ n1_ n2_ n3_ n4_; clear hb; clear ho0 HO; obtain ⟨AW, cW, eW⟩ := Kd.R_slice HW.out; subst eW) | ((with_reducible refine z10 (f := 66) rfl ?_); refine goesL_ (some 109) rfl rfl Tryz.func66 (by kernel_rfl) rfl #[.slice (some ⟨gL, i, none⟩) part.length (cL - i)] rfl (by (try simp only [List.map_toArray, List.map_cons, List.map_nil]); first | done | rfl | (simp only [List.length_drop, List.length_take]; rfl) | (simp [Act.eval, IntKind.wrap, IntKind.bits, IntKind.signed]; done) | (simp [Act.eval, IntKind.wrap, IntKind.bits, IntKind.signed]; omega)) ?_; (with_reducible refine (slices_Clone_uint32_uint32.calls _ _ part cl_ _ ?side1 ?side2 B3.out).mono ?_); (case side1 => exact nat_divide.part_C (m := by_.length + 1) HL.out HPART.out HI.out.2.2 (nat_divide.lt_of_add HI.out.2.2)); (case side2 => rw [HPL.out]; exact Nat.le_sub_of_add_le (by rw [Nat.add_comm]; exact Nat.le_trans HI.out.2.2 (Kd.R_reads' HL.out).2.1)); rintro e w23 ⟨vC, rfl, ho0, hb⟩; refine ⟨_, rfl, ?_⟩; have HNC := Aside0.mk (show ∀ k_, vC.ownBlock = some k_ → gL ≠ k_ ∧ gB ≠ k_ ∧ gQ ≠ k_ ∧ (Value.slice AW own_.length cW).ownBlock ≠ some k_ from fun k_ h1_ => (fun h2_ => ⟨nat_divide.ne_new HL.out rfl h2_, nat_divide.ne_new HY.out rfl h2_, nat_divide.ne_new HQ.out rfl h2_, fun h3_ => nat_divide.ne_new HW.out h3_ h2_ rfl⟩) (Kd.R_base ho0 k_ h1_)); have n0_ := Aside0.mk (Kd.R_tight rfl (Kd.R_lower ho0 (z13 (by repeat (first | (with_reducible first | exact HB.out | apply z7 | apply z6 | apply z8) | exact HB.out))))); have n1_ := Aside0.mk (Kd.R_below (by (with_reducible repeat (first | apply Kd.R_alloc | apply Kd.R_drewN | apply Kd.R_drew)); exact HL.out) hb); have n2_ := Aside0.mk (Kd.R_below (by (with_reducible repeat (first | apply Kd.R_alloc | apply Kd.R_drewN | apply Kd.R_drew)); exact HY.out) hb); have n3_ := Aside0.mk (Kd.R_below (by (with_reducible repeat (first | apply Kd.R_alloc | apply Kd.R_drewN | apply Kd.R_drew)); exact HQ.out) hb); have n4_ := Aside0.mk (Kd.R_below (by (with_reducible repeat (first | apply Kd.R_alloc | apply Kd.R_drewN | apply Kd.R_drew)); exact HW.out) hb); have n5_ := Aside0.mk (z14 (by repeat (first | (with_reducible first | exact HB.out | apply z7 | apply z6 | apply z8) | exact HB.out)) hb); clear HL; clear HY; clear HQ; clear HW; clear HB; have HCL := n0_; have HL := n1_; have HY := n2_; have HQ := n3_; have HW := n4_; have HB := n5_; clear n0_ n1_ n2_ n3_ n4_ n5_; clear hb; clear ho0) | ((with_reducible refine z10 (f := 98) rfl ?_); refine goesL_ (some 110) rfl rfl Tryz.func98 (by kernel_rfl) rfl #[vC] rfl (by (try simp only [List.map_toArray, List.map_cons, List.map_nil]); first | done | rfl | (simp only [List.length_drop, List.length_take]; rfl) | (simp [Act.eval, IntKind.wrap, IntKind.bits, IntKind.signed]; done) | (simp [Act.eval, IntKind.wrap, IntKind.bits, IntKind.signed]; omega)) ?_; (with_reducible refine (nat_trim.calls k (fun k_ => some k_ = vC.ownBlock) vC cl_ t_ w _ ?side1 ?side2 B4.out).mono ?_); (case side1 => exact (by repeat (first | (with_reducible first | exact HB.out | apply z7 | apply z6 | apply z8) | exact HB.out))); (case side2 => exact HCL.out); rintro e w24 ⟨vT, rfl, ho0, hb, hkp⟩; refine ⟨_, rfl, ?_⟩; have n0_ := Aside0.mk (Kd.R_step HL.out (fun k_ hk_ hlt_ => hkp.2 k_ hlt_ (fun e_ => (HNC.out k_ e_.symm).1 (Option.some.inj hk_).symm))); have n1_ := Aside0.mk (Kd.R_step HY.out (fun k_ hk_ hlt_ => hkp.2 k_ hlt_ (fun e_ => (HNC.out k_ e_.symm).2.1 (Option.some.inj hk_).symm))); have n2_ := Aside0.mk (Kd.R_step HQ.out (fun k_ hk_ hlt_ => hkp.2 k_ hlt_ (fun e_ => (HNC.out k_ e_.symm).2.2.1 (Option.some.inj hk_).symm))); have n3_ := Aside0.mk (Kd.R_step HW.out (fun k_ hk_ hlt_ => hkp.2 k_ hlt_ (fun e_ => (HNC.out k_ e_.symm).2.2.2 hk_.symm))); have n4_ := Aside0.mk ho0; have n5_ := Aside0.mk hb; clear HL HY HQ HW HCL HB HNC ho0 hb hkp; have HL := n0_; have HY := n1_; have HQ := n2_; have HW := n3_; have HT := n4_; have HB := n5_; clear n0_ n1_ n2_ n3_ n4_ n5_; obtain ⟨AT, cT, eT⟩ := Kd.R_slice HT.out; subst eT) | ((with_reducible refine z10 (f := 100) rfl ?_); refine goesL_ (some 111) rfl rfl Tryz.func100 (by kernel_rfl) rfl #[.slice AW own_.length cW, .slice AT t_.length cT] rfl (by (try simp only [List.map_toArray, List.map_cons, List.map_nil]); first | done | rfl | (simp only [List.length_drop, List.length_take]; rfl) | (simp [Act.eval, IntKind.wrap, IntKind.bits, IntKind.signed]; done) | (simp [Act.eval, IntKind.wrap, IntKind.bits, IntKind.signed]; omega)) ?_; (with_reducible refine (nat_compare.calls k _ _ own_ _ _ t_ cc _ ?side1 ?side2 ?side3 ?side4 B5.out).mono ?_); (case side1 => repeat (first | exact (Kd.R_reads' HW.out).2.2 | (with_reducible refine Kd.C_alloc ?_ _) | (with_reducible refine Kd.C_drewN ?_ _) | (with_reducible refine Kd.C_drew ?_))); (case side2 => exact (Kd.R_reads' HW.out).2.1); (case side3 => repeat (first | exact (Kd.R_reads' HT.out).2.2 | (with_reducible refine Kd.C_alloc ?_ _) | (with_reducible refine Kd.C_drewN ?_ _) | (with_reducible refine Kd.C_drew ?_))); (case side4 => exact (Kd.R_reads' HT.out).2.1); rintro e w25 ⟨rfl, hb⟩; refine ⟨_, rfl, ?_⟩; have n0_ := Aside0.mk (Kd.R_below (by (with_reducible repeat (first | apply Kd.R_alloc | apply Kd.R_drewN | apply Kd.R_drew)); exact HL.out) hb); have n1_ := Aside0.mk (Kd.R_below (by (with_reducible repeat (first | apply Kd.R_alloc | apply Kd.R_drewN | apply Kd.R_drew)); exact HY.out) hb); have n2_ := Aside0.mk (Kd.R_below (by (with_reducible repeat (first | apply Kd.R_alloc | apply Kd.R_drewN | apply Kd.R_drew)); exact HQ.out) hb); have n3_ := Aside0.mk (Kd.R_below (by (with_reducible repeat (first | apply Kd.R_alloc | apply Kd.R_drewN | apply Kd.R_drew)); exact HW.out) hb); have n4_ := Aside0.mk (z14 (by repeat (first | (with_reducible first | exact HB.out | apply z7 | apply z6 | apply z8) | exact HB.out)) hb); clear HL; clear HY; clear HQ; clear HW; clear HB; have HL := n0_; have HY := n1_; have HQ := n2_; have HW := n3_; have HB := n4_; clear n0_ n1_ n2_ n3_ n4_; clear hb; clear HT))
                go_roundg g'
                case measure => omega
                case rel => exact ⟨xg1, rfl, ⟨HXG1.out, by have := HXG.out; omega⟩, HA2, HL, HY, HQ, HB⟩
def nat_Gcd.l0 : Nat → List Int → List Int → Option (List Int × Int)
  | 0, _, _ => none
  | k + 1, x7, x8 => if (x8.length : Int) > 0 then ((nat_divide.f k x7 x8).bind fun bt166 => (nat_Gcd.l0 k x8 bt166.2)) else (some (x7, 0))
def nat_Gcd.f (k : Nat) (l0 : List Int) (l1 : List Int) : Option (List Int × Int) := (nat_both.f l0 l1).bind fun t159 => (if t159 = 0 then ((slices_Clone_uint32_uint32.f l0).bind fun t160 => ((slices_Clone_uint32_uint32.f l1).bind fun t163 => (nat_Gcd.l0 k t160 t163))) else (some (([] : List Int), t159)))
set_option maxHeartbeats 8000000 in
set_option maxRecDepth 100000 in
theorem nat_Gcd.calls (k : Nat) (A0 : Option Addr) (c0 : Nat) (l0 : List Int) (A1 : Option Addr) (c1 : Nat) (l1 : List Int) (r1 : List Int) (r2 : Int) (w : World) (hr0 : Kd.C (Kd.int .u32) w A0 l0.length l0) (hc0 : l0.length ≤ c0) (hr1 : Kd.C (Kd.int .u32) w A1 l1.length l1) (hc1 : l1.length ≤ c1) (h : nat_Gcd.f k l0 l1 = some (r1, r2)) :
    Calls Tryz.prog 60 #[.slice A0 l0.length c0, .slice A1 l1.length c1] w fun e w' => ∃ v0_ : Value, e = .returned (.tuple #[v0_, .int .i64 r2]) ∧ Kd.R (Kd.int .u32) 30 w' w.heap.size (fun _ => True) v0_ r1 ∧ Below w.heap.size w w' := by
  have HR0 := Aside0.mk hr0
  have HC0 := Aside0.mk hc0
  clear hr0 hc0
  have HR1 := Aside0.mk hr1
  have HC1 := Aside0.mk hc1
  clear hr1 hc1
  have HB := Aside0.mk (Below.refl w.heap.size w)
  have H : ((nat_both.f l0 l1).bind fun t159 => (if t159 = 0 then ((slices_Clone_uint32_uint32.f l0).bind fun t160 => ((slices_Clone_uint32_uint32.f l1).bind fun t163 => (nat_Gcd.l0 k t160 t163))) else (some (([] : List Int), t159)))) = some (r1, r2) := h
  clear h
  replace H := Option.bind_eq_some_iff.mp H
  obtain ⟨t159, A30, H⟩ := H
  replace H : (if t159 = 0 then ((slices_Clone_uint32_uint32.f l0).bind fun t160 => ((slices_Clone_uint32_uint32.f l1).bind fun t163 => (nat_Gcd.l0 k t160 t163))) else (some (([] : List Int), t159))) = some (r1, r2) := H
  have A3 := Aside0.mk A30
  clear A30
  by_cases c4 : t159 = 0
  · rw [if_pos c4] at H
    have c4b0 : (t159 == 0) = true := beq_iff_eq.mpr c4
    have c4b1 : (t159 != 0) = false := bne_eq_false_iff_eq.mpr c4
    clear c4
    replace H := Option.bind_eq_some_iff.mp H
    obtain ⟨t160, A50, H⟩ := H
    replace H : ((slices_Clone_uint32_uint32.f l1).bind fun t163 => (nat_Gcd.l0 k t160 t163)) = some (r1, r2) := H
    have A5 := Aside0.mk A50
    clear A50
    replace H := Option.bind_eq_some_iff.mp H
    obtain ⟨t163, A60, H⟩ := H
    replace H : (nat_Gcd.l0 k t160 t163) = some (r1, r2) := H
    have A6 := Aside0.mk A60
    clear A60
    have H' := Aside0.mk H
    clear H
    go_enter Tryz.func60, Tryz.ntmps60
    go_wp2_with (first | ((with_reducible refine z10 (f := 91) rfl ?_); refine goesL_ (some 13) rfl rfl Tryz.func91 (by kernel_rfl) rfl #[.slice A0 l0.length c0, .slice A1 l1.length c1] rfl (by (try simp only [List.map_toArray, List.map_cons, List.map_nil]); first | done | rfl | (simp only [List.length_drop, List.length_take]; rfl) | (simp [Act.eval, IntKind.wrap, IntKind.bits, IntKind.signed]; done) | (simp [Act.eval, IntKind.wrap, IntKind.bits, IntKind.signed]; omega)) ?_; (with_reducible refine (nat_both.calls _ _ l0 _ _ l1 t159 _ ?side1 ?side2 ?side3 ?side4 A3.out).mono ?_); (case side1 => repeat (first | exact HR0.out | (with_reducible refine Kd.C_alloc ?_ _) | (with_reducible refine Kd.C_drewN ?_ _) | (with_reducible refine Kd.C_drew ?_))); (case side2 => exact HC0.out); (case side3 => repeat (first | exact HR1.out | (with_reducible refine Kd.C_alloc ?_ _) | (with_reducible refine Kd.C_drewN ?_ _) | (with_reducible refine Kd.C_drew ?_))); (case side4 => exact HC1.out); rintro e w' ⟨rfl, ⟨nd, rfl⟩⟩; refine ⟨_, rfl, ?_⟩) | ((with_reducible refine z10 (f := 66) rfl ?_); refine goesL_ (some 18) rfl rfl Tryz.func66 (by kernel_rfl) rfl #[.slice A0 l0.length c0] rfl (by (try simp only [List.map_toArray, List.map_cons, List.map_nil]); first | done | rfl | (simp only [List.length_drop, List.length_take]; rfl) | (simp [Act.eval, IntKind.wrap, IntKind.bits, IntKind.signed]; done) | (simp [Act.eval, IntKind.wrap, IntKind.bits, IntKind.signed]; omega)) ?_; (with_reducible refine (slices_Clone_uint32_uint32.calls _ _ l0 t160 _ ?side1 ?side2 A5.out).mono ?_); (case side1 => repeat (first | exact HR0.out | (with_reducible refine Kd.C_alloc ?_ _) | (with_reducible refine Kd.C_drewN ?_ _) | (with_reducible refine Kd.C_drew ?_))); (case side2 => exact HC0.out); rintro e w7 ⟨v161, rfl, ho0, hb⟩; refine ⟨_, rfl, ?_⟩; have n0_ := Aside0.mk (Kd.R_lower ho0 (z13 (by repeat (first | (with_reducible first | exact HB.out | apply z7 | apply z6 | apply z8) | exact HB.out)))); have n1_ := Aside0.mk (z14 (by repeat (first | (with_reducible first | exact HB.out | apply z7 | apply z6 | apply z8) | exact HB.out)) hb); clear HB; have HO162 := n0_; have HB := n1_; clear n0_ n1_; (try clear hb); (try clear hb2); (try clear hk); (try clear hi); (try clear ho0)) | ((with_reducible refine z10 (f := 66) rfl ?_); refine goesL_ (some 20) rfl rfl Tryz.func66 (by kernel_rfl) rfl #[.slice A1 l1.length c1] rfl (by (try simp only [List.map_toArray, List.map_cons, List.map_nil]); first | done | rfl | (simp only [List.length_drop, List.length_take]; rfl) | (simp [Act.eval, IntKind.wrap, IntKind.bits, IntKind.signed]; done) | (simp [Act.eval, IntKind.wrap, IntKind.bits, IntKind.signed]; omega)) ?_; (with_reducible refine (slices_Clone_uint32_uint32.calls _ _ l1 t163 _ ?side1 ?side2 A6.out).mono ?_); (case side1 => repeat (first | exact (Kd.C_below HR1.out HB.out) | (with_reducible refine Kd.C_alloc ?_ _) | (with_reducible refine Kd.C_drewN ?_ _) | (with_reducible refine Kd.C_drew ?_))); (case side2 => exact HC1.out); rintro e w8 ⟨v164, rfl, ho0, hb⟩; refine ⟨_, rfl, ?_⟩; have n0_ := Aside0.mk (Kd.R_elder' (by (with_reducible repeat (first | apply Kd.R_alloc | apply Kd.R_drewN | apply Kd.R_drew)); exact HO162.out) (Kd.R_base ho0) hb); have n1_ := Aside0.mk (Kd.R_lower (Kd.R_new' ho0 (Kd.R_lt (by (with_reducible repeat (first | apply Kd.R_alloc | apply Kd.R_drewN | apply Kd.R_drew)); exact HO162.out))) (z13 (by repeat (first | (with_reducible first | exact HB.out | apply z7 | apply z6 | apply z8) | exact HB.out)))); have n2_ := Aside0.mk (z14 (by repeat (first | (with_reducible first | exact HB.out | apply z7 | apply z6 | apply z8) | exact HB.out)) hb); clear HO162; clear HB; have HO162 := n0_; have HO165 := n1_; have HB := n2_; clear n0_ n1_ n2_; (try clear hb); (try clear hb2); (try clear hk); (try clear hi); (try clear ho0)))
    go_loopg [7, 8] k (fun kq v7 v8 w' => ∃ (x7_1 : List Int) (x8_1 : List Int), Aside0 (nat_Gcd.l0 kq x7_1 x8_1 = some (r1, r2)) ∧ Aside0 (kq ≤ k) ∧ Aside0 (Kd.R (Kd.int .u32) 30 w' w.heap.size (fun k_ => some k_ ≠ (v8 : Value).ownBlock) v7 x7_1) ∧ Aside0 (Kd.R (Kd.int .u32) 30 w' w.heap.size (fun k_ => some k_ ≠ (v7 : Value).ownBlock) v8 x8_1) ∧ Aside0 (Below w.heap.size w w'))
    case atStart => exact ⟨(t160), (t163), H', ⟨Nat.le_refl _⟩, ⟨by (with_reducible repeat (first | apply Kd.R_alloc | apply Kd.R_drewN | apply Kd.R_drew)); exact Kd.R_mono HO162.out (fun _ hk => hk.2)⟩, ⟨by (with_reducible repeat (first | apply Kd.R_alloc | apply Kd.R_drewN | apply Kd.R_drew)); exact Kd.R_mono HO165.out (fun _ hk => hk.2)⟩, ⟨by repeat (first | (with_reducible first | exact HB.out | apply z7 | apply z6 | apply z8) | exact HB.out)⟩⟩
    case round =>
      clear H'
      try clear c1
      try clear p2
      try clear c4
      try clear c4b0
      try clear c4b1
      try clear c6
      obtain ⟨x7_1, x8_1, HA, HK1, HO_7, HO_8, HB⟩ := hrel
      cases gk with
      | zero => exact absurd HA.out (by simp [nat_Gcd.l0])
      | succ k1 =>
        have H := HA.out
        clear HA
        simp only [nat_Gcd.l0] at H
        by_cases c9 : (x8_1.length : Int) > 0
        · rw [if_pos c9] at H
          have c9b0 : decide (0 < (x8_1.length : Int)) = true := decide_eq_true c9
          have c9b1 : decide (0 < x8_1.length) = true := decide_eq_true (by omega)
          clear c9
          replace H := Option.bind_eq_some_iff.mp H
          obtain ⟨⟨t166, t167⟩, A100, H⟩ := H
          replace H : (nat_Gcd.l0 k1 x8_1 t167) = some (r1, r2) := H
          have A10 := Aside0.mk A100
          clear A100
          have H' := Aside0.mk H
          clear H
          obtain ⟨Ao11, co11, eo11⟩ := Kd.R_slice HO_8.out
          subst eo11
          obtain ⟨Ao12, co12, eo12⟩ := Kd.R_slice HO_7.out
          subst eo12
          go_wp2_with (first | ((with_reducible refine z10 (f := 92) rfl ?_); refine goesL_ (some 27) rfl rfl Tryz.func92 (by kernel_rfl) rfl #[.slice Ao12 x7_1.length co12, .slice Ao11 x8_1.length co11] rfl (by (try simp only [List.map_toArray, List.map_cons, List.map_nil]); first | done | rfl | (simp only [List.length_drop, List.length_take]; rfl) | (simp [Act.eval, IntKind.wrap, IntKind.bits, IntKind.signed]; done) | (simp [Act.eval, IntKind.wrap, IntKind.bits, IntKind.signed]; omega)) ?_; (with_reducible refine (nat_divide.calls k1 _ _ x7_1 _ _ x8_1 t166 t167 _ ?side1 ?side2 ?side3 ?side4 A10.out).mono ?_); (case side1 => repeat (first | exact (Kd.R_reads' HO_7.out).2.2 | (with_reducible refine Kd.C_alloc ?_ _) | (with_reducible refine Kd.C_drewN ?_ _) | (with_reducible refine Kd.C_drew ?_))); (case side2 => exact (Kd.R_reads' HO_7.out).2.1); (case side3 => repeat (first | exact (Kd.R_reads' HO_8.out).2.2 | (with_reducible refine Kd.C_alloc ?_ _) | (with_reducible refine Kd.C_drewN ?_ _) | (with_reducible refine Kd.C_drew ?_))); (case side4 => exact (Kd.R_reads' HO_8.out).2.1); rintro e w13 ⟨v168, v170, rfl, ho0, ho1, hb⟩; refine ⟨_, rfl, ?_⟩; have n0_ := Aside0.mk (Kd.R_mono (Kd.R_told (Kd.R_told (Kd.R_old (by (with_reducible repeat (first | apply Kd.R_alloc | apply Kd.R_drewN | apply Kd.R_drew)); exact HO_7.out) hb) (Kd.R_base ho0)) (Kd.R_base ho1)) (fun _ h_ => h_.1)); have n1_ := Aside0.mk (Kd.R_mono (Kd.R_told (Kd.R_told (Kd.R_old (by (with_reducible repeat (first | apply Kd.R_alloc | apply Kd.R_drewN | apply Kd.R_drew)); exact HO_8.out) hb) (Kd.R_base ho0)) (Kd.R_base ho1)) (fun _ h_ => h_.1)); have n2_ := Aside0.mk (Kd.R_lower (Kd.R_new' (Kd.R_new' ho0 (Kd.R_lt (by (with_reducible repeat (first | apply Kd.R_alloc | apply Kd.R_drewN | apply Kd.R_drew)); exact HO_7.out))) (Kd.R_lt (by (with_reducible repeat (first | apply Kd.R_alloc | apply Kd.R_drewN | apply Kd.R_drew)); exact HO_8.out))) (z13 (by repeat (first | (with_reducible first | exact HB.out | apply z7 | apply z6 | apply z8) | exact HB.out)))); have n3_ := Aside0.mk (Kd.R_lower (Kd.R_new' (Kd.R_new' ho1 (Kd.R_lt (by (with_reducible repeat (first | apply Kd.R_alloc | apply Kd.R_drewN | apply Kd.R_drew)); exact HO_7.out))) (Kd.R_lt (by (with_reducible repeat (first | apply Kd.R_alloc | apply Kd.R_drewN | apply Kd.R_drew)); exact HO_8.out))) (z13 (by repeat (first | (with_reducible first | exact HB.out | apply z7 | apply z6 | apply z8) | exact HB.out)))); have n4_ := Aside0.mk (z14 (by repeat (first | (with_reducible first | exact HB.out | apply z7 | apply z6 | apply z8) | exact HB.out)) hb); clear HO_7; clear HO_8; clear HB; have HO_7 := n0_; have HO_8 := n1_; have HO169 := n2_; have HO171 := n3_; have HB := n4_; clear n0_ n1_ n2_ n3_ n4_; (try clear hb); (try clear hb2); (try clear hk); (try clear hi); (try clear ho0); (try clear ho1)))
          go_roundg k1
          case measure => have := HK1.out; omega
          case rel => exact ⟨(x8_1), (t167), H', ⟨by have := HK1.out; omega⟩, ⟨by (with_reducible repeat (first | apply Kd.R_alloc | apply Kd.R_drewN | apply Kd.R_drew)); exact Kd.R_mono HO_8.out (fun _ hk => hk.2)⟩, ⟨by (with_reducible repeat (first | apply Kd.R_alloc | apply Kd.R_drewN | apply Kd.R_drew)); exact Kd.R_mono HO171.out (fun _ hk => hk.2)⟩, ⟨by repeat (first | (with_reducible first | exact HB.out | apply z7 | apply z6 | apply z8) | exact HB.out)⟩⟩
        · rw [if_neg c9] at H
          have c9b0 : decide (0 < (x8_1.length : Int)) = false := decide_eq_false c9
          have c9b1 : decide (0 < x8_1.length) = false := decide_eq_false (by omega)
          clear c9
          simp only [Option.some.injEq, Prod.mk.injEq] at H
          obtain ⟨rfl, rfl⟩ := H
          obtain ⟨Ao14, co14, eo14⟩ := Kd.R_slice HO_8.out
          subst eo14
          go_wp2
          go_ret2
          exact ⟨_, by first | rfl | (simp [z11, z12] <;> rfl) | (simp [*, z11, z12] <;> rfl), by (with_reducible repeat (first | apply Kd.R_alloc | apply Kd.R_drewN | apply Kd.R_drew)); exact Kd.R_mono HO_7.out (fun _ hk => trivial), by repeat (first | (with_reducible first | exact HB.out | apply z7 | apply z6 | apply z8) | exact HB.out)⟩
  · rw [if_neg c4] at H
    have c4b0 : (t159 == 0) = false := beq_eq_false_iff_ne.mpr c4
    have c4b1 : (t159 != 0) = true := bne_iff_ne.mpr c4
    simp only [Option.some.injEq, Prod.mk.injEq] at H
    obtain ⟨rfl, rfl⟩ := H
    go_enter Tryz.func60, Tryz.ntmps60
    go_wp2_with (first | ((with_reducible refine z10 (f := 91) rfl ?_); refine goesL_ (some 13) rfl rfl Tryz.func91 (by kernel_rfl) rfl #[.slice A0 l0.length c0, .slice A1 l1.length c1] rfl (by (try simp only [List.map_toArray, List.map_cons, List.map_nil]); first | done | rfl | (simp only [List.length_drop, List.length_take]; rfl) | (simp [Act.eval, IntKind.wrap, IntKind.bits, IntKind.signed]; done) | (simp [Act.eval, IntKind.wrap, IntKind.bits, IntKind.signed]; omega)) ?_; (with_reducible refine (nat_both.calls _ _ l0 _ _ l1 t159 _ ?side1 ?side2 ?side3 ?side4 A3.out).mono ?_); (case side1 => repeat (first | exact HR0.out | (with_reducible refine Kd.C_alloc ?_ _) | (with_reducible refine Kd.C_drewN ?_ _) | (with_reducible refine Kd.C_drew ?_))); (case side2 => exact HC0.out); (case side3 => repeat (first | exact HR1.out | (with_reducible refine Kd.C_alloc ?_ _) | (with_reducible refine Kd.C_drewN ?_ _) | (with_reducible refine Kd.C_drew ?_))); (case side4 => exact HC1.out); rintro e w' ⟨rfl, ⟨nd, rfl⟩⟩; refine ⟨_, rfl, ?_⟩))
    go_ret2
    exact ⟨_, by first | rfl | (simp [z11, z12] <;> rfl) | (simp [*, z11, z12] <;> rfl), by first | exact Kd.R_nil _ _ _ _ _ | exact Kd.N_nil _ _ _ _ _ | exact Kd.V_nil _ _ _ _ _ | exact Kd.Q_nil _ _ _ _ _ | exact Kd.S_nil _ _ _ _ _, by repeat (first | (with_reducible first | exact HB.out | apply z7 | apply z6 | apply z8) | exact HB.out)⟩
def nat_Div.f (k : Nat) (l0 : List Int) (l1 : List Int) : Option (List Int × List Int × Int) := (nat_both.f l0 l1).bind fun t172 => (if t172 = 0 then (if (l1.length : Int) = 0 then (some (([] : List Int), ([] : List Int), 21)) else ((nat_divide.f k l0 l1).bind fun bt173 => (some (bt173.1, bt173.2, 0)))) else (some (([] : List Int), ([] : List Int), t172)))
set_option maxHeartbeats 8000000 in
set_option maxRecDepth 100000 in
theorem nat_Div.calls (k : Nat) (A0 : Option Addr) (c0 : Nat) (l0 : List Int) (A1 : Option Addr) (c1 : Nat) (l1 : List Int) (r1 : List Int) (r2 : List Int) (r3 : Int) (w : World) (hr0 : Kd.C (Kd.int .u32) w A0 l0.length l0) (hc0 : l0.length ≤ c0) (hr1 : Kd.C (Kd.int .u32) w A1 l1.length l1) (hc1 : l1.length ≤ c1) (h : nat_Div.f k l0 l1 = some (r1, r2, r3)) :
    Calls Tryz.prog 67 #[.slice A0 l0.length c0, .slice A1 l1.length c1] w fun e w' => ∃ v0_ v1_ : Value, e = .returned (.tuple #[v0_, v1_, .int .i64 r3]) ∧ Kd.R (Kd.int .u32) 30 w' w.heap.size (fun k_ => some k_ ≠ (v1_ : Value).ownBlock) v0_ r1 ∧ Kd.R (Kd.int .u32) 30 w' w.heap.size (fun k_ => some k_ ≠ (v0_ : Value).ownBlock) v1_ r2 ∧ Below w.heap.size w w' := by
  have HR0 := Aside0.mk hr0
  have HC0 := Aside0.mk hc0
  clear hr0 hc0
  have HR1 := Aside0.mk hr1
  have HC1 := Aside0.mk hc1
  clear hr1 hc1
  have HB := Aside0.mk (Below.refl w.heap.size w)
  have H : ((nat_both.f l0 l1).bind fun t172 => (if t172 = 0 then (if (l1.length : Int) = 0 then (some (([] : List Int), ([] : List Int), 21)) else ((nat_divide.f k l0 l1).bind fun bt173 => (some (bt173.1, bt173.2, 0)))) else (some (([] : List Int), ([] : List Int), t172)))) = some (r1, r2, r3) := h
  clear h
  replace H := Option.bind_eq_some_iff.mp H
  obtain ⟨t172, A30, H⟩ := H
  replace H : (if t172 = 0 then (if (l1.length : Int) = 0 then (some (([] : List Int), ([] : List Int), 21)) else ((nat_divide.f k l0 l1).bind fun bt173 => (some (bt173.1, bt173.2, 0)))) else (some (([] : List Int), ([] : List Int), t172))) = some (r1, r2, r3) := H
  have A3 := Aside0.mk A30
  clear A30
  by_cases c4 : t172 = 0
  · rw [if_pos c4] at H
    have c4b0 : (t172 == 0) = true := beq_iff_eq.mpr c4
    have c4b1 : (t172 != 0) = false := bne_eq_false_iff_eq.mpr c4
    clear c4
    by_cases c5 : (l1.length : Int) = 0
    · rw [if_pos c5] at H
      have c5b0 : ((l1.length : Int) == 0) = true := beq_iff_eq.mpr c5
      have c5b1 : ((l1.length : Int) != 0) = false := bne_eq_false_iff_eq.mpr c5
      clear c5
      simp only [Option.some.injEq, Prod.mk.injEq] at H
      obtain ⟨rfl, rfl, rfl⟩ := H
      go_enter Tryz.func67, Tryz.ntmps67
      go_wp2_with (first | ((with_reducible refine z10 (f := 91) rfl ?_); refine goesL_ (some 12) rfl rfl Tryz.func91 (by kernel_rfl) rfl #[.slice A0 l0.length c0, .slice A1 l1.length c1] rfl (by (try simp only [List.map_toArray, List.map_cons, List.map_nil]); first | done | rfl | (simp only [List.length_drop, List.length_take]; rfl) | (simp [Act.eval, IntKind.wrap, IntKind.bits, IntKind.signed]; done) | (simp [Act.eval, IntKind.wrap, IntKind.bits, IntKind.signed]; omega)) ?_; (with_reducible refine (nat_both.calls _ _ l0 _ _ l1 t172 _ ?side1 ?side2 ?side3 ?side4 A3.out).mono ?_); (case side1 => repeat (first | exact HR0.out | (with_reducible refine Kd.C_alloc ?_ _) | (with_reducible refine Kd.C_drewN ?_ _) | (with_reducible refine Kd.C_drew ?_))); (case side2 => exact HC0.out); (case side3 => repeat (first | exact HR1.out | (with_reducible refine Kd.C_alloc ?_ _) | (with_reducible refine Kd.C_drewN ?_ _) | (with_reducible refine Kd.C_drew ?_))); (case side4 => exact HC1.out); rintro e w' ⟨rfl, ⟨nd, rfl⟩⟩; refine ⟨_, rfl, ?_⟩))
      go_ret3
      exact ⟨_, _, by first | rfl | (simp [z11, z12] <;> rfl) | (simp [*, z11, z12] <;> rfl), by first | exact Kd.R_nil _ _ _ _ _ | exact Kd.N_nil _ _ _ _ _ | exact Kd.V_nil _ _ _ _ _ | exact Kd.Q_nil _ _ _ _ _ | exact Kd.S_nil _ _ _ _ _, by first | exact Kd.R_nil _ _ _ _ _ | exact Kd.N_nil _ _ _ _ _ | exact Kd.V_nil _ _ _ _ _ | exact Kd.Q_nil _ _ _ _ _ | exact Kd.S_nil _ _ _ _ _, by repeat (first | (with_reducible first | exact HB.out | apply z7 | apply z6 | apply z8) | exact HB.out)⟩
    · rw [if_neg c5] at H
      have c5b0 : ((l1.length : Int) == 0) = false := beq_eq_false_iff_ne.mpr c5
      have c5b1 : ((l1.length : Int) != 0) = true := bne_iff_ne.mpr c5
      have c5b2 : ¬ (l1 = []) := fun h_ => c5 (by rw [h_]; rfl)
      replace H := Option.bind_eq_some_iff.mp H
      obtain ⟨⟨t173, t174⟩, A60, H⟩ := H
      replace H : (some (t173, t174, 0)) = some (r1, r2, r3) := H
      have A6 := Aside0.mk A60
      clear A60
      simp only [Option.some.injEq, Prod.mk.injEq] at H
      obtain ⟨rfl, rfl, rfl⟩ := H
      go_enter Tryz.func67, Tryz.ntmps67
      go_wp2_with (first | ((with_reducible refine z10 (f := 91) rfl ?_); refine goesL_ (some 12) rfl rfl Tryz.func91 (by kernel_rfl) rfl #[.slice A0 l0.length c0, .slice A1 l1.length c1] rfl (by (try simp only [List.map_toArray, List.map_cons, List.map_nil]); first | done | rfl | (simp only [List.length_drop, List.length_take]; rfl) | (simp [Act.eval, IntKind.wrap, IntKind.bits, IntKind.signed]; done) | (simp [Act.eval, IntKind.wrap, IntKind.bits, IntKind.signed]; omega)) ?_; (with_reducible refine (nat_both.calls _ _ l0 _ _ l1 t172 _ ?side1 ?side2 ?side3 ?side4 A3.out).mono ?_); (case side1 => repeat (first | exact HR0.out | (with_reducible refine Kd.C_alloc ?_ _) | (with_reducible refine Kd.C_drewN ?_ _) | (with_reducible refine Kd.C_drew ?_))); (case side2 => exact HC0.out); (case side3 => repeat (first | exact HR1.out | (with_reducible refine Kd.C_alloc ?_ _) | (with_reducible refine Kd.C_drewN ?_ _) | (with_reducible refine Kd.C_drew ?_))); (case side4 => exact HC1.out); rintro e w' ⟨rfl, ⟨nd, rfl⟩⟩; refine ⟨_, rfl, ?_⟩) | ((with_reducible refine z10 (f := 92) rfl ?_); refine goesL_ (some 24) rfl rfl Tryz.func92 (by kernel_rfl) rfl #[.slice A0 l0.length c0, .slice A1 l1.length c1] rfl (by (try simp only [List.map_toArray, List.map_cons, List.map_nil]); first | done | rfl | (simp only [List.length_drop, List.length_take]; rfl) | (simp [Act.eval, IntKind.wrap, IntKind.bits, IntKind.signed]; done) | (simp [Act.eval, IntKind.wrap, IntKind.bits, IntKind.signed]; omega)) ?_; (with_reducible refine (nat_divide.calls k _ _ l0 _ _ l1 t173 t174 _ ?side1 ?side2 ?side3 ?side4 A6.out).mono ?_); (case side1 => repeat (first | exact HR0.out | (with_reducible refine Kd.C_alloc ?_ _) | (with_reducible refine Kd.C_drewN ?_ _) | (with_reducible refine Kd.C_drew ?_))); (case side2 => exact HC0.out); (case side3 => repeat (first | exact HR1.out | (with_reducible refine Kd.C_alloc ?_ _) | (with_reducible refine Kd.C_drewN ?_ _) | (with_reducible refine Kd.C_drew ?_))); (case side4 => exact HC1.out); rintro e w7 ⟨v175, v177, rfl, ho0, ho1, hb⟩; refine ⟨_, rfl, ?_⟩; have n0_ := Aside0.mk (Kd.R_lower ho0 (z13 (by repeat (first | (with_reducible first | exact HB.out | apply z7 | apply z6 | apply z8) | exact HB.out)))); have n1_ := Aside0.mk (Kd.R_lower ho1 (z13 (by repeat (first | (with_reducible first | exact HB.out | apply z7 | apply z6 | apply z8) | exact HB.out)))); have n2_ := Aside0.mk (z14 (by repeat (first | (with_reducible first | exact HB.out | apply z7 | apply z6 | apply z8) | exact HB.out)) hb); clear HB; have HO176 := n0_; have HO178 := n1_; have HB := n2_; clear n0_ n1_ n2_; (try clear hb); (try clear hb2); (try clear hk); (try clear hi); (try clear ho0); (try clear ho1)))
      go_ret3
      exact ⟨_, _, by first | rfl | (simp [z11, z12] <;> rfl) | (simp [*, z11, z12] <;> rfl), by (with_reducible repeat (first | apply Kd.R_alloc | apply Kd.R_drewN | apply Kd.R_drew)); exact HO176.out, by (with_reducible repeat (first | apply Kd.R_alloc | apply Kd.R_drewN | apply Kd.R_drew)); exact HO178.out, by repeat (first | (with_reducible first | exact HB.out | apply z7 | apply z6 | apply z8) | exact HB.out)⟩
  · rw [if_neg c4] at H
    have c4b0 : (t172 == 0) = false := beq_eq_false_iff_ne.mpr c4
    have c4b1 : (t172 != 0) = true := bne_iff_ne.mpr c4
    simp only [Option.some.injEq, Prod.mk.injEq] at H
    obtain ⟨rfl, rfl, rfl⟩ := H
    go_enter Tryz.func67, Tryz.ntmps67
    go_wp2_with (first | ((with_reducible refine z10 (f := 91) rfl ?_); refine goesL_ (some 12) rfl rfl Tryz.func91 (by kernel_rfl) rfl #[.slice A0 l0.length c0, .slice A1 l1.length c1] rfl (by (try simp only [List.map_toArray, List.map_cons, List.map_nil]); first | done | rfl | (simp only [List.length_drop, List.length_take]; rfl) | (simp [Act.eval, IntKind.wrap, IntKind.bits, IntKind.signed]; done) | (simp [Act.eval, IntKind.wrap, IntKind.bits, IntKind.signed]; omega)) ?_; (with_reducible refine (nat_both.calls _ _ l0 _ _ l1 t172 _ ?side1 ?side2 ?side3 ?side4 A3.out).mono ?_); (case side1 => repeat (first | exact HR0.out | (with_reducible refine Kd.C_alloc ?_ _) | (with_reducible refine Kd.C_drewN ?_ _) | (with_reducible refine Kd.C_drew ?_))); (case side2 => exact HC0.out); (case side3 => repeat (first | exact HR1.out | (with_reducible refine Kd.C_alloc ?_ _) | (with_reducible refine Kd.C_drewN ?_ _) | (with_reducible refine Kd.C_drew ?_))); (case side4 => exact HC1.out); rintro e w' ⟨rfl, ⟨nd, rfl⟩⟩; refine ⟨_, rfl, ?_⟩))
    go_ret3
    exact ⟨_, _, by first | rfl | (simp [z11, z12] <;> rfl) | (simp [*, z11, z12] <;> rfl), by first | exact Kd.R_nil _ _ _ _ _ | exact Kd.N_nil _ _ _ _ _ | exact Kd.V_nil _ _ _ _ _ | exact Kd.Q_nil _ _ _ _ _ | exact Kd.S_nil _ _ _ _ _, by first | exact Kd.R_nil _ _ _ _ _ | exact Kd.N_nil _ _ _ _ _ | exact Kd.V_nil _ _ _ _ _ | exact Kd.Q_nil _ _ _ _ _ | exact Kd.S_nil _ _ _ _ _, by repeat (first | (with_reducible first | exact HB.out | apply z7 | apply z6 | apply z8) | exact HB.out)⟩
def bits_Add32.f (a0 : Int) (a1 : Int) (a2 : Int) : Option (Int × Int) := some ((IntKind.u64.wrap ((IntKind.u64.wrap ((IntKind.u64.wrap (a0)) + (IntKind.u64.wrap (a1)))) + (IntKind.u64.wrap (a2)))) % 4294967296, ((IntKind.u64.wrap ((IntKind.u64.wrap ((IntKind.u64.wrap (a0)) + (IntKind.u64.wrap (a1)))) + (IntKind.u64.wrap (a2)))) / 4294967296) % 4294967296)
set_option maxHeartbeats 8000000 in
set_option maxRecDepth 100000 in
theorem bits_Add32.calls (a0 : Int) (a1 : Int) (a2 : Int) (r1 : Int) (r2 : Int) (w : World) (h : bits_Add32.f a0 a1 a2 = some (r1, r2)) :
    Calls Tryz.prog 115 #[.int .u32 a0, .int .u32 a1, .int .u32 a2] w fun e w' => e = .returned (.tuple #[.int .u32 r1, .int .u32 r2]) ∧ Drawn0 w w' := by
  have H : (some ((IntKind.u64.wrap ((IntKind.u64.wrap ((IntKind.u64.wrap (a0)) + (IntKind.u64.wrap (a1)))) + (IntKind.u64.wrap (a2)))) % 4294967296, ((IntKind.u64.wrap ((IntKind.u64.wrap ((IntKind.u64.wrap (a0)) + (IntKind.u64.wrap (a1)))) + (IntKind.u64.wrap (a2)))) / 4294967296) % 4294967296)) = some (r1, r2) := h
  clear h
  simp only [Option.some.injEq, Prod.mk.injEq] at H
  obtain ⟨rfl, rfl⟩ := H
  go_enter Tryz.func115, Tryz.ntmps115
  go_wp2
  go_ret2
  exact ⟨by first | rfl | (simp; done) | (simp [*]; done), by repeat (first | exact Drawn0.refl _ | apply Drawn0.step)⟩
end Go.Proofs.YtkjdpojbmkpkgaaGreatDoor.P
