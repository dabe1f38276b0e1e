/- The library's contracts that the laws need: strings.Trim, TrimLeft, Contains, Repeat and bits.LeadingZeros32, laid at this program (the layings: written by the kit's lay-shelf and lay-plain). -/
import Derived.Shelf.Strings.SlTrimAscii
import Derived.Shelf.Strings.Search3
import Derived.Shelf.Small.Bits
import Derived.Test.YtkjdpojbmkpkgaaGreatDoorProg
namespace Go.Proofs
open Go.Shelf
def Tryz.lays160_ren : Go.Shelf.Ren := ⟨fun | 160 => 87 | 232 => 108 | 231 => 107 | 227 => 109 | 234 => 111 | 233 => 110 | 236 => 113 | 235 => 112 | 228 => 124 | 271 => 127 | 151 => 126 | 197 => 125 | 120 => 135 | 152 => 134 | 260 => 133 | 137 => 136 | 119 => 137 | 224 => 122 | 225 => 121 | 217 => 120 | 266 => 131 | n => n, fun | 9 => 9 | 4 => 4 | 3 => 3 | 5 => 5 | 117 => 95 | 116 => 94 | 0 => 0 | 124 => 98 | 21 => 21 | 105 => 106 | 46 => 88 | 119 => 112 | 139 => 115 | 138 => 114 | n => n, fun | 3 => 2 | 4 => 3 | n => n⟩
theorem Tryz.lays160 : Go.Proofs.Lays.n160 Tryz.prog Tryz.lays160_ren := {
 mixed := by kernel_rfl
 f119 := Tryz.func137.trans (congrArg some (by kernel_rfl))
 f120 := Tryz.func135.trans (congrArg some (by kernel_rfl))
 f137 := Tryz.func136.trans (congrArg some (by kernel_rfl))
 f151 := Tryz.func126.trans (congrArg some (by kernel_rfl))
 f152 := Tryz.func134.trans (congrArg some (by kernel_rfl))
 f160 := Tryz.func87.trans (congrArg some (by kernel_rfl))
 f197 := Tryz.func125.trans (congrArg some (by kernel_rfl))
 f217 := Tryz.func120.trans (congrArg some (by kernel_rfl))
 f224 := Tryz.func122.trans (congrArg some (by kernel_rfl))
 f225 := Tryz.func121.trans (congrArg some (by kernel_rfl))
 f227 := Tryz.func109.trans (congrArg some (by kernel_rfl))
 f228 := Tryz.func124.trans (congrArg some (by kernel_rfl))
 f231 := Tryz.func107.trans (congrArg some (by kernel_rfl))
 f232 := Tryz.func108.trans (congrArg some (by kernel_rfl))
 f233 := Tryz.func110.trans (congrArg some (by kernel_rfl))
 f234 := Tryz.func111.trans (congrArg some (by kernel_rfl))
 f235 := Tryz.func112.trans (congrArg some (by kernel_rfl))
 f236 := Tryz.func113.trans (congrArg some (by kernel_rfl))
 f260 := Tryz.func133.trans (congrArg some (by kernel_rfl))
 f266 := Tryz.func131.trans (congrArg some (by kernel_rfl))
 f271 := Tryz.func127.trans (congrArg some (by kernel_rfl))
 t0 := Tryz.underlying0
 a0 := Tryz.isAgg0
 z0 := Tryz.sizeOf0
 v0 := Tryz.zeroValue0
 t3 := Tryz.underlying3
 a3 := Tryz.isAgg3
 z3 := Tryz.sizeOf3
 v3 := Tryz.zeroValue3
 t4 := Tryz.underlying4
 a4 := Tryz.isAgg4
 z4 := Tryz.sizeOf4
 v4 := Tryz.zeroValue4
 t5 := Tryz.underlying5
 a5 := Tryz.isAgg5
 z5 := Tryz.sizeOf5
 v5 := Tryz.zeroValue5
 t9 := Tryz.underlying9
 a9 := Tryz.isAgg9
 z9 := Tryz.sizeOf9
 v9 := Tryz.zeroValue9
 t21 := Tryz.underlying21
 a21 := Tryz.isAgg21
 z21 := Tryz.sizeOf21
 v21 := Tryz.zeroValue21
 t46 := Tryz.underlying88
 a46 := Tryz.isAgg88
 z46 := Tryz.sizeOf88
 v46 := Tryz.zeroValue88
 t105 := Tryz.underlying106
 a105 := Tryz.isAgg106
 z105 := Tryz.sizeOf106
 v105 := Tryz.zeroValue106
 t116 := Tryz.underlying94
 a116 := Tryz.isAgg94
 z116 := Tryz.sizeOf94
 t117 := Tryz.underlying95
 a117 := Tryz.isAgg95
 z117 := Tryz.sizeOf95
 v117 := Tryz.zeroValue95
 t119 := Tryz.underlying112
 a119 := Tryz.isAgg112
 z119 := Tryz.sizeOf112
 t124 := Tryz.underlying98
 a124 := Tryz.isAgg98
 z124 := Tryz.sizeOf98
 v124 := Tryz.zeroValue98
 t138 := Tryz.underlying114
 a138 := Tryz.isAgg114
 z138 := Tryz.sizeOf114
 v138 := Tryz.zeroValue114
 t139 := Tryz.underlying115
 a139 := Tryz.isAgg115
 z139 := Tryz.sizeOf115
 v139 := Tryz.zeroValue115
 g3 := by kernel_rfl
 g4 := by kernel_rfl }
def Tryz.lays133_ren : Go.Shelf.Ren := ⟨fun | 133 => 116 | 128 => 128 | n => n, fun | 51 => 30 | 3 => 3 | 4 => 4 | 46 => 88 | 5 => 5 | 9 => 9 | n => n, fun | n => n⟩
theorem Tryz.lays133 : Go.Proofs.Lays.n133 Tryz.prog Tryz.lays133_ren := {
 mixed := by kernel_rfl
 f128 := Tryz.func128.trans (congrArg some (by kernel_rfl))
 f133 := Tryz.func116.trans (congrArg some (by kernel_rfl))
 t3 := Tryz.underlying3
 a3 := Tryz.isAgg3
 z3 := Tryz.sizeOf3
 v3 := Tryz.zeroValue3
 t4 := Tryz.underlying4
 a4 := Tryz.isAgg4
 z4 := Tryz.sizeOf4
 v4 := Tryz.zeroValue4
 t5 := Tryz.underlying5
 a5 := Tryz.isAgg5
 z5 := Tryz.sizeOf5
 v5 := Tryz.zeroValue5
 t9 := Tryz.underlying9
 a9 := Tryz.isAgg9
 z9 := Tryz.sizeOf9
 v9 := Tryz.zeroValue9
 t46 := Tryz.underlying88
 a46 := Tryz.isAgg88
 z46 := Tryz.sizeOf88
 v46 := Tryz.zeroValue88
 t51 := Tryz.underlying30
 a51 := Tryz.isAgg30
 z51 := Tryz.sizeOf30
 v51 := Tryz.zeroValue30 }
def Tryz.lays219_ren : Go.Shelf.Ren := ⟨fun | 219 => 106 | 217 => 120 | 225 => 121 | 224 => 122 | 267 => 123 | 266 => 131 | 314 => 132 | n => n, fun | 9 => 9 | 3 => 3 | 4 => 4 | 5 => 5 | 46 => 88 | 146 => 89 | 51 => 30 | n => n, fun | 1 => 1 | n => n⟩
theorem Tryz.lays219 : Go.Proofs.Lays.n219 Tryz.prog Tryz.lays219_ren := {
 mixed := by kernel_rfl
 f217 := Tryz.func120.trans (congrArg some (by kernel_rfl))
 f219 := Tryz.func106.trans (congrArg some (by kernel_rfl))
 f224 := Tryz.func122.trans (congrArg some (by kernel_rfl))
 f225 := Tryz.func121.trans (congrArg some (by kernel_rfl))
 f266 := Tryz.func131.trans (congrArg some (by kernel_rfl))
 f267 := Tryz.func123.trans (congrArg some (by kernel_rfl))
 f314 := Tryz.func132.trans (congrArg some (by kernel_rfl))
 t3 := Tryz.underlying3
 a3 := Tryz.isAgg3
 z3 := Tryz.sizeOf3
 v3 := Tryz.zeroValue3
 t4 := Tryz.underlying4
 a4 := Tryz.isAgg4
 z4 := Tryz.sizeOf4
 v4 := Tryz.zeroValue4
 t5 := Tryz.underlying5
 a5 := Tryz.isAgg5
 z5 := Tryz.sizeOf5
 v5 := Tryz.zeroValue5
 t9 := Tryz.underlying9
 a9 := Tryz.isAgg9
 z9 := Tryz.sizeOf9
 v9 := Tryz.zeroValue9
 t46 := Tryz.underlying88
 a46 := Tryz.isAgg88
 z46 := Tryz.sizeOf88
 v46 := Tryz.zeroValue88
 t51 := Tryz.underlying30
 a51 := Tryz.isAgg30
 z51 := Tryz.sizeOf30
 v51 := Tryz.zeroValue30
 t146 := Tryz.underlying89
 a146 := Tryz.isAgg89
 z146 := Tryz.sizeOf89
 v146 := Tryz.zeroValue89
 g1 := by kernel_rfl }
def Tryz.lays144_ren : Go.Shelf.Ren := ⟨fun | 144 => 88 | 143 => 114 | 219 => 106 | 217 => 120 | 225 => 121 | 224 => 122 | 267 => 123 | 266 => 131 | 314 => 132 | n => n, fun | 9 => 9 | 4 => 4 | 3 => 3 | 5 => 5 | 46 => 88 | 146 => 89 | 51 => 30 | n => n, fun | 1 => 1 | n => n⟩
theorem Tryz.lays144 : Go.Proofs.Lays.n144 Tryz.prog Tryz.lays144_ren := {
 mixed := by kernel_rfl
 f143 := Tryz.func114.trans (congrArg some (by kernel_rfl))
 f144 := Tryz.func88.trans (congrArg some (by kernel_rfl))
 f217 := Tryz.func120.trans (congrArg some (by kernel_rfl))
 f219 := Tryz.func106.trans (congrArg some (by kernel_rfl))
 f224 := Tryz.func122.trans (congrArg some (by kernel_rfl))
 f225 := Tryz.func121.trans (congrArg some (by kernel_rfl))
 f266 := Tryz.func131.trans (congrArg some (by kernel_rfl))
 f267 := Tryz.func123.trans (congrArg some (by kernel_rfl))
 f314 := Tryz.func132.trans (congrArg some (by kernel_rfl))
 t3 := Tryz.underlying3
 a3 := Tryz.isAgg3
 z3 := Tryz.sizeOf3
 v3 := Tryz.zeroValue3
 t4 := Tryz.underlying4
 a4 := Tryz.isAgg4
 z4 := Tryz.sizeOf4
 v4 := Tryz.zeroValue4
 t5 := Tryz.underlying5
 a5 := Tryz.isAgg5
 z5 := Tryz.sizeOf5
 v5 := Tryz.zeroValue5
 t9 := Tryz.underlying9
 a9 := Tryz.isAgg9
 z9 := Tryz.sizeOf9
 v9 := Tryz.zeroValue9
 t46 := Tryz.underlying88
 a46 := Tryz.isAgg88
 z46 := Tryz.sizeOf88
 v46 := Tryz.zeroValue88
 t51 := Tryz.underlying30
 a51 := Tryz.isAgg30
 z51 := Tryz.sizeOf30
 v51 := Tryz.zeroValue30
 t146 := Tryz.underlying89
 a146 := Tryz.isAgg89
 z146 := Tryz.sizeOf89
 v146 := Tryz.zeroValue89
 g1 := by kernel_rfl }
end Go.Proofs
namespace Go.Proofs.YtkjdpojbmkpkgaaGreatDoor.MS
open Go.RowKit
theorem ascii_of {l : ByteArray} (h : ∀ x ∈ l.toList, x < 128) : ∀ (j : Nat) b, l.data.toList[j]? = some b → b.toNat < 128 := fun j b hb => by
 have := h b (by rw [Lib.toList_data]; exact List.mem_of_getElem? hb)
 rw [UInt8.lt_iff_toNat_lt] at this
 exact this
theorem trim (s cutset : ByteArray) (w : World) (hs : s.size ≤ 140737488351232) (hcs : cutset.size < 1000) (h : ∀ x ∈ cutset.toList, x < 128) :
  Calls Tryz.prog 87 #[.string s, .string cutset] w fun e w' => e = .returned (.string ⟨(Lib.trimS s.data.toList cutset.data.toList).toArray⟩) ∧ Below w.heap.size w w' :=
 Any.strings_Trim_laid Tryz.lays160 (by kernel_rfl) s cutset w (by omega) (by omega) (ascii_of h)
theorem index_mem (l : List UInt8) (c : UInt8) : 0 ≤ Lib.indexByte l c ↔ c ∈ l := by
 induction l with
 | nil => simp [Lib.indexByte]
 | cons b l ih =>
  have hg := Lib.indexByte_ge l c
  unfold Lib.indexByte
  by_cases h : b = c
  ·subst h; simp
  ·have hb : (b == c) = false := by simpa using h
   rw [hb, if_neg Bool.false_ne_true]
   by_cases h2 : Lib.indexByte l c = -1
   ·rw [if_pos (by simpa using h2)]
    have : ¬ c ∈ l := fun hm => by have := ih.2 hm; omega
    simp [this]
    exact fun e => h e.symm
   ·rw [if_neg (by simpa using h2)]
    have : c ∈ l := ih.1 (by omega)
    simp [this]
    omega
theorem contains (s sub : ByteArray) (w : World) (h : sub.size = 1) :
  Calls Tryz.prog 88 #[.string s, .string sub] w fun e w' => e = .returned (.bool (decide (sub.data.toList.getD 0 0 ∈ s.data.toList))) ∧ w' = w := by
 obtain ⟨c, rfl⟩ : ∃ c, sub = ⟨#[c]⟩ := by
  obtain ⟨⟨l⟩⟩ := sub
  match l, h with
  | [c], _ => exact ⟨c, rfl⟩
 refine (Any.strings_Contains_one Tryz.lays144 s c w).mono fun e w' hh => ⟨hh.1.trans ?_, hh.2⟩
 rw [decide_eq_decide.2 (index_mem s.data.toList c)]
 rfl
theorem leading (x : Int) (w : World) (h0 : 0 ≤ x) (h1 : x < 4294967296) :
  Calls Tryz.prog 116 #[.int .u32 x] w fun e w' => e = .returned (.int .i64 (32 - (Lib.bitLen x.toNat : Int))) ∧ w' = w :=
 Any.bits_LeadingZeros32 Tryz.lays133 x w h0 (by omega)
theorem index1 (s sub : ByteArray) (w : World) (h : sub.size = 1) :
  Calls Tryz.prog 106 #[.string s, .string sub] w fun e w' => e = .returned (.int .i64 (Lib.indexByte s.data.toList (sub.data.toList.getD 0 0))) ∧ w' = w := by
 obtain ⟨c, rfl⟩ : ∃ c, sub = ⟨#[c]⟩ := by
  obtain ⟨⟨l⟩⟩ := sub
  match l, h with
  | [c], _ => exact ⟨c, rfl⟩
 exact Any.stringslite_Index_one Tryz.lays219 s c w
end Go.Proofs.YtkjdpojbmkpkgaaGreatDoor.MS
