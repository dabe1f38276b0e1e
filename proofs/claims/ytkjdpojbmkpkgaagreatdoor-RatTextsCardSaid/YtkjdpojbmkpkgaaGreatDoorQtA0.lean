/- Values as trees, and what they read as in memory: the ground of an evaluator of the program's code over such values. -/
import Derived.Laws.AppendOwn
import Derived.Laws.OwnMore
import Derived.Laws.Tables
import Derived.Laws.Rows
import Derived.Laws.Cells
import Derived.Laws.NewBlocks
import Derived.Below
import Derived.Orders
import Derived.Calls
import Derived.Tactics
import Derived.ChangeKeysEq
import Derived.Laws.Entries
import Derived.ArgAppend
import Derived.Laws.Strings
import Derived.Laws.Concat
import Derived.Laws.IdiomStrings
import Derived.Laws.BytesArg
import Derived.Great.BuildSlice
import Derived.WalkMore
namespace Go.Proofs.YtkjdpojbmkpkgaaGreatDoor.AV
open Go
inductive PV where
 | bool (b : Bool)
 | int (k : IntKind) (n : Int)
 | str (s : List UInt8)
 | sl (nn : Option Bool) (sz : Nat) (xs : List PV)
 | agg (cs : List PV)
 | tup (vs : List PV)
 | fn (f : FuncId)
 | nilptr
 | nilfn
 | niliface
 | iface (t : TypeId) (v : PV)
 deriving Inhabited
inductive AV where
 | pv (p : PV)
 | ptr (id off : Nat)
 | pim (cs : List PV)
 | tok (t ver : Nat) (p : PV)
 | full (p : PV)
 | clo (f : FuncId) (caps : List AV)
 | agg (cs : List AV)
 | tup (vs : List AV)
 | any
 deriving Inhabited
inductive HO where
 | none
 | box (cs : List AV)
 | tok (ver e sz : Nat)
 deriving Inhabited
abbrev HS := List HO
def HO.live : HO → Bool
 | .none => false
 | _ => true
def PV.undef : PV := .tup []
def AV.undef : AV := .pv .undef
def PV.cells : PV → List PV
 | .agg cs => cs
 | p => [p]
def PV.one : PV → Bool
 | .agg _ | .tup _ => false
 | _ => true
def AV.one : AV → Bool
 | .pv p | .tok _ _ p | .full p => p.one
 | .agg _ | .tup _ | .any => false
 | _ => true
def all? {α β : Type} (f : α → Option β) : List α → Option (List β)
 | [] => some []
 | x :: xs => match f x with
  | some y => (match all? f xs with | some ys => some (y :: ys) | none => none)
  | none => none
def AV.pure1 : AV → Option PV
 | .pv p | .tok _ _ p | .full p => some p
 | _ => none
def AV.pure? : AV → Option PV
 | .pv p | .tok _ _ p | .full p => some p
 | .agg cs => (match all? AV.pure1 cs with | some ps => some (.agg ps) | none => none)
 | _ => none
inductive Rep (F : Nat → Nat → Prop) (w : World) : PV → Value → Prop
 | bool (b : Bool) : Rep F w (.bool b) (.bool b)
 | int (k : IntKind) (n : Int) : Rep F w (.int k n) (.int k n)
 | str (s : ByteArray) : Rep F w (.str s.data.toList) (.string s)
 | nilsl (nn : Option Bool) (hn : nn ≠ some true) (sz : Nat) : Rep F w (.sl nn sz []) (.slice none 0 0)
 | sl (nn : Option Bool) (hn : nn ≠ some false) (b o c sz : Nat) (xs : List PV) (u : Nat → Value) (hc : xs.length ≤ c) (hs : ∀ x ∈ xs, x.cells.length = sz) (h1 : ∀ x ∈ xs, ∀ y ∈ x.cells, y.one = true)
   (hu : ∀ j, j < xs.length * sz → w.cell? ⟨b, o + j, none⟩ = some (u j) ∧ F b (o + j))
   (hr : ∀ (j : Nat) (p : PV), (xs.flatMap PV.cells)[j]? = some p → Rep F w p (u j)) : Rep F w (.sl nn sz xs) (.slice (some ⟨b, o, none⟩) xs.length c)
 | agg (cs : List PV) (us : List Value) (hl : us.length = cs.length) (h1 : ∀ y ∈ cs, y.one = true) (hr : ∀ (j : Nat) (p : PV), cs[j]? = some p → Rep F w p (us.getD j Go.undef)) : Rep F w (.agg cs) (.agg us.toArray)
 | tup (cs : List PV) (us : List Value) (hl : us.length = cs.length) (hr : ∀ (j : Nat) (p : PV), cs[j]? = some p → Rep F w p (us.getD j Go.undef)) : Rep F w (.tup cs) (.tuple us.toArray)
 | fn (f : FuncId) : Rep F w (.fn f) (.func (.func f) #[] #[])
 | nilptr : Rep F w .nilptr (.pointer none)
 | nilfn : Rep F w .nilfn .nilFunc
 | niliface : Rep F w .niliface .nilIface
 | iface (t : TypeId) (p : PV) (v : Value) (h : Rep F w p v) : Rep F w (.iface t p) (.iface t v)
theorem Rep.mono {F F' : Nat → Nat → Prop} {w w' : World} (hF : ∀ b o, F b o → F' b o) (hw : ∀ b o, F b o → w'.cell? ⟨b, o, none⟩ = w.cell? ⟨b, o, none⟩) {p : PV} {v : Value} (h : Rep F w p v) : Rep F' w' p v := by
 induction h with
 | bool b => exact .bool b
 | int k n => exact .int k n
 | str s => exact .str s
 | nilsl nn hn sz => exact .nilsl nn hn sz
 | sl nn hn b o c sz xs u hc hs h1 hu _ ih => exact .sl nn hn b o c sz xs u hc hs h1 (fun j hj => ⟨(hw _ _ (hu j hj).2).trans (hu j hj).1, hF _ _ (hu j hj).2⟩) ih
 | agg cs us hl h1 _ ih => exact .agg cs us hl h1 ih
 | tup cs us hl _ ih => exact .tup cs us hl ih
 | fn f => exact .fn f
 | nilptr => exact .nilptr
 | nilfn => exact .nilfn
 | niliface => exact .niliface
 | iface t p v _ ih => exact .iface t p v ih
theorem Rep.one {F : Nat → Nat → Prop} {w : World} {p : PV} {v : Value} (h : Rep F w p v) (h1 : p.one = true) : v.oneCell' = true := by
 cases h <;> first | rfl | (simp [PV.one] at h1)
theorem Rep.undef {F : Nat → Nat → Prop} {w : World} : Rep F w .undef Go.undef := .tup [] [] rfl (fun j p h => by simp at h)
theorem Rep.cells {F : Nat → Nat → Prop} {w : World} {p : PV} {v : Value} (h : Rep F w p v) (h1 : ∀ vs, p ≠ .tup vs) : v.cells.size = p.cells.length ∧ (∀ y ∈ p.cells, y.one = true) ∧ ∀ (j : Nat) (q : PV), p.cells[j]? = some q → Rep F w q (v.cells.getD j Go.undef) := by
 have one : ∀ {q : PV} {u : Value}, Rep F w q u → q.one = true → v = u → p = q → (v.cells.size = p.cells.length ∧ (∀ y ∈ p.cells, y.one = true) ∧ ∀ (j : Nat) (q : PV), p.cells[j]? = some q → Rep F w q (v.cells.getD j Go.undef)) := by
  rintro q u hq hq1 rfl rfl
  have hv := hq.one hq1
  have ec : p.cells = [p] := by cases p <;> first | rfl | (simp [PV.one] at hq1)
  have ev : v.cells = #[v] := by cases v <;> first | rfl | (simp [Value.oneCell'] at hv)
  rw [ec, ev]
  refine ⟨rfl, fun y hy => by rw [List.mem_singleton.1 hy]; exact hq1, fun j r hr => ?_⟩
  cases j with
  | zero => simp at hr; subst hr; exact hq
  | succ j => simp at hr
 cases h with
 | agg cs us hl h1' hr => exact ⟨by simpa [Value.cells, PV.cells] using hl, by simpa [PV.cells] using h1', fun j q hq => by have := hr j q hq; simpa [Value.cells] using this⟩
 | tup cs us hl hr => exact absurd rfl (h1 cs)
 | bool b => exact one (.bool b) rfl rfl rfl
 | int k n => exact one (.int k n) rfl rfl rfl
 | str s => exact one (.str s) rfl rfl rfl
 | nilsl nn hn sz => exact one (.nilsl nn hn sz) rfl rfl rfl
 | sl nn hn b o c sz xs u hc hs h1' hu hr => exact one (.sl nn hn b o c sz xs u hc hs h1' hu hr) rfl rfl rfl
 | fn f => exact one (.fn f) rfl rfl rfl
 | nilptr => exact one .nilptr rfl rfl rfl
 | nilfn => exact one .nilfn rfl rfl rfl
 | niliface => exact one .niliface rfl rfl rfl
 | iface t p v h => exact one (.iface t p v h) rfl rfl rfl
structure Gh where
 F : Nat → Nat → Prop
 ρ : Nat → Nat
 τ : Nat → Value
inductive RepA (G : Gh) (H : HS) (w : World) : AV → Value → Prop
 | pv (p : PV) (v : Value) (h : Rep G.F w p v) : RepA G H w (.pv p) v
 | ptr (id off : Nat) (cs : List AV) (h : H[id]? = some (.box cs)) : RepA G H w (.ptr id off) (.pointer (some ⟨G.ρ id, off, none⟩))
 | pim (b o : Nat) (cs : List PV) (u : Nat → Value) (h1 : ∀ y ∈ cs, y.one = true) (hu : ∀ j, j < cs.length → w.cell? ⟨b, o + j, none⟩ = some (u j) ∧ G.F b (o + j)) (hr : ∀ (j : Nat) (p : PV), cs[j]? = some p → Rep G.F w p (u j)) :
   RepA G H w (.pim cs) (.pointer (some ⟨b, o, none⟩))
 | tok (t ver cur e sz : Nat) (p : PV) (v : Value) (h : Rep G.F w p v) (ht : H[t]? = some (.tok cur e sz)) (hle : ver ≤ cur) (he : ver = cur → v = G.τ t) : RepA G H w (.tok t ver p) v
 | full (p : PV) (v : Value) (h : Rep G.F w p v) (hf : ∀ a n c, v = .slice a n c → c = n) : RepA G H w (.full p) v
 | clo (f : FuncId) (caps : List AV) (us : List Value) (hl : us.length = caps.length) (hr : ∀ (j : Nat) (a : AV), caps[j]? = some a → RepA G H w a (us.getD j Go.undef)) : RepA G H w (.clo f caps) (.func (.func f) #[] us.toArray)
 | agg (cs : List AV) (us : List Value) (hl : us.length = cs.length) (h1 : ∀ y ∈ cs, y.one = true) (hr : ∀ (j : Nat) (a : AV), cs[j]? = some a → RepA G H w a (us.getD j Go.undef)) : RepA G H w (.agg cs) (.agg us.toArray)
 | tup (cs : List AV) (us : List Value) (hl : us.length = cs.length) (hr : ∀ (j : Nat) (a : AV), cs[j]? = some a → RepA G H w a (us.getD j Go.undef)) : RepA G H w (.tup cs) (.tuple us.toArray)
 | any (v : Value) : RepA G H w .any v
theorem RepA.one {G : Gh} {H : HS} {w : World} {a : AV} {v : Value} (h : RepA G H w a v) (h1 : a.one = true) : v.oneCell' = true := by
 cases h with
 | pv p v h => exact h.one h1
 | tok t ver cur e sz p v h => exact h.one h1
 | full p v h => exact h.one h1
 | ptr => rfl
 | pim => rfl
 | clo => rfl
 | agg => simp [AV.one] at h1
 | tup => simp [AV.one] at h1
 | any => simp [AV.one] at h1
def Gh.at (G : Gh) (H : HS) (id : Nat) : Option Nat :=
 match H[id]? with
 | some (.box _) => some (G.ρ id)
 | some (.tok _ _ _) => (G.τ id).ownBlock
 | _ => none
theorem Gh.at_box {G : Gh} {H : HS} {id : Nat} {cs : List AV} (h : H[id]? = some (.box cs)) : G.at H id = some (G.ρ id) := by unfold Gh.at; rw [h]
theorem Gh.at_tok {G : Gh} {H : HS} {id ver e sz : Nat} (h : H[id]? = some (.tok ver e sz)) : G.at H id = (G.τ id).ownBlock := by unfold Gh.at; rw [h]
def BoxOk (G : Gh) (H : HS) (w : World) (id : Nat) (cs : List AV) : Prop :=
 ∃ (us : Array Value) (e : TypeId), w.heap[G.ρ id]? = some (.cells us e (0, 0)) ∧ us.size = cs.length ∧ (∀ y ∈ cs, y.one = true) ∧
  (∀ (j : Nat) (a : AV), cs[j]? = some a → RepA G H w a (us.getD j Go.undef)) ∧ ∀ j, ¬ G.F (G.ρ id) j
def TokOk (G : Gh) (w : World) (id e sz : Nat) : Prop :=
 ∃ (n : Nat) (xs : List Value), w.ownsRow 0 e sz (G.τ id) n xs ∧ ∀ k j, (G.τ id).ownBlock = some k → n * sz ≤ j → ¬ G.F k j
structure HRep (glob : Nat → Option (List PV)) (G : Gh) (H : HS) (w : World) : Prop where
 box : ∀ (id : Nat) (cs : List AV), H[id]? = some (.box cs) → BoxOk G H w id cs
 tok : ∀ (id ver e sz : Nat), H[id]? = some (.tok ver e sz) → TokOk G w id e sz
 apart : ∀ (i j k : Nat), i ≠ j → G.at H i = some k → G.at H j ≠ some k
 glob : ∀ g cs, glob g = some cs → RepA G H w (.pim cs) (.pointer (some ⟨g, 0, Option.none⟩))
 old : ∀ b o, G.F b o → b < w.heap.size
structure Ext (G : Gh) (H : HS) (w : World) (G' : Gh) (H' : HS) (w' : World) : Prop where
 os : w'.os = w.os
 tape : w'.tape = w.tape
 output : w'.output = w.output
 size : w.heap.size ≤ w'.heap.size
 F_mono : ∀ b o, G.F b o → G'.F b o
 cells : ∀ b o, G.F b o → w'.cell? ⟨b, o, none⟩ = w.cell? ⟨b, o, none⟩
 F_new : ∀ b o, G'.F b o → G.F b o ∨ w.heap.size ≤ b ∨ ∃ id ver e sz, H[id]? = some (.tok ver e sz) ∧ (G.τ id).ownBlock = some b
 box : ∀ (id : Nat) (cs : List AV), H[id]? = some (.box cs) → G'.ρ id = G.ρ id ∧ ∃ cs', H'[id]? = some (.box cs')
 tok : ∀ (id ver e sz : Nat), H[id]? = some (.tok ver e sz) → ∃ ver', H'[id]? = some (.tok ver' e sz) ∧ ver ≤ ver' ∧ (ver' = ver → G'.τ id = G.τ id) ∧
  ((G'.τ id).ownBlock = (G.τ id).ownBlock ∨ ∀ k, (G'.τ id).ownBlock = some k → w.heap.size ≤ k)
 new : ∀ id k, (∀ x, H[id]? = some x → x.live = false) → G'.at H' id = some k → w.heap.size ≤ k
 blocks : ∀ b, b < w.heap.size → (∀ id, G.at H id ≠ some b) → w'.heap[b]? = w.heap[b]?
theorem Ext.refl (G : Gh) (H : HS) (w : World) : Ext G H w G H w where
 os := rfl
 tape := rfl
 output := rfl
 size := Nat.le_refl _
 F_mono := fun _ _ h => h
 cells := fun _ _ _ => rfl
 F_new := fun _ _ h => .inl h
 box := fun id cs h => ⟨rfl, cs, h⟩
 tok := fun id ver e sz h => ⟨ver, h, Nat.le_refl _, fun _ => rfl, .inl rfl⟩
 new := fun id k h hk => by
  unfold Gh.at at hk
  split at hk
  ·rename_i cs hc; exact absurd (h _ hc) (by simp [HO.live])
  ·rename_i hc; exact absurd (h _ hc) (by simp [HO.live])
  ·cases hk
 blocks := fun _ _ _ => rfl
theorem RepA.ext {G G' : Gh} {H H' : HS} {w w' : World} (e : Ext G H w G' H' w') {a : AV} {v : Value} (h : RepA G H w a v) : RepA G' H' w' a v := by
 induction h with
 | pv p v h => exact .pv p v (h.mono e.F_mono e.cells)
 | ptr id off cs h =>
  obtain ⟨h1, cs', h2⟩ := e.box id cs h
  rw [← h1]
  exact .ptr id off cs' h2
 | pim b o cs u h1 hu hr => exact .pim b o cs u h1 (fun j hj => ⟨(e.cells _ _ (hu j hj).2).trans (hu j hj).1, e.F_mono _ _ (hu j hj).2⟩) (fun j p hj => (hr j p hj).mono e.F_mono e.cells)
 | tok t ver cur ee sz p v h ht hle he =>
  obtain ⟨ver', h1, h2, h3, _⟩ := e.tok t cur ee sz ht
  refine .tok t ver ver' ee sz p v (h.mono e.F_mono e.cells) h1 (by omega) (fun hv => ?_)
  have e1 : ver = cur := by omega
  rw [h3 (by omega)]
  exact he e1
 | full p v h hf => exact .full p v (h.mono e.F_mono e.cells) hf
 | clo f caps us hl _ ih => exact .clo f caps us hl ih
 | agg cs us hl h1 _ ih => exact .agg cs us hl h1 ih
 | tup cs us hl _ ih => exact .tup cs us hl ih
 | any v => exact .any v
theorem own_lt {w : World} {base e size n k : Nat} {v : Value} {xs : List Value} (h : w.ownsRow base e size v n xs) (hk : v.ownBlock = some k) : k < w.heap.size := by
 rcases h.2 with ⟨rfl, _⟩ | ⟨g, cap, cur, rfl, _, hh, _⟩
 ·simp [Value.ownBlock] at hk
 ·have : g = k := by simpa [Value.ownBlock] using hk
  subst this
  exact (Array.getElem?_eq_some_iff.1 hh).1
theorem own_move {w w1 : World} {base e size n : Nat} {v : Value} {xs : List Value} (h : w.ownsRow base e size v n xs) (hm : ∀ k, v.ownBlock = some k → w1.heap[k]? = w.heap[k]?) : w1.ownsRow base e size v n xs := by
 obtain ⟨h1, h2⟩ := h
 refine ⟨h1, ?_⟩
 rcases h2 with h2 | ⟨g, cap, cur, rfl, hg, hh, r⟩
 ·exact .inl h2
 ·exact .inr ⟨g, cap, cur, rfl, hg, (hm g (by simp [Value.ownBlock])).trans hh, r⟩
theorem HRep.at_lt {glob : Nat → Option (List PV)} {G : Gh} {H : HS} {w : World} (h : HRep glob G H w) {id k : Nat} (hk : G.at H id = some k) : k < w.heap.size := by
 unfold Gh.at at hk
 split at hk
 ·rename_i cs hc
  obtain ⟨us, e, hh, _⟩ := h.box _ _ hc
  injection hk with hk
  subst hk
  exact (Array.getElem?_eq_some_iff.1 hh).1
 ·rename_i ver e sz hc
  obtain ⟨n, xs, ho, _⟩ := h.tok _ _ _ _ hc
  exact own_lt ho hk
 ·cases hk
theorem Gh.at_live {G : Gh} {H : HS} {id k : Nat} (hk : G.at H id = some k) : ∃ x, H[id]? = some x ∧ x.live = true := by
 unfold Gh.at at hk
 split at hk
 ·rename_i cs hc; exact ⟨_, hc, rfl⟩
 ·rename_i hc; exact ⟨_, hc, rfl⟩
 ·cases hk
theorem Ext.trans {glob : Nat → Option (List PV)} {G G' G'' : Gh} {H H' H'' : HS} {w w' w'' : World} (_h : HRep glob G H w) (a : Ext G H w G' H' w') (b : Ext G' H' w' G'' H'' w'') : Ext G H w G'' H'' w'' where
 os := b.os.trans a.os
 tape := b.tape.trans a.tape
 output := b.output.trans a.output
 size := Nat.le_trans a.size b.size
 F_mono := fun x o hx => b.F_mono _ _ (a.F_mono _ _ hx)
 cells := fun x o hx => (b.cells _ _ (a.F_mono _ _ hx)).trans (a.cells _ _ hx)
 F_new := fun x o hx => by
  rcases b.F_new x o hx with h1 | h1 | ⟨id, ver, e, sz, h1, h2⟩
  ·exact a.F_new x o h1
  ·exact .inr (.inl (Nat.le_trans a.size h1))
  ·cases hq : H[id]? with
   | none => exact .inr (.inl (a.new id x (fun y hy => by rw [hq] at hy; cases hy) (by rw [Gh.at_tok h1]; exact h2)))
   | some y =>
    cases y with
    | none => exact .inr (.inl (a.new id x (fun y hy => by rw [hq] at hy; cases hy; rfl) (by rw [Gh.at_tok h1]; exact h2)))
    | box cs => obtain ⟨_, cs', h3⟩ := a.box id cs hq; rw [h1] at h3; cases h3
    | tok v2 e2 s2 =>
     obtain ⟨ver', h3, _, _, h4⟩ := a.tok id v2 e2 s2 hq
     rcases h4 with h4 | h4
     ·exact .inr (.inr ⟨id, v2, e2, s2, hq, by rw [← h4]; exact h2⟩)
     ·exact .inr (.inl (h4 x h2))
 box := fun id cs hq => by
  obtain ⟨h1, cs', h2⟩ := a.box id cs hq
  obtain ⟨h3, cs'', h4⟩ := b.box id cs' h2
  exact ⟨h3.trans h1, cs'', h4⟩
 tok := fun id ver e sz hq => by
  obtain ⟨v1, h1, h2, h3, h4⟩ := a.tok id ver e sz hq
  obtain ⟨v2, k1, k2, k3, k4⟩ := b.tok id v1 e sz h1
  refine ⟨v2, k1, Nat.le_trans h2 k2, fun e => (k3 (by omega)).trans (h3 (by omega)), ?_⟩
  rcases k4 with k4 | k4
  ·rw [k4]; exact h4
  ·exact .inr (fun k hk => Nat.le_trans a.size (k4 k hk))
 new := fun id k hn hk => by
  cases hq : H'[id]? with
  | none => exact Nat.le_trans a.size (b.new id k (fun y hy => by rw [hq] at hy; cases hy) hk)
  | some y =>
   cases y with
   | none => exact Nat.le_trans a.size (b.new id k (fun y hy => by rw [hq] at hy; cases hy; rfl) hk)
   | box cs =>
    obtain ⟨h1, cs', h2⟩ := b.box id cs hq
    rw [Gh.at_box h2, h1] at hk
    exact a.new id k hn (by rw [Gh.at_box hq]; exact hk)
   | tok v2 e2 s2 =>
    obtain ⟨v3, h1, _, _, h4⟩ := b.tok id v2 e2 s2 hq
    rw [Gh.at_tok h1] at hk
    rcases h4 with h4 | h4
    ·exact a.new id k hn (by rw [Gh.at_tok hq, ← h4]; exact hk)
    ·exact Nat.le_trans a.size (h4 k hk)
 blocks := fun x hx hn => by
  have h1 := a.blocks x hx hn
  refine (b.blocks x (Nat.lt_of_lt_of_le hx a.size) (fun id hid => ?_)).trans h1
  cases hq : H[id]? with
  | none => exact absurd (a.new id x (fun y hy => by rw [hq] at hy; cases hy) hid) (by omega)
  | some y =>
   cases y with
   | none => exact absurd (a.new id x (fun y hy => by rw [hq] at hy; cases hy; rfl) hid) (by omega)
   | box cs =>
    obtain ⟨h2, cs', h3⟩ := a.box id cs hq
    rw [Gh.at_box h3, h2] at hid
    exact hn id (by rw [Gh.at_box hq]; exact hid)
   | tok v2 e2 s2 =>
    obtain ⟨v3, h2, _, _, h4⟩ := a.tok id v2 e2 s2 hq
    rw [Gh.at_tok h2] at hid
    rcases h4 with h4 | h4
    ·exact hn id (by rw [Gh.at_tok hq, ← h4]; exact hid)
    ·have := h4 x hid; omega
theorem HRep.step {glob : Nat → Option (List PV)} {G G' : Gh} {H H' : HS} {w w' : World} (id0 : Nat) (h : HRep glob G H w) (e : Ext G H w G' H' w')
  (hk : ∀ id, id ≠ id0 → H'[id]? = H[id]? ∧ G'.τ id = G.τ id ∧ G'.ρ id = G.ρ id)
  (hh : ∀ b, b < w.heap.size → G.at H id0 ≠ some b → w'.heap[b]? = w.heap[b]?)
  (hF : ∀ b o, G'.F b o → G.F b o ∨ w.heap.size ≤ b ∨ G.at H id0 = some b)
  (hp : ∀ k, G'.at H' id0 = some k → G.at H id0 = some k ∨ w.heap.size ≤ k)
  (hb : ∀ cs, H'[id0]? = some (.box cs) → BoxOk G' H' w' id0 cs) (ht : ∀ ver e sz, H'[id0]? = some (.tok ver e sz) → TokOk G' w' id0 e sz) (hold : ∀ b o, G'.F b o → b < w'.heap.size) : HRep glob G' H' w' where
 old := hold
 box := fun id cs hq => by
  by_cases hi : id = id0
  ·subst hi; exact hb cs hq
  ·obtain ⟨h1, h2, h3⟩ := hk id hi
   rw [h1] at hq
   have hat := Gh.at_box (G := G) hq
   have hlt := h.at_lt hat
   obtain ⟨us, ee, q1, q2, q3, q4, q5⟩ := h.box id cs hq
   have hne : G.at H id0 ≠ some (G.ρ id) := h.apart id id0 _ hi hat
   refine ⟨us, ee, by rw [h3]; exact (hh _ hlt hne).trans q1, q2, q3, fun j a ha => (q4 j a ha).ext e, fun j hj => ?_⟩
   rw [h3] at hj
   rcases hF _ _ hj with r | r | r
   ·exact q5 j r
   ·omega
   ·exact hne r
 tok := fun id ver ee sz hq => by
  by_cases hi : id = id0
  ·subst hi; exact ht ver ee sz hq
  ·obtain ⟨h1, h2, h3⟩ := hk id hi
   rw [h1] at hq
   obtain ⟨n, xs, q1, q2⟩ := h.tok id ver ee sz hq
   unfold TokOk
   rw [h2]
   refine ⟨n, xs, own_move q1 (fun k hk2 => ?_), fun k j hk2 hj hf => ?_⟩
   ·have hat : G.at H id = some k := by rw [Gh.at_tok hq]; exact hk2
    exact hh k (h.at_lt hat) (h.apart id id0 _ hi hat)
   ·have hat : G.at H id = some k := by rw [Gh.at_tok hq]; exact hk2
    rcases hF _ _ hf with r | r | r
    ·exact q2 k j hk2 hj r
    ·have := h.at_lt hat; omega
    ·exact h.apart id id0 _ hi hat r
 apart := fun i j k hij hi hj => by
  have keep : ∀ id, id ≠ id0 → G'.at H' id = G.at H id := fun id hne => by
   obtain ⟨h1, h2, h3⟩ := hk id hne
   unfold Gh.at
   rw [h1, h2, h3]
  by_cases h1 : i = id0
  ·subst h1
   have h2 : j ≠ i := fun e => hij e.symm
   rw [keep j h2] at hj
   rcases hp k hi with r | r
   ·exact h.apart j i k h2 hj r
   ·have := h.at_lt hj; omega
  ·rw [keep i h1] at hi
   by_cases h2 : j = id0
   ·subst h2
    rcases hp k hj with r | r
    ·exact h.apart i j k hij hi r
    ·have := h.at_lt hi; omega
   ·rw [keep j h2] at hj
    exact h.apart i j k hij hi hj
 glob := fun g cs hg => (h.glob g cs hg).ext e
inductive Cls where
 | free | rd (id : Nat) | wr (id : Nat) | new | all
 deriving DecidableEq, Inhabited
inductive Ex where
 | normal | exit (id : Nat) | ret
 deriving Inhabited
structure St where
 env : List AV
 H : HS
 deriving Inhabited
def const1 : Value → Option PV
 | .bool b => some (.bool b)
 | .int k n => some (.int k n)
 | .string s => some (.str s.data.toList)
 | .pointer none => some .nilptr
 | .slice none 0 0 => some (.sl (some false) 0 [])
 | .nilFunc => some .nilfn
 | .nilIface => some .niliface
 | .func (.func f) a b => if a.size = 0 ∧ b.size = 0 then some (.fn f) else none
 | _ => none
def PV.scal : PV → Value
 | .bool b => .bool b
 | .int k n => .int k n
 | .str s => .string ⟨s.toArray⟩
 | _ => Go.undef
def constV : Value → Option PV
 | .agg us => (match all? const1 us.toList with | some cs => some (.agg cs) | none => none)
 | v => const1 v
def AV.pv? : AV → Option PV
 | .pv p => some p
 | _ => none
def aggOf (cs : List AV) : AV := match all? AV.pv? cs with | some ps => .pv (.agg ps) | none => .agg cs
def tupOf (cs : List AV) : AV := match all? AV.pv? cs with | some ps => .pv (.tup ps) | none => .tup cs
def AV.cells : AV → Option (List AV)
 | .pv (.tup _) | .tup _ => none
 | .pv p => some (p.cells.map .pv)
 | .agg cs => some cs
 | a => if a.one then some [a] else none
def AV.out (a : AV) : AV := match a.pure? with | some p => .pv p | none => a
section
variable (P : Program) (glob : Nat → Option (List PV))
def isAggT (t : TypeId) : Option Bool :=
 match P.underlying t with
 | some (.struct _) | some (.array _ _) => some true
 | some _ => some false
 | none => none
def sizeT (t : TypeId) : Option Nat := match P.info? t with | some i => some i.size | none => none
def opv (env : List AV) : Operand → Option AV
 | .tmp t => some (env.getD t .undef)
 | .const v => (match constV v with | some p => some (.pv p) | none => none)
 | .global g => (match glob g with | some cs => some (.pim cs) | none => none)
 | .func f => some (.pv (.fn f))
def partOf (t : TypeId) (cs : List AV) (off : Nat) : Option AV :=
 match isAggT P t, sizeT P t with
 | some true, some n => if off + n ≤ cs.length then some (aggOf ((cs.drop off).take n)) else none
 | some false, some _ => cs[off]?
 | _, _ => none
def partP (t : TypeId) (cs : List PV) (off : Nat) : Option PV :=
 match isAggT P t, sizeT P t with
 | some true, some n => if off + n ≤ cs.length then some (.agg ((cs.drop off).take n)) else none
 | some false, some _ => cs[off]?
 | _, _ => none
def zeroT (t : TypeId) : Option PV := match P.info? t with | some i => (match i.zero with | some z => constV z | none => none) | none => none
def splice (cs : List AV) (off : Nat) (xs : List AV) : List AV := cs.take off ++ xs ++ cs.drop (off + xs.length)
def fillA (place : Nat → Option (Nat × Nat)) (cells : List AV) : List (Nat × AV) → Option (List AV)
 | [] => some cells
 | (i, v) :: rest =>
  match place i, v.cells with
  | some (off, size), some xs => if xs.length = size ∧ off + size ≤ cells.length then fillA place (splice cells off xs) rest else none
  | _, _ => none
def idx (x : AV) : Option Int := match x with | .pv (.int _ n) => some n | _ => none
def optIdx (f : Operand → Option AV) : Option Operand → Option (Option Int)
 | none => some none
 | some x => match f x with | some a => (match idx a with | some n => some (some n) | none => none) | none => none
def strOp (op : BinOp) (x y : List UInt8) : Option PV :=
 match op with
 | .add => if x.length + y.length ≤ 4611686018427387904 then some (.str (x ++ y)) else none
 | .eql => some (.bool (x == y))
 | .neq => some (.bool !(x == y))
 | .lss => some (.bool (Op.bytesLess x y))
 | .leq => some (.bool (Op.bytesLess x y || x == y))
 | .gtr => some (.bool !(Op.bytesLess x y || x == y))
 | .geq => some (.bool !(Op.bytesLess x y))
 | _ => none
def intOp (op : BinOp) (k k' : IntKind) (a b : Int) : Option PV :=
 match op with
 | .shl => if b < 0 then none else some (.int k (k.wrap (a * 2 ^ min b.toNat k.bits)))
 | .shr => if b < 0 then none else some (.int k (a.fdiv (2 ^ min b.toNat k.bits)))
 | _ => if k ≠ k' then none else match op with
  | .add => some (.int k (k.wrap (a + b)))
  | .sub => some (.int k (k.wrap (a - b)))
  | .mul => some (.int k (k.wrap (a * b)))
  | .quo => if b = 0 then none else some (.int k (k.wrap (a.tdiv b)))
  | .rem => if b = 0 then none else some (.int k (a.tmod b))
  | .and => some (.int k (k.wrap (BitVec.ofInt k.bits a &&& BitVec.ofInt k.bits b).toNat))
  | .or => some (.int k (k.wrap (BitVec.ofInt k.bits a ||| BitVec.ofInt k.bits b).toNat))
  | .xor => some (.int k (k.wrap (BitVec.ofInt k.bits a ^^^ BitVec.ofInt k.bits b).toNat))
  | .andNot => some (.int k (k.wrap (BitVec.ofInt k.bits a &&& ~~~BitVec.ofInt k.bits b).toNat))
  | .eql => some (.bool (a == b))
  | .neq => some (.bool (a != b))
  | .lss => some (.bool (decide (a < b)))
  | .leq => some (.bool (decide (a ≤ b)))
  | .gtr => some (.bool (decide (a > b)))
  | .geq => some (.bool (decide (a ≥ b)))
  | _ => none
def nilOf : AV → Option Bool
 | .pv .nilptr | .pv .nilfn | .pv .niliface => some true
 | .pv (.sl (some nn) _ _) | .tok _ _ (.sl (some nn) _ _) | .full (.sl (some nn) _ _) => some !nn
 | .ptr _ _ | .pim _ | .clo _ _ | .pv (.fn _) | .pv (.iface _ _) => some false
 | _ => none
def eqA (t : TypeId) (x y : AV) (yconst : Bool) : Option Bool :=
 match P.underlying t, x, y with
 | some .bool, .pv (.bool a), .pv (.bool b) => some (a == b)
 | some (.pointer _), .pv .nilptr, .pv .nilptr => some true
 | some (.pointer _), .pv .nilptr, .ptr _ _ => some false
 | some (.pointer _), .ptr _ _, .pv .nilptr => some false
 | some (.pointer _), .pim _, .pv .nilptr => some false
 | some (.slice _), x, .pv (.sl (some false) _ []) => (match x with | .pv (.sl (some nn) _ _) | .tok _ _ (.sl (some nn) _ _) | .full (.sl (some nn) _ _) => some !nn | _ => none)
 | some (.func _ _ _), .pv .nilfn, .pv .nilfn => some true
 | some (.func _ _ _), .pv (.fn _), .pv .nilfn => some false
 | some (.func _ _ _), .clo _ _, .pv .nilfn => some false
 | some (.interface _), .pv .niliface, .pv .niliface => if yconst then some true else none
 | some (.interface _), .pv (.iface _ _), .pv .niliface => some false
 | _, _, _ => none
def binA (op : BinOp) (t : TypeId) (x y : AV) (yconst : Bool) : Option AV :=
 match x, y with
 | .pv (.int k a), .pv (.int k' b) => (match intOp op k k' a b with | some p => some (.pv p) | none => none)
 | .pv (.str a), .pv (.str b) => (match strOp op a b with | some p => some (.pv p) | none => none)
 | x, y => match op with
  | .eql => (match eqA P t x y yconst with | some b => some (.pv (.bool b)) | none => none)
  | .neq => (match eqA P t x y yconst with | some b => some (.pv (.bool !b)) | none => none)
  | _ => none
def unA (op : UnOp) (x : AV) : Option AV :=
 match op, x with
 | .neg, .pv (.int k n) => some (.pv (.int k (k.wrap (0 - n))))
 | .xor, .pv (.int k n) => some (.pv (.int k (k.wrap (BitVec.ofInt k.bits (if k.signed then -1 else k.max) ^^^ BitVec.ofInt k.bits n).toNat)))
 | .not, .pv (.bool b) => some (.pv (.bool !b))
 | _, _ => none
def bytesOfInts : List PV → Option (List UInt8)
 | [] => some []
 | .int .u8 n :: xs => (match bytesOfInts xs with | some l => some (UInt8.ofNat n.toNat :: l) | none => none)
 | _ => none
def convA (src dst : TypeId) (x : AV) : Option AV :=
 match P.underlying src, P.underlying dst, x with
 | some _, some (.int k), .pv (.int _ n) => some (.pv (.int k (k.wrap n)))
 | some _, some .string, .pv (.str s) => some (.pv (.str s))
 | some .string, some (.slice e), .pv (.str s) =>
  (match P.underlying e with
  | some (.int .u8) => if s.length ≤ 4611686018427387904 then some (.pv (.sl (some true) 1 (s.map fun b => .int .u8 b.toNat))) else none
  | _ => none)
 | some (.slice e), some .string, x =>
  (match P.underlying e, x.pure? with
  | some (.int .u8), some (.sl _ _ xs) => (match bytesOfInts xs with | some l => some (.pv (.str l)) | none => none)
  | _, _ => none)
 | _, _, _ => none
def cutB (n : Nat) (lo hi : Option Int) : Option (Nat × Nat) :=
 let h : Int := hi.getD n
 let l : Int := lo.getD 0
 if 0 ≤ l ∧ l ≤ h ∧ h ≤ n then some (l.toNat, h.toNat) else none
def sliceA (t : TypeId) (x : AV) (lo hi mx : Option Int) : Option AV :=
 match P.underlying t, x with
 | some .string, .pv (.str s) => (match mx with | some _ => none | none => (match cutB s.length lo hi with | some (l, h) => some (.pv (.str ((s.take h).drop l))) | none => none))
 | some (.slice e), x =>
  (match x.pure?, sizeT P e with
  | some (.sl nn sz xs), some n =>
   if nn ≠ some false ∧ sz ≠ n then none else
   (match cutB xs.length lo hi with
   | some (l, h) =>
    (match mx with
    | none => some (.pv (.sl nn sz ((xs.take h).drop l)))
    | some m => if m = h ∧ hi.isSome = true then some (.full (.sl nn sz ((xs.take h).drop l))) else none)
   | none => none)
  | _, _ => none)
 | _, _ => none
def fieldOf (s : TypeId) (i : Nat) : Option Field := match P.underlying s with | some (.struct fs) => fs[i]? | _ => none
def lenA (t : TypeId) (x : AV) : Option Nat :=
 match P.underlying t, x with
 | some .string, .pv (.str s) => some s.length
 | some (.array n _), _ => some n
 | some (.pointer a), _ => (match P.underlying a with | some (.array n _) => some n | _ => none)
 | some (.slice _), x => (match x.pure? with | some (.sl _ _ xs) => some xs.length | _ => none)
 | _, _ => none
def foldInts (f : Int → Int → Int) : IntKind → Int → List AV → Option Int
 | _, n, [] => some n
 | k, n, .pv (.int k' m) :: xs => if k = k' then foldInts f k (f n m) xs else none
 | _, _, _ => none
def zeroBad (i : TypeInfo) : Bool := match i.zero with | some z => !(z.cells.size == i.size) | none => true
def appA (slot : Nat) (t t2 : TypeId) (s x : AV) (H : HS) : Option (AV × HS × Cls) :=
 match P.underlying t with
 | some (.slice e) =>
  (match P.info? e, x.pure? with
  | some i, some (.sl xn xsz ys) =>
   if t ≠ t2 ∨ i.size = 0 ∨ zeroBad i = true ∨ (xn ≠ some false ∧ xsz ≠ i.size) then none else
   (match s.pure? with
   | some (.sl sn ssz xs) =>
    if sn ≠ some false ∧ ssz ≠ i.size then none
    else if (xs.length + ys.length) * i.bytes ≤ 140737488355328 ∧ xs.length + ys.length ≤ 4611686018427387904 then
     if ys.length = 0 then some (s, H, .free)
     else match s with
      | .tok tk ver _ =>
       (match H[tk]? with
       | some (.tok cur e' sz) => if ver = cur ∧ e' = e ∧ sz = i.size then some (.tok tk (cur + 1) (.sl (some true) i.size (xs ++ ys)), H.set tk (.tok (cur + 1) e sz), .wr tk) else none
       | _ => none)
      | .pv (.sl (some false) _ _) | .full (.sl _ _ _) =>
       (match H[slot]? with | some .none => some (.tok slot 0 (.sl (some true) i.size (xs ++ ys)), H.set slot (.tok 0 e i.size), .new) | _ => none)
      | _ => none
    else none
   | _ => none)
  | _, _ => none)
 | _ => none
abbrev CallF := FuncId → List AV → HS → Option (AV × HS)
def callA (call : CallF) (f : FuncId) (args : List AV) (H : HS) : Option (AV × HS × Cls) :=
 match all? AV.pure? args with
 | some ps => (match call f (ps.map .pv) [] with | some (.pv r, _) => some (.pv r, H, .free) | _ => none)
 | none => (match call f args H with | some (r, H') => some (r, H', .all) | none => none)
def mk (a : Option AV) (H : HS) : Option (AV × HS × Cls) := match a with | some a => some (a, H, .free) | none => none
def partA (r : Operand → Option AV) (q : Nat × Operand) : Option (Nat × AV) := match r q.2 with | some a => some (q.1, a) | none => none
def placeT (f : Field) : Option (Nat × Nat) := match sizeT P f.type with | some n => some (f.offset, n) | none => none
def isConstO : Operand → Bool
 | .const _ => true
 | _ => false
def groups (ag : Bool) (sz : Nat) : Nat → List PV → List PV
 | 0, _ => []
 | n + 1, ps => (if ag then .agg (ps.take sz) else ps.headD .undef) :: groups ag sz n (ps.drop sz)
def aop (call : CallF) (slot : Nat) (op : Op) (_ty : TypeId) (r : Operand → Option AV) (H : HS) : Option (AV × HS × Cls) :=
 match op with
 | .move x | .assign x => mk (r x) H
 | .pick c a b => (match r c, r a, r b with | some (.pv (.bool t)), some x, some y => mk (some (if t then x else y)) H | _, _, _ => none)
 | .alloc e => (match zeroT P e, H[slot]? with
  | some z, some .none => if z.cells.all PV.one then some (.ptr slot 0, H.set slot (.box (z.cells.map .pv)), .new) else none
  | _, _ => none)
 | .box _ x => (match r x, H[slot]? with
  | some a, some .none => (match a.cells with | some cs => if cs.all AV.one then some (.ptr slot 0, H.set slot (.box cs), .new) else none | none => none)
  | _, _ => none)
 | .load t x => (match r x with
  | some (.pim cs) => (match partP P t cs 0 with | some p => mk (some (.pv p)) H | none => none)
  | some (.ptr id off) => (match H[id]? with | some (.box cs) => (match partOf P t cs off with | some a => some (a, H, .rd id) | none => none) | _ => none)
  | _ => none)
 | .store t x y => (match r x, r y, sizeT P t with
  | some (.ptr id off), some v, some n =>
   (match H[id]?, v.cells with
   | some (.box cs), some xs => if xs.length = n ∧ off + n ≤ cs.length ∧ xs.all AV.one = true then some (.undef, H.set id (.box (splice cs off xs)), .wr id) else none
   | _, _ => none)
  | _, _, _ => none)
 | .nilCheck x => (match r x with
  | some (.ptr id off) => mk (some (.ptr id off)) H
  | some (.pim cs) => mk (some (.pim cs)) H
  | some (.pv (.fn f)) => mk (some (.pv (.fn f))) H
  | some (.clo f cs) => mk (some (.clo f cs)) H
  | _ => none)
 | .binOp op t x y _ => (match r x, r y with | some a, some b => mk (binA P op t a b (isConstO y)) H | _, _ => none)
 | .unOp op _ x => (match r x with | some a => mk (unA op a) H | _ => none)
 | .convert s d x => (match r x with | some a => mk (convA P s d a) H | _ => none)
 | .makeFunc (.func f) first caps => if first.size = 0 then (match all? r caps.toList with
   | some [] => mk (some (.pv (.fn f))) H
   | some cs => mk (some (.clo f cs)) H
   | none => none) else none
 | .slice t x lo hi mx => (match r x, optIdx r lo, optIdx r hi, optIdx r mx with | some a, some l, some h, some m => mk (sliceA P t a l h m) H | _, _, _, _ => none)
 | .fieldAddr s x i => (match r x, fieldOf P s i with
  | some (.pim cs), some f => (match sizeT P f.type with | some n => if n ≠ 0 then mk (some (.pim (cs.drop f.offset))) H else none | none => none)
  | some (.ptr id off), some f => (match sizeT P f.type with | some n => if n ≠ 0 then mk (some (.ptr id (off + f.offset))) H else none | none => none)
  | _, _ => none)
 | .field s x i => (match r x, fieldOf P s i with
  | some (.pv (.agg cs)), some f => (match partP P f.type cs f.offset with | some p => mk (some (.pv p)) H | none => none)
  | some (.agg cs), some f => mk (partOf P f.type cs f.offset) H
  | _, _ => none)
 | .indexAddr t x i => (match r x, r i with
  | some a, some (.pv (.int _ n)) =>
   (match P.underlying t, a with
   | some (.slice e), a => (match a.pure?, sizeT P e with
    | some (.sl _ sz xs), some m => if sz = m ∧ 0 ≤ n ∧ n < xs.length then (match xs[n.toNat]? with | some p => mk (some (.pim p.cells)) H | none => none) else none
    | _, _ => none)
   | some (.array len e), .ptr id off => (match sizeT P e with | some m => if 0 ≤ n ∧ n < len then mk (some (.ptr id (off + n.toNat * m))) H else none | none => none)
   | some (.array len e), .pim cs => (match sizeT P e with | some m => if 0 ≤ n ∧ n < len then mk (some (.pim (cs.drop (n.toNat * m)))) H else none | none => none)
   | _, _ => none)
  | _, _ => none)
 | .index t x i => (match r x, r i with
  | some a, some (.pv (.int _ n)) =>
   (match P.underlying t, a with
   | some .string, .pv (.str s) => if 0 ≤ n then (match s[n.toNat]? with | some b => mk (some (.pv (.int .u8 b.toNat))) H | none => none) else none
   | some (.array len e), .pv (.agg cs) => (match sizeT P e with | some m => if 0 ≤ n ∧ n < len then (match partP P e cs (n.toNat * m) with | some p => mk (some (.pv p)) H | none => none) else none | none => none)
   | _, _ => none)
  | _, _ => none)
 | .extract x i => (match r x with
  | some (.pv (.tup vs)) => (match vs[i]? with | some p => mk (some (.pv p)) H | none => none)
  | some (.tup vs) => mk vs[i]? H
  | _ => none)
 | .build t parts => (match zeroT P t, P.underlying t, all? (partA r) parts.toList with
  | some z, some (.struct fs), some ps => (match all? (placeT P) fs.toList with
   | some places => (match fillA (fun i => places[i]?) (z.cells.map .pv) ps with | some cs => mk (some (aggOf cs)) H | none => none)
   | none => none)
  | some z, some (.array _ e), some ps => (match sizeT P e with
   | some n => (match fillA (fun i => some (i * n, n)) (z.cells.map .pv) ps with | some cs => mk (some (aggOf cs)) H | none => none)
   | none => none)
  | _, _, _ => none)
 | .buildSlice t len parts => (match P.underlying t with
  | some (.slice e) => (match zeroT P e, sizeT P e, isAggT P e, all? (partA r) parts.toList with
   | some z, some sz, some ag, some ps =>
    if sz ≠ 0 ∧ len ≠ 0 ∧ len * sz ≤ 16777216 ∧ z.cells.length = sz ∧ (ag = true ∨ sz = 1) then
     (match fillA (fun i => some (i * sz, sz)) ((List.range (len * sz)).map fun j => .pv (z.cells.getD (j % sz) .undef)) ps with
     | some cs => (match all? AV.pure? cs with
      | some qs => mk (some (.full (.sl (some true) sz (groups ag sz len qs)))) H
      | none => none)
     | none => none)
    else none
   | _, _, _, _ => none)
  | _ => none)
 | .call c => (match all? r c.args.toList with
  | some args =>
   (match c.callee with
   | .builtin .len => (match args, c.argTypes[0]? with | [x], some t => (match lenA P t x with | some n => if n ≤ 9223372036854775807 then mk (some (.pv (.int .i64 n))) H else none | none => none) | _, _ => none)
   | .builtin .max => (match args with | .pv (.int k n) :: xs => (match foldInts (fun a b => if b > a then b else a) k n xs with | some m => mk (some (.pv (.int k m))) H | none => none) | _ => none)
   | .builtin .min => (match args with | .pv (.int k n) :: xs => (match foldInts (fun a b => if b < a then b else a) k n xs with | some m => mk (some (.pv (.int k m))) H | none => none) | _ => none)
   | .builtin .append => (match args, c.argTypes[0]?, c.argTypes[1]? with | [s, x], some t, some t2 => appA P slot t t2 s x H | _, _, _ => none)
   | .value f => (match r f with
    | some (.pv (.fn g)) => callA call g args H
    | some (.clo g caps) => callA call g (args ++ caps) H
    | _ => none)
   | _ => none)
  | none => none)
 | _ => none
def needsSlot : Op → Bool
 | .alloc _ | .box _ _ => true
 | .call { callee := .builtin .append, .. } => true
 | _ => false
def rank (ops : Array Oper) (i : Nat) : Nat := ((ops.toList.take i).filter fun o => needsSlot o.op).length
def slots (ops : Array Oper) : Nat := (ops.toList.filter fun o => needsSlot o.op).length
def putA (env : List AV) (dst : Option Tmp) (v : AV) : List AV := match dst with | some d => env.set d v | none => env
def wantA (ops : Array Oper) (env : List AV) (o : Oper) : Option Bool :=
 match o.guard with
 | none => some true
 | some (j, want) =>
  match (ops[j]?).bind (·.dst) with
  | none => some false
  | some d => match env[d]? with
   | some (.pv (.bool b)) => some (b == want)
   | some (.pv (.tup _)) => some false
   | none => some false
   | _ => none
def stepA (call : CallF) (ops : Array Oper) (base : Nat) (o : Oper) (i : Nat) (s : St) : Option (St × Cls) :=
 match wantA ops s.env o with
 | some true => (match aop P call (base + rank ops i) o.op o.type (opv glob s.env) s.H with
  | some (v, H, c) => some (⟨putA s.env o.dst v, H⟩, c)
  | none => none)
 | some false => some (⟨putA s.env o.dst .undef, s.H⟩, .free)
 | none => none
def listA (call : CallF) (ops : Array Oper) (base : Nat) : List Oper → Nat → St → Option St
 | [], _, s => some s
 | o :: rest, i, s => match stepA P glob call ops base o i s with
  | some (s, _) => listA call ops base rest (i + 1) s
  | none => none
def growH (n : Nat) (H : HS) : HS := if n = 0 then H else H ++ List.replicate n .none
def listC (call : CallF) (ops : Array Oper) (base : Nat) : List Oper → Nat → St → Option (St × List Cls)
 | [], _, s => some (s, [])
 | o :: rest, i, s => match stepA P glob call ops base o i s with
  | some (s, c) => (match listC call ops base rest (i + 1) s with | some (s, cs) => some (s, c :: cs) | none => none)
  | none => none
def clash (base : Nat) (ops : Array Oper) (i : Nat) (a : Cls) (j : Nat) (b : Cls) : Bool :=
 match a, b with
 | .free, _ | _, .free => false
 | .rd _, .rd _ => false
 | .rd x, .wr y | .wr x, .rd y | .wr x, .wr y => x == y
 | .new, .new => rank ops i == rank ops j
 | .new, .rd y | .new, .wr y => y == base + rank ops i
 | .rd x, .new | .wr x, .new => x == base + rank ops j
 | .all, _ | _, .all => true
def touch (ops : Array Oper) (x y : Oper) : Bool := !(x.apart ops y)
def pairOk (ops : Array Oper) (bf : Array Nat) (base : Nat) (i : Nat) (a : Cls) (j : Nat) (b : Cls) : Bool :=
 (bf.getD j 0).testBit i || !clash base ops i a j b
def clsOk (ops : Array Oper) (bf : Array Nat) (base : Nat) (i : Nat) (a : Cls) : Nat → List Cls → Bool
 | _, [] => true
 | j, b :: bs => pairOk ops bf base i a j b && clsOk ops bf base i a (j + 1) bs
def clssOk (ops : Array Oper) (bf : Array Nat) (base : Nat) : Nat → List Cls → Bool
 | _, [] => true
 | i, .free :: cs => clssOk ops bf base (i + 1) cs
 | i, a :: cs => clsOk ops bf base i a (i + 1) cs && clssOk ops bf base (i + 1) cs
def textOk (ops : Array Oper) : Bool :=
 let bf := Region.before ops
 ((List.range ops.size).all fun j => match ops[j]? with | some o => o.after.all (fun e => !Region.binds .any e || decide (e.on < j)) | none => true) &&
 (List.range ops.size).all fun j => (List.range j).all fun i => (bf.getD j 0).testBit i || !(match ops[i]?, ops[j]? with | some x, some y => touch ops x y | _, _ => false)
def codeOk : Code → Bool
 | .region _ ops draw => !draw || textOk ops
 | .seq a b => codeOk a && codeOk b
 | .cond _ a b => codeOk a && codeOk b
 | .block _ c | .loop c | .scope c => codeOk c
 | _ => true
def regionA (call : CallF) (ops : Array Oper) (draw : Bool) (s : St) : Option St :=
 let s1 : St := ⟨s.env, growH (slots ops) s.H⟩
 if draw then
  (match listC P glob call ops s.H.length ops.toList 0 s1 with
  | some (s2, cs) => if clssOk ops (Region.before ops) s.H.length 0 cs then some s2 else none
  | none => none)
 else listA P glob call ops s.H.length ops.toList 0 s1
def lower0 (n : Nat) : AV → Option AV
 | .ptr id off => some (if id < n then .ptr id off else .pim [])
 | .tok t v p => some (if t < n then .tok t v p else .pv p)
 | .pv p => some (.pv p)
 | .pim cs => some (.pim cs)
 | .full p => some (.full p)
 | .any => some .any
 | _ => none
def lower (n : Nat) : AV → Option AV
 | .clo f cs => (match all? (lower0 n) cs with | some cs => some (.clo f cs) | none => none)
 | .agg cs => (match all? (lower0 n) cs with | some cs => some (.agg cs) | none => none)
 | .tup cs => (match all? (lower0 n) cs with | some cs => some (.tup cs) | none => none)
 | a => lower0 n a
def lowerO (n : Nat) : HO → Option HO
 | .box cs => (match all? (lower n) cs with | some cs => some (.box cs) | none => none)
 | o => some o
def isUndef : AV → Bool
 | .pv (.tup []) => true
 | _ => false
def blank : List AV → List AV → List AV
 | [], env => env
 | _, [] => []
 | a :: as, b :: bs => (if isUndef a then .any else b) :: blank as bs
def trim (env0 : List AV) (n : Nat) (s : St) : St :=
 match all? (lower n) (blank env0 s.env), all? (lowerO n) (s.H.take n) with
 | some env, some H => ⟨env, H⟩
 | _, _ => s
def loopA (body : St → Option (Ex × St)) (env0 : List AV) (n : Nat) : Nat → St → Option (Ex × St)
 | 0, _ => none
 | k + 1, s => match body s with
  | some (.normal, s) => loopA body env0 n k (trim env0 n s)
  | r => r
def codeA (call : CallF) (k : Nat) : Code → St → Option (Ex × St)
 | .skip, s => some (.normal, s)
 | .region _ ops draw, s => (match regionA P glob call ops draw s with | some s => some (.normal, s) | none => none)
 | .seq a b, s => (match codeA call k a s with | some (.normal, s) => codeA call k b s | r => r)
 | .cond c a b, s => (match opv glob s.env c with | some (.pv (.bool true)) => codeA call k a s | some (.pv (.bool false)) => codeA call k b s | _ => none)
 | .block id c, s => (match codeA call k c s with | some (.exit j, s) => some (if j = id then .normal else .exit j, s) | r => r)
 | .loop c, s => loopA (codeA call k c) s.env s.H.length k s
 | .exit id, s => some (.exit id, s)
 | .scope c, s => codeA call k c s
 | .label _, s => some (.normal, s)
 | .ret, s => some (.ret, s)
 | _, _ => none
def resA (s : St) : ResultVar → Option AV
 | .tmp t => some ((s.env.getD t .undef).out)
 | .cell a t => (match s.env.getD a .undef with
  | .ptr id off => (match s.H[id]? with | some (.box cs) => (match partOf P t cs off with | some a => some a.out | none => none) | _ => none)
  | .pim cs => (match partP P t cs 0 with | some p => some (.pv p) | none => none)
  | _ => none)
def resultsA (fn : Func) (s : St) : Option AV :=
 match all? (resA P s) fn.results.toList with
 | some [x] => some x
 | some xs => some (tupOf xs)
 | none => none
def ev (ext : Nat → FuncId → List PV → Option PV) : Nat → FuncId → List AV → HS → Option (AV × HS)
 | 0, _, _, _ => none
 | k + 1, f, args, H =>
  match (match all? AV.pv? args with | some ps => ext k f ps | none => none) with
  | some r => some (.pv r, H)
  | none => match P.funcs[f]? with
   | some fn => (match fn.body with
    | some c => (match codeA P glob (ev ext k) k c ⟨args ++ List.replicate (fn.ntmps - args.length) .undef, H⟩ with
     | some (.normal, s) | some (.ret, s) => (match resultsA P fn s with | some r => some (r, s.H) | none => none)
     | _ => none)
    | none => none)
   | none => none
end
open Go Go.RowKit
theorem all?_get {α β : Type} {f : α → Option β} : ∀ {xs : List α} {ys : List β}, all? f xs = some ys → ys.length = xs.length ∧ ∀ (j : Nat) (x : α), xs[j]? = some x → ∃ y, ys[j]? = some y ∧ f x = some y
 | [], ys, h => by
  simp only [all?] at h
  cases h
  exact ⟨rfl, fun j x hx => by simp at hx⟩
 | x :: xs, ys, h => by
  simp only [all?] at h
  split at h
  ·rename_i y hy
   split at h
   ·rename_i zs hz
    cases h
    obtain ⟨h1, h2⟩ := all?_get hz
    refine ⟨by simp [h1], fun j a ha => ?_⟩
    cases j with
    | zero => simp at ha; subst ha; exact ⟨y, by simp, hy⟩
    | succ j => simp at ha; obtain ⟨b, hb, hf⟩ := h2 j a ha; exact ⟨b, by simpa using hb, hf⟩
   ·cases h
  ·cases h
theorem all?_mem {α β : Type} {f : α → Option β} {xs : List α} {ys : List β} (h : all? f xs = some ys) {y : β} (hy : y ∈ ys) : ∃ x ∈ xs, f x = some y := by
 obtain ⟨hl, hg⟩ := all?_get h
 obtain ⟨j, hj⟩ := List.getElem?_of_mem hy
 have hlt : j < xs.length := by
  have := (List.getElem?_eq_some_iff.1 hj).1
  omega
 obtain ⟨y', h1, h2⟩ := hg j xs[j] (List.getElem?_eq_getElem hlt)
 rw [hj] at h1
 cases h1
 exact ⟨xs[j], List.getElem_mem hlt, h2⟩
variable {P : Program} {glob : Nat → Option (List PV)} {G : Gh} {H : HS} {w : World}
theorem pv?_eq {a : AV} {p : PV} (h : a.pv? = some p) : a = .pv p := by cases a <;> simp [AV.pv?] at h; subst h; rfl
theorem RepA.of_pv {p : PV} {v : Value} (h : RepA G H w (.pv p) v) : Rep G.F w p v := by cases h with | pv p v h => exact h
theorem pure1_rep {a : AV} {p : PV} {v : Value} (h : RepA G H w a v) (hp : a.pure1 = some p) : Rep G.F w p v := by
 cases h <;> simp [AV.pure1] at hp <;> (subst hp; assumption)
theorem pure1_one {a : AV} {p : PV} (hp : a.pure1 = some p) : a.one = p.one := by
 cases a <;> simp [AV.pure1] at hp <;> (subst hp; rfl)
theorem pure_rep {a : AV} {p : PV} {v : Value} (h : RepA G H w a v) (hp : a.pure? = some p) : Rep G.F w p v := by
 cases h with
 | agg cs us hl h1 hr =>
  simp only [AV.pure?] at hp
  split at hp
  ·rename_i ps hps
   cases hp
   obtain ⟨g1, g2⟩ := all?_get hps
   refine .agg ps us (by omega) (fun y hy => ?_) (fun j p hp => ?_)
   ·obtain ⟨x, hx, he⟩ := all?_mem hps hy
    rw [← pure1_one he]
    exact h1 x hx
   ·have hlt : j < cs.length := by have := (List.getElem?_eq_some_iff.1 hp).1; omega
    obtain ⟨y, e1, e2⟩ := g2 j cs[j] (List.getElem?_eq_getElem hlt)
    rw [hp] at e1
    cases e1
    exact pure1_rep (hr j cs[j] (List.getElem?_eq_getElem hlt)) e2
  ·cases hp
 | pv => simp only [AV.pure?, Option.some.injEq] at hp; subst hp; assumption
 | tok => simp only [AV.pure?, Option.some.injEq] at hp; subst hp; assumption
 | full => simp only [AV.pure?, Option.some.injEq] at hp; subst hp; assumption
 | ptr => simp [AV.pure?] at hp
 | pim => simp [AV.pure?] at hp
 | clo => simp [AV.pure?] at hp
 | tup => simp [AV.pure?] at hp
 | any => simp [AV.pure?] at hp
theorem out_rep {a : AV} {v : Value} (h : RepA G H w a v) : RepA G H w a.out v := by
 unfold AV.out
 split
 ·rename_i p hp; exact .pv _ _ (pure_rep h hp)
 ·exact h
theorem aggOf_rep {cs : List AV} {us : List Value} (hl : us.length = cs.length) (h1 : ∀ y ∈ cs, y.one = true) (hr : ∀ (j : Nat) (a : AV), cs[j]? = some a → RepA G H w a (us.getD j Go.undef)) : RepA G H w (aggOf cs) (.agg us.toArray) := by
 unfold aggOf
 split
 ·rename_i ps hps
  obtain ⟨g1, g2⟩ := all?_get hps
  refine .pv _ _ (.agg ps us (by omega) (fun y hy => ?_) (fun j p hp => ?_))
  ·obtain ⟨x, hx, he⟩ := all?_mem hps hy
   have := h1 x hx
   rw [pv?_eq he] at this
   exact this
  ·have hlt : j < cs.length := by have := (List.getElem?_eq_some_iff.1 hp).1; omega
   obtain ⟨y, e1, e2⟩ := g2 j cs[j] (List.getElem?_eq_getElem hlt)
   rw [hp] at e1
   cases e1
   have := hr j cs[j] (List.getElem?_eq_getElem hlt)
   rw [pv?_eq e2] at this
   exact this.of_pv
 ·exact .agg cs us hl h1 hr
theorem tupOf_rep {cs : List AV} {us : List Value} (hl : us.length = cs.length) (hr : ∀ (j : Nat) (a : AV), cs[j]? = some a → RepA G H w a (us.getD j Go.undef)) : RepA G H w (tupOf cs) (.tuple us.toArray) := by
 unfold tupOf
 split
 ·rename_i ps hps
  obtain ⟨g1, g2⟩ := all?_get hps
  refine .pv _ _ (.tup ps us (by omega) (fun j p hp => ?_))
  have hlt : j < cs.length := by have := (List.getElem?_eq_some_iff.1 hp).1; omega
  obtain ⟨y, e1, e2⟩ := g2 j cs[j] (List.getElem?_eq_getElem hlt)
  rw [hp] at e1
  cases e1
  have := hr j cs[j] (List.getElem?_eq_getElem hlt)
  rw [pv?_eq e2] at this
  exact this.of_pv
 ·exact .tup cs us hl hr
theorem run_sizeT {t : TypeId} {n : Nat} (h : sizeT P t = some n) : (sizeOf t).run P w = .ok n w := by
 unfold sizeT at h
 split at h
 ·rename_i i hi
  cases h
  simp [sizeOf, typeInfo, hi]
 ·cases h
theorem run_isAggT {t : TypeId} {b : Bool} (h : isAggT P t = some b) : (isAgg t).run P w = .ok b w := by
 unfold isAggT at h
 unfold isAgg
 rw [Sem.run_bind]
 split at h <;> first | cases h | skip
 ·rename_i hu; rw [run_underlying hu w]; rfl
 ·rename_i hu; rw [run_underlying hu w]; rfl
 ·rename_i d h1 h2 hu
  rw [run_underlying hu w]
  cases d <;> first | rfl | exact (h1 _ rfl).elim | exact (h2 _ _ rfl).elim
theorem add_none (b o n : Nat) : (⟨b, o, none⟩ : Addr).add n = ⟨b, o + n, none⟩ := by unfold Addr.add; split <;> simp_all
theorem run_loadVar_at {t : TypeId} {b : Bool} {n bl off : Nat} (ha : isAggT P t = some b) (hs : sizeT P t = some n) (us : List Value) (hu : ∀ j u, us[j]? = some u → w.cell? ⟨bl, off + j, none⟩ = some u) :
  (b = true → us.length = n → (loadVar t ⟨bl, off, none⟩).run P w = .ok (.agg us.toArray) w) ∧ (b = false → ∀ u, us[0]? = some u → (loadVar t ⟨bl, off, none⟩).run P w = .ok u w) := by
 constructor
 ·rintro rfl rfl
  have := run_loadCells_list (P := P) w ⟨bl, off, none⟩ us (fun j v hv => by rw [add_none]; exact hu j v hv)
  simp [loadVar, run_isAggT ha, run_sizeT hs, this]
 ·rintro rfl u hu0
  have hc := hu 0 u hu0
  simp only [Nat.add_zero] at hc
  simp [loadVar, run_isAggT ha, hc]
theorem drop_take_get {α : Type} {cs : List α} {off n j : Nat} {a : α} (h : ((cs.drop off).take n)[j]? = some a) : cs[off + j]? = some a := by
 rw [List.getElem?_take] at h
 split at h
 ·simpa using h
 ·cases h
theorem partOf_rep {t : TypeId} {cs : List AV} {off : Nat} {v : AV} (h : partOf P t cs off = some v) (_h1 : ∀ y ∈ cs, y.one = true) :
  ∃ b n, isAggT P t = some b ∧ sizeT P t = some n ∧ (b = true → off + n ≤ cs.length ∧ v = aggOf ((cs.drop off).take n)) ∧ (b = false → cs[off]? = some v) := by
 unfold partOf at h
 split at h
 ·rename_i n hb hn
  split at h
  ·rename_i hle
   cases h
   exact ⟨true, n, hb, hn, fun _ => ⟨hle, rfl⟩, fun e => by cases e⟩
  ·cases h
 ·rename_i n hb hn
  exact ⟨false, n, hb, hn, fun e => by (cases e), fun _ => h⟩
 ·cases h
theorem partP_rep {t : TypeId} {cs : List PV} {off : Nat} {v : PV} (h : partP P t cs off = some v) :
  ∃ b n, isAggT P t = some b ∧ sizeT P t = some n ∧ (b = true → off + n ≤ cs.length ∧ v = .agg ((cs.drop off).take n)) ∧ (b = false → cs[off]? = some v) := by
 unfold partP at h
 split at h
 ·rename_i n hb hn
  split at h
  ·rename_i hle
   cases h
   exact ⟨true, n, hb, hn, fun _ => ⟨hle, rfl⟩, fun e => by cases e⟩
  ·cases h
 ·rename_i n hb hn
  exact ⟨false, n, hb, hn, fun e => by (cases e), fun _ => h⟩
 ·cases h
theorem load_pim {t : TypeId} {cs : List PV} {v : PV} {u : Value} (hr : RepA G H w (.pim cs) u) (h : partP P t cs 0 = some v) : ∃ x, (Instr.loadAt t u).run P w = .ok x w ∧ RepA G H w (.pv v) x := by
 cases hr with
 | pim b o cs us h1 hu hr =>
  obtain ⟨bb, n, ha, hs, ht, hf⟩ := partP_rep h
  have hcell : ∀ j x, ((List.range cs.length).map us)[j]? = some x → w.cell? ⟨b, o + j, none⟩ = some x := fun j x hx => by
   have hlt : j < cs.length := by have := (List.getElem?_eq_some_iff.1 hx).1; simpa using this
   simp [hlt] at hx
   subst hx
   exact (hu j hlt).1
  cases bb with
  | true =>
   obtain ⟨hle, rfl⟩ := ht rfl
   have hl : (((List.range cs.length).map us).take n).length = n := by simp; omega
   have hrun := (run_loadVar_at (P := P) (w := w) ha hs (((List.range cs.length).map us).take n) (bl := b) (off := o) (fun j x hx => hcell j x (by rw [List.getElem?_take] at hx; split at hx <;> first | exact hx | cases hx))).1 rfl hl
   refine ⟨_, by simpa [Instr.loadAt, Instr.sureAddr] using hrun, .pv _ _ (.agg _ _ (by simp) (fun y hy => h1 y (List.mem_of_mem_drop (List.mem_of_mem_take hy))) (fun j p hp => ?_))⟩
   have hp' := drop_take_get hp
   simp only [Nat.zero_add] at hp'
   have hlt : j < cs.length := (List.getElem?_eq_some_iff.1 hp').1
   have hjn : j < n := by have := (List.getElem?_eq_some_iff.1 hp).1; simp at this; omega
   have e : ((((List.range cs.length).map us).take n)).getD j Go.undef = us j := by
    rw [List.getD_eq_getElem?_getD, List.getElem?_take, if_pos hjn]
    simp [hlt]
   rw [e]
   exact hr j p hp'
  | false =>
   have h0 := hf rfl
   have hlt : 0 < cs.length := (List.getElem?_eq_some_iff.1 h0).1
   have hrun := (run_loadVar_at (P := P) (w := w) ha hs ((List.range cs.length).map us) (bl := b) (off := o) hcell).2 rfl (us 0) (by simp [hlt])
   exact ⟨_, by simpa [Instr.loadAt, Instr.sureAddr] using hrun, .pv _ _ (hr 0 v h0)⟩
theorem box_get {us : Array Value} {j : Nat} (h : j < us.size) : us.toList[j]? = some (us.getD j Go.undef) := by simp [h]
theorem load_ptr {t : TypeId} {id off : Nat} {cs : List AV} {v : AV} (hH : HRep glob G H w) (hb : H[id]? = some (.box cs)) (h : partOf P t cs off = some v) :
  ∃ x, (Instr.loadAt t (.pointer (some ⟨G.ρ id, off, none⟩))).run P w = .ok x w ∧ RepA G H w v x := by
 obtain ⟨us, e, hh, hsz, h1, hr, _⟩ := hH.box id cs hb
 obtain ⟨bb, n, ha, hs, ht, hf⟩ := partOf_rep h h1
 have hcell : ∀ j x, (us.toList.drop off)[j]? = some x → w.cell? ⟨G.ρ id, off + j, none⟩ = some x := fun j x hx => by
  rw [cell_of_row w _ _ _ _ _ hh]
  simpa using hx
 cases bb with
 | true =>
  obtain ⟨hle, rfl⟩ := ht rfl
  have hl : ((us.toList.drop off).take n).length = n := by simp; omega
  have hrun := (run_loadVar_at (P := P) (w := w) ha hs ((us.toList.drop off).take n) (bl := G.ρ id) (off := off) (fun j x hx => hcell j x (by rw [List.getElem?_take] at hx; split at hx <;> first | exact hx | cases hx))).1 rfl hl
  refine ⟨_, by simpa [Instr.loadAt, Instr.sureAddr] using hrun, aggOf_rep (by simp; omega) (fun y hy => h1 y (List.mem_of_mem_drop (List.mem_of_mem_take hy))) (fun j a ha' => ?_)⟩
  have hp := drop_take_get ha'
  have hjn : j < n := by have := (List.getElem?_eq_some_iff.1 ha').1; simp at this; omega
  have e2 : ((us.toList.drop off).take n).getD j Go.undef = us.getD (off + j) Go.undef := by
   rw [List.getD_eq_getElem?_getD, List.getElem?_take, if_pos hjn]
   simp
  rw [e2]
  exact hr _ a hp
 | false =>
  have h0 := hf rfl
  have hlt : off < us.size := by have := (List.getElem?_eq_some_iff.1 h0).1; omega
  have hrun := (run_loadVar_at (P := P) (w := w) ha hs (us.toList.drop off) (bl := G.ρ id) (off := off) hcell).2 rfl (us.getD off Go.undef) (by simp [hlt])
  exact ⟨_, by simpa [Instr.loadAt, Instr.sureAddr] using hrun, hr off v h0⟩
def Gh.setρ (G : Gh) (id b : Nat) : Gh := { G with ρ := fun i => if i = id then b else G.ρ i }
def Gh.setτ (G : Gh) (id : Nat) (v : Value) : Gh := { G with τ := fun i => if i = id then v else G.τ i }
theorem set_get_ne {α : Type} {l : List α} {i j : Nat} {x : α} (h : j ≠ i) : (l.set i x)[j]? = l[j]? := List.getElem?_set_ne (Ne.symm h)
theorem set_get_eq {α : Type} {l : List α} {i : Nat} {x y : α} (h : l[i]? = some y) : (l.set i x)[i]? = some x := by
 have hlt := (List.getElem?_eq_some_iff.1 h).1
 simp [hlt]
theorem at_dead {id : Nat} (h : H[id]? = some .none) : G.at H id = none := by unfold Gh.at; rw [h]
theorem new_box {id : Nat} {cs : List AV} {us : Array Value} {e : TypeId} (hH : HRep glob G H w) (hid : H[id]? = some .none) (hl : us.size = cs.length) (h1 : ∀ y ∈ cs, y.one = true)
  (hr : ∀ (j : Nat) (a : AV), cs[j]? = some a → RepA G H w a (us.getD j Go.undef)) :
  ∃ G', RepA G' (H.set id (.box cs)) (w.alloc (.cells us e)) (.ptr id 0) (.pointer (some ⟨w.heap.size, 0, none⟩)) ∧ HRep glob G' (H.set id (.box cs)) (w.alloc (.cells us e)) ∧ Ext G H w G' (H.set id (.box cs)) (w.alloc (.cells us e)) := by
 have hnew : (H.set id (.box cs))[id]? = some (.box cs) := set_get_eq hid
 have ex : Ext G H w (G.setρ id w.heap.size) (H.set id (.box cs)) (w.alloc (.cells us e)) := {
  os := rfl
  tape := rfl
  output := rfl
  size := by simp
  F_mono := fun _ _ h => h
  cells := fun b o hF => World.cell?_alloc_lt w _ ⟨b, o, none⟩ (hH.old b o hF)
  F_new := fun _ _ h => .inl h
  box := fun i c hi => by
   have hne : i ≠ id := fun e => by rw [e, hid] at hi; cases hi
   exact ⟨by simp [Gh.setρ, hne], c, (set_get_ne hne).trans hi⟩
  tok := fun i v e s hi => by
   have hne : i ≠ id := fun e => by rw [e, hid] at hi; cases hi
   exact ⟨v, (set_get_ne hne).trans hi, Nat.le_refl _, fun _ => rfl, .inl rfl⟩
  new := fun i k hn hk => by
   by_cases hi : i = id
   ·subst hi
    rw [Gh.at_box hnew] at hk
    simp [Gh.setρ] at hk
    omega
   ·have : (H.set id (.box cs))[i]? = H[i]? := set_get_ne hi
    obtain ⟨x, hx, hlv⟩ := Gh.at_live hk
    rw [this] at hx
    exact absurd hlv (by rw [hn x hx]; simp)
  blocks := fun b hb _ => Below.heap_alloc w _ b hb }
 have hbox : BoxOk (G.setρ id w.heap.size) (H.set id (.box cs)) (w.alloc (.cells us e)) id cs :=
  ⟨us, e, by rw [show (G.setρ id w.heap.size).ρ id = w.heap.size by simp [Gh.setρ]]; exact heap_alloc_new w _, hl, h1, fun j a ha => (hr j a ha).ext ex, fun j hj => by
   have := hH.old _ _ (show G.F _ _ from hj)
   simp [Gh.setρ] at this⟩
 refine ⟨_, ?_, hH.step id ex (fun i hi => ⟨set_get_ne hi, rfl, by simp [Gh.setρ, hi]⟩) (fun b hb _ => Below.heap_alloc w _ b hb) (fun b o h => .inl h) (fun k hk => ?_) (fun cs' h => ?_) (fun v e s h => ?_) (fun b o h => ?_), ex⟩
 ·have := RepA.ptr (G := G.setρ id w.heap.size) (w := w.alloc (.cells us e)) id 0 cs hnew
  simpa [Gh.setρ] using this
 ·rw [Gh.at_box hnew] at hk
  simp [Gh.setρ] at hk
  exact .inr (by omega)
 ·rw [hnew] at h
  cases h
  exact hbox
 ·rw [hnew] at h
  cases h
 ·have := hH.old b o h
  simp
  omega
variable {P : Program} {glob : Nat → Option (List PV)} {G : Gh} {H : HS} {w : World}
theorem one_cells {v : Value} (h : v.oneCell' = true) : v.cells = #[v] := by cases v <;> first | rfl | (simp [Value.oneCell'] at h)
theorem cellsA_rep {v : AV} {y : Value} {xs : List AV} (h : RepA G H w v y) (hc : v.cells = some xs) : y.cells.size = xs.length ∧ ∀ (j : Nat) (a : AV), xs[j]? = some a → RepA G H w a (y.cells.getD j Go.undef) := by
 have single : v.one = true → xs = [v] → (y.cells.size = xs.length ∧ ∀ (j : Nat) (a : AV), xs[j]? = some a → RepA G H w a (y.cells.getD j Go.undef)) := by
  rintro h1 rfl
  rw [one_cells (h.one h1)]
  refine ⟨rfl, fun j a ha => ?_⟩
  cases j with
  | zero => simp at ha; subst ha; exact h
  | succ j => simp at ha
 cases h with
 | pv p y h =>
  have hp : (∀ vs, p ≠ .tup vs) ∧ xs = p.cells.map .pv := by cases p <;> simp [AV.cells] at hc <;> (subst hc; exact ⟨fun vs e => (by cases e), rfl⟩)
  obtain ⟨h1, h2, h3⟩ := h.cells hp.1
  rw [hp.2]
  refine ⟨by simpa using h1, fun j a ha => ?_⟩
  simp only [List.getElem?_map, Option.map_eq_some_iff] at ha
  obtain ⟨q, hq, rfl⟩ := ha
  exact .pv _ _ (h3 j q hq)
 | agg cs us hl h1 hr =>
  simp [AV.cells] at hc
  subst hc
  exact ⟨by simpa [Value.cells] using hl, fun j a ha => by simpa [Value.cells] using hr j a ha⟩
 | tup => simp [AV.cells] at hc
 | ptr id off cs hb => simp [AV.cells, AV.one] at hc; exact single rfl hc.symm
 | pim => simp [AV.cells, AV.one] at hc; exact single rfl hc.symm
 | tok t ver cur e sz p v h ht hle he =>
  simp only [AV.cells] at hc
  split at hc
  ·rename_i h1; cases hc; exact single h1 rfl
  ·cases hc
 | full p v h hf =>
  simp only [AV.cells] at hc
  split at hc
  ·rename_i h1; cases hc; exact single h1 rfl
  ·cases hc
 | clo => simp [AV.cells, AV.one] at hc; exact single rfl hc.symm
 | any => simp [AV.cells, AV.one] at hc
theorem cells_one {v : AV} {y : Value} {xs : List AV} (h : RepA G H w v y) (hc : v.cells = some xs) : ∀ a ∈ xs, a.one = true := by
 cases h with
 | pv p y h =>
  have hp : (∀ vs, p ≠ .tup vs) ∧ xs = p.cells.map .pv := by cases p <;> simp [AV.cells] at hc <;> (subst hc; exact ⟨fun vs e => (by cases e), rfl⟩)
  intro a ha
  rw [hp.2] at ha
  simp only [List.mem_map] at ha
  obtain ⟨q, hq, rfl⟩ := ha
  exact (h.cells hp.1).2.1 q hq
 | agg cs us hl h1 hr => simp [AV.cells] at hc; subst hc; exact h1
 | tup => simp [AV.cells] at hc
 | ptr id off cs hb => simp [AV.cells, AV.one] at hc; subst hc; intro a ha; rw [List.mem_singleton.1 ha]; rfl
 | pim => simp [AV.cells, AV.one] at hc; subst hc; intro a ha; rw [List.mem_singleton.1 ha]; rfl
 | tok t ver cur e sz p v h ht hle he =>
  simp only [AV.cells] at hc
  split at hc
  ·rename_i h1; cases hc; intro a ha; rw [List.mem_singleton.1 ha]; exact h1
  ·cases hc
 | full p v h hf =>
  simp only [AV.cells] at hc
  split at hc
  ·rename_i h1; cases hc; intro a ha; rw [List.mem_singleton.1 ha]; exact h1
  ·cases hc
 | clo => simp [AV.cells, AV.one] at hc; subst hc; intro a ha; rw [List.mem_singleton.1 ha]; rfl
 | any => simp [AV.cells, AV.one] at hc
theorem splice_len {cs xs : List AV} {off : Nat} (h : off + xs.length ≤ cs.length) : (splice cs off xs).length = cs.length := by
 unfold splice
 simp
 omega
theorem splice_get {α : Type} {cs xs : List α} {off : Nat} (h : off + xs.length ≤ cs.length) (j : Nat) : (cs.take off ++ xs ++ cs.drop (off + xs.length))[j]? = if j < off then cs[j]? else if j < off + xs.length then xs[j - off]? else cs[j]? := by
 rw [List.getElem?_append, List.length_append, List.length_take, Nat.min_eq_left (by omega)]
 by_cases h1 : j < off
 ·rw [if_pos (by omega), List.getElem?_append, List.length_take, Nat.min_eq_left (by omega), if_pos h1, if_pos h1, List.getElem?_take, if_pos h1]
 ·rw [if_neg h1]
  by_cases h2 : j < off + xs.length
  ·rw [if_pos h2, if_pos h2, List.getElem?_append, List.length_take, Nat.min_eq_left (by omega), if_neg h1]
  ·rw [if_neg h2, if_neg h2, List.getElem?_drop]
   congr 1
   omega
theorem store_ptr {t : TypeId} {id off : Nat} {cs xs : List AV} {v : AV} {y : Value} (hH : HRep glob G H w) (hb : H[id]? = some (.box cs)) (hv : RepA G H w v y) (hc : v.cells = some xs) (hn : sizeT P t = some xs.length)
  (hle : off + xs.length ≤ cs.length) (h1 : ∀ a ∈ xs, a.one = true) :
  ∃ w', (Instr.storeAt t (.pointer (some ⟨G.ρ id, off, none⟩)) y).run P w = .ok () w' ∧ HRep glob G (H.set id (.box (splice cs off xs))) w' ∧ Ext G H w G (H.set id (.box (splice cs off xs))) w' := by
 obtain ⟨us, e, hh, hsz, h1c, hr, hnf⟩ := hH.box id cs hb
 obtain ⟨hy1, hy2⟩ := cellsA_rep hv hc
 have hyl : y.cells.toList.length = xs.length := by simpa using hy1
 have hone : ∀ u ∈ y.cells.toList, u.oneCell' = true := fun u hu => by
  obtain ⟨j, hj⟩ := List.getElem?_of_mem hu
  have hlt : j < xs.length := by have := (List.getElem?_eq_some_iff.1 hj).1; omega
  have := (hy2 j xs[j] (List.getElem?_eq_getElem hlt)).one (h1 _ (List.getElem_mem hlt))
  have e2 : y.cells.getD j Go.undef = u := by
   have : y.cells[j]? = some u := by simpa using hj
   simp [this]
  rwa [e2] at this
 have hst := run_storeCells_at (P := P) (G.ρ id) off e y.cells.toList 0 us w hh (by omega) hone
 simp only [Nat.add_zero] at hst
 have hrun : (Instr.storeAt t (.pointer (some ⟨G.ρ id, off, none⟩)) y).run P w = .ok () (w.setRow (G.ρ id) (us.toList.take off ++ y.cells.toList ++ us.toList.drop (off + y.cells.toList.length)).toArray) := by
  simp only [Instr.storeAt, Instr.sureAddr, storeVar, Sem.run_bind, Sem.run_pure, Result.andThen_ok, run_sizeT hn]
  rw [if_neg (by omega)]
  exact hst
 have hnew : (H.set id (.box (splice cs off xs)))[id]? = some (.box (splice cs off xs)) := set_get_eq hb
 have hat := Gh.at_box (G := G) hb
 have ex : Ext G H w G (H.set id (.box (splice cs off xs))) (w.setRow (G.ρ id) (us.toList.take off ++ y.cells.toList ++ us.toList.drop (off + y.cells.toList.length)).toArray) := {
  os := rfl
  tape := rfl
  output := rfl
  size := by simp
  F_mono := fun _ _ h => h
  cells := fun b o hF => by
   have hne : b ≠ G.ρ id := fun e => hnf o (e ▸ hF)
   exact World.cell?_of_block (a := ⟨b, o, none⟩) (setRow_other w (G.ρ id) b _ hne)
  F_new := fun _ _ h => .inl h
  box := fun i c hi => by
   by_cases h : i = id
   ·subst h; exact ⟨rfl, _, hnew⟩
   ·exact ⟨rfl, c, (set_get_ne h).trans hi⟩
  tok := fun i ver e sz hi => by
   have hne : i ≠ id := fun e => by rw [e, hb] at hi; cases hi
   exact ⟨ver, (set_get_ne hne).trans hi, Nat.le_refl _, fun _ => rfl, .inl rfl⟩
  new := fun i k hn' hk => by
   by_cases h : i = id
   ·subst h; exact absurd (hn' _ hb) (by simp [HO.live])
   ·obtain ⟨x, hx, hlv⟩ := Gh.at_live hk
    rw [set_get_ne h] at hx
    exact absurd hlv (by rw [hn' x hx]; simp)
  blocks := fun b hb' hn' => setRow_other w (G.ρ id) b _ (fun e => hn' id (e ▸ hat)) }
 refine ⟨_, hrun, hH.step id ex (fun i hi => ⟨set_get_ne hi, rfl, rfl⟩) (fun b hb' hn' => setRow_other w (G.ρ id) b _ (fun e => hn' (e ▸ hat))) (fun b o h => .inl h) (fun k hk => .inl ?_) (fun cs' h => ?_) (fun ver e sz h => ?_) (fun b o h => by simpa using hH.old b o h), ex⟩
 ·rw [hat]
  rw [Gh.at_box hnew] at hk
  exact hk
 ·rw [hnew] at h
  cases h
  refine ⟨_, e, setRow_heap w (G.ρ id) us _ e _ hh, ?_, fun a ha => ?_, fun j a ha => ?_, hnf⟩
  ·rw [splice_len hle]
   simp
   omega
  ·unfold splice at ha
   rcases List.mem_append.1 ha with ha | ha
   ·rcases List.mem_append.1 ha with ha | ha
    ·exact h1c a (List.mem_of_mem_take ha)
    ·exact h1 a ha
   ·exact h1c a (List.mem_of_mem_drop ha)
  ·have hs := splice_get hle j
   unfold splice at ha
   rw [hs] at ha
   have hu := splice_get (cs := us.toList) (xs := y.cells.toList) (off := off) (by simp at hyl ⊢; omega) j
   have e2 : ∀ (z : Value), (us.toList.take off ++ y.cells.toList ++ us.toList.drop (off + y.cells.toList.length))[j]? = some z → (us.toList.take off ++ y.cells.toList ++ us.toList.drop (off + y.cells.toList.length)).toArray.getD j Go.undef = z := fun z hz => by
    simp only [Array.getD_eq_getD_getElem?, List.getElem?_toArray, hz]
    rfl
   rw [hyl] at hu
   rw [hyl] at e2
   split at ha
   ·rename_i hj
    rw [if_pos hj] at hu
    have hlt : j < us.size := by omega
    rw [hyl, e2 (us.getD j Go.undef) (hu.trans (box_get hlt))]
    have := (hr j a ha).ext ex
    rwa [hyl] at this
   ·rename_i hj
    rw [if_neg hj] at hu
    split at ha
    ·rename_i hj2
     rw [if_pos hj2] at hu
     have hlt : j - off < y.cells.size := by simp at hyl; omega
     rw [hyl, e2 (y.cells.getD (j - off) Go.undef) (hu.trans (box_get hlt))]
     have := (hy2 (j - off) a ha).ext ex
     rwa [hyl] at this
    ·rename_i hj2
     rw [if_neg hj2] at hu
     have hlt : j < us.size := by have := (List.getElem?_eq_some_iff.1 ha).1; omega
     rw [hyl, e2 (us.getD j Go.undef) (hu.trans (box_get hlt))]
     have := (hr j a ha).ext ex
     rwa [hyl] at this
 ·rw [hnew] at h
  cases h
theorem Rep.row {F : Nat → Nat → Prop} {nn : Option Bool} {sz : Nat} {xs : List PV} {v : Value} (h : Rep F w (.sl nn sz xs) v) :
  (nn ≠ some true ∧ xs = [] ∧ v = .slice none 0 0) ∨ (nn ≠ some false ∧ ∃ b o c, v = .slice (some ⟨b, o, none⟩) xs.length c ∧ xs.length ≤ c ∧ (∀ x ∈ xs, x.cells.length = sz) ∧ (∀ x ∈ xs, ∀ y ∈ x.cells, y.one = true) ∧
   ∃ us : List Value, us.length = xs.length * sz ∧ (∀ (j : Nat) (u : Value), us[j]? = some u → w.cell? ⟨b, o + j, none⟩ = some u ∧ F b (o + j)) ∧ (∀ u ∈ us, u.oneCell' = true) ∧
    ∀ (j : Nat) (p : PV), (xs.flatMap PV.cells)[j]? = some p → Rep F w p (us.getD j Go.undef)) := by
 cases h with
 | nilsl nn hn sz => exact .inl ⟨hn, rfl, rfl⟩
 | sl nn hn b o c sz xs u hc hs h1 hu hr =>
  have hfl : (xs.flatMap PV.cells).length = xs.length * sz := by
   clear hc hu hr h1
   induction xs with
   | nil => simp
   | cons x xs ih => simp only [List.flatMap_cons, List.length_append, hs x (List.mem_cons_self), ih (fun y hy => hs y (List.mem_cons_of_mem _ hy)), List.length_cons, Nat.add_mul]; omega
  refine .inr ⟨hn, b, o, c, rfl, hc, hs, h1, (List.range (xs.length * sz)).map u, by simp, fun j v hv => ?_, fun v hv => ?_, fun j p hp => ?_⟩
  ·have hlt : j < xs.length * sz := by have := (List.getElem?_eq_some_iff.1 hv).1; simpa using this
   simp [hlt] at hv
   subst hv
   exact hu j hlt
  ·simp only [List.mem_map, List.mem_range] at hv
   obtain ⟨j, hj, rfl⟩ := hv
   have hj2 : j < (xs.flatMap PV.cells).length := by omega
   refine (hr j _ (List.getElem?_eq_getElem hj2)).one ?_
   have := List.getElem_mem hj2
   obtain ⟨x, hx, hy⟩ := List.mem_flatMap.1 this
   exact h1 x hx _ hy
  ·have hlt : j < xs.length * sz := by have := (List.getElem?_eq_some_iff.1 hp).1; omega
   have e : ((List.range (xs.length * sz)).map u).getD j Go.undef = u j := by simp [List.getD_eq_getElem?_getD, hlt]
   rw [e]
   exact hr j p hp
theorem flat_len {xs : List PV} {sz : Nat} (hs : ∀ x ∈ xs, x.cells.length = sz) : (xs.flatMap PV.cells).length = xs.length * sz := by
 induction xs with
 | nil => simp
 | cons x xs ih => simp only [List.flatMap_cons, List.length_append, hs x (List.mem_cons_self), ih (fun y hy => hs y (List.mem_cons_of_mem _ hy)), List.length_cons, Nat.add_mul]; omega
theorem tok_step {tk e sz ver' : Nat} {w' : World} {v' : Value} {zs : List PV} {us : List Value} {ho : HO} (hH : HRep glob G H w) (hho : H[tk]? = some ho)
  (hkind : ho = .none ∨ ∃ cur, ho = .tok cur e sz ∧ ver' = cur + 1)
  (os : w'.os = w.os) (tape : w'.tape = w.tape) (output : w'.output = w.output) (size : w.heap.size ≤ w'.heap.size)
  (blocks : ∀ k, k < w.heap.size → G.at H tk ≠ some k → w'.heap[k]? = w.heap[k]?)
  (cells : ∀ b o, G.F b o → w'.cell? ⟨b, o, none⟩ = w.cell? ⟨b, o, none⟩)
  (place : (v'.ownBlock = G.at H tk) ∨ ∀ k, v'.ownBlock = some k → w.heap.size ≤ k)
  (hown : w'.ownsRow 0 e sz v' zs.length us) (hpos : 0 < zs.length)
  (hs : ∀ x ∈ zs, x.cells.length = sz) (h1 : ∀ x ∈ zs, ∀ y ∈ x.cells, y.one = true)
  (hr : ∀ (j : Nat) (p : PV), (zs.flatMap PV.cells)[j]? = some p → Rep G.F w p (us.getD j Go.undef))
  (hmore : ∀ k j, v'.ownBlock = some k → zs.length * sz ≤ j → ¬ G.F k j) :
  ∃ G', RepA G' (H.set tk (.tok ver' e sz)) w' (.tok tk ver' (.sl (some true) sz zs)) v' ∧ HRep glob G' (H.set tk (.tok ver' e sz)) w' ∧ Ext G H w G' (H.set tk (.tok ver' e sz)) w' := by
 have hnew : (H.set tk (.tok ver' e sz))[tk]? = some (.tok ver' e sz) := set_get_eq hho
 let G' : Gh := { F := fun b o => G.F b o ∨ (v'.ownBlock = some b ∧ o < zs.length * sz), ρ := G.ρ, τ := (G.setτ tk v').τ }
 have hτ : G'.τ tk = v' := by simp [G', Gh.setτ]
 have hτn : ∀ i, i ≠ tk → G'.τ i = G.τ i := fun i hi => by simp [G', Gh.setτ, hi]
 have hblk : ∀ k, v'.ownBlock = some k → G.at H tk = some k ∨ w.heap.size ≤ k := fun k hk => by
  rcases place with p | p
  ·exact .inl (p ▸ hk)
  ·exact .inr (p k hk)
 have ex : Ext G H w G' (H.set tk (.tok ver' e sz)) w' := {
  os := os
  tape := tape
  output := output
  size := size
  F_mono := fun _ _ h => .inl h
  cells := cells
  F_new := fun b o h => by
   rcases h with h | ⟨h, _⟩
   ·exact .inl h
   ·rcases hblk b h with p | p
    ·rcases hkind with rfl | ⟨cur, rfl, _⟩
     ·rw [at_dead hho] at p; cases p
     ·rw [Gh.at_tok hho] at p
      exact .inr (.inr ⟨tk, cur, e, sz, hho, p⟩)
    ·exact .inr (.inl p)
  box := fun i c hi => by
   have hne : i ≠ tk := fun e => by rw [e, hho] at hi; cases hi; rcases hkind with h | ⟨_, h, _⟩ <;> cases h
   exact ⟨rfl, c, (set_get_ne hne).trans hi⟩
  tok := fun i ver e2 s2 hi => by
   by_cases h : i = tk
   ·subst h
    rcases hkind with rfl | ⟨cur, rfl, hv⟩
    ·rw [hho] at hi; cases hi
    ·rw [hho] at hi
     cases hi
     refine ⟨ver', hnew, by omega, fun e => by omega, ?_⟩
     rw [hτ]
     rcases place with p | p
     ·exact .inl (p.trans (Gh.at_tok hho))
     ·exact .inr p
   ·exact ⟨ver, (set_get_ne h).trans hi, Nat.le_refl _, fun _ => hτn i h, .inl (by rw [hτn i h])⟩
  new := fun i k hn' hk => by
   by_cases h : i = tk
   ·subst h
    rw [Gh.at_tok hnew, hτ] at hk
    rcases hblk k hk with p | p
    ·obtain ⟨x, hx, hlv⟩ := Gh.at_live p
     exact absurd hlv (by rw [hn' x hx]; simp)
    ·exact p
   ·obtain ⟨x, hx, hlv⟩ := Gh.at_live hk
    rw [set_get_ne h] at hx
    exact absurd hlv (by rw [hn' x hx]; simp)
  blocks := fun b hb hn' => blocks b hb (fun e => hn' tk e) }
 have hrep : Rep G'.F w' (.sl (some true) sz zs) v' := by
  rcases hown.2 with ⟨rfl, h0⟩ | ⟨g, cap, cur, rfl, _, hh, hnc, _, hcs, htk⟩
  ·omega
  ·have hc : ∀ j, j < zs.length * sz → w'.cell? ⟨g, 0 + j, none⟩ = some (us.getD j Go.undef) := fun j hj => by
    have hlu : us.length = zs.length * sz := hown.1
    rw [Nat.zero_add, cell_of_row w' g j cur e (0, 0) hh]
    have : us[j]? = cur.toList[j]? := by rw [← htk, List.getElem?_take, if_pos hj]
    rw [List.getD_eq_getElem?_getD, List.getElem?_eq_getElem (by omega : j < us.length)]
    rw [List.getElem?_eq_getElem (by omega : j < us.length)] at this
    simpa using this.symm
   exact .sl (some true) (by simp) g 0 cap sz zs (fun j => us.getD j Go.undef) hnc hs h1 (fun j hj => ⟨hc j hj, .inr ⟨rfl, by omega⟩⟩) (fun j p hp => (hr j p hp).mono ex.F_mono ex.cells)
 refine ⟨G', .tok tk ver' ver' e sz _ _ hrep hnew (Nat.le_refl _) (fun _ => hτ.symm), hH.step tk ex (fun i hi => ⟨set_get_ne hi, hτn i hi, rfl⟩) blocks (fun b o h => ?_) (fun k hk => ?_) (fun cs h => ?_) (fun v2 e2 s2 h => ?_) (fun b o h => ?_), ex⟩
 ·rcases h with h | ⟨h, _⟩
  ·exact .inl h
  ·rcases hblk b h with p | p
   ·exact .inr (.inr p)
   ·exact .inr (.inl p)
 ·rw [Gh.at_tok hnew, hτ] at hk
  exact hblk k hk
 ·rw [hnew] at h; cases h
 ·rw [hnew] at h
  cases h
  unfold TokOk
  rw [hτ]
  refine ⟨zs.length, us, hown, fun k j hk hj hf => ?_⟩
  rcases hf with hf | ⟨_, hf⟩
  ·exact hmore k j hk hj hf
  ·omega
 ·rcases h with h | ⟨h, _⟩
  ·exact Nat.lt_of_lt_of_le (hH.old b o h) size
  ·exact own_lt hown h
theorem run_append_none {t t2 ty e : TypeId} {i : TypeInfo} (ht : P.underlying t = some (.slice e)) (hi : P.info? e = some i) (h2 : t2 = t) {base b2 : Option Addr} {n c c2 : Nat} (hc : n ≤ c) (hb : b2 = none → c2 = 0) :
  (Builtin.append_ #[t, t2] ty #[.slice base n c, .slice b2 0 c2]).run P w = .ok (.slice base n c) w := by
 subst h2
 cases base <;> cases b2 <;> simp [Builtin.append_, run_underlying ht, sizeOf, typeInfo, hi, Builtin.lenOf, Builtin.firstCells, hc, storeCells, loadCells, loadCellsFrom]
theorem flat_append_rep {F : Nat → Nat → Prop} {xs ys : List PV} {us vs : List Value} {sz : Nat} (hl : us.length = xs.length * sz) (hs : ∀ x ∈ xs, x.cells.length = sz)
  (h1 : ∀ (j : Nat) (p : PV), (xs.flatMap PV.cells)[j]? = some p → Rep F w p (us.getD j Go.undef)) (h2 : ∀ (j : Nat) (p : PV), (ys.flatMap PV.cells)[j]? = some p → Rep F w p (vs.getD j Go.undef)) :
  ∀ (j : Nat) (p : PV), ((xs ++ ys).flatMap PV.cells)[j]? = some p → Rep F w p ((us ++ vs).getD j Go.undef) := by
 intro j p hp
 rw [List.flatMap_append, List.getElem?_append, flat_len hs] at hp
 rw [List.getD_eq_getElem?_getD, List.getElem?_append, hl]
 split
 ·rename_i hj
  rw [if_pos hj] at hp
  have := h1 j p hp
  rwa [List.getD_eq_getElem?_getD] at this
 ·rename_i hj
  rw [if_neg hj] at hp
  have := h2 _ p hp
  rwa [List.getD_eq_getElem?_getD] at this
theorem app_sound {slot : Nat} {t t2 ty : TypeId} {s x v : AV} {H' : HS} {c : Cls} {vs vx : Value} (h : appA P slot t t2 s x H = some (v, H', c)) (hs : RepA G H w s vs) (hx : RepA G H w x vx) (hH : HRep glob G H w) :
  ∃ u w' G', (Builtin.append_ #[t, t2] ty #[vs, vx]).run P w = .ok u w' ∧ RepA G' H' w' v u ∧ HRep glob G' H' w' ∧ Ext G H w G' H' w' := by
 unfold appA at h
 split at h <;> first | (cases h; done) | skip
 rename_i e hte
 split at h <;> first | (cases h; done) | skip
 rename_i i xn xsz ys hi hxp
 split at h <;> first | (cases h; done) | skip
 rename_i hcond
 simp only [not_or, not_and, Classical.not_not, ne_eq, Bool.not_eq_true] at hcond
 obtain ⟨ht2, hisz, hiz, hxsz⟩ := hcond
 have ⟨z, hz, hzs⟩ : ∃ z, i.zero = some z ∧ z.cells.size = i.size := by
  unfold zeroBad at hiz
  split at hiz
  ·rename_i z hz
   exact ⟨z, hz, by simpa using hiz⟩
  ·cases hiz
 have hsz : 0 < i.size := Nat.pos_of_ne_zero hisz
 split at h <;> first | (cases h; done) | skip
 rename_i sn ssz xs hsp
 split at h <;> first | (cases h; done) | skip
 rename_i hssz
 simp only [not_and, Classical.not_not, ne_eq] at hssz
 split at h <;> first | (cases h; done) | skip
 rename_i hbound
 obtain ⟨hb1, hb2⟩ := hbound
 subst ht2
 have rx := pure_rep hx hxp
 have rs := pure_rep hs hsp
 split at h
 ·-- nothing to append
  rename_i hy0
  cases h
  have hys : ys = [] := List.eq_nil_of_length_eq_zero hy0
  subst hys
  refine ⟨vs, w, G, ?_, hs, hH, Ext.refl _ _ _⟩
  rcases rs.row with ⟨_, rfl, rfl⟩ | ⟨_, b, o, c, rfl, hc, _⟩
  ·rcases rx.row with ⟨_, _, rfl⟩ | ⟨_, b2, o2, c2, rfl, _⟩
   ·exact run_append_none hte hi rfl (Nat.le_refl _) (fun _ => rfl)
   ·exact run_append_none hte hi rfl (Nat.le_refl _) (fun e => by cases e)
  ·rcases rx.row with ⟨_, _, rfl⟩ | ⟨_, b2, o2, c2, rfl, _⟩
   ·exact run_append_none hte hi rfl hc (fun _ => rfl)
   ·exact run_append_none hte hi rfl hc (fun e => by cases e)
 ·rename_i hy0
  have hypos : 0 < ys.length := Nat.pos_of_ne_zero hy0
  rcases rx.row with ⟨_, rfl, _⟩ | ⟨hxn, b2, o2, c2, rfl, hc2, hs2, h12, news, hnl, hnc, hn1, hnr⟩
  ·simp at hypos
  have hxs2 := hxsz hxn
  subst hxs2
  have hnews : ∀ j u, news[j]? = some u → w.cell? ((⟨b2, o2, none⟩ : Addr).add j) = some u := fun j u hu => by rw [add_none]; exact (hnc j u hu).1
  have h63 : xs.length + ys.length ≤ maxLen := by unfold maxLen; omega
  -- the slice's own cells
  have srow : (xs = [] ∧ vs = .slice none 0 0) ∨ ∃ (b o c : Nat) (olds : List Value), vs = .slice (some ⟨b, o, none⟩) xs.length c ∧ xs.length ≤ c ∧ (∀ x ∈ xs, x.cells.length = i.size) ∧ (∀ x ∈ xs, ∀ y ∈ x.cells, y.one = true) ∧
    olds.length = xs.length * i.size ∧ (∀ (j : Nat) (u : Value), olds[j]? = some u → w.cell? ⟨b, o + j, none⟩ = some u ∧ G.F b (o + j)) ∧ (∀ u ∈ olds, u.oneCell' = true) ∧
    ∀ (j : Nat) (p : PV), (xs.flatMap PV.cells)[j]? = some p → Rep G.F w p (olds.getD j Go.undef) := by
   rcases rs.row with ⟨_, h1, h2⟩ | ⟨hsn, b, o, c, hv, hc, hs3, h13, olds, k1, k2, k3, k4⟩
   ·exact .inl ⟨h1, h2⟩
   ·have := hssz hsn
    subst this
    exact .inr ⟨b, o, c, olds, hv, hc, hs3, h13, k1, k2, k3, k4⟩
  have hall : ∀ x ∈ xs ++ ys, x.cells.length = i.size := fun y hy => by
   rcases List.mem_append.1 hy with hy | hy
   ·rcases srow with ⟨rfl, _⟩ | ⟨_, _, _, _, _, _, h3, _⟩
    ·simp at hy
    ·exact h3 y hy
   ·exact hs2 y hy
  have hall1 : ∀ x ∈ xs ++ ys, ∀ y ∈ x.cells, y.one = true := fun y hy => by
   rcases List.mem_append.1 hy with hy | hy
   ·rcases srow with ⟨rfl, _⟩ | ⟨_, _, _, _, _, _, _, h3, _⟩
    ·simp at hy
    ·exact h3 y hy
   ·exact h12 y hy
  have hlen : (xs ++ ys).length = xs.length + ys.length := List.length_append
  -- it grows
  have grows : (∀ b o c, vs = .slice (some ⟨b, o, none⟩) xs.length c → c < xs.length + ys.length) → ∃ u w' us, (Builtin.append_ #[t, t] ty #[vs, .slice (some ⟨b2, o2, none⟩) ys.length c2]).run P w = .ok u w' ∧ w'.ownsRow w.heap.size e i.size u (xs.length + ys.length) us ∧ w.grownBy w' none ∧
    ∀ (j : Nat) (p : PV), ((xs ++ ys).flatMap PV.cells)[j]? = some p → Rep G.F w p (us.getD j Go.undef) := by
   intro hcap
   rcases srow with ⟨rfl, rfl⟩ | ⟨b, o, c, olds, rfl, hc, hs3, h13, k1, k2, k3, k4⟩
   ·obtain ⟨v', w', r1, r2, r3, _⟩ := run_append_own (P := P) w w.heap.size t ty e i z i.size i.bytes hte hi hz rfl rfl hzs hsz (.slice none 0 0) 0 [] ⟨by simp, .inl ⟨rfl, rfl⟩⟩ ⟨b2, o2, none⟩ ys.length c2 news hnl hnews hn1 (by simpa using h63) (by simpa using hb1) (Nat.le_refl _)
    exact ⟨v', w', news, r1, by simpa using r2, r3, by simpa using hnr⟩
   ·obtain ⟨v', w', r1, r2, r3⟩ := run_append_arg_grows (P := P) w t ty e i z i.size i.bytes hte hi hz rfl rfl hzs hsz ⟨b, o, none⟩ xs.length c olds k1 (fun j u hu => by rw [add_none]; exact (k2 j u hu).1) ⟨b2, o2, none⟩ ys.length c2 news hnl hnews (hcap b o c rfl) h63 hb1
    exact ⟨v', w', olds ++ news, r1, r2, r3, flat_append_rep k1 hs3 k4 hnr⟩
  have fresh : ∀ (tk ver' : Nat) (ho : HO), H[tk]? = some ho → (ho = .none ∨ ∃ cur, ho = .tok cur e i.size ∧ ver' = cur + 1) → (∀ b o c, vs = .slice (some ⟨b, o, none⟩) xs.length c → c < xs.length + ys.length) →
    ∃ u w' G', (Builtin.append_ #[t, t] ty #[vs, .slice (some ⟨b2, o2, none⟩) ys.length c2]).run P w = .ok u w' ∧ RepA G' (H.set tk (.tok ver' e i.size)) w' (.tok tk ver' (.sl (some true) i.size (xs ++ ys))) u ∧ HRep glob G' (H.set tk (.tok ver' e i.size)) w' ∧ Ext G H w G' (H.set tk (.tok ver' e i.size)) w' := by
   intro tk ver' ho hho hk hcap
   obtain ⟨u, w', us, r1, r2, r3, r4⟩ := grows hcap
   have hub : ∀ k, u.ownBlock = some k → w.heap.size ≤ k := fun k hk2 => by
    rcases r2.2 with ⟨rfl, _⟩ | ⟨g, cap, cur, rfl, hg, _⟩
    ·simp [Value.ownBlock] at hk2
    ·simp [Value.ownBlock] at hk2; omega
   have r2' : w'.ownsRow 0 e i.size u (xs ++ ys).length us := by
    rw [hlen]
    refine ⟨r2.1, ?_⟩
    rcases r2.2 with q | ⟨g, cap, cur, q1, _, q3⟩
    ·exact .inl q
    ·exact .inr ⟨g, cap, cur, q1, Nat.zero_le _, q3⟩
   obtain ⟨G', a1, a2, a3⟩ := tok_step (v' := u) (zs := xs ++ ys) (us := us) (ver' := ver') hH hho hk r3.os r3.tape r3.output r3.size (fun k hk2 _ => r3.block k hk2 (by simp)) (fun b o hF => World.cell?_of_block (a := ⟨b, o, none⟩) (r3.block b (hH.old b o hF) (by simp))) (.inr hub) r2' (by omega) hall hall1 r4
    (fun k j hk2 _ hF => by have := hub k hk2; have := hH.old k j hF; omega)
   exact ⟨u, w', G', r1, a1, a2, a3⟩
  split at h
  ·-- a token
   rename_i tk ver p
   simp only [AV.pure?, Option.some.injEq] at hsp
   subst hsp
   split at h <;> first | (cases h; done) | skip
   rename_i cur e' sz' htk
   split at h <;> first | (cases h; done) | skip
   rename_i hver
   obtain ⟨rfl, he', hs'⟩ := hver
   have he'2 := he'.symm
   subst he'2
   subst hs'
   cases h
   by_cases hcap : ∀ b o c, vs = .slice (some ⟨b, o, none⟩) xs.length c → c < xs.length + ys.length
   ·exact fresh tk _ _ htk (.inr ⟨_, rfl, rfl⟩) hcap
   ·simp only [Classical.not_forall, Nat.not_lt] at hcap
    obtain ⟨b, o, c, rfl, hroom⟩ := hcap
    cases hs with
    | tok _ _ cur' ee ss _ _ hrep ht hle he =>
     rw [htk] at ht
     cases ht
     have hτ := he rfl
     obtain ⟨n, cells, hown, hnf⟩ := hH.tok tk _ _ _ htk
     rw [← hτ] at hown hnf
     rcases hown.2 with ⟨h', _⟩ | ⟨g, cap, cur, h', _, hgh, hnc, hcm, hcs, htake⟩
     ·cases h'
     ·simp only [Value.slice.injEq, Option.some.injEq, Addr.mk.injEq, and_true] at h'
      obtain ⟨⟨rfl, rfl⟩, rfl, rfl⟩ := h'
      have hfit : xs.length * i.size + news.length ≤ cur.size := by rw [hnl, hcs, ← Nat.add_mul]; exact Nat.mul_le_mul_right _ hroom
      have hr := run_append_room (P := P) w t ty e i hte hi b xs.length c cur hgh ⟨b2, o2, none⟩ ys.length c2 news hnl hnews hn1 hroom hfit
      have hat : G.at H tk = some b := by rw [Gh.at_tok htk, ← hτ]; rfl
      obtain ⟨b', o', c', olds, hv', _, hs3, h13, k1, k2, k3, k4⟩ := srow.resolve_left (fun q => by cases q.2)
      simp only [Value.slice.injEq, Option.some.injEq, Addr.mk.injEq, and_true, true_and] at hv'
      obtain ⟨⟨rfl, rfl⟩, rfl⟩ := hv'
      have holds : olds = cells := by
       apply List.ext_getElem?
       intro j
       by_cases hj : j < xs.length * i.size
       ·have e1 := (k2 j _ (List.getElem?_eq_getElem (by omega : j < olds.length))).1
        rw [Nat.zero_add, cell_of_row w b j cur e (0, 0) hgh] at e1
        rw [List.getElem?_eq_getElem (by omega : j < olds.length), ← htake, List.getElem?_take, if_pos hj]
        simpa using e1.symm
       ·rw [List.getElem?_eq_none (by omega), List.getElem?_eq_none (by have := hown.1; omega)]
      subst holds
      have hl2 : (olds ++ news).length = (xs.length + ys.length) * i.size := by rw [List.length_append, k1, hnl, Nat.add_mul]
      have hrow : (w.setRow b (cur.toList.take (xs.length * i.size) ++ news ++ cur.toList.drop (xs.length * i.size + news.length)).toArray).ownsRow 0 e i.size (.slice (some ⟨b, 0, none⟩) (xs.length + ys.length) c) (xs ++ ys).length (olds ++ news) := by
       rw [hlen]
       refine ⟨hl2, .inr ⟨b, c, _, rfl, Nat.zero_le _, setRow_heap w b cur _ e _ hgh, hroom, hcm, ?_, ?_⟩⟩
       ·simp only [List.size_toArray, List.length_append, List.length_take, List.length_drop, Array.length_toList]
        omega
       ·rw [htake, ← hl2]
        exact List.take_left
      have hcell : ∀ bb oo, G.F bb oo → (w.setRow b (cur.toList.take (xs.length * i.size) ++ news ++ cur.toList.drop (xs.length * i.size + news.length)).toArray).cell? ⟨bb, oo, none⟩ = w.cell? ⟨bb, oo, none⟩ := fun bb oo hF => by
       by_cases hbb : bb = b
       ·subst hbb
        have hoo : oo < xs.length * i.size := Nat.lt_of_not_le (fun hle2 => hnf bb oo rfl hle2 hF)
        rw [cell_setRow_same w bb oo cur _ e (0, 0) hgh, cell_of_row w bb oo cur e (0, 0) hgh]
        have := splice_get (cs := cur.toList) (xs := news) (off := xs.length * i.size) (by simpa using hfit) oo
        rw [if_pos hoo] at this
        simpa using this
       ·exact World.cell?_of_block (a := ⟨bb, oo, none⟩) (setRow_other w b bb _ hbb)
      obtain ⟨G', a1, a2, a3⟩ := tok_step (w' := w.setRow b (cur.toList.take (xs.length * i.size) ++ news ++ cur.toList.drop (xs.length * i.size + news.length)).toArray) (v' := .slice (some ⟨b, 0, none⟩) (xs.length + ys.length) c) (zs := xs ++ ys) (us := olds ++ news) (ver' := ver + 1) hH htk (.inr ⟨_, rfl, rfl⟩) rfl rfl rfl (by simp)
       (fun k hk2 hne => setRow_other w b k _ (fun e => hne (e ▸ hat))) hcell (.inl hat.symm) hrow (by omega) hall hall1 (flat_append_rep k1 hs3 k4 hnr)
       (fun k j hk2 hj hF => hnf k j hk2 (Nat.le_trans (Nat.mul_le_mul_right _ (by rw [hlen]; omega)) hj) hF)
      exact ⟨_, _, G', hr, a1, a2, a3⟩
  ·-- nil
   simp only [AV.pure?, Option.some.injEq, PV.sl.injEq] at hsp
   obtain ⟨rfl, rfl, rfl⟩ := hsp
   split at h <;> first | (cases h; done) | skip
   rename_i hslot
   cases h
   refine fresh slot 0 _ hslot (.inl rfl) (fun b o c hv => ?_)
   rcases rs.row with ⟨_, _, hv2⟩ | ⟨hf, _⟩
   ·rw [hv2] at hv; cases hv
   ·exact absurd rfl hf
  ·-- without room
   rename_i q1 q2 q3
   simp only [AV.pure?, Option.some.injEq, PV.sl.injEq] at hsp
   obtain ⟨rfl, rfl, rfl⟩ := hsp
   split at h <;> first | (cases h; done) | skip
   rename_i hslot
   cases h
   cases hs with
   | full _ _ hrep hf => exact fresh slot 0 _ hslot (.inl rfl) (fun b o c hv => by have := hf _ _ _ hv; omega)
  ·cases h
variable {P : Program} {glob : Nat → Option (List PV)} {G : Gh} {H : HS} {w : World}
theorem const1_rep {F : Nat → Nat → Prop} {v : Value} {p : PV} (h : const1 v = some p) : Rep F w p v := by
 unfold const1 at h
 split at h <;> first | (cases h; done) | skip
 ·cases h; exact .bool _
 ·cases h; exact .int _ _
 ·cases h; exact .str _
 ·cases h; exact .nilptr
 ·cases h; exact .nilsl (some false) (by simp) 0
 ·cases h; exact .nilfn
 ·cases h; exact .niliface
 ·split at h
  ·rename_i f a b hab
   cases h
   obtain ⟨h1, h2⟩ := hab
   rw [Array.size_eq_zero_iff.1 h1, Array.size_eq_zero_iff.1 h2]
   exact .fn _
  ·cases h
theorem const1_one {v : Value} {p : PV} (h : const1 v = some p) : p.one = true := by
 unfold const1 at h
 split at h <;> first | (cases h; rfl) | skip
 ·split at h
  ·cases h; rfl
  ·cases h
 ·cases h
theorem constV_rep {F : Nat → Nat → Prop} {v : Value} {p : PV} (h : constV v = some p) : Rep F w p v := by
 unfold constV at h
 split at h
 ·rename_i us
  split at h
  ·rename_i cs hcs
   cases h
   obtain ⟨h1, h2⟩ := all?_get hcs
   have := Rep.agg (F := F) (w := w) cs us.toList (by omega) (fun y hy => by obtain ⟨x, _, hx⟩ := all?_mem hcs hy; exact const1_one hx) (fun j p hp => by
    have hlt : j < us.toList.length := by have := (List.getElem?_eq_some_iff.1 hp).1; omega
    obtain ⟨y, e1, e2⟩ := h2 j us.toList[j] (List.getElem?_eq_getElem hlt)
    rw [hp] at e1
    cases e1
    rw [List.getD_eq_getElem?_getD, List.getElem?_eq_getElem hlt]
    exact const1_rep e2)
   simpa using this
  ·cases h
 ·exact const1_rep h
theorem int_of {k : IntKind} {n : Int} {v : Value} (h : RepA G H w (.pv (.int k n)) v) : v = .int k n := by cases h with | pv _ _ h => cases h; rfl
theorem bool_of {b : Bool} {v : Value} (h : RepA G H w (.pv (.bool b)) v) : v = .bool b := by cases h with | pv _ _ h => cases h; rfl
theorem str_of {s : List UInt8} {v : Value} (h : RepA G H w (.pv (.str s)) v) : ∃ b : ByteArray, v = .string b ∧ s = b.data.toList := by cases h with | pv _ _ h => cases h with | str b => exact ⟨b, rfl, rfl⟩
theorem intOp_sound {op : BinOp} {k k' : IntKind} {a b : Int} {p : PV} {t : TypeId} (h : intOp op k k' a b = some p) : (binOp op t (.int k a) (.int k' b)).run P w = .ok p.scal w ∧ Rep G.F w p p.scal := by
 unfold intOp at h
 cases op <;> dsimp only at h <;> (repeat' (split at h)) <;> first | (cases h; done) | skip
 all_goals (first | (cases h; done) | (simp only [Option.some.injEq] at h; subst h))
 all_goals (refine ⟨by first | (simp_all [binOp, Op.intArith, Op.intDiv, Op.intBits, Op.intCmp, Op.shift, PV.scal]; done) | (simp_all [binOp, Op.shift, PV.scal]; intro hb; omega), ?_⟩)
 all_goals (first | exact .int _ _ | exact .bool _)
theorem strOp_sound {op : BinOp} {a b : ByteArray} {p : PV} {t : TypeId} (h : strOp op a.data.toList b.data.toList = some p) : (binOp op t (.string a) (.string b)).run P w = .ok p.scal w ∧ Rep G.F w p p.scal := by
 have e1 := ByteArray.toList_eq a
 have e2 := ByteArray.toList_eq b
 unfold strOp at h
 cases op <;> dsimp only at h <;> (try (cases h; done))
 case add =>
  split at h
  ·rename_i hb
   cases h
   have hab : (⟨(a.data.toList ++ b.data.toList).toArray⟩ : ByteArray) = a ++ b := by
    apply ByteArray.ext
    simp
   have hsz : ¬ (9223372036854775807 : Int) < (a.size : Int) + (b.size : Int) := by
    have h1 : a.size = a.data.toList.length := by cases a; rfl
    have h2 : b.size = b.data.toList.length := by cases b; rfl
    omega
   refine ⟨?_, ?_⟩
   ·simp [binOp, Op.stringOp, PV.scal, IntKind.max, IntKind.signed, IntKind.bits]
    rw [if_neg (by omega)]
    simp [← hab]
   ·have := Rep.str (F := G.F) (w := w) (⟨(a.data.toList ++ b.data.toList).toArray⟩ : ByteArray)
    simpa [PV.scal] using this
  ·cases h
 all_goals (simp only [Option.some.injEq] at h; subst h; exact ⟨by simp [binOp, Op.stringOp, PV.scal, e1, e2], .bool _⟩)
theorem nilptr_of {v : Value} (h : RepA G H w (.pv .nilptr) v) : v = .pointer none := by cases h with | pv _ _ h => cases h; rfl
theorem nilfn_of {v : Value} (h : RepA G H w (.pv .nilfn) v) : v = .nilFunc := by cases h with | pv _ _ h => cases h; rfl
theorem niliface_of {v : Value} (h : RepA G H w (.pv .niliface) v) : v = .nilIface := by cases h with | pv _ _ h => cases h; rfl
theorem fn_of {f : FuncId} {v : Value} (h : RepA G H w (.pv (.fn f)) v) : v = .func (.func f) #[] #[] := by cases h with | pv _ _ h => cases h; rfl
theorem iface_of {t : TypeId} {p : PV} {v : Value} (h : RepA G H w (.pv (.iface t p)) v) : ∃ u, v = .iface t u ∧ Rep G.F w p u := by cases h with | pv _ _ h => cases h with | iface _ _ u hu => exact ⟨u, rfl, hu⟩
theorem ptr_of {id off : Nat} {v : Value} (h : RepA G H w (.ptr id off) v) : v = .pointer (some ⟨G.ρ id, off, none⟩) := by cases h; rfl
theorem pim_of {cs : List PV} {v : Value} (h : RepA G H w (.pim cs) v) : ∃ b o, v = .pointer (some ⟨b, o, none⟩) := by cases h; exact ⟨_, _, rfl⟩
theorem clo_of {f : FuncId} {cs : List AV} {v : Value} (h : RepA G H w (.clo f cs) v) : ∃ us : List Value, v = .func (.func f) #[] us.toArray ∧ us.length = cs.length ∧ ∀ (j : Nat) (a : AV), cs[j]? = some a → RepA G H w a (us.getD j Go.undef) := by cases h with | clo _ _ us h1 h2 => exact ⟨us, rfl, h1, h2⟩
theorem nilsl_of {sz : Nat} {v : Value} (h : RepA G H w (.pv (.sl (some false) sz [])) v) : v = .slice none 0 0 := by
 cases h with
 | pv _ _ h =>
  cases h with
  | nilsl => rfl
  | sl _ hn => exact absurd rfl hn
theorem equal_step (t : TypeId) (x y : Value) : ∃ n, Op.equal t x y = Op.equalIn (n + 1) t x y := ⟨9999, rfl⟩
theorem eqA_sound {t : TypeId} {x y : AV} {yc : Bool} {b : Bool} {vx vy : Value} (h : eqA P t x y yc = some b) (hx : RepA G H w x vx) (hy : RepA G H w y vy) : (Op.equal t vx vy).run P w = .ok b w := by
 unfold eqA at h
 split at h <;> first | (cases h; done) | skip
 ·rename_i a c hu
  cases h
  rw [bool_of hx, bool_of hy]
  obtain ⟨n_, hn_⟩ := equal_step t _ _
  rw [hn_]
  simp only [Op.equalIn, Sem.run_bind, run_underlying hu, Result.andThen_ok, Sem.run_pure]
 ·rename_i e hu
  cases h
  rw [nilptr_of hx, nilptr_of hy]
  obtain ⟨n_, hn_⟩ := equal_step t _ _
  rw [hn_]
  simp only [Op.equalIn, Sem.run_bind, run_underlying hu, Result.andThen_ok, Sem.run_pure]
  rfl
 ·rename_i e id off hu
  cases h
  rw [nilptr_of hx, ptr_of hy]
  obtain ⟨n_, hn_⟩ := equal_step t _ _
  rw [hn_]
  simp only [Op.equalIn, Sem.run_bind, run_underlying hu, Result.andThen_ok, Sem.run_pure]
  rfl
 ·rename_i e id off hu
  cases h
  rw [ptr_of hx, nilptr_of hy]
  obtain ⟨n_, hn_⟩ := equal_step t _ _
  rw [hn_]
  simp only [Op.equalIn, Sem.run_bind, run_underlying hu, Result.andThen_ok, Sem.run_pure]
 ·rename_i e cs hu
  cases h
  obtain ⟨_, _, rfl⟩ := pim_of hx
  rw [nilptr_of hy]
  obtain ⟨n_, hn_⟩ := equal_step t _ _
  rw [hn_]
  simp only [Op.equalIn, Sem.run_bind, run_underlying hu, Result.andThen_ok, Sem.run_pure]
 ·rename_i e x2 sz hu
  rw [nilsl_of hy]
  have key : ∀ (nn : Bool) s xs, Rep G.F w (.sl (some nn) s xs) vx → (Op.equal t vx (.slice none 0 0)).run P w = .ok (!nn) w := fun nn s xs hr => by
   obtain ⟨n_, hn_⟩ := equal_step t vx (.slice none 0 0)
   rw [hn_]
   cases hr with
   | nilsl _ hn =>
    have : nn = false := by cases nn <;> first | rfl | exact absurd rfl hn
    subst this
    simp only [Op.equalIn, Sem.run_bind, run_underlying hu, Result.andThen_ok, Sem.run_pure]; rfl
   | sl _ hn =>
    have : nn = true := by cases nn <;> first | rfl | exact absurd rfl hn
    subst this
    simp only [Op.equalIn, Sem.run_bind, run_underlying hu, Result.andThen_ok, Sem.run_pure]; rfl
  split at h <;> first | (cases h; done) | skip
  ·cases h; exact key _ _ _ hx.of_pv
  ·cases h; exact key _ _ _ (pure_rep hx rfl)
  ·cases h; exact key _ _ _ (pure_rep hx rfl)
 ·rename_i hu
  cases h
  rw [nilfn_of hx, nilfn_of hy]
  obtain ⟨n_, hn_⟩ := equal_step t _ _
  rw [hn_]
  simp only [Op.equalIn, Sem.run_bind, run_underlying hu, Result.andThen_ok, Sem.run_pure]
 ·rename_i hu
  cases h
  rw [fn_of hx, nilfn_of hy]
  obtain ⟨n_, hn_⟩ := equal_step t _ _
  rw [hn_]
  simp only [Op.equalIn, Sem.run_bind, run_underlying hu, Result.andThen_ok, Sem.run_pure]
 ·rename_i hu
  cases h
  obtain ⟨_, rfl, _⟩ := clo_of hx
  rw [nilfn_of hy]
  obtain ⟨n_, hn_⟩ := equal_step t _ _
  rw [hn_]
  simp only [Op.equalIn, Sem.run_bind, run_underlying hu, Result.andThen_ok, Sem.run_pure]
 ·rename_i hu
  split at h <;> first | (cases h; done) | skip
  cases h
  rw [niliface_of hx, niliface_of hy]
  obtain ⟨n_, hn_⟩ := equal_step t _ _
  rw [hn_]
  simp only [Op.equalIn, Sem.run_bind, run_underlying hu, Result.andThen_ok, Sem.run_pure]
 ·rename_i hu
  cases h
  obtain ⟨_, rfl, _⟩ := iface_of hx
  rw [niliface_of hy]
  obtain ⟨n_, hn_⟩ := equal_step t _ _
  rw [hn_]
  simp only [Op.equalIn, Sem.run_bind, run_underlying hu, Result.andThen_ok, Sem.run_pure]
theorem eqGuard_none {op : BinOp} {t : TypeId} {x y : Operand} {a b : Value} (h : ∀ us vs, a = .agg us → b = .agg vs → False) (h2 : a = .nilIface → b = .nilIface → isConstO y = true) : (eqGuard op t x y a b).run P w = .ok () w := by
 unfold eqGuard
 cases op
 case eql | neq =>
  rw [if_neg (by decide)]
  split
  ·have h3 := h2 rfl rfl
   clear h h2
   cases y <;> simp [isConstO] at h3
   simp
  ·exact (h _ _ rfl rfl).elim
  ·rfl
 all_goals rfl
theorem binA_sound {op : BinOp} {t : TypeId} {x y v : AV} {ox oy : Operand} {vx vy : Value} (h : binA P op t x y (isConstO oy) = some v) (hx : RepA G H w x vx) (hy : RepA G H w y vy) :
  ∃ u, (do eqGuard op t ox oy vx vy; binOp op t vx vy : Sem Value).run P w = .ok u w ∧ RepA G H w v u := by
 unfold binA at h
 split at h
 ·rename_i k a k' b
  split at h <;> first | (cases h; done) | skip
  rename_i p hp
  cases h
  obtain ⟨h1, h2⟩ := intOp_sound (P := P) (G := G) (w := w) (t := t) hp
  rw [int_of hx, int_of hy]
  refine ⟨_, ?_, .pv _ _ h2⟩
  rw [Sem.run_bind, eqGuard_none (fun _ _ h _ => by cases h) (fun h _ => by cases h)]
  exact h1
 ·rename_i a b
  split at h <;> first | (cases h; done) | skip
  rename_i p hp
  cases h
  obtain ⟨sx, rfl, rfl⟩ := str_of hx
  obtain ⟨sy, rfl, rfl⟩ := str_of hy
  obtain ⟨h1, h2⟩ := strOp_sound (P := P) (G := G) (w := w) (t := t) hp
  refine ⟨_, ?_, .pv _ _ h2⟩
  rw [Sem.run_bind, eqGuard_none (fun _ _ h _ => by cases h) (fun h _ => by cases h)]
  exact h1
 ·have shape : ∀ bb, eqA P t x y (isConstO oy) = some bb → (∀ us vs, vx = .agg us → vy = .agg vs → False) ∧ (vx = .nilIface → vy = .nilIface → isConstO oy = true) ∧ (∀ k a, vx ≠ .int k a) ∧ (∀ a b, ¬ (vx = .string a ∧ vy = .string b)) ∧ (∀ k a, vx ≠ .float k a) ∧ (∀ k a b, vx ≠ .complex k a b) := by
   intro bb he
   unfold eqA at he
   split at he <;> first | (cases he; done) | skip
   ·rw [bool_of hx]; simp
   ·rw [nilptr_of hx]; simp
   ·rw [nilptr_of hx]; simp
   ·rw [ptr_of hx]; simp
   ·obtain ⟨_, _, rfl⟩ := pim_of hx; simp
   ·split at he <;> first | (cases he; done) | skip
    ·have := hx.of_pv; cases this <;> simp
    ·have := pure_rep hx rfl; cases this <;> simp
    ·have := pure_rep hx rfl; cases this <;> simp
   ·rw [nilfn_of hx]; simp
   ·rw [fn_of hx]; simp
   ·obtain ⟨_, rfl, _⟩ := clo_of hx; simp
   ·split at he <;> first | (cases he; done) | skip
    rename_i hc
    simp [hc, niliface_of hx]
   ·obtain ⟨_, rfl, _⟩ := iface_of hx; rw [niliface_of hy]; simp
  split at h <;> first | (cases h; done) | skip
  ·split at h <;> first | (cases h; done) | skip
   rename_i bb hb
   cases h
   have he := eqA_sound hb hx hy
   obtain ⟨s1, s2, s3, s4, s5, s6⟩ := shape bb hb
   refine ⟨.bool bb, ?_, .pv _ _ (.bool bb)⟩
   rw [Sem.run_bind, eqGuard_none s1 s2]
   have e : binOp .eql t vx vy = (do pure (.bool (← Op.equal t vx vy)) : Sem Value) := by
    cases vx <;> first | exact absurd rfl (s3 _ _) | exact absurd rfl (s5 _ _) | exact absurd rfl (s6 _ _ _) | rfl | (cases vy <;> first | exact absurd ⟨rfl, rfl⟩ (s4 _ _) | rfl)
   simp [e, he]
  ·split at h <;> first | (cases h; done) | skip
   rename_i bb hb
   cases h
   have he := eqA_sound hb hx hy
   obtain ⟨s1, s2, s3, s4, s5, s6⟩ := shape bb hb
   refine ⟨.bool (!bb), ?_, .pv _ _ (.bool _)⟩
   rw [Sem.run_bind, eqGuard_none s1 s2]
   have e : binOp .neq t vx vy = (do pure (.bool (!(← Op.equal t vx vy))) : Sem Value) := by
    cases vx <;> first | exact absurd rfl (s3 _ _) | exact absurd rfl (s5 _ _) | exact absurd rfl (s6 _ _ _) | rfl | (cases vy <;> first | exact absurd ⟨rfl, rfl⟩ (s4 _ _) | rfl)
   simp [e, he]
theorem unA_sound {op : UnOp} {x v : AV} {vx : Value} (h : unA op x = some v) (hx : RepA G H w x vx) : ∃ u, (Op.unary op vx).run P w = .ok u w ∧ RepA G H w v u := by
 unfold unA at h
 split at h <;> first | (cases h; done) | skip
 ·cases h
  rw [int_of hx]
  exact ⟨_, by simp [Op.unary, Op.intArith], .pv _ _ (.int _ _)⟩
 ·cases h
  rw [int_of hx]
  exact ⟨_, by simp [Op.unary, Op.intBits], .pv _ _ (.int _ _)⟩
 ·cases h
  rw [bool_of hx]
  exact ⟨_, by simp [Op.unary], .pv _ _ (.bool _)⟩
variable {P : Program} {glob : Nat → Option (List PV)} {G : Gh} {H : HS} {w : World}
theorem new_row {w' : World} (N b : Nat) (u : Nat → Value) (hH : HRep glob G H w) (os : w'.os = w.os) (tape : w'.tape = w.tape) (output : w'.output = w.output) (size : w.heap.size ≤ w'.heap.size)
  (blocks : ∀ k, k < w.heap.size → w'.heap[k]? = w.heap[k]?) (hb : w.heap.size ≤ b) (hb2 : b < w'.heap.size) (_hu : ∀ j, j < N → w'.cell? ⟨b, j, none⟩ = some (u j)) :
  HRep glob { G with F := fun x o => G.F x o ∨ (x = b ∧ o < N) } H w' ∧ Ext G H w { G with F := fun x o => G.F x o ∨ (x = b ∧ o < N) } H w' := by
 have ex : Ext G H w { G with F := fun x o => G.F x o ∨ (x = b ∧ o < N) } H w' := {
  os := os
  tape := tape
  output := output
  size := size
  F_mono := fun _ _ h => .inl h
  cells := fun x o hF => World.cell?_of_block (a := ⟨x, o, none⟩) (blocks x (hH.old x o hF))
  F_new := fun x o h => by
   rcases h with h | ⟨rfl, _⟩
   ·exact .inl h
   ·exact .inr (.inl hb)
  box := fun id cs h => ⟨rfl, cs, h⟩
  tok := fun id ver e sz h => ⟨ver, h, Nat.le_refl _, fun _ => rfl, .inl rfl⟩
  new := fun id k hn hk => by
   obtain ⟨x, hx, hlv⟩ := Gh.at_live hk
   exact absurd hlv (by rw [hn x hx]; simp)
  blocks := fun x hx _ => blocks x hx }
 have hout : H[H.length]? = none := by simp
 refine ⟨hH.step H.length ex (fun id _ => ⟨rfl, rfl, rfl⟩) (fun x hx _ => blocks x hx) (fun x o h => ?_) (fun k hk => ?_) (fun cs h => ?_) (fun v e s h => ?_) (fun x o h => ?_), ex⟩
 ·rcases h with h | ⟨rfl, _⟩
  ·exact .inl h
  ·exact .inr (.inl hb)
 ·obtain ⟨x, hx, _⟩ := Gh.at_live hk
  rw [hout] at hx
  cases hx
 ·rw [hout] at h; cases h
 ·rw [hout] at h; cases h
 ·rcases h with h | ⟨rfl, _⟩
  ·exact Nat.lt_of_lt_of_le (hH.old x o h) size
  ·exact hb2
theorem Rep.int_inv {F : Nat → Nat → Prop} {k : IntKind} {n : Int} {v : Value} (h : Rep F w (.int k n) v) : v = .int k n := by cases h; rfl
theorem ba_size (b : ByteArray) : b.size = b.data.toList.length := by cases b; rfl
theorem bytesOfInts_spec : ∀ {xs : List PV} {l : List UInt8}, bytesOfInts xs = some l → l.length = xs.length ∧ ∃ ns : List Int, ns.length = xs.length ∧ l = ns.map (fun n => UInt8.ofNat n.toNat) ∧ xs = ns.map (PV.int .u8)
 | [], l, h => by simp only [bytesOfInts] at h; cases h; exact ⟨rfl, [], rfl, rfl, rfl⟩
 | x :: xs, l, h => by
  cases x with
  | int k n =>
   cases k <;> simp only [bytesOfInts] at h <;> first | (cases h; done) | skip
   split at h
   ·rename_i l2 hl
    cases h
    obtain ⟨h1, ns, h2, h3, h4⟩ := bytesOfInts_spec hl
    exact ⟨by simp [h1], n :: ns, by simp [h2], by simp [h3], by simp [h4]⟩
   ·cases h
  | _ => simp only [bytesOfInts] at h; cases h
theorem convA_sound {src dst : TypeId} {x v : AV} {vx : Value} (h : convA P src dst x = some v) (hx : RepA G H w x vx) (hH : HRep glob G H w) :
  ∃ u w' G', (convert src dst vx).run P w = .ok u w' ∧ RepA G' H w' v u ∧ HRep glob G' H w' ∧ Ext G H w G' H w' := by
 unfold convA at h
 split at h <;> first | (cases h; done) | skip
 ·rename_i d k k2 n hs hd
  cases h
  rw [int_of hx]
  exact ⟨_, w, G, by simp [convert, run_underlying hs, run_underlying hd, Conv.intToInt], .pv _ _ (.int _ _), hH, Ext.refl _ _ _⟩
 ·rename_i d s hs hd
  cases h
  obtain ⟨b, rfl, rfl⟩ := str_of hx
  exact ⟨_, w, G, by simp [convert, run_underlying hs, run_underlying hd], .pv _ _ (.str _), hH, Ext.refl _ _ _⟩
 ·rename_i e s hs hd
  split at h <;> first | (cases h; done) | skip
  rename_i he
  split at h <;> first | (cases h; done) | skip
  rename_i hlen
  cases h
  obtain ⟨b, rfl, rfl⟩ := str_of hx
  have hrun := run_bytes_of_string (P := P) w src dst e b hs hd he
  have hsz := ba_size b
  have hge : b.size ≤ grownCap w b.size 0 e := grownCap_ge w b.size 0 e
  have hcell : ∀ j, j < b.size → (w.drew.alloc (.cells (bytesRow b (grownCap w b.size 0 e)) e ((bytesRow b (grownCap w b.size 0 e)).size, (bytesRow b (grownCap w b.size 0 e)).size + 1))).cell? ⟨w.heap.size, j, none⟩ = some (.int .u8 ((b.data.toList.getD j 0).toNat : Int)) := fun j hj => by
   have := World.cell?_alloc_mark w.drew (bytesRow b (grownCap w b.size 0 e)) e ((bytesRow b (grownCap w b.size 0 e)).size, (bytesRow b (grownCap w b.size 0 e)).size + 1) j
   rw [show w.drew.heap.size = w.heap.size from rfl] at this
   rw [this, bytesRow_at b _ j (by simpa using (hsz ▸ hj : j < b.data.toList.length))]
   have hj2 : j < b.data.toList.length := by omega
   rw [List.getD_eq_getElem?_getD, List.getElem?_eq_getElem hj2]
   simp
  obtain ⟨h1, h2⟩ := new_row (w' := w.drew.alloc (.cells (bytesRow b (grownCap w b.size 0 e)) e ((bytesRow b (grownCap w b.size 0 e)).size, (bytesRow b (grownCap w b.size 0 e)).size + 1))) b.size w.heap.size (fun j => .int .u8 ((b.data.toList.getD j 0).toNat : Int)) hH rfl rfl rfl (by simp) (fun k hk => heap_alloc_old w.drew _ k hk) (Nat.le_refl _) (by simp) hcell
  refine ⟨_, _, _, hrun, .pv _ _ ?_, h1, h2⟩
  have hl : (b.data.toList.map fun b => PV.int .u8 (b.toNat : Int)).length = b.size := by rw [List.length_map]; omega
  have hfl : ∀ l : List UInt8, (l.map fun b => PV.int .u8 (b.toNat : Int)).flatMap PV.cells = l.map fun b => PV.int .u8 (b.toNat : Int) := fun l => by induction l with | nil => rfl | cons a l ih => simp [PV.cells] at ih ⊢; exact ih
  have := Rep.sl (F := fun x o => G.F x o ∨ (x = w.heap.size ∧ o < b.size)) (w := w.drew.alloc (.cells (bytesRow b (grownCap w b.size 0 e)) e ((bytesRow b (grownCap w b.size 0 e)).size, (bytesRow b (grownCap w b.size 0 e)).size + 1))) (some true) (by simp) w.heap.size 0 (grownCap w b.size 0 e) 1 (b.data.toList.map fun b => PV.int .u8 (b.toNat : Int)) (fun j => .int .u8 ((b.data.toList.getD j 0).toNat : Int)) (by omega)
   (fun x hx => by simp only [List.mem_map] at hx; obtain ⟨_, _, rfl⟩ := hx; rfl) (fun x hx y hy => by simp only [List.mem_map] at hx; obtain ⟨_, _, rfl⟩ := hx; simp [PV.cells] at hy; subst hy; rfl)
   (fun j hj => ⟨by rw [Nat.zero_add]; exact hcell j (by omega), .inr ⟨rfl, by omega⟩⟩)
   (fun j p hp => by
    rw [hfl] at hp
    simp only [List.getElem?_map, Option.map_eq_some_iff] at hp
    obtain ⟨q, hq, rfl⟩ := hp
    rw [List.getD_eq_getElem?_getD, hq]
    exact .int _ _)
  rw [hl] at this
  exact this
 ·rename_i e hs hd hneg_
  split at h <;> first | (cases h; done) | skip
  rename_i nn sz xs he hp
  split at h <;> first | (cases h; done) | skip
  rename_i l hl
  cases h
  have hr := pure_rep hx hp
  obtain ⟨h1, ns, h2, h3, h4⟩ := bytesOfInts_spec hl
  refine ⟨.string ⟨l.toArray⟩, w, G, ?_, ?_, hH, Ext.refl _ _ _⟩
  ·cases hr with
   | nilsl =>
    simp only [bytesOfInts] at hl
    cases hl
    rw [run_convert_bytes_nil (P := P) w src e hs he 0 0 dst hd]
    rfl
   | sl nn hnn b o c sz xs u hc hsz hone hu hr =>
    have hs1 : xs = [] ∨ sz = 1 := by
     cases ns with
     | nil => left; exact h4
     | cons n ns => right; rw [← hsz (.int .u8 n) (by rw [h4]; simp)]; rfl
    rw [run_convert_bytes_arg (P := P) w src e hs he b o xs.length c ns h2 (fun i hi => ?_) dst hd]
    ·simp only [strOfNums]
     rw [h3]
    ·rcases hs1 with rfl | rfl
     ·simp at hi
     ·obtain ⟨c1, _⟩ := hu i (by omega)
      rw [c1]
      have hfl : (xs.flatMap PV.cells)[i]? = some (.int .u8 (ns.getD i 0)) := by
       have : ∀ l : List Int, (l.map (PV.int .u8)).flatMap PV.cells = l.map (PV.int .u8) := fun l => by induction l with | nil => rfl | cons a l ih => simp [PV.cells] at ih ⊢; exact ih
       rw [h4, this]
       simp [List.getElem?_eq_getElem (by omega : i < ns.length)]
      rw [(hr i _ hfl).int_inv]
  ·have := Rep.str (F := G.F) (w := w) (⟨l.toArray⟩ : ByteArray)
   exact .pv _ _ (by simpa using this)
theorem cutB_spec {n : Nat} {lo hi : Option Int} {l h : Nat} (e : cutB n lo hi = some (l, h)) : lo.getD 0 = l ∧ hi.getD n = h ∧ l ≤ h ∧ h ≤ n := by
 unfold cutB at e
 dsimp only at e
 split at e
 ·cases e; omega
 ·cases e
theorem run_bounds {isS : Bool} {len cap : Nat} {n : Nat} {lo hi : Option Int} {l h : Nat} (e : cutB n lo hi = some (l, h)) (hn : hi = none → len = n) (hc : n ≤ cap) (vl vh : Option Value)
  (el : ∀ x, lo = some x → ∃ k, vl = some (.int k x)) (el0 : lo = none → vl = none) (eh : ∀ x, hi = some x → ∃ k, vh = some (.int k x)) (eh0 : hi = none → vh = none) :
  (Instr.sliceBounds isS len cap vl vh none).run P w = .ok (l, h, cap) w := by
 obtain ⟨h1, h2, h3, h4⟩ := cutB_spec e
 unfold Instr.sliceBounds
 cases hi with
 | none =>
  rw [eh0 rfl]
  have := hn rfl
  simp only [Option.getD_none] at h2
  cases lo with
  | none =>
   rw [el0 rfl]
   simp only [Option.getD_none] at h1
   simp
   omega
  | some x =>
   obtain ⟨k, hk⟩ := el x rfl
   rw [hk]
   simp only [Option.getD_some] at h1
   subst h1
   have hb : (0 : Int) ≤ (l : Int) ∧ (l : Int) ≤ (len : Int) := by omega
   simp [Instr.sliceBound, asIntOf]
   rw [if_pos (by omega)]
   simp
   omega
 | some y =>
  obtain ⟨k2, hk2⟩ := eh y rfl
  rw [hk2]
  simp only [Option.getD_some] at h2
  subst h2
  cases lo with
  | none =>
   rw [el0 rfl]
   simp only [Option.getD_none] at h1
   simp [Instr.sliceBound, asIntOf]
   rw [if_pos (by omega)]
   simp
   omega
  | some x =>
   obtain ⟨k, hk⟩ := el x rfl
   rw [hk]
   simp only [Option.getD_some] at h1
   subst h1
   simp [Instr.sliceBound, asIntOf]
   rw [if_pos (by omega)]
   simp
   try omega
theorem take_drop_flat {xs : List PV} {sz : Nat} (hs : ∀ x ∈ xs, x.cells.length = sz) {l h : Nat} (hl : l ≤ h) (hh : h ≤ xs.length) (j : Nat) : (((xs.take h).drop l).flatMap PV.cells)[j]? = if j < (h - l) * sz then (xs.flatMap PV.cells)[l * sz + j]? else none := by
 have e1 : xs = xs.take l ++ ((xs.take h).drop l ++ xs.drop h) := by
  rw [← List.append_assoc]
  have : xs.take l ++ (xs.take h).drop l = xs.take h := by
   have h2 : (xs.take h).take l = xs.take l := by rw [List.take_take, Nat.min_eq_left hl]
   rw [← h2, List.take_append_drop]
  rw [this, List.take_append_drop]
 have ha : ((xs.take l).flatMap PV.cells).length = l * sz := by
  rw [flat_len (fun x hx => hs x (List.mem_of_mem_take hx)), List.length_take, Nat.min_eq_left (by omega)]
 have hb : (((xs.take h).drop l).flatMap PV.cells).length = (h - l) * sz := by
  rw [flat_len (fun x hx => hs x (List.mem_of_mem_take (List.mem_of_mem_drop hx))), List.length_drop, List.length_take, Nat.min_eq_left hh]
 split
 ·rename_i hj
  conv => rhs; rw [e1]
  rw [List.flatMap_append, List.getElem?_append, if_neg (by omega), ha, Nat.add_sub_cancel_left, List.flatMap_append, List.getElem?_append, if_pos (by omega)]
 ·rename_i hj
  exact List.getElem?_eq_none (by omega)
theorem optIdx_spec {r : Operand → Option AV} {a : Act} (hr : ∀ x v, r x = some v → RepA G H w v (a.eval x)) {o : Option Operand} {m : Option Int} (h : optIdx r o = some m) :
  (∀ x, m = some x → ∃ k, o.map a.eval = some (.int k x)) ∧ (m = none → o.map a.eval = none) := by
 cases o with
 | none => simp only [optIdx] at h; cases h; exact ⟨fun x e => (by cases e), fun _ => rfl⟩
 | some x =>
  simp only [optIdx] at h
  split at h <;> first | (cases h; done) | skip
  rename_i v hv
  split at h <;> first | (cases h; done) | skip
  rename_i n hn
  cases h
  refine ⟨fun y e => ?_, fun e => by cases e⟩
  cases e
  unfold idx at hn
  split at hn
  ·rename_i k _
   cases hn
   exact ⟨k, by simp [int_of (hr x _ hv)]⟩
  ·cases hn
theorem sliceA_sound {t : TypeId} {x v : AV} {vx : Value} {lo hi mx : Option Int} {vl vh vm : Option Value} (h : sliceA P t x lo hi mx = some v) (hx : RepA G H w x vx)
  (el : (∀ x, lo = some x → ∃ k, vl = some (.int k x)) ∧ (lo = none → vl = none)) (eh : (∀ x, hi = some x → ∃ k, vh = some (.int k x)) ∧ (hi = none → vh = none)) (em : (∀ x, mx = some x → ∃ k, vm = some (.int k x)) ∧ (mx = none → vm = none)) :
  ∃ u, (Instr.sliceAt t vx vl vh vm).run P w = .ok u w ∧ RepA G H w v u := by
 unfold sliceA at h
 split at h <;> first | (cases h; done) | skip
 ·rename_i s hu
  split at h <;> first | (cases h; done) | skip
  split at h <;> first | (cases h; done) | skip
  rename_i l hh hc
  cases h
  obtain ⟨b, rfl, rfl⟩ := str_of hx
  have hsz := ba_size b
  have hb := run_bounds (P := P) (w := w) (isS := false) (len := b.size) (cap := b.size) hc (fun _ => hsz) (by omega) vl vh el.1 el.2 eh.1 eh.2
  rw [em.2 rfl]
  obtain ⟨h1, h2, h3, h4⟩ := cutB_spec hc
  refine ⟨.string (b.extract l hh), ?_, ?_⟩
  ·have e1 : (Instr.sliceAt t (.string b) vl vh none).run P w = (Instr.slice t (.string b) vl vh none).run P w := by
    simp only [Instr.sliceAt, Sem.run_bind, run_underlying hu, Result.andThen_ok]
   rw [e1]
   simp [Instr.slice, run_underlying hu, hb]
  ·have := Rep.str (F := G.F) (w := w) (b.extract l hh)
   have e : (b.extract l hh).data.toList = (b.data.toList.take hh).drop l := by
    rw [ByteArray.data_extract, Array.toList_extract]
    simp [List.extract, List.drop_take]
   rw [e] at this
   exact .pv _ _ this
 ·rename_i e hu
  split at h <;> first | (cases h; done) | skip
  rename_i nn sz xs n hp hn
  split at h <;> first | (cases h; done) | skip
  rename_i hsz
  simp only [not_and, Classical.not_not, ne_eq] at hsz
  split at h <;> first | (cases h; done) | skip
  rename_i l hh hc
  obtain ⟨h1, h2, h3, h4⟩ := cutB_spec hc
  have hr := pure_rep hx hp
  -- the value, with a capacity m at least hh
  have main : ∀ (cap m : Nat) (base : Option Addr), vx = .slice base xs.length cap → hh ≤ m → m ≤ cap → (Instr.sliceBounds true xs.length cap vl vh vm).run P w = .ok (l, hh, m) w →
    ∃ c, (Instr.sliceAt t vx vl vh vm).run P w = .ok (.slice (if m = l then base else base.map (·.add (l * n))) (hh - l) c) w ∧ c = m - l ∧ Rep G.F w (.sl nn sz ((xs.take hh).drop l)) (.slice (if m = l then base else base.map (·.add (l * n))) (hh - l) c) := by
   rintro cap m base rfl hm hmc hb
   refine ⟨m - l, ?_, rfl, ?_⟩
   ·have e1 : (Instr.sliceAt t (.slice base xs.length cap) vl vh vm).run P w = (Instr.slice t (.slice base xs.length cap) vl vh vm).run P w := by
     simp only [Instr.sliceAt, Sem.run_bind, run_underlying hu, Result.andThen_ok]
    rw [e1]
    simp only [Instr.slice, Sem.run_bind, run_underlying hu, Result.andThen_ok, hb, run_sizeT hn]
    rfl
   ·cases hr with
    | nilsl =>
     have e0 : l = 0 ∧ hh = 0 := by simp at h4; omega
     obtain ⟨rfl, rfl⟩ := e0
     have hm0 : m = 0 := by omega
     subst hm0
     exact .nilsl nn (by assumption) sz
    | sl nn hnn b o c sz xs u hcp hss hone huu hrr =>
     have hszn : sz = n := hsz hnn
     subst hszn
     have hlen : ((xs.take hh).drop l).length = hh - l := by simp; omega
     have place : ∃ o2, (if m = l then (some ⟨b, o, none⟩ : Option Addr) else (some ⟨b, o, none⟩ : Option Addr).map (·.add (l * sz))) = some ⟨b, o2, none⟩ ∧ (hh - l ≠ 0 → o2 = o + l * sz) := by
      by_cases hml : m = l
      ·exact ⟨o, by rw [if_pos hml], fun hne => by omega⟩
      ·exact ⟨o + l * sz, by rw [if_neg hml]; simp [add_none], fun _ => rfl⟩
     obtain ⟨o2, ho2, ho3⟩ := place
     rw [ho2]
     have := Rep.sl (F := G.F) (w := w) nn hnn b o2 (m - l) sz ((xs.take hh).drop l) (fun j => u (l * sz + j)) (by omega) (fun x hx => hss x (List.mem_of_mem_take (List.mem_of_mem_drop hx))) (fun x hx => hone x (List.mem_of_mem_take (List.mem_of_mem_drop hx)))
      (fun j hj => by
       rw [hlen] at hj
       have hne : hh - l ≠ 0 := fun e => by rw [e] at hj; simp at hj
       rw [ho3 hne, Nat.add_assoc]
       have hlt : l * sz + j < xs.length * sz := by
        have : (hh - l) * sz + l * sz ≤ xs.length * sz := by rw [← Nat.add_mul]; exact Nat.mul_le_mul_right _ (by omega)
        omega
       exact huu _ hlt)
      (fun j p hp => by
       rw [take_drop_flat hss h3 h4] at hp
       split at hp
       ·exact hrr _ p hp
       ·cases hp)
     rw [hlen] at this
     exact this
  obtain ⟨base, cap, hv, hcap⟩ : ∃ base cap, vx = .slice base xs.length cap ∧ xs.length ≤ cap := by
   rcases hr.row with ⟨_, rfl, rfl⟩ | ⟨_, b, o, c, rfl, hc, _⟩
   ·exact ⟨_, _, rfl, Nat.le_refl _⟩
   ·exact ⟨_, _, rfl, hc⟩
  split at h
  ·cases h
   have hb := run_bounds (P := P) (w := w) (isS := true) (len := xs.length) (cap := cap) hc (fun _ => rfl) hcap vl vh el.1 el.2 eh.1 eh.2
   rw [← em.2 rfl] at hb
   obtain ⟨c, r1, _, r3⟩ := main cap cap base hv (by omega) (Nat.le_refl _) hb
   exact ⟨_, r1, .pv _ _ r3⟩
  ·rename_i m
   split at h <;> first | (cases h; done) | skip
   rename_i hm
   obtain ⟨rfl, hhi⟩ := hm
   cases h
   obtain ⟨y, rfl⟩ := Option.isSome_iff_exists.1 hhi
   simp only [Option.getD_some] at h2
   subst h2
   obtain ⟨k1, e1⟩ := eh.1 _ rfl
   obtain ⟨k2, e2⟩ := em.1 _ rfl
   have hb : (Instr.sliceBounds true xs.length cap vl vh vm).run P w = .ok (l, hh, hh) w := by
    rw [e1, e2]
    unfold Instr.sliceBounds
    simp [Instr.sliceBound, asIntOf]
    rw [if_pos (by omega)]
    cases lo with
    | none =>
     rw [el.2 rfl]
     simp only [Option.getD_none] at h1
     simp
     omega
    | some x =>
     obtain ⟨k3, e3⟩ := el.1 x rfl
     simp only [Option.getD_some] at h1
     subst h1
     rw [e3]
     simp
     try omega
   obtain ⟨c, r1, rc, r3⟩ := main cap hh base hv (Nat.le_refl _) (by omega) hb
   exact ⟨_, r1, .full _ _ r3 (fun a n c2 e => by injection e with _ e1 e2; omega)⟩
variable {P : Program} {glob : Nat → Option (List PV)} {G : Gh} {H : HS} {w : World}
theorem partP_sound {t : TypeId} {cs : List PV} {us : List Value} {off : Nat} {p : PV} (h : partP P t cs off = some p) (hl : us.length = cs.length) (h1 : ∀ y ∈ cs, y.one = true) (hr : ∀ (j : Nat) (q : PV), cs[j]? = some q → Rep G.F w q (us.getD j Go.undef)) :
  ∃ u, (part t us.toArray off).run P w = .ok u w ∧ Rep G.F w p u := by
 obtain ⟨b, n, ha, hs, ht, hf⟩ := partP_rep h
 cases b with
 | true =>
  obtain ⟨hle, rfl⟩ := ht rfl
  refine ⟨.agg ((us.drop off).take n).toArray, by simp [part, run_isAggT ha, run_sizeT hs], .agg _ _ (by simp; omega) (fun y hy => h1 y (List.mem_of_mem_drop (List.mem_of_mem_take hy))) (fun j q hq => ?_)⟩
  have hq2 := drop_take_get hq
  have hjn : j < n := by have := (List.getElem?_eq_some_iff.1 hq).1; simp at this; omega
  have e2 : ((us.drop off).take n).getD j Go.undef = us.getD (off + j) Go.undef := by
   rw [List.getD_eq_getElem?_getD, List.getElem?_take, if_pos hjn, List.getElem?_drop, List.getD_eq_getElem?_getD]
  rw [e2]
  exact hr _ q hq2
 | false =>
  have h0 := hf rfl
  have hlt : off < us.length := by have := (List.getElem?_eq_some_iff.1 h0).1; omega
  refine ⟨us.getD off Go.undef, by simp [part, run_isAggT ha, hlt], hr off p h0⟩
theorem partOf_sound {t : TypeId} {cs : List AV} {us : List Value} {off : Nat} {p : AV} (h : partOf P t cs off = some p) (hl : us.length = cs.length) (h1 : ∀ y ∈ cs, y.one = true) (hr : ∀ (j : Nat) (q : AV), cs[j]? = some q → RepA G H w q (us.getD j Go.undef)) :
  ∃ u, (part t us.toArray off).run P w = .ok u w ∧ RepA G H w p u := by
 obtain ⟨b, n, ha, hs, ht, hf⟩ := partOf_rep h h1
 cases b with
 | true =>
  obtain ⟨hle, rfl⟩ := ht rfl
  refine ⟨.agg ((us.drop off).take n).toArray, by simp [part, run_isAggT ha, run_sizeT hs], aggOf_rep (by simp; omega) (fun y hy => h1 y (List.mem_of_mem_drop (List.mem_of_mem_take hy))) (fun j q hq => ?_)⟩
  have hq2 := drop_take_get hq
  have hjn : j < n := by have := (List.getElem?_eq_some_iff.1 hq).1; simp at this; omega
  have e2 : ((us.drop off).take n).getD j Go.undef = us.getD (off + j) Go.undef := by
   rw [List.getD_eq_getElem?_getD, List.getElem?_take, if_pos hjn, List.getElem?_drop, List.getD_eq_getElem?_getD]
  rw [e2]
  exact hr _ q hq2
 | false =>
  have h0 := hf rfl
  have hlt : off < us.length := by have := (List.getElem?_eq_some_iff.1 h0).1; omega
  refine ⟨us.getD off Go.undef, by simp [part, run_isAggT ha, hlt], hr off p h0⟩
theorem pim_drop {cs : List PV} {b o n : Nat} (h : RepA G H w (.pim cs) (.pointer (some ⟨b, o, none⟩))) : RepA G H w (.pim (cs.drop n)) (.pointer (some ⟨b, o + n, none⟩)) := by
 cases h with
 | pim _ _ _ u h1 hu hr =>
  refine .pim b (o + n) _ (fun j => u (n + j)) (fun y hy => h1 y (List.mem_of_mem_drop hy)) (fun j hj => ?_) (fun j p hp => ?_)
  ·rw [List.length_drop] at hj
   rw [Nat.add_assoc]
   exact hu (n + j) (by omega)
  ·rw [List.getElem?_drop] at hp
   exact hr _ p hp
theorem ptr_off {id off off2 : Nat} {v : Value} (h : RepA G H w (.ptr id off) v) : RepA G H w (.ptr id off2) (.pointer (some ⟨G.ρ id, off2, none⟩)) := by
 cases h with
 | ptr _ _ cs h => exact .ptr id off2 cs h
theorem elem_rep {nn : Option Bool} {sz : Nat} {xs : List PV} {b o c i : Nat} {p : PV} (h : Rep G.F w (.sl nn sz xs) (.slice (some ⟨b, o, none⟩) xs.length c)) (hp : xs[i]? = some p) : RepA G H w (.pim p.cells) (.pointer (some ⟨b, o + i * sz, none⟩)) := by
 cases h with
 | sl _ _ _ _ _ _ _ u hc hs h1 hu hr =>
  have hlt := (List.getElem?_eq_some_iff.1 hp).1
  have hmem := List.mem_of_getElem? hp
  have hl := hs p hmem
  refine .pim _ _ _ (fun j => u (i * sz + j)) (h1 p hmem) (fun j hj => ?_) (fun j q hq => ?_)
  ·rw [Nat.add_assoc]
   refine hu _ ?_
   have : (i + 1) * sz ≤ xs.length * sz := Nat.mul_le_mul_right _ hlt
   rw [Nat.add_mul, Nat.one_mul] at this
   omega
  ·refine hr _ q ?_
   have := take_drop_flat (xs := xs) hs (l := i) (h := i + 1) (by omega) hlt j
   have e : (xs.take (i + 1)).drop i = [p] := by
    apply List.ext_getElem?
    intro k
    rw [List.getElem?_drop, List.getElem?_take]
    cases k with
    | zero => simp [hp]
    | succ k => simp
   rw [e] at this
   simp only [List.flatMap_cons, List.flatMap_nil, List.append_nil, Nat.add_sub_cancel_left, Nat.one_mul] at this
   rw [hq] at this
   split at this
   ·exact this.symm
   ·cases this
theorem foldl_set (off : Nat) : ∀ (vs : List Value) (k : Nat) (cells : Array Value), off + k + vs.length ≤ cells.size →
  ((vs.zipIdx k).foldl (fun cs (x : Value × Nat) => cs.setIfInBounds (off + x.2) x.1) cells).toList = cells.toList.take (off + k) ++ vs ++ cells.toList.drop (off + k + vs.length)
 | [], k, cells, _ => by simp
 | v :: vs, k, cells, h => by
  simp only [List.zipIdx_cons, List.foldl_cons]
  rw [foldl_set off vs (k + 1) _ (by simp at h ⊢; omega)]
  apply List.ext_getElem?
  intro j
  simp only [List.length_cons] at h
  have e1 := splice_get (cs := (cells.setIfInBounds (off + k) v).toList) (xs := vs) (off := off + (k + 1)) (by simp; omega) j
  have e2 := splice_get (cs := cells.toList) (xs := v :: vs) (off := off + k) (by simp; omega) j
  refine e1.trans (Eq.trans ?_ e2.symm)
  simp only [List.length_cons]
  by_cases h1 : j < off + k
  ·rw [if_pos (by omega), if_pos h1]
   simp [show off + k ≠ j by omega]
  ·rw [if_neg h1]
   by_cases h2 : j = off + k
   ·subst h2
    rw [if_pos (by omega), if_pos (by omega)]
    have hlt : off + k < cells.size := by omega
    simp [hlt]
   ·rw [if_neg (by omega)]
    by_cases h3 : j < off + (k + 1) + vs.length
    ·rw [if_pos h3, if_pos (by omega), show j - (off + k) = (j - (off + (k + 1))) + 1 by omega]
     simp
    ·rw [if_neg h3, if_neg (by omega)]
     simp [show off + k ≠ j by omega]
theorem fill_sound {place : Nat → Option (Nat × Nat)} : ∀ {parts : List (Nat × AV)} {vparts : List (Nat × Value)} {cells out : List AV} {vcells : Array Value}, fillA place cells parts = some out →
  vparts.length = parts.length → (∀ (j : Nat) (q : Nat × AV), parts[j]? = some q → ∃ u, vparts[j]? = some (q.1, u) ∧ RepA G H w q.2 u) →
  vcells.size = cells.length → (∀ y ∈ cells, y.one = true) → (∀ (j : Nat) (a : AV), cells[j]? = some a → RepA G H w a (vcells.getD j Go.undef)) → (∀ q ∈ parts, ∀ xs, q.2.cells = some xs → ∀ y ∈ xs, y.one = true) →
  ∃ vout, Instr.fill place vcells vparts = some vout ∧ vout.size = out.length ∧ (∀ y ∈ out, y.one = true) ∧ ∀ (j : Nat) (a : AV), out[j]? = some a → RepA G H w a (vout.getD j Go.undef)
 | [], vparts, cells, out, vcells, h, hl, _, hs, h1, hr, _ => by
  simp only [fillA] at h
  cases h
  have : vparts = [] := List.eq_nil_of_length_eq_zero (by simpa using hl)
  subst this
  exact ⟨vcells, rfl, hs, h1, hr⟩
 | (i, v) :: rest, vparts, cells, out, vcells, h, hl, hp, hs, h1, hr, ho => by
  simp only [fillA] at h
  split at h <;> first | (cases h; done) | skip
  rename_i off size xs hpl hxs
  split at h <;> first | (cases h; done) | skip
  rename_i hcond
  obtain ⟨hxl, hle⟩ := hcond
  subst hxl
  cases vparts with
  | nil => simp at hl
  | cons vp vrest =>
   obtain ⟨u, hu, hru⟩ := hp 0 (i, v) rfl
   simp only [List.getElem?_cons_zero, Option.some.injEq] at hu
   subst hu
   obtain ⟨c1, c2⟩ := cellsA_rep hru hxs
   have hone : ∀ y ∈ xs, y.one = true := ho _ List.mem_cons_self xs hxs
   have hset : (u.cells.zipIdx.foldl (fun cs (c, j) => cs.setIfInBounds (off + j) c) vcells).toList = vcells.toList.take off ++ u.cells.toList ++ vcells.toList.drop (off + xs.length) := by
    have := foldl_set off u.cells.toList 0 vcells (by simp; omega)
    simp only [Nat.add_zero] at this
    rw [← Array.foldl_toList, Array.toList_zipIdx]
    rw [this]
    simp [c1]
   have hul : u.cells.toList.length = xs.length := by simpa using c1
   have hget : ∀ j, (u.cells.zipIdx.foldl (fun cs (c, j) => cs.setIfInBounds (off + j) c) vcells).getD j Go.undef = ((vcells.toList.take off ++ u.cells.toList ++ vcells.toList.drop (off + u.cells.toList.length))[j]?).getD Go.undef := fun j => by
    rw [hul, ← hset]
    simp
   have hsize : (u.cells.zipIdx.foldl (fun cs (c, j) => cs.setIfInBounds (off + j) c) vcells).size = (splice cells off xs).length := by
    rw [splice_len hle, ← Array.length_toList, hset]
    simp
    omega
   obtain ⟨vout, f1, f2, f3, f4⟩ := fill_sound (place := place) (parts := rest) (vparts := vrest) (cells := splice cells off xs) (out := out) (vcells := u.cells.zipIdx.foldl (fun cs (c, j) => cs.setIfInBounds (off + j) c) vcells) h (by simpa using hl) (fun j q hq => by have := hp (j + 1) q (by simpa using hq); simpa using this) hsize
    (fun y hy => by
     unfold splice at hy
     rcases List.mem_append.1 hy with hy | hy
     ·rcases List.mem_append.1 hy with hy | hy
      ·exact h1 y (List.mem_of_mem_take hy)
      ·exact hone y hy
     ·exact h1 y (List.mem_of_mem_drop hy))
    (fun j a ha => by
     have hsp := splice_get hle j
     unfold splice at ha
     rw [hsp] at ha
     have hug := splice_get (cs := vcells.toList) (xs := u.cells.toList) (off := off) (by simp at hul ⊢; omega) j
     rw [hget j, hug, hul]
     split at ha
     ·rename_i hj
      rw [if_pos hj]
      have := hr j a ha
      simpa using this
     ·rename_i hj
      rw [if_neg hj]
      split at ha
      ·rename_i hj2
       rw [if_pos hj2]
       have := c2 _ a ha
       simpa using this
      ·rename_i hj2
       rw [if_neg hj2]
       have := hr j a ha
       simpa using this)
    (fun q hq => ho q (List.mem_cons_of_mem _ hq))
   refine ⟨vout, ?_, f2, f3, f4⟩
   simp only [Instr.fill, hpl]
   rw [if_neg (by rw [hs, c1]; simp; omega)]
   exact f1
theorem groups_len (ag : Bool) (sz : Nat) : ∀ (n : Nat) (ps : List PV), (groups ag sz n ps).length = n
 | 0, _ => rfl
 | n + 1, ps => by simp only [groups, List.length_cons, groups_len ag sz n]
theorem groups_flat {ag : Bool} {sz : Nat} (h : ag = true ∨ sz = 1) : ∀ (n : Nat) (ps : List PV), ps.length = n * sz → (∀ p ∈ ps, p.one = true) → (groups ag sz n ps).flatMap PV.cells = ps
 | 0, ps, hl, _ => by
  have : ps = [] := List.eq_nil_of_length_eq_zero (by omega)
  subst this
  rfl
 | n + 1, ps, hl, ho => by
  have hl2 : ps.length = n * sz + sz := by rw [hl, Nat.succ_mul]
  have ih := groups_flat h n (ps.drop sz) (by rw [List.length_drop]; omega) (fun p hp => ho p (List.mem_of_mem_drop hp))
  simp only [groups, List.flatMap_cons, ih]
  rcases h with rfl | rfl
  ·simp only [if_true, PV.cells]
   exact List.take_append_drop sz ps
  ·cases ag with
   | true => simp only [if_true, PV.cells]; exact List.take_append_drop 1 ps
   | false =>
    cases ps with
    | nil => simp at hl2
    | cons p ps =>
     have hp := ho p (List.mem_cons_self ..)
     have hc : p.cells = [p] := by cases p <;> first | rfl | (simp [PV.one] at hp)
     simp [hc]
theorem groups_each {ag : Bool} {sz : Nat} (h : ag = true ∨ sz = 1) : ∀ (n : Nat) (ps : List PV), ps.length = n * sz → (∀ p ∈ ps, p.one = true) → ∀ x ∈ groups ag sz n ps, x.cells.length = sz ∧ ∀ y ∈ x.cells, y.one = true
 | 0, ps, _, _, x, hx => by simp [groups] at hx
 | n + 1, ps, hl, ho, x, hx => by
  have hl2 : ps.length = n * sz + sz := by rw [hl, Nat.succ_mul]
  simp only [groups, List.mem_cons] at hx
  rcases hx with rfl | hx
  ·have key : ∀ (q : List PV), q = ps.take sz → (PV.agg q).cells.length = sz ∧ ∀ y ∈ (PV.agg q).cells, y.one = true := fun q hq => by
    subst hq
    exact ⟨by simp [PV.cells]; omega, fun y hy => ho y (List.mem_of_mem_take hy)⟩
   cases ag with
   | true => simp only [if_true]; exact key _ rfl
   | false =>
    have hs : sz = 1 := h.elim (fun e => by cases e) id
    subst hs
    cases ps with
    | nil => simp at hl2
    | cons p ps =>
     have hp := ho p (List.mem_cons_self ..)
     have hc : p.cells = [p] := by cases p <;> first | rfl | (simp [PV.one] at hp)
     simp [hc, hp]
  ·exact groups_each h n (ps.drop sz) (by rw [List.length_drop]; omega) (fun p hp => ho p (List.mem_of_mem_drop hp)) x hx
variable {P : Program} {glob : Nat → Option (List PV)} {G : Gh} {H : HS} {w : World}
def CallOk (P : Program) (glob : Nat → Option (List PV)) (call : CallF) : Prop :=
 ∀ (f : FuncId) (args : List AV) (H : HS) (r : AV) (H' : HS), call f args H = some (r, H') →
  (∃ fn, P.funcs[f]? = some fn ∧ (fn.name == "runtime.NumGoroutine") = false ∧ fn.body.isNone = false) ∧
  ∀ (G : Gh) (w : World) (vs : List Value), vs.length = args.length → (∀ (j : Nat) (a : AV), args[j]? = some a → RepA G H w a (vs.getD j Go.undef)) → HRep glob G H w →
   Calls P f vs.toArray w fun e w' => ∃ u G', e = .returned u ∧ RepA G' H' w' r u ∧ HRep glob G' H' w' ∧ Ext G H w G' H' w'
section
variable {o : Oper} {a : Act} {next : Act → World → Prop} {Q : Exit → Act → World → Prop} {v : AV} {H' : HS}
theorem up_value {u : Value} {w' : World} {G' : Gh} (hrun : (execOp a.eval o).run P w = .ok (.value u) w') (h1 : RepA G' H' w' v u) (h2 : HRep glob G' H' w') (h3 : Ext G H w G' H' w')
  (hn : ∀ (u : Value) (w' : World) (G' : Gh), RepA G' H' w' v u → HRep glob G' H' w' → Ext G H w G' H' w' → next (a.put o.dst u) w') : o.upon P a next Q ((execOp a.eval o).run P w) := by
 rw [hrun, Oper.upon_value]
 exact hn u w' G' h1 h2 h3
theorem up_same {u : Value} (hH : HRep glob G H w) (hrun : (execOp a.eval o).run P w = .ok (.value u) w) (h1 : RepA G H w v u)
  (hn : ∀ (u : Value) (w' : World) (G' : Gh), RepA G' H w' v u → HRep glob G' H w' → Ext G H w G' H w' → next (a.put o.dst u) w') : o.upon P a next Q ((execOp a.eval o).run P w) :=
 up_value hrun h1 hH (Ext.refl _ _ _) hn
end
theorem mk_some {x : Option AV} {v : AV} {H' : HS} {c : Cls} (h : mk x H = some (v, H', c)) : x = some v ∧ H' = H := by
 unfold mk at h
 split at h
 ·cases h; exact ⟨rfl, rfl⟩
 ·cases h
theorem args_rep {r : Operand → Option AV} {a : Act} (hr : ∀ x v, r x = some v → RepA G H w v (a.eval x)) {xs : Array Operand} {args : List AV} (h : all? r xs.toList = some args) :
  (xs.map a.eval).toList.length = args.length ∧ ∀ (j : Nat) (b : AV), args[j]? = some b → RepA G H w b ((xs.map a.eval).toList.getD j Go.undef) := by
 obtain ⟨h1, h2⟩ := all?_get h
 refine ⟨by simpa using h1.symm, fun j b hb => ?_⟩
 have hlt : j < xs.toList.length := by have := (List.getElem?_eq_some_iff.1 hb).1; omega
 obtain ⟨y, e1, e2⟩ := h2 j xs.toList[j] (List.getElem?_eq_getElem hlt)
 rw [hb] at e1
 cases e1
 have := hr _ _ e2
 have hlt2 : j < xs.size := by simpa using hlt
 simpa [List.getD_eq_getElem?_getD, hlt2] using this
theorem foldInts_sound {f : Int → Int → Int} {g : Value → Value → Sem Value} (hg : ∀ k x k' y, g (.int k x) (.int k' y) = pure (.int k (f x y))) : ∀ {xs : List AV} {vs : List Value} {k : IntKind} {n m : Int}, foldInts f k n xs = some m → vs.length = xs.length →
  (∀ (j : Nat) (b : AV), xs[j]? = some b → RepA G H w b (vs.getD j Go.undef)) → (vs.foldlM g (.int k n)).run P w = .ok (.int k m) w
 | [], vs, k, n, m, h, hl, _ => by
  simp only [foldInts] at h
  cases h
  have : vs = [] := List.eq_nil_of_length_eq_zero (by simpa using hl)
  subst this
  simp
 | x :: xs, [], k, n, m, h, hl, _ => by simp at hl
 | x :: xs, v :: vs, k, n, m, h, hl, hr => by
  cases x with
  | pv p =>
   cases p with
   | int k' q =>
    simp only [foldInts] at h
    split at h <;> first | (cases h; done) | skip
    have hv := hr 0 _ rfl
    simp only [List.getD_cons_zero] at hv
    rw [int_of hv]
    simp only [List.foldlM_cons, hg]
    have := foldInts_sound hg (vs := vs) h (by simpa using hl) (fun j b hb => by have := hr (j + 1) b (by simpa using hb); simpa using this)
    simpa using this
   | _ => simp only [foldInts] at h; cases h
  | _ => simp only [foldInts] at h; cases h
theorem run_len {t ty : TypeId} {ats : Array TypeId} {args : Array Value} {x : AV} {vx : Value} {n : Nat} (h : lenA P t x = some n) (hx : RepA G H w x vx) (hat : ats[0]? = some t) (har : args[0]? = some vx) : (Builtin.len_ ats ty args).run P w = .ok (.int .i64 n) w := by
 unfold lenA at h
 split at h <;> first | (cases h; done) | skip
 ·rename_i s hu
  cases h
  obtain ⟨b, rfl, rfl⟩ := str_of hx
  rw [← ba_size b]
  simp [Builtin.len_, hat, har, run_underlying hu, goInt]
 ·rename_i n2 e hu
  cases h
  cases vx <;> simp [Builtin.len_, hat, har, run_underlying hu, goInt]
 ·rename_i e hu
  split at h <;> first | (cases h; done) | skip
  rename_i n2 e2 hu2
  cases h
  cases vx <;> simp [Builtin.len_, hat, har, run_underlying hu, run_underlying hu2, goInt]
 ·rename_i e hu
  split at h <;> first | (cases h; done) | skip
  rename_i nn sz xs hp
  cases h
  rcases (pure_rep hx hp).row with ⟨_, rfl, rfl⟩ | ⟨_, b, o, c, rfl, _⟩
  ·simp [Builtin.len_, hat, har, run_underlying hu, goInt]
  ·simp [Builtin.len_, hat, har, run_underlying hu, goInt]
theorem HRep.bare (h : HRep glob G H w) : HRep glob G [] w where
 box := fun id cs hq => by simp at hq
 tok := fun id v e s hq => by simp at hq
 apart := fun i j k _ hi _ => by obtain ⟨x, hx, _⟩ := Gh.at_live hi; simp at hx
 glob := fun g cs hg => by
  have := h.glob g cs hg
  cases this with
  | pim b o cs u h1 hu hr => exact .pim _ _ _ u h1 hu hr
 old := h.old
theorem pure_back {G1 : Gh} {H1 : HS} {w' : World} (hH : HRep glob G H w) (h1 : HRep glob G1 H1 w') (e : Ext G [] w G1 H1 w') :
  HRep glob { G with F := G1.F } H w' ∧ Ext G H w { G with F := G1.F } H w' := by
 have noat : ∀ id, G.at [] id = none := fun id => by unfold Gh.at; simp
 have hbl : ∀ b, b < w.heap.size → w'.heap[b]? = w.heap[b]? := fun b hb => e.blocks b hb (fun id => by rw [noat]; simp)
 have hF : ∀ b o, G1.F b o → G.F b o ∨ w.heap.size ≤ b := fun b o h => by
  rcases e.F_new b o h with p | p | ⟨id, v, ee, s, p, _⟩
  ·exact .inl p
  ·exact .inr p
  ·simp at p
 have ex : Ext G H w { G with F := G1.F } H w' := {
  os := e.os
  tape := e.tape
  output := e.output
  size := e.size
  F_mono := e.F_mono
  cells := e.cells
  F_new := fun b o h => by
   rcases hF b o h with p | p
   ·exact .inl p
   ·exact .inr (.inl p)
  box := fun id cs h => ⟨rfl, cs, h⟩
  tok := fun id ver ee sz h => ⟨ver, h, Nat.le_refl _, fun _ => rfl, .inl rfl⟩
  new := fun id k hn hk => by
   obtain ⟨x, hx, hlv⟩ := Gh.at_live hk
   exact absurd hlv (by rw [hn x hx]; simp)
  blocks := fun b hb _ => hbl b hb }
 have hout : H[H.length]? = none := by simp
 refine ⟨hH.step H.length ex (fun id _ => ⟨rfl, rfl, rfl⟩) (fun b hb _ => hbl b hb) (fun b o h => ?_) (fun k hk => ?_) (fun cs h => ?_) (fun v ee s h => ?_) (fun b o h => h1.old b o h), ex⟩
 ·rcases hF b o h with p | p
  ·exact .inl p
  ·exact .inr (.inl p)
 ·obtain ⟨x, hx, _⟩ := Gh.at_live hk
  rw [hout] at hx
  cases hx
 ·rw [hout] at h; cases h
 ·rw [hout] at h; cases h
theorem callA_sound {call : CallF} (hcall : CallOk P glob call) {f : FuncId} {args : List AV} {v : AV} {H' : HS} {c : Cls} (h : callA call f args H = some (v, H', c)) {vs : List Value} (hl : vs.length = args.length)
  (hr : ∀ (j : Nat) (a : AV), args[j]? = some a → RepA G H w a (vs.getD j Go.undef)) (hH : HRep glob G H w) :
  (callFunc f vs.toArray).run P w = .ok (.enter f vs.toArray) w ∧ Calls P f vs.toArray w fun e w' => ∃ u G', e = .returned u ∧ RepA G' H' w' v u ∧ HRep glob G' H' w' ∧ Ext G H w G' H' w' := by
 have enter : ∀ {as : List AV} {H0 : HS} {r : AV} {H1 : HS}, call f as H0 = some (r, H1) → (callFunc f vs.toArray).run P w = .ok (.enter f vs.toArray) w := fun hc => by
  obtain ⟨⟨fn, h1, h2, h3⟩, _⟩ := hcall _ _ _ _ _ hc
  obtain ⟨cc, hcc⟩ : ∃ cc, fn.body = some cc := by
   cases hb : fn.body with
   | none => rw [hb] at h3; cases h3
   | some cc => exact ⟨cc, rfl⟩
  simp [callFunc, h1, hcc]
  exact by simpa using h2
 unfold callA at h
 split at h
 ·rename_i ps hps
  split at h <;> first | (cases h; done) | skip
  rename_i r H1 hc
  cases h
  refine ⟨enter hc, ?_⟩
  obtain ⟨g1, g2⟩ := all?_get hps
  have := (hcall _ _ _ _ _ hc).2 G w vs (by simp; omega) (fun j b hb => by
   simp only [List.getElem?_map, Option.map_eq_some_iff] at hb
   obtain ⟨q, hq, rfl⟩ := hb
   have hlt : j < args.length := by have := (List.getElem?_eq_some_iff.1 hq).1; omega
   obtain ⟨y, e1, e2⟩ := g2 j args[j] (List.getElem?_eq_getElem hlt)
   rw [hq] at e1
   cases e1
   exact .pv _ _ (pure_rep (hr j _ (List.getElem?_eq_getElem hlt)) e2)) hH.bare
  refine this.mono ?_
  rintro e w' ⟨u, G1, he, hu, hH1, hex⟩
  obtain ⟨k1, k2⟩ := pure_back hH hH1 hex
  exact ⟨u, { G with F := G1.F }, he, .pv _ _ hu.of_pv, k1, k2⟩
 ·split at h <;> first | (cases h; done) | skip
  rename_i r H1 hc
  cases h
  exact ⟨enter hc, (hcall _ _ _ _ _ hc).2 G w vs hl hr hH⟩
theorem enter_up {o : Oper} {a : Act} {next : Act → World → Prop} {Q : Exit → Act → World → Prop} {v : AV} {H' : HS} {f : FuncId} {xs : Array Value} (hrun : (execOp a.eval o).run P w = .ok (.enter f xs) w)
  (hc : Calls P f xs w fun e w' => ∃ u G', e = .returned u ∧ RepA G' H' w' v u ∧ HRep glob G' H' w' ∧ Ext G H w G' H' w')
  (hn : ∀ (u : Value) (w' : World) (G' : Gh), RepA G' H' w' v u → HRep glob G' H' w' → Ext G H w G' H' w' → next (a.put o.dst u) w') : o.upon P a next Q ((execOp a.eval o).run P w) := by
 rw [hrun, Oper.upon_enter]
 refine hc.mono ?_
 rintro e w' ⟨u, G', rfl, h1, h2, h3⟩
 exact hn u w' G' h1 h2 h3
theorem getD_append_left {us vs : List Value} {n : Nat} (h : us.length = n) (j : Nat) : (us ++ vs).getD j Go.undef = if j < n then us.getD j Go.undef else vs.getD (j - n) Go.undef := by
 subst h
 rw [List.getD_eq_getElem?_getD, List.getElem?_append]
 split <;> rw [List.getD_eq_getElem?_getD]
theorem const1_nt {v : Value} {p : PV} (h : const1 v = some p) : (∀ vs, p ≠ .tup vs) ∧ p.cells.all PV.one = true := by
 have h1 := const1_one h
 cases p <;> first | (simp [PV.one] at h1; done) | (exact ⟨fun vs e => (by cases e), by simp [PV.cells, PV.one]⟩)
theorem constV_nt {F : Nat → Nat → Prop} {p : PV} {u : Value} (_h : Rep F w p u) (hc : ∃ v, constV v = some p) : (∀ vs, p ≠ .tup vs) ∧ p.cells.all PV.one = true := by
 obtain ⟨v, h⟩ := hc
 unfold constV at h
 split at h
 ·split at h
  ·rename_i cs hcs
   cases h
   refine ⟨fun vs e => (by cases e), List.all_eq_true.2 fun y hy => ?_⟩
   obtain ⟨x, _, hx⟩ := all?_mem hcs hy
   exact const1_one hx
  ·cases h
 ·exact const1_nt h
theorem zero_const {t : TypeId} {z : PV} (h : zeroT P t = some z) : ∃ v, constV v = some z := by
 unfold zeroT at h
 split at h <;> first | (cases h; done) | skip
 split at h <;> first | (cases h; done) | skip
 exact ⟨_, h⟩
theorem all?_places {fs : List Field} : ∀ {ps : List (Nat × Nat)}, all? (placeT P) fs = some ps → fs.mapM (fun f => (P.info? f.type).map fun i => (f.offset, i.size)) = some ps := by
 induction fs with
 | nil => intro ps h; simp only [all?] at h; cases h; rfl
 | cons f fs ih =>
  intro ps h
  simp only [all?] at h
  split at h <;> first | (cases h; done) | skip
  rename_i y hy
  split at h <;> first | (cases h; done) | skip
  rename_i ys hys
  cases h
  unfold placeT at hy
  split at hy <;> first | (cases hy; done) | skip
  rename_i n hn
  cases hy
  have := ih hys
  unfold sizeT at hn
  split at hn <;> first | (cases hn; done) | skip
  rename_i i hi
  cases hn
  simp [List.mapM_cons, hi, this]
theorem agg_of {cs : List PV} {v : Value} (h : Rep G.F w (.agg cs) v) : ∃ us : List Value, v = .agg us.toArray ∧ us.length = cs.length ∧ (∀ y ∈ cs, y.one = true) ∧ ∀ (j : Nat) (q : PV), cs[j]? = some q → Rep G.F w q (us.getD j Go.undef) := by
 cases h with | agg _ us h1 h2 h3 => exact ⟨us, rfl, h1, h2, h3⟩
theorem aggA_of {cs : List AV} {v : Value} (h : RepA G H w (.agg cs) v) : ∃ us : List Value, v = .agg us.toArray ∧ us.length = cs.length ∧ (∀ y ∈ cs, y.one = true) ∧ ∀ (j : Nat) (q : AV), cs[j]? = some q → RepA G H w q (us.getD j Go.undef) := by
 cases h with | agg _ us h1 h2 h3 => exact ⟨us, rfl, h1, h2, h3⟩
theorem tup_of {cs : List PV} {v : Value} (h : Rep G.F w (.tup cs) v) : ∃ us : List Value, v = .tuple us.toArray ∧ us.length = cs.length ∧ ∀ (j : Nat) (q : PV), cs[j]? = some q → Rep G.F w q (us.getD j Go.undef) := by
 cases h with | tup _ us h1 h3 => exact ⟨us, rfl, h1, h3⟩
theorem tupA_of {cs : List AV} {v : Value} (h : RepA G H w (.tup cs) v) : ∃ us : List Value, v = .tuple us.toArray ∧ us.length = cs.length ∧ ∀ (j : Nat) (q : AV), cs[j]? = some q → RepA G H w q (us.getD j Go.undef) := by
 cases h with | tup _ us h1 h3 => exact ⟨us, rfl, h1, h3⟩
theorem parts_reps {r : Operand → Option AV} {a : Act} (hr : ∀ x v, r x = some v → RepA G H w v (a.eval x)) {parts : Array (Nat × Operand)} {ps : List (Nat × AV)} (hps : all? (partA r) parts.toList = some ps) :
  (parts.map fun (i, x) => (i, a.eval x)).toList.length = ps.length ∧ ∀ (j : Nat) (q : Nat × AV), ps[j]? = some q → ∃ u, (parts.map fun (i, x) => (i, a.eval x)).toList[j]? = some (q.1, u) ∧ RepA G H w q.2 u := by
 obtain ⟨g1, g2⟩ := all?_get hps
 refine ⟨by simpa using g1.symm, fun j q hq => ?_⟩
 have hlt : j < parts.toList.length := by have := (List.getElem?_eq_some_iff.1 hq).1; omega
 obtain ⟨y, e1, e2⟩ := g2 j parts.toList[j] (List.getElem?_eq_getElem hlt)
 rw [hq] at e1
 cases e1
 unfold partA at e2
 split at e2 <;> first | (cases e2; done) | skip
 rename_i b hb
 cases e2
 have hlt2 : j < parts.size := by simpa using hlt
 exact ⟨a.eval (parts.toList[j]).2, by simp [hlt2], hr _ _ hb⟩
theorem pure_one {a : AV} {p : PV} (hp : a.pure? = some p) (h : a.one = true) : p.one = true := by
 cases a <;> simp [AV.pure?, AV.one] at hp h <;> first | (subst hp; exact h) | skip
theorem buildSlice_sound {t : TypeId} {len : Nat} {parts : Array (Nat × Operand)} {r : Operand → Option AV} {a : Act} {e : TypeId} {z : PV} {sz : Nat} {ag : Bool} {ps : List (Nat × AV)} {cs : List AV} {qs : List PV}
  (hr : ∀ x v, r x = some v → RepA G H w v (a.eval x)) (hH : HRep glob G H w) (hu : P.underlying t = some (.slice e)) (hz : zeroT P e = some z) (hs : sizeT P e = some sz) (hps : all? (partA r) parts.toList = some ps)
  (hc : sz ≠ 0 ∧ len ≠ 0 ∧ len * sz ≤ 16777216 ∧ z.cells.length = sz ∧ (ag = true ∨ sz = 1))
  (hf : fillA (fun i => some (i * sz, sz)) ((List.range (len * sz)).map fun j => .pv (z.cells.getD (j % sz) .undef)) ps = some cs) (hq : all? AV.pure? cs = some qs) :
  ∃ u w' G', (Instr.buildSlice t len (parts.map fun (i, x) => (i, a.eval x))).run P w = .ok u w' ∧ RepA G' H w' (.full (.sl (some true) sz (groups ag sz len qs))) u ∧ HRep glob G' H w' ∧ Ext G H w G' H w' := by
 obtain ⟨c1, c2, c3, c4, c5⟩ := hc
 obtain ⟨i, zv, hi, hzv, hrep⟩ : ∃ i zv, P.info? e = some i ∧ i.zero = some zv ∧ Rep G.F w z zv := by
  have hzt := hz
  unfold zeroT at hzt
  split at hzt <;> first | (cases hzt; done) | skip
  rename_i i hi
  split at hzt <;> first | (cases hzt; done) | skip
  rename_i zv hzv
  exact ⟨i, zv, hi, hzv, constV_rep hzt⟩
 have hsz : i.size = sz := by
  unfold sizeT at hs
  rw [hi] at hs
  exact Option.some.inj hs
 obtain ⟨nt1, nt2⟩ := constV_nt hrep (zero_const hz)
 obtain ⟨z1, z2, z3⟩ := hrep.cells nt1
 obtain ⟨p1, p2⟩ := parts_reps hr hps
 have hn : ¬ len * sz = 0 := Nat.mul_ne_zero c2 c1
 have hzs : zv.cells.size = sz := by omega
 have hcells : ∀ j, j < len * sz → z.cells[j % sz]? = some (z.cells.getD (j % sz) .undef) := fun j hj => by
  have : j % sz < z.cells.length := by rw [c4]; exact Nat.mod_lt _ (by omega)
  rw [List.getD_eq_getElem?_getD, List.getElem?_eq_getElem this]
  rfl
 obtain ⟨vout, f1, f2, f3, f4⟩ := fill_sound (G := G) (H := H) (w := w) (vcells := (Array.range (len * sz)).map (zv.cells[· % zv.cells.size]!)) hf p1 p2 (by simp) (fun y hy => by
   simp only [List.mem_map, List.mem_range] at hy
   obtain ⟨j, hj, rfl⟩ := hy
   exact z2 _ (List.mem_of_getElem? (hcells j hj))) (fun j b hb => by
   simp only [List.getElem?_map, Option.map_eq_some_iff] at hb
   obtain ⟨k, hk, rfl⟩ := hb
   obtain ⟨hk1, hk2⟩ := List.getElem?_eq_some_iff.1 hk
   simp at hk1 hk2
   subst hk2
   have := z3 _ _ (hcells j hk1)
   rw [show ((Array.range (len * sz)).map (zv.cells[· % zv.cells.size]!)).getD j Go.undef = zv.cells.getD (j % sz) Go.undef by
    have hm : j % sz < zv.cells.size := by rw [hzs]; exact Nat.mod_lt _ (by omega)
    simp [Array.getD, hk1, hzs]
    rw [getElem!_pos zv.cells (j % sz) hm, dif_pos (hzs ▸ hm)]]
   exact .pv _ _ this) (fun q hq xs hxs y hy => by
   obtain ⟨j, hj⟩ := List.getElem?_of_mem hq
   obtain ⟨u, _, hu⟩ := p2 j q hj
   exact cells_one hu hxs y hy)
 have hrun := run_buildSlice (P := P) w t e len (parts.map fun (i, x) => (i, a.eval x)) vout i zv hu hi hzv (by rw [hsz]; omega) (by rw [hsz]; exact hn) (by rw [hsz]; exact f1)
 obtain ⟨q1, q2⟩ := all?_get hq
 have hfl : ∀ {place : Nat → Option (Nat × Nat)} {ps : List (Nat × AV)} {c0 c1 : List AV}, fillA place c0 ps = some c1 → c1.length = c0.length := by
  intro place ps
  induction ps with
  | nil => intro c0 c1 h; simp only [fillA] at h; cases h; rfl
  | cons q ps ih =>
   obtain ⟨i, v⟩ := q
   intro c0 c1 h
   simp only [fillA] at h
   split at h <;> first | (cases h; done) | skip
   split at h <;> first | (cases h; done) | skip
   rename_i hb
   rw [ih h]
   unfold splice
   simp only [List.length_append, List.length_take, List.length_drop]
   omega
 have hlen : qs.length = len * sz := by rw [q1, hfl hf, List.length_map, List.length_range]
 have hone : ∀ p ∈ qs, p.one = true := fun p hp => by
  obtain ⟨x, hx, he⟩ := all?_mem hq hp
  exact pure_one he (f3 x hx)
 have hcell : ∀ j, j < len * sz → (w.alloc (.cells vout e)).cell? ⟨w.heap.size, j, none⟩ = some (vout.getD j Go.undef) := fun j hj => by
  rw [World.cell?_alloc_new]
  have : j < vout.size := by rw [f2, hfl hf, List.length_map, List.length_range]; exact hj
  simp [Array.getD, this]
 obtain ⟨h1, h2⟩ := new_row (w' := w.alloc (.cells vout e)) (len * sz) w.heap.size (fun j => vout.getD j Go.undef) hH rfl rfl rfl (by simp) (fun k hk => heap_alloc_old w _ k hk) (Nat.le_refl _) (by simp) hcell
 refine ⟨_, _, _, hrun, .full _ _ ?_ (fun _ _ _ h => by injection h with _ h1 h2; omega), h1, h2⟩
 have hgl := groups_len ag sz len qs
 have := Rep.sl (F := fun x o => G.F x o ∨ (x = w.heap.size ∧ o < len * sz)) (w := w.alloc (.cells vout e)) (some true) (by simp) w.heap.size 0 len sz (groups ag sz len qs) (fun j => vout.getD j Go.undef) (by omega)
  (fun x hx => (groups_each c5 len qs hlen hone x hx).1) (fun x hx => (groups_each c5 len qs hlen hone x hx).2)
  (fun j hj => by rw [hgl] at hj; exact ⟨by rw [Nat.zero_add]; exact hcell j hj, .inr ⟨rfl, by omega⟩⟩)
  (fun j p hp => by
   rw [groups_flat c5 len qs hlen hone] at hp
   have hj : j < cs.length := by have := (List.getElem?_eq_some_iff.1 hp).1; omega
   obtain ⟨y, e1, e2⟩ := q2 j cs[j] (List.getElem?_eq_getElem hj)
   rw [hp] at e1
   cases e1
   have := pure_rep (f4 j cs[j] (List.getElem?_eq_getElem hj)) e2
   exact this.mono (fun _ _ h => .inl h) (fun b o hF => World.cell?_alloc_lt w _ ⟨b, o, none⟩ (hH.old b o hF)))
 rw [hgl] at this
 exact this
set_option maxHeartbeats 1000000 in
theorem aop_sound {call : CallF} (hcall : CallOk P glob call) {slot : Nat} {op : Op} {ty : TypeId} {r : Operand → Option AV} {v : AV} {H' : HS} {c : Cls} {o : Oper} {a : Act} {next : Act → World → Prop} {Q : Exit → Act → World → Prop}
  (h : aop P call slot op ty r H = some (v, H', c)) (ho : o.op = op) (hr : ∀ x v, r x = some v → RepA G H w v (a.eval x)) (hH : HRep glob G H w)
  (hn : ∀ (u : Value) (w' : World) (G' : Gh), RepA G' H' w' v u → HRep glob G' H' w' → Ext G H w G' H' w' → next (a.put o.dst u) w') : o.upon P a next Q ((execOp a.eval o).run P w) := by
 cases op <;> first | (simp only [aop] at h; cases h; done) | skip
 case move x =>
  simp only [aop] at h
  obtain ⟨h1, rfl⟩ := mk_some h
  exact up_same hH (by simp only [execOp, ho]; rfl) (hr x v h1) hn
 case assign x =>
  simp only [aop] at h
  obtain ⟨h1, rfl⟩ := mk_some h
  exact up_same hH (by simp only [execOp, ho]; rfl) (hr x v h1) hn
 case pick x y z =>
  simp only [aop] at h
  split at h <;> first | (cases h; done) | skip
  rename_i t p q ht hp hq
  obtain ⟨h1, rfl⟩ := mk_some h
  cases h1
  have hb := bool_of (hr _ _ ht)
  refine up_same hH (u := if t then a.eval y else a.eval z) (by simp only [execOp, ho, hb, asBool]; simp) ?_ hn
  cases t
  ·exact hr _ _ hq
  ·exact hr _ _ hp
 case alloc e =>
  simp only [aop] at h
  split at h <;> first | (cases h; done) | skip
  rename_i z hzt hsl
  split at h <;> first | (cases h; done) | skip
  rename_i hone
  cases h
  unfold zeroT at hzt
  split at hzt <;> first | (cases hzt; done) | skip
  rename_i i hi
  split at hzt <;> first | (cases hzt; done) | skip
  rename_i zv hzv
  have hrep : Rep G.F w z zv := constV_rep hzt
  have hnt : ∀ vs, z ≠ .tup vs := fun vs e => by subst e; simp [PV.cells, PV.one] at hone
  obtain ⟨c1, c2, c3⟩ := hrep.cells hnt
  obtain ⟨G', n1, n2, n3⟩ := new_box (us := zv.cells) (e := e) (cs := z.cells.map .pv) hH hsl (by simpa using c1) (fun y hy => by simp only [List.mem_map] at hy; obtain ⟨q, hq, rfl⟩ := hy; exact c2 q hq) (fun j b hb => by
   simp only [List.getElem?_map, Option.map_eq_some_iff] at hb
   obtain ⟨q, hq, rfl⟩ := hb
   exact .pv _ _ (c3 j q hq))
  refine up_value (by simp [execOp, ho, Instr.alloc, zeroValue, typeInfo, hi, hzv, newVar, newRow]) n1 n2 n3 hn
 case box e x =>
  simp only [aop] at h
  split at h <;> first | (cases h; done) | skip
  rename_i b hb hsl
  split at h <;> first | (cases h; done) | skip
  rename_i cs hcs
  split at h <;> first | (cases h; done) | skip
  rename_i hone
  cases h
  obtain ⟨c1, c2⟩ := cellsA_rep (hr _ _ hb) hcs
  obtain ⟨G', n1, n2, n3⟩ := new_box (us := (a.eval x).cells) (e := e) (cs := cs) hH hsl c1 (fun y hy => by simpa using List.all_eq_true.1 hone y hy) c2
  refine up_value (by simp [execOp, ho, Instr.box, newVar, newRow]) n1 n2 n3 hn
 case build t parts =>
  simp only [aop] at h
  have parts_rep : ∀ ps : List (Nat × AV), all? (partA r) parts.toList = some ps →
    (parts.map fun (i, x) => (i, a.eval x)).toList.length = ps.length ∧ ∀ (j : Nat) (q : Nat × AV), ps[j]? = some q → ∃ u, (parts.map fun (i, x) => (i, a.eval x)).toList[j]? = some (q.1, u) ∧ RepA G H w q.2 u := fun ps hps => by
   obtain ⟨g1, g2⟩ := all?_get hps
   refine ⟨by simpa using g1.symm, fun j q hq => ?_⟩
   have hlt : j < parts.toList.length := by have := (List.getElem?_eq_some_iff.1 hq).1; omega
   obtain ⟨y, e1, e2⟩ := g2 j parts.toList[j] (List.getElem?_eq_getElem hlt)
   rw [hq] at e1
   cases e1
   unfold partA at e2
   split at e2 <;> first | (cases e2; done) | skip
   rename_i b hb
   cases e2
   have hlt2 : j < parts.size := by simpa using hlt
   exact ⟨a.eval (parts.toList[j]).2, by simp [hlt2], hr _ _ hb⟩
  have zero : ∀ z, zeroT P t = some z → ∃ i zv, P.info? t = some i ∧ i.zero = some zv ∧ Rep G.F w z zv := fun z hzt => by
   unfold zeroT at hzt
   split at hzt <;> first | (cases hzt; done) | skip
   rename_i i hi
   split at hzt <;> first | (cases hzt; done) | skip
   rename_i zv hzv
   exact ⟨i, zv, hi, hzv, constV_rep hzt⟩
  have finish : ∀ (place : Nat → Option (Nat × Nat)) (z : PV) (zv : Value) (ps : List (Nat × AV)) (cs : List AV), Rep G.F w z zv → z.cells.all PV.one = true → (∀ vs, z ≠ .tup vs) →
    all? (partA r) parts.toList = some ps → (∀ q ∈ ps, ∀ xs, q.2.cells = some xs → ∀ y ∈ xs, y.one = true) → fillA place (z.cells.map .pv) ps = some cs →
    ∃ vout : Array Value, Instr.fill place zv.cells (parts.map fun (i, x) => (i, a.eval x)).toList = some vout ∧ RepA G H w (aggOf cs) (.agg vout) := by
   intro place z zv ps cs hrep hall hnt hps hone hfill
   obtain ⟨c1, c2, c3⟩ := hrep.cells hnt
   obtain ⟨p1, p2⟩ := parts_rep ps hps
   obtain ⟨vout, f1, f2, f3, f4⟩ := fill_sound (G := G) (H := H) (w := w) (vcells := zv.cells) hfill p1 p2 (by simpa using c1) (fun y hy => by simp only [List.mem_map] at hy; obtain ⟨q, hq, rfl⟩ := hy; exact c2 q hq) (fun j b hb => by
    simp only [List.getElem?_map, Option.map_eq_some_iff] at hb
    obtain ⟨q, hq, rfl⟩ := hb
    exact .pv _ _ (c3 j q hq)) hone
   refine ⟨vout, f1, ?_⟩
   have := aggOf_rep (G := G) (H := H) (w := w) (us := vout.toList) (by simpa using f2) f3 (fun j b hb => by simpa using f4 j b hb)
   simpa using this
  have hones : ∀ ps : List (Nat × AV), all? (partA r) parts.toList = some ps → ∀ q ∈ ps, ∀ xs, q.2.cells = some xs → ∀ y ∈ xs, y.one = true := fun ps hps q hq xs hxs y hy => by
   obtain ⟨j, hj⟩ := List.getElem?_of_mem hq
   obtain ⟨u, _, hu⟩ := (parts_rep ps hps).2 j q hj
   exact cells_one hu hxs y hy
  split at h <;> first | (cases h; done) | skip
  ·rename_i z fs ps hzt hu hps
   obtain ⟨i, zv, hi, hzv, hrep⟩ := zero z hzt
   split at h <;> first | (cases h; done) | skip
   rename_i places hpl
   split at h <;> first | (cases h; done) | skip
   rename_i cs hcs
   obtain ⟨h1, rfl⟩ := mk_some h
   cases h1
   obtain ⟨nt1, nt2⟩ := constV_nt hrep (zero_const hzt)
   obtain ⟨vout, f1, f2⟩ := finish _ z zv ps cs hrep nt2 nt1 hps (hones ps hps) hcs
   have hb : P.built t (parts.map fun (i, x) => (i, a.eval x)).toList = some vout := by
    unfold Program.built
    simp only [hi, hu, hzv, all?_places hpl]
    have ep : (fun i : Nat => places.toArray[i]?) = fun i : Nat => places[i]? := by funext i; simp
    rw [ep]
    exact f1
   exact up_same hH (by simp only [execOp, ho]; rw [Sem.run_bind, run_build w t _ vout hb]; rfl) f2 hn
  ·rename_i z n e ps hzt hu hps
   obtain ⟨i, zv, hi, hzv, hrep⟩ := zero z hzt
   split at h <;> first | (cases h; done) | skip
   rename_i m hm
   split at h <;> first | (cases h; done) | skip
   rename_i cs hcs
   obtain ⟨h1, rfl⟩ := mk_some h
   cases h1
   obtain ⟨nt1, nt2⟩ := constV_nt hrep (zero_const hzt)
   obtain ⟨vout, f1, f2⟩ := finish _ z zv ps cs hrep nt2 nt1 hps (hones ps hps) hcs
   obtain ⟨ie, hie, hm2⟩ : ∃ ie, P.info? e = some ie ∧ m = ie.size := by
    unfold sizeT at hm
    split at hm
    ·rename_i ie hie; cases hm; exact ⟨ie, hie, rfl⟩
    ·cases hm
   have hb : P.built t (parts.map fun (i, x) => (i, a.eval x)).toList = some vout := by
    unfold Program.built
    simp only [hi, hu, hzv, hie, ← hm2]
    exact f1
   exact up_same hH (by simp only [execOp, ho]; rw [Sem.run_bind, run_build w t _ vout hb]; rfl) f2 hn
 case buildSlice t len parts =>
  simp only [aop] at h
  split at h <;> first | (cases h; done) | skip
  rename_i e hu
  split at h <;> first | (cases h; done) | skip
  rename_i z sz ag ps hz hs hag hps
  split at h <;> first | (cases h; done) | skip
  rename_i hc
  split at h <;> first | (cases h; done) | skip
  rename_i cs hcs
  split at h <;> first | (cases h; done) | skip
  rename_i qs hqs
  obtain ⟨h1, rfl⟩ := mk_some h
  cases h1
  obtain ⟨u, w', G', h2, h3, h4, h5⟩ := buildSlice_sound hr hH hu hz hs hps hc hcs hqs
  exact up_value (by simp only [execOp, ho]; rw [Sem.run_bind, h2]; rfl) h3 h4 h5 hn
 case load t x =>
  simp only [aop] at h
  split at h <;> first | (cases h; done) | skip
  ·rename_i cs hx
   split at h <;> first | (cases h; done) | skip
   rename_i p hp
   obtain ⟨h1, rfl⟩ := mk_some h
   cases h1
   obtain ⟨u, h2, h3⟩ := load_pim (P := P) (hr _ _ hx) hp
   exact up_same hH (by simp [execOp, ho, h2]) h3 hn
  ·rename_i id off hx
   split at h <;> first | (cases h; done) | skip
   rename_i cs hcs
   split at h <;> first | (cases h; done) | skip
   rename_i b hb
   cases h
   obtain ⟨u, h2, h3⟩ := load_ptr (P := P) hH hcs hb
   rw [← ptr_of (hr _ _ hx)] at h2
   exact up_same hH (by simp [execOp, ho, h2]) h3 hn
 case store t x y =>
  simp only [aop] at h
  split at h <;> first | (cases h; done) | skip
  rename_i id off b n hx hy hsz
  split at h <;> first | (cases h; done) | skip
  rename_i cs xs hcs hxs
  split at h <;> first | (cases h; done) | skip
  rename_i hcond
  obtain ⟨rfl, hle, hone⟩ := hcond
  cases h
  obtain ⟨w', h2, h3, h4⟩ := store_ptr (P := P) hH hcs (hr _ _ hy) hxs hsz hle (fun q hq => by simpa using List.all_eq_true.1 hone q hq)
  rw [← ptr_of (hr _ _ hx)] at h2
  have hrun : (execOp a.eval o).run P w = .ok .skip w' := by simp [execOp, ho, h2]
  rw [hrun, Oper.upon_skip]
  exact hn Go.undef w' G (.pv _ _ Rep.undef) h3 h4
 case nilCheck x =>
  simp only [aop] at h
  split at h <;> first | (cases h; done) | skip
  ·rename_i id off hx
   obtain ⟨h1, rfl⟩ := mk_some h
   cases h1
   have := ptr_of (hr _ _ hx)
   exact up_same hH (u := a.eval x) (by simp only [execOp, ho, this]; rfl) (hr _ _ hx) hn
  ·rename_i cs hx
   obtain ⟨h1, rfl⟩ := mk_some h
   cases h1
   obtain ⟨b, o2, hp⟩ := pim_of (hr _ _ hx)
   exact up_same hH (u := a.eval x) (by simp only [execOp, ho, hp]; rfl) (hr _ _ hx) hn
  ·rename_i f hx
   obtain ⟨h1, rfl⟩ := mk_some h
   cases h1
   have := fn_of (hr _ _ hx)
   exact up_same hH (u := a.eval x) (by simp only [execOp, ho, this]; rfl) (hr _ _ hx) hn
  ·rename_i f cs hx
   obtain ⟨h1, rfl⟩ := mk_some h
   cases h1
   obtain ⟨us, hp, _⟩ := clo_of (hr _ _ hx)
   exact up_same hH (u := a.eval x) (by simp only [execOp, ho, hp]; rfl) (hr _ _ hx) hn
 case binOp op t x y yt =>
  simp only [aop] at h
  split at h <;> first | (cases h; done) | skip
  rename_i b c hb hc
  obtain ⟨h1, rfl⟩ := mk_some h
  obtain ⟨u, h2, h3⟩ := binA_sound (P := P) (ox := x) h1 (hr _ _ hb) (hr _ _ hc)
  exact up_same hH (by simp only [execOp, ho]; rw [Sem.run_bind, h2]; rfl) h3 hn
 case unOp op t x =>
  simp only [aop] at h
  split at h <;> first | (cases h; done) | skip
  rename_i b hb
  obtain ⟨h1, rfl⟩ := mk_some h
  obtain ⟨u, h2, h3⟩ := unA_sound (P := P) h1 (hr _ _ hb)
  exact up_same hH (by simp only [execOp, ho]; rw [Sem.run_bind, h2]; rfl) h3 hn
 case convert s d x =>
  simp only [aop] at h
  split at h <;> first | (cases h; done) | skip
  rename_i b hb
  obtain ⟨h1, rfl⟩ := mk_some h
  obtain ⟨u, w', G', h2, h3, h4, h5⟩ := convA_sound (P := P) h1 (hr _ _ hb) hH
  exact up_value (by simp only [execOp, ho]; rw [Sem.run_bind, h2]; rfl) h3 h4 h5 hn
 case makeFunc fn first caps =>
  cases fn <;> first | (simp only [aop] at h; cases h; done) | skip
  rename_i f
  simp only [aop] at h
  split at h <;> first | (cases h; done) | skip
  rename_i hf
  have hf2 : first = #[] := Array.size_eq_zero_iff.1 hf
  subst hf2
  split at h <;> first | (cases h; done) | skip
  ·rename_i hc
   obtain ⟨h1, rfl⟩ := mk_some h
   cases h1
   have hcn : caps = #[] := by
    have := (all?_get hc).1
    exact Array.size_eq_zero_iff.1 (by simpa using this.symm)
   subst hcn
   exact up_same hH (by simp [execOp, ho, Instr.makeFunc]) (.pv _ _ (.fn f)) hn
  ·rename_i cs _ hc
   obtain ⟨h1, rfl⟩ := mk_some h
   cases h1
   obtain ⟨a1, a2⟩ := args_rep hr hc
   have := RepA.clo f cs _ a1 a2
   have e : (caps.map a.eval).toList.toArray = caps.map a.eval := Array.ext' (by simp)
   rw [e] at this
   exact up_same hH (u := .func (.func f) #[] (caps.map a.eval)) (by simp [execOp, ho, Instr.makeFunc]) this hn
 case slice t x lo hi mx =>
  simp only [aop] at h
  split at h <;> first | (cases h; done) | skip
  rename_i b l hh m hb hl hhi hm
  obtain ⟨h1, rfl⟩ := mk_some h
  obtain ⟨u, h2, h3⟩ := sliceA_sound (P := P) h1 (hr _ _ hb) (optIdx_spec hr hl) (optIdx_spec hr hhi) (optIdx_spec hr hm)
  exact up_same hH (by simp only [execOp, ho]; rw [Sem.run_bind, h2]; rfl) h3 hn
 case fieldAddr s x i =>
  simp only [aop] at h
  have field : ∀ f, fieldOf P s i = some f → ∃ fs, P.underlying s = some (.struct fs) ∧ fs[i]? = some f := fun f hf => by
   unfold fieldOf at hf
   split at hf
   ·rename_i fs hu; exact ⟨fs, hu, hf⟩
   ·cases hf
  split at h <;> first | (cases h; done) | skip
  ·rename_i cs f hx hf
   obtain ⟨fs, hu, hfs⟩ := field f hf
   split at h <;> first | (cases h; done) | skip
   rename_i n hsz
   split at h <;> first | (cases h; done) | skip
   rename_i hn0
   obtain ⟨h1, rfl⟩ := mk_some h
   cases h1
   obtain ⟨b, o2, hp⟩ := pim_of (hr _ _ hx)
   have hxr := hr _ _ hx
   rw [hp] at hxr
   exact up_same hH (by simp [execOp, ho, hp, Instr.fieldAt, run_underlying hu, hfs, Instr.sureAddr, fieldPlace, run_sizeT hsz, hn0, add_none]) (pim_drop hxr) hn
  ·rename_i id off f hx hf
   obtain ⟨fs, hu, hfs⟩ := field f hf
   split at h <;> first | (cases h; done) | skip
   rename_i n hsz
   split at h <;> first | (cases h; done) | skip
   rename_i hn0
   obtain ⟨h1, rfl⟩ := mk_some h
   cases h1
   have hp := ptr_of (hr _ _ hx)
   exact up_same hH (by simp [execOp, ho, hp, Instr.fieldAt, run_underlying hu, hfs, Instr.sureAddr, fieldPlace, run_sizeT hsz, hn0, add_none]) (ptr_off (off2 := off + f.offset) (hr _ _ hx)) hn
 case field s x i =>
  simp only [aop] at h
  have field : ∀ f, fieldOf P s i = some f → ∃ fs, P.underlying s = some (.struct fs) ∧ fs[i]? = some f := fun f hf => by
   unfold fieldOf at hf
   split at hf
   ·rename_i fs hu; exact ⟨fs, hu, hf⟩
   ·cases hf
  split at h <;> first | (cases h; done) | skip
  ·rename_i cs f hx hf
   obtain ⟨fs, hu, hfs⟩ := field f hf
   split at h <;> first | (cases h; done) | skip
   rename_i p hp
   obtain ⟨h1, rfl⟩ := mk_some h
   cases h1
   obtain ⟨us, hv, hl, hone, hrr⟩ := agg_of (hr _ _ hx).of_pv
   obtain ⟨u, h2, h3⟩ := partP_sound (P := P) (w := w) hp hl hone hrr
   have hrun : (Instr.field s (a.eval x) i).run P w = .ok u w := by
    rw [hv]
    simp [Instr.field, run_underlying hu, hfs, asAgg, h2]
   exact up_same hH (by simp only [execOp, ho]; rw [Sem.run_bind, hrun]; rfl) (.pv _ _ h3) hn
  ·rename_i cs f hx hf
   obtain ⟨fs, hu, hfs⟩ := field f hf
   obtain ⟨h1, rfl⟩ := mk_some h
   obtain ⟨us, hv, hl, hone, hrr⟩ := aggA_of (hr _ _ hx)
   obtain ⟨u, h2, h3⟩ := partOf_sound (P := P) (w := w) h1 hl hone hrr
   have hrun : (Instr.field s (a.eval x) i).run P w = .ok u w := by
    rw [hv]
    simp [Instr.field, run_underlying hu, hfs, asAgg, h2]
   exact up_same hH (by simp only [execOp, ho]; rw [Sem.run_bind, hrun]; rfl) h3 hn
 case indexAddr t x i =>
  simp only [aop] at h
  split at h <;> first | (cases h; done) | skip
  rename_i b k n hx hi
  have hni := int_of (hr _ _ hi)
  split at h <;> first | (cases h; done) | skip
  ·rename_i e hu
   split at h <;> first | (cases h; done) | skip
   rename_i nn sz xs m hp hm
   split at h <;> first | (cases h; done) | skip
   rename_i hcond
   obtain ⟨rfl, h0, hlt⟩ := hcond
   split at h <;> first | (cases h; done) | skip
   rename_i p hpe
   obtain ⟨h1, rfl⟩ := mk_some h
   cases h1
   have hrep := pure_rep (hr _ _ hx) hp
   rcases hrep.row with ⟨_, hf, _⟩ | ⟨_, b2, o2, c2, hv, _⟩
   ·subst hf; simp at hlt; omega
   ·rw [hv] at hrep
    have hrun : (Instr.indexAt t (a.eval x) (a.eval i)).run P w = .ok (.pointer (some ⟨b2, o2 + n.toNat * sz, none⟩)) w := by
     rw [hv, hni]
     simp [Instr.indexAt, asIntOf, run_underlying hu, run_sizeT hm, h0, hlt, add_none]
    exact up_same hH (by simp only [execOp, ho]; rw [Sem.run_bind, hrun]; rfl) (elem_rep hrep hpe) hn
  ·rename_i len e id off hu
   split at h <;> first | (cases h; done) | skip
   rename_i m hm
   split at h <;> first | (cases h; done) | skip
   rename_i hcond
   obtain ⟨h0, hlt⟩ := hcond
   obtain ⟨h1, rfl⟩ := mk_some h
   cases h1
   have hp := ptr_of (hr _ _ hx)
   have hrun : (Instr.indexAt t (a.eval x) (a.eval i)).run P w = .ok (.pointer (some ⟨G.ρ id, off + n.toNat * m, none⟩)) w := by
    rw [hp, hni]
    simp [Instr.indexAt, asIntOf, run_underlying hu, run_sizeT hm, h0, hlt, add_none, Instr.sureAddr]
   exact up_same hH (by simp only [execOp, ho]; rw [Sem.run_bind, hrun]; rfl) (ptr_off (hr _ _ hx)) hn
  ·rename_i len e cs hu
   split at h <;> first | (cases h; done) | skip
   rename_i m hm
   split at h <;> first | (cases h; done) | skip
   rename_i hcond
   obtain ⟨h0, hlt⟩ := hcond
   obtain ⟨h1, rfl⟩ := mk_some h
   cases h1
   obtain ⟨b2, o2, hp⟩ := pim_of (hr _ _ hx)
   have hxr := hr _ _ hx
   rw [hp] at hxr
   have hrun : (Instr.indexAt t (a.eval x) (a.eval i)).run P w = .ok (.pointer (some ⟨b2, o2 + n.toNat * m, none⟩)) w := by
    rw [hp, hni]
    simp [Instr.indexAt, asIntOf, run_underlying hu, run_sizeT hm, h0, hlt, add_none, Instr.sureAddr]
   exact up_same hH (by simp only [execOp, ho]; rw [Sem.run_bind, hrun]; rfl) (pim_drop hxr) hn
 case index t x i =>
  simp only [aop] at h
  split at h <;> first | (cases h; done) | skip
  rename_i b k n hx hi
  have hni := int_of (hr _ _ hi)
  split at h <;> first | (cases h; done) | skip
  ·rename_i s hu
   split at h <;> first | (cases h; done) | skip
   rename_i h0
   split at h <;> first | (cases h; done) | skip
   rename_i bb hbb
   obtain ⟨h1, rfl⟩ := mk_some h
   cases h1
   obtain ⟨bs, hv, rfl⟩ := str_of (hr _ _ hx)
   have hget : bs[n.toNat]? = some bb := by
    have hlt : n.toNat < bs.size := by have := (List.getElem?_eq_some_iff.1 hbb).1; rw [ba_size]; exact this
    rw [getElem?_pos bs n.toNat hlt]
    have := (List.getElem?_eq_some_iff.1 hbb).2
    rw [← this]
    simp [ByteArray.getElem_eq_getElem_data]
   have hrun : (Instr.index t (a.eval x) (a.eval i)).run P w = .ok (.int .u8 bb.toNat) w := by
    rw [hv, hni]
    simp [Instr.index, asIntOf, run_underlying hu, h0, hget]
   exact up_same hH (by simp only [execOp, ho]; rw [Sem.run_bind, hrun]; rfl) (.pv _ _ (.int _ _)) hn
  ·rename_i len e cs hu
   split at h <;> first | (cases h; done) | skip
   rename_i m hm
   split at h <;> first | (cases h; done) | skip
   rename_i hcond
   obtain ⟨h0, hlt⟩ := hcond
   split at h <;> first | (cases h; done) | skip
   rename_i p hp
   obtain ⟨h1, rfl⟩ := mk_some h
   cases h1
   obtain ⟨us, hv, hl, hone, hrr⟩ := agg_of (hr _ _ hx).of_pv
   obtain ⟨u, h2, h3⟩ := partP_sound (P := P) (w := w) hp hl hone hrr
   have hrun : (Instr.index t (a.eval x) (a.eval i)).run P w = .ok u w := by
    rw [hv, hni]
    simp [Instr.index, asIntOf, run_underlying hu, run_sizeT hm, h0, hlt, h2]
   exact up_same hH (by simp only [execOp, ho]; rw [Sem.run_bind, hrun]; rfl) (.pv _ _ h3) hn
 case extract x i =>
  simp only [aop] at h
  split at h <;> first | (cases h; done) | skip
  ·rename_i vs hx
   split at h <;> first | (cases h; done) | skip
   rename_i p hp
   obtain ⟨h1, rfl⟩ := mk_some h
   cases h1
   obtain ⟨us, hv, hl, hrr⟩ := tup_of (hr _ _ hx).of_pv
   have hlt : i < us.length := by have := (List.getElem?_eq_some_iff.1 hp).1; omega
   have hrun : (Instr.extract (a.eval x) i).run P w = .ok (us.getD i Go.undef) w := by
    rw [hv]
    simp [Instr.extract, hlt]
   exact up_same hH (by simp only [execOp, ho]; rw [Sem.run_bind, hrun]; rfl) (.pv _ _ (hrr i p hp)) hn
  ·rename_i vs hx
   obtain ⟨h1, rfl⟩ := mk_some h
   obtain ⟨us, hv, hl, hrr⟩ := tupA_of (hr _ _ hx)
   have hlt : i < us.length := by have := (List.getElem?_eq_some_iff.1 h1).1; omega
   have hrun : (Instr.extract (a.eval x) i).run P w = .ok (us.getD i Go.undef) w := by
    rw [hv]
    simp [Instr.extract, hlt]
   exact up_same hH (by simp only [execOp, ho]; rw [Sem.run_bind, hrun]; rfl) (hrr i v h1) hn
 case call cl =>
  simp only [aop] at h
  split at h <;> first | (cases h; done) | skip
  rename_i args hargs
  obtain ⟨al, ar⟩ := args_rep hr hargs
  obtain ⟨callee, xs, ats⟩ := cl
  dsimp only at h hargs al ar ho
  split at h <;> first | (cases h; done) | skip
  ·-- len
   split at h <;> first | (cases h; done) | skip
   rename_i y t ht
   split at h <;> first | (cases h; done) | skip
   rename_i n hlen
   split at h <;> first | (cases h; done) | skip
   obtain ⟨h1, rfl⟩ := mk_some h
   cases h1
   have hx := ar 0 y rfl
   have h0 : (xs.map a.eval)[0]? = some ((xs.map a.eval).toList.getD 0 Go.undef) := by
    have : 0 < (xs.map a.eval).size := by simp at al ⊢; omega
    rw [List.getD_eq_getElem?_getD, Array.getElem?_toList, Array.getElem?_eq_getElem this]
    rfl
   have hrun := run_len (P := P) (ty := o.type) (args := xs.map a.eval) hlen hx ht h0
   exact up_same hH (by simp [execOp, ho, resolve, invoke, builtin, hrun]) (.pv _ _ (.int _ _)) hn
  ·-- max
   split at h <;> first | (cases h; done) | skip
   rename_i k n ys
   split at h <;> first | (cases h; done) | skip
   rename_i m hm
   obtain ⟨h1, rfl⟩ := mk_some h
   cases h1
   obtain ⟨v0, vr, hvs⟩ : ∃ v0 vr, (xs.map a.eval).toList = v0 :: vr := by
    cases hq : (xs.map a.eval).toList with
    | nil => rw [hq] at al; simp at al
    | cons v0 vr => exact ⟨v0, vr, rfl⟩
   rw [hvs] at al ar
   have hv0 := int_of (ar 0 _ rfl)
   simp only [List.getD_cons_zero] at hv0
   subst hv0
   have hf := foldInts_sound (P := P) (w := w) (g := Builtin.max2) (fun _ _ _ _ => rfl) (vs := vr) hm (by simpa using al) (fun j b hb => by have := ar (j + 1) b (by simpa using hb); simpa using this)
   have hrun : (Builtin.max_ ats o.type (xs.map a.eval)).run P w = .ok (.int k m) w := by
    unfold Builtin.max_
    rw [hvs]
    exact hf
   exact up_same hH (by simp [execOp, ho, resolve, invoke, builtin, hrun]) (.pv _ _ (.int _ _)) hn
  ·-- min
   split at h <;> first | (cases h; done) | skip
   rename_i k n ys
   split at h <;> first | (cases h; done) | skip
   rename_i m hm
   obtain ⟨h1, rfl⟩ := mk_some h
   cases h1
   obtain ⟨v0, vr, hvs⟩ : ∃ v0 vr, (xs.map a.eval).toList = v0 :: vr := by
    cases hq : (xs.map a.eval).toList with
    | nil => rw [hq] at al; simp at al
    | cons v0 vr => exact ⟨v0, vr, rfl⟩
   rw [hvs] at al ar
   have hv0 := int_of (ar 0 _ rfl)
   simp only [List.getD_cons_zero] at hv0
   subst hv0
   have hf := foldInts_sound (P := P) (w := w) (g := Builtin.min2) (fun _ _ _ _ => rfl) (vs := vr) hm (by simpa using al) (fun j b hb => by have := ar (j + 1) b (by simpa using hb); simpa using this)
   have hrun : (Builtin.min_ ats o.type (xs.map a.eval)).run P w = .ok (.int k m) w := by
    unfold Builtin.min_
    rw [hvs]
    exact hf
   exact up_same hH (by simp [execOp, ho, resolve, invoke, builtin, hrun]) (.pv _ _ (.int _ _)) hn
  ·-- append
   split at h <;> first | (cases h; done) | skip
   rename_i s y t t2 ht ht2
   obtain ⟨v0, v1, hvs⟩ : ∃ v0 v1, xs.map a.eval = #[v0, v1] := by
    have hsz : (xs.map a.eval).size = 2 := by simpa using al
    refine ⟨(xs.map a.eval)[0], (xs.map a.eval)[1], ?_⟩
    apply Array.ext
    ·simpa using hsz
    ·intro i h1 h2
     have : i = 0 ∨ i = 1 := by omega
     rcases this with rfl | rfl <;> rfl
   rw [hvs] at ar
   have hs : RepA G H w s v0 := ar 0 s rfl
   have hx : RepA G H w y v1 := ar 1 y rfl
   obtain ⟨u, w', G', h2, h3, h4, h5⟩ := app_sound (P := P) (ty := o.type) h hs hx hH
   have e : Builtin.append_ ats o.type (xs.map a.eval) = Builtin.append_ #[t, t2] o.type #[v0, v1] := by
    rw [hvs]
    unfold Builtin.append_
    simp only [ht, ht2]
    rfl
   exact up_value (by simp [execOp, ho, resolve, invoke, builtin, e]; rw [h2]; rfl) h3 h4 h5 hn
  ·-- a Go function
   rename_i f
   split at h <;> first | (cases h; done) | skip
   ·rename_i g hf
    have hv := fn_of (hr _ _ hf)
    obtain ⟨c1, c2⟩ := callA_sound hcall h al ar hH
    simp only [Array.toArray_toList] at c1 c2
    exact enter_up (by simp [execOp, ho, resolve, hv, Deferred.ofValue, invoke, c1]) c2 hn
   ·rename_i g caps hf
    obtain ⟨us, hv, ul, ur⟩ := clo_of (hr _ _ hf)
    obtain ⟨c1, c2⟩ := callA_sound hcall (vs := (xs.map a.eval).toList ++ us) h (by simp at al ⊢; omega) (fun j b hb => by
     rw [getD_append_left al]
     rw [List.getElem?_append] at hb
     split at hb
     ·rename_i hj; rw [if_pos hj]; exact ar j b hb
     ·rename_i hj; rw [if_neg hj]; exact ur _ b hb) hH
    have e : ((xs.map a.eval).toList ++ us).toArray = xs.map a.eval ++ us.toArray := by apply Array.ext'; simp
    rw [e] at c1 c2
    exact enter_up (by simp [execOp, ho, resolve, hv, Deferred.ofValue, invoke, c1]) c2 hn
variable {P : Program} {glob : Nat → Option (List PV)}
structure Inv (glob : Nat → Option (List PV)) (s : St) (G : Gh) (a : Act) (w : World) : Prop where
 defers : a.defers = []
 size : a.tmps.size = s.env.length
 tmp : ∀ t, RepA G s.H w (s.env.getD t .undef) (a.tmps.getD t Go.undef)
 mem : HRep glob G s.H w
theorem Inv.ext {s : St} {G G' : Gh} {a : Act} {w w' : World} {H' : HS} (h : Inv glob s G a w) (e : Ext G s.H w G' H' w') (m : HRep glob G' H' w') : Inv glob ⟨s.env, H'⟩ G' a w' where
 defers := h.defers
 size := h.size
 tmp := fun t => (h.tmp t).ext e
 mem := m
theorem lower0_rep {G : Gh} {H H' : HS} {w : World} {n : Nat} {a a' : AV} {v : Value} (h : RepA G H w a v) (hl : lower0 n a = some a') (hB : ∀ id cs, id < n → H[id]? = some (.box cs) → ∃ cs', H'[id]? = some (.box cs')) (hT : ∀ t x e s, t < n → H[t]? = some (.tok x e s) → H'[t]? = some (.tok x e s)) : RepA G H' w a' v := by
 cases h with
 | pv p v h => simp only [lower0] at hl; cases hl; exact .pv _ _ h
 | ptr id off cs hc =>
  simp only [lower0] at hl
  cases hl
  by_cases hi : id < n
  ·rw [if_pos hi]
   obtain ⟨cs', h'⟩ := hB id cs hi hc
   exact .ptr id off cs' h'
  ·rw [if_neg hi]
   exact .pim _ _ [] (fun _ => Go.undef) (by simp) (by simp) (by simp)
 | pim b o cs u h1 hu hr => simp only [lower0] at hl; cases hl; exact .pim b o cs u h1 hu hr
 | tok t ver cur e sz p v h ht hle he =>
  simp only [lower0] at hl
  cases hl
  by_cases hi : t < n
  ·rw [if_pos hi]; exact .tok t ver cur e sz p v h (hT _ _ _ _ hi ht) hle he
  ·rw [if_neg hi]; exact .pv _ _ h
 | full p v h hf => simp only [lower0] at hl; cases hl; exact .full _ _ h hf
 | any v => simp only [lower0] at hl; cases hl; exact .any v
 | clo => simp only [lower0] at hl; cases hl
 | agg => simp only [lower0] at hl; cases hl
 | tup => simp only [lower0] at hl; cases hl
theorem lower0_one {n : Nat} {a a' : AV} (hl : lower0 n a = some a') (h : a.one = true) : a'.one = true := by
 cases a <;> simp only [lower0] at hl <;> cases hl <;> first | exact h | (split <;> first | rfl | exact h)
theorem lower_rep {G : Gh} {H H' : HS} {w : World} {n : Nat} {a a' : AV} {v : Value} (h : RepA G H w a v) (hl : lower n a = some a') (hB : ∀ id cs, id < n → H[id]? = some (.box cs) → ∃ cs', H'[id]? = some (.box cs')) (hT : ∀ t x e s, t < n → H[t]? = some (.tok x e s) → H'[t]? = some (.tok x e s)) : RepA G H' w a' v := by
 have each : ∀ {cs cs' : List AV} {us : List Value}, all? (lower0 n) cs = some cs' → us.length = cs.length → (∀ (j : Nat) (a : AV), cs[j]? = some a → RepA G H w a (us.getD j Go.undef)) → us.length = cs'.length ∧ ∀ (j : Nat) (a : AV), cs'[j]? = some a → RepA G H' w a (us.getD j Go.undef) := by
  intro cs cs' us hc hlen hr
  obtain ⟨g1, g2⟩ := all?_get hc
  refine ⟨by omega, fun j a ha => ?_⟩
  have hj : j < cs.length := by have := (List.getElem?_eq_some_iff.1 ha).1; omega
  obtain ⟨y, e1, e2⟩ := g2 j cs[j] (List.getElem?_eq_getElem hj)
  rw [ha] at e1
  cases e1
  exact lower0_rep (hr j cs[j] (List.getElem?_eq_getElem hj)) e2 hB hT
 cases h with
 | clo f caps us hlen hr =>
  simp only [lower] at hl
  split at hl <;> first | (cases hl; done) | skip
  rename_i cs' hc
  cases hl
  obtain ⟨h1, h2⟩ := each hc hlen hr
  exact .clo f cs' us h1 h2
 | agg cs us hlen h1 hr =>
  simp only [lower] at hl
  split at hl <;> first | (cases hl; done) | skip
  rename_i cs' hc
  cases hl
  obtain ⟨h3, h2⟩ := each hc hlen hr
  refine .agg cs' us h3 (fun y hy => ?_) h2
  obtain ⟨x, hx, he⟩ := all?_mem hc hy
  exact lower0_one he (h1 x hx)
 | tup cs us hlen hr =>
  simp only [lower] at hl
  split at hl <;> first | (cases hl; done) | skip
  rename_i cs' hc
  cases hl
  obtain ⟨h1, h2⟩ := each hc hlen hr
  exact .tup cs' us h1 h2
 | pv p v h => exact lower0_rep (.pv p v h) hl hB hT
 | ptr id off cs hc => exact lower0_rep (.ptr id off cs hc) hl hB hT
 | pim b o cs u h1 hu hr => exact lower0_rep (.pim b o cs u h1 hu hr) hl hB hT
 | tok t ver cur e sz p v h ht hle he => exact lower0_rep (.tok t ver cur e sz p v h ht hle he) hl hB hT
 | full p v h hf => exact lower0_rep (.full p v h hf) hl hB hT
 | any v => exact lower0_rep (.any v) hl hB hT
theorem lower_one {n : Nat} {a a' : AV} (hl : lower n a = some a') (h : a.one = true) : a'.one = true := by
 cases a with
 | agg => simp [AV.one] at h
 | tup => simp [AV.one] at h
 | clo f cs =>
  simp only [lower] at hl
  split at hl <;> first | (cases hl; done) | skip
  cases hl
  rfl
 | _ => simp only [lower] at hl; exact lower0_one hl h
theorem blank_len : ∀ (as bs : List AV), (blank as bs).length = bs.length
 | [], bs => by simp only [blank]
 | a :: as, [] => rfl
 | a :: as, b :: bs => by simp only [blank, List.length_cons, blank_len as bs]
theorem blank_rep {G : Gh} {H : HS} {w : World} : ∀ (as bs : List AV) (us : Nat → Value), (∀ (j : Nat) (a : AV), bs[j]? = some a → RepA G H w a (us j)) → ∀ (j : Nat) (a : AV), (blank as bs)[j]? = some a → RepA G H w a (us j)
 | [], bs, us, h, j, a, ha => by simp only [blank] at ha; exact h j a ha
 | _ :: _, [], us, h, j, a, ha => by simp [blank] at ha
 | x :: as, b :: bs, us, h, j, a, ha => by
  simp only [blank] at ha
  cases j with
  | zero =>
   simp only [List.getElem?_cons_zero, Option.some.injEq] at ha
   split at ha
   ·subst ha; exact .any _
   ·subst ha; exact h 0 _ rfl
  | succ j =>
   simp only [List.getElem?_cons_succ] at ha
   exact blank_rep as bs (fun j => us (j + 1)) (fun j a h2 => h (j + 1) a (by simpa using h2)) j a ha
theorem trim_inv {s : St} {G : Gh} {a : Act} {w : World} (env0 : List AV) (n : Nat) (h : Inv glob s G a w) : Inv glob (trim env0 n s) G a w ∧ ∀ {G0 : Gh} {H0 : HS} {w0 : World}, H0.length ≤ n → Ext G0 H0 w0 G s.H w → Ext G0 H0 w0 G (trim env0 n s).H w ∧ ((trim env0 n s).H.length ≤ n ∨ (trim env0 n s).H = s.H) := by
 unfold trim
 ·split
  ·rename_i env H' he hH'
   obtain ⟨e1, e2⟩ := all?_get he
   obtain ⟨k1, k2⟩ := all?_get hH'
   have at' : ∀ (id : Nat) (o' : HO), H'[id]? = some o' → ∃ o, s.H[id]? = some o ∧ id < n ∧ lowerO n o = some o' := fun id o' ho => by
    have hj : id < (s.H.take n).length := by have := (List.getElem?_eq_some_iff.1 ho).1; omega
    obtain ⟨y, x1, x2⟩ := k2 id _ (List.getElem?_eq_getElem hj)
    rw [ho] at x1
    cases x1
    have hn : id < n := by rw [List.length_take] at hj; omega
    refine ⟨_, ?_, hn, x2⟩
    rw [List.getElem_take]
    exact List.getElem?_eq_getElem _
   have back : ∀ (id : Nat) (o : HO), id < n → s.H[id]? = some o → ∃ o', H'[id]? = some o' ∧ lowerO n o = some o' := fun id o hn ho => by
    have : (s.H.take n)[id]? = some o := by rw [List.getElem?_take, if_pos hn]; exact ho
    obtain ⟨y, x1, x2⟩ := k2 id o this
    exact ⟨y, x1, x2⟩
   have hB : ∀ id cs, id < n → s.H[id]? = some (.box cs) → ∃ cs', H'[id]? = some (.box cs') := fun id cs hn ho => by
    obtain ⟨o', x1, x2⟩ := back id _ hn ho
    simp only [lowerO] at x2
    split at x2 <;> first | (cases x2; done) | skip
    cases x2
    exact ⟨_, x1⟩
   have hT : ∀ t x e z, t < n → s.H[t]? = some (.tok x e z) → H'[t]? = some (.tok x e z) := fun t x e z hn ho => by
    obtain ⟨o', x1, x2⟩ := back t _ hn ho
    simp only [lowerO] at x2
    cases x2
    exact x1
   have hat : ∀ id k, G.at H' id = some k → G.at s.H id = some k := fun id k hk => by
    unfold Gh.at at hk ⊢
    cases ho : H'[id]? with
    | none => rw [ho] at hk; cases hk
    | some o' =>
     obtain ⟨o, x1, _, x2⟩ := at' id o' ho
     rw [ho] at hk
     rw [x1]
     cases o with
     | box cs =>
      simp only [lowerO] at x2
      split at x2 <;> first | (cases x2; done) | skip
      cases x2
      exact hk
     | tok v e z => simp only [lowerO] at x2; cases x2; exact hk
     | none => simp only [lowerO] at x2; cases x2; exact hk
   have hbl := blank_len env0 s.env
   refine ⟨⟨h.defers, by rw [h.size]; show s.env.length = env.length; omega, fun t => ?_, ?_⟩, fun hl e => ⟨?_, .inl (by show H'.length ≤ n; rw [k1, List.length_take]; omega)⟩⟩
   ·have ht := h.tmp t
    rw [List.getD_eq_getElem?_getD] at ht ⊢
    by_cases hlt : t < s.env.length
    ·obtain ⟨y, x1, x2⟩ := e2 t (blank env0 s.env)[t] (List.getElem?_eq_getElem (by omega))
     rw [x1]
     have hb := blank_rep env0 s.env (fun j => a.tmps.getD j Go.undef) (fun j x hx => by
      have := h.tmp j
      rw [List.getD_eq_getElem?_getD, hx] at this
      exact this) t _ (List.getElem?_eq_getElem (by omega))
     exact lower_rep hb x2 hB hT
    ·rw [List.getElem?_eq_none (by omega)] at ht
     have he : env.length ≤ t := by omega
     rw [List.getElem?_eq_none he]
     cases ht with | pv p v h => exact .pv _ _ h
   ·have hm := h.mem
    refine ⟨fun id cs' ho => ?_, fun id v e z ho => ?_, fun i j k hij hi hj => ?_, fun g cs hg => ?_, hm.old⟩
    ·obtain ⟨o, x1, hn, x2⟩ := at' id _ ho
     cases o with
     | box cs =>
      simp only [lowerO] at x2
      split at x2 <;> first | (cases x2; done) | skip
      rename_i cs2 hc
      cases x2
      obtain ⟨us, e, h1, h2, h3, h4, h5⟩ := hm.box id cs x1
      obtain ⟨g1, g2⟩ := all?_get hc
      refine ⟨us, e, h1, by omega, fun y hy => ?_, fun j b hb => ?_, h5⟩
      ·obtain ⟨x, hx, hxe⟩ := all?_mem hc hy
       exact lower_one hxe (h3 x hx)
      ·have hj : j < cs.length := by have := (List.getElem?_eq_some_iff.1 hb).1; omega
       obtain ⟨y, y1, y2⟩ := g2 j cs[j] (List.getElem?_eq_getElem hj)
       rw [hb] at y1
       cases y1
       exact lower_rep (h4 j cs[j] (List.getElem?_eq_getElem hj)) y2 hB hT
     | tok v e z => exact absurd x2 (by simp [lowerO])
     | none => exact absurd x2 (by simp [lowerO])
    ·obtain ⟨o, x1, hn, x2⟩ := at' id _ ho
     cases o with
     | box cs =>
      simp only [lowerO] at x2
      split at x2 <;> first | (cases x2; done) | skip
     | tok v' e' z' => simp only [lowerO] at x2; cases x2; exact hm.tok id _ _ _ x1
     | none => exact absurd x2 (by simp [lowerO])
    ·exact hm.apart i j k hij (hat i k hi) (hat j k hj)
    ·have := hm.glob g cs hg
     cases this with | pim _ _ _ u h1 hu hr => exact .pim _ _ cs u h1 hu hr
   ·refine { e with box := fun id cs ho => ?_, tok := fun id v t z ho => ?_, new := fun id k hi hk => e.new id k hi (hat id k hk) }
    ·have hid : id < n := by have := (List.getElem?_eq_some_iff.1 ho).1; omega
     obtain ⟨x1, cs', x2⟩ := e.box id cs ho
     exact ⟨x1, hB id cs' hid x2⟩
    ·have hid : id < n := by have := (List.getElem?_eq_some_iff.1 ho).1; omega
     obtain ⟨v', x1, x2⟩ := e.tok id v t z ho
     exact ⟨v', hT _ _ _ _ hid x1, x2⟩
  ·exact ⟨h, fun _ e => ⟨e, .inr rfl⟩⟩
theorem Inv.put {s : St} {G : Gh} {a : Act} {w : World} (h : Inv glob s G a w) (d : Option Tmp) {v : AV} {u : Value} (hv : RepA G s.H w v u) : Inv glob ⟨putA s.env d v, s.H⟩ G (a.put d u) w := by
 cases d with
 | none => exact ⟨h.defers, h.size, h.tmp, h.mem⟩
 | some d =>
  refine ⟨h.defers, by simp [Act.put, putA, h.size], fun t => ?_, h.mem⟩
  simp only [Act.put, putA]
  by_cases ht : t = d
  ·subst ht
   by_cases hl : t < s.env.length
   ·have hl2 : t < a.tmps.size := by rw [h.size]; exact hl
    simpa [List.getD_eq_getElem?_getD, hl, hl2] using hv
   ·have hl2 : ¬ t < a.tmps.size := by rw [h.size]; exact hl
    have := h.tmp t
    simp [List.getD_eq_getElem?_getD, hl, hl2] at this ⊢
    exact this
  ·have := h.tmp t
   simpa [List.getD_eq_getElem?_getD, List.getElem?_set_ne (Ne.symm ht), Array.getElem?_setIfInBounds_ne (Ne.symm ht)] using this
theorem Inv.operand {s : St} {G : Gh} {a : Act} {w : World} (h : Inv glob s G a w) (x : Operand) (v : AV) (hx : opv glob s.env x = some v) : RepA G s.H w v (a.eval x) := by
 cases x with
 | tmp t => simp only [opv] at hx; cases hx; exact h.tmp t
 | const c =>
  simp only [opv] at hx
  split at hx <;> first | (cases hx; done) | skip
  rename_i p hp
  cases hx
  exact .pv _ _ (constV_rep hp)
 | global g =>
  simp only [opv] at hx
  split at hx <;> first | (cases hx; done) | skip
  rename_i cs hcs
  cases hx
  exact h.mem.glob g cs hcs
 | func f => simp only [opv] at hx; cases hx; exact .pv _ _ (.fn f)
theorem Inv.want {s : St} {G : Gh} {a : Act} {w : World} (h : Inv glob s G a w) {ops : Array Oper} {o : Oper} {b : Bool} (hw : wantA ops s.env o = some b) : Region.wanted o (yielded ops a.tmps) = b := by
 unfold wantA at hw
 unfold Region.wanted
 split at hw
 ·rename_i hg; cases hw; rw [hg]
 ·rename_i j want hg
  rw [hg]
  dsimp only
  unfold yielded
  split at hw
  ·rename_i hd; cases hw; rw [hd]; rfl
  ·rename_i d hd
   rw [hd]
   dsimp only [Option.bind_some]
   split at hw
   ·rename_i bb hbb
    cases hw
    have hlt := (List.getElem?_eq_some_iff.1 hbb).1
    have hl2 : d < a.tmps.size := by rw [h.size]; exact hlt
    have := h.tmp d
    rw [List.getD_eq_getElem?_getD, hbb] at this
    have hv := bool_of this
    have e : a.tmps[d]? = some (.bool bb) := by
     rw [Array.getElem?_eq_getElem hl2]
     simp [hl2] at hv
     rw [hv]
    rw [e]
    cases bb <;> cases want <;> rfl
   ·rename_i vs hbb
    cases hw
    have hlt := (List.getElem?_eq_some_iff.1 hbb).1
    have hl2 : d < a.tmps.size := by rw [h.size]; exact hlt
    have := h.tmp d
    rw [List.getD_eq_getElem?_getD, hbb] at this
    obtain ⟨us, hv, _⟩ := tup_of this.of_pv
    have e : a.tmps[d]? = some (.tuple us.toArray) := by
     rw [Array.getElem?_eq_getElem hl2]
     simp [hl2] at hv
     rw [hv]
    rw [e]
    rfl
   ·rename_i hbb
    cases hw
    have hlt : ¬ d < s.env.length := by
     intro hlt
     rw [List.getElem?_eq_getElem hlt] at hbb
     cases hbb
    have : a.tmps[d]? = none := Array.getElem?_eq_none (Nat.le_of_not_lt (by rw [h.size]; exact hlt))
    rw [this]
    rfl
   ·cases hw
theorem step_sound {call : CallF} (hcall : CallOk P glob call) {ops : Array Oper} {base i : Nat} {o : Oper} {s s' : St} {c : Cls} {G : Gh} {a : Act} {w : World} {K : Act → World → Prop} {Q : Exit → Act → World → Prop}
  (h : stepA P glob call ops base o i s = some (s', c)) (hi : Inv glob s G a w) (hK : ∀ G' a' w', Inv glob s' G' a' w' → Ext G s.H w G' s'.H w' → K a' w') :
  if Region.wanted o (yielded ops a.tmps) then o.wp P a w K Q else K (a.put o.dst Go.undef) w := by
 unfold stepA at h
 split at h <;> first | (cases h; done) | skip
 ·rename_i hw
  rw [hi.want hw, if_pos rfl]
  split at h <;> first | (cases h; done) | skip
  rename_i v H' c' ha
  cases h
  refine aop_sound hcall ha rfl (fun x v hx => hi.operand x v hx) hi.mem (fun u w' G' h1 h2 h3 => ?_)
  exact hK G' _ w' ((hi.ext h3 h2).put o.dst h1) h3
 ·rename_i hw
  rw [hi.want hw, if_neg (by simp)]
  cases h
  exact hK G _ w (hi.put o.dst (.pv _ _ Rep.undef)) (Ext.refl _ _ _)
theorem list_sound {call : CallF} (hcall : CallOk P glob call) {ops : Array Oper} {base : Nat} {Q : Exit → Act → World → Prop} : ∀ {l : List Oper} {i : Nat} {s s' : St} {G : Gh} {a : Act} {w : World},
  listA P glob call ops base l i s = some s' → Inv glob s G a w → (∀ G' a' w', Inv glob s' G' a' w' → Ext G s.H w G' s'.H w' → Q .normal a' w') → wpList P ops Q l a w
 | [], i, s, s', G, a, w, h, hi, hQ => by
  simp only [listA] at h
  cases h
  exact hQ G a w hi (Ext.refl _ _ _)
 | o :: rest, i, s, s', G, a, w, h, hi, hQ => by
  simp only [listA] at h
  split at h <;> first | (cases h; done) | skip
  rename_i s1 c h1
  have := step_sound (Q := Q) (K := wpList P ops Q rest) hcall h1 hi (fun G' a' w' hi' he => list_sound hcall h hi' (fun G2 a2 w2 hi2 he2 => hQ G2 a2 w2 hi2 (he.trans hi.mem he2)))
  simp only [wpList]
  split
  ·rename_i hw; rw [if_pos hw] at this; exact .inl this
  ·rename_i hw; rw [if_neg hw] at this; exact this
theorem grow_rep {G : Gh} {H : HS} {w : World} (n : Nat) (h : HRep glob G H w) : HRep glob G (growH n H) w ∧ Ext G H w G (growH n H) w := by
 unfold growH
 split
 ·exact ⟨h, Ext.refl _ _ _⟩
 ·have get : ∀ (id : Nat) (x : HO), (H ++ List.replicate n HO.none)[id]? = some x → x.live = true → H[id]? = some x := fun id x hx hl => by
   rw [List.getElem?_append] at hx
   split at hx
   ·exact hx
   ·rw [List.getElem?_replicate] at hx
    split at hx
    ·cases hx; cases hl
    ·cases hx
  have old : ∀ (id : Nat) (x : HO), H[id]? = some x → (H ++ List.replicate n HO.none)[id]? = some x := fun id x hx => by
   have := (List.getElem?_eq_some_iff.1 hx).1
   rw [List.getElem?_append, if_pos this]
   exact hx
  have at_ : ∀ id k, G.at (H ++ List.replicate n HO.none) id = some k → G.at H id = some k := fun id k hk => by
   obtain ⟨x, hx, hl⟩ := Gh.at_live hk
   have := get id x hx hl
   unfold Gh.at at hk ⊢
   rw [hx] at hk
   rw [this]
   exact hk
  have ex : Ext G H w G (H ++ List.replicate n HO.none) w := {
   os := rfl
   tape := rfl
   output := rfl
   size := Nat.le_refl _
   F_mono := fun _ _ h => h
   cells := fun _ _ _ => rfl
   F_new := fun _ _ h => .inl h
   box := fun id cs hq => ⟨rfl, cs, old _ _ hq⟩
   tok := fun id v e s hq => ⟨v, old _ _ hq, Nat.le_refl _, fun _ => rfl, .inl rfl⟩
   new := fun id k hn hk => by
    obtain ⟨x, hx, hl⟩ := Gh.at_live (at_ id k hk)
    exact absurd hl (by rw [hn x hx]; simp)
   blocks := fun _ _ _ => rfl }
  refine ⟨⟨fun id cs hq => ?_, fun id v e s hq => ?_, fun i j k hij hi hj => h.apart i j k hij (at_ _ _ hi) (at_ _ _ hj), fun g cs hg => (h.glob g cs hg).ext ex, h.old⟩, ex⟩
  ·obtain ⟨us, e, q1, q2, q3, q4, q5⟩ := h.box id cs (get _ _ hq rfl)
   exact ⟨us, e, q1, q2, q3, fun j a ha => (q4 j a ha).ext ex, q5⟩
  ·exact h.tok id v e s (get _ _ hq rfl)
variable {P : Program} {glob : Nat → Option (List PV)}
theorem all?_congr {α β : Type} {f g : α → Option β} : ∀ {xs : List α}, (∀ x ∈ xs, f x = g x) → all? f xs = all? g xs
 | [], _ => rfl
 | x :: xs, h => by
  simp only [all?]
  rw [h x List.mem_cons_self, all?_congr (fun y hy => h y (List.mem_cons_of_mem _ hy))]
theorem optIdx_congr {r r' : Operand → Option AV} {o : Option Operand} (h : ∀ x ∈ o.toArray, r x = r' x) : optIdx r o = optIdx r' o := by
 cases o with
 | none => rfl
 | some x => simp only [optIdx]; rw [h x (by simp)]
theorem aop_congr {call : CallF} {slot : Nat} {op : Op} {ty : TypeId} {r r' : Operand → Option AV} {H : HS} (h : ∀ x ∈ op.operands, r x = r' x) : aop P call slot op ty r H = aop P call slot op ty r' H := by
 cases op <;> simp only [Op.operands] at h <;> first | rfl | skip
 case move x => simp only [aop]; rw [h x (by simp)]
 case assign x => simp only [aop]; rw [h x (by simp)]
 case pick x y z => simp only [aop]; rw [h x (by simp), h y (by simp), h z (by simp)]
 case box t x => simp only [aop]; rw [h x (by simp)]
 case build t parts =>
  have e : all? (partA r) parts.toList = all? (partA r') parts.toList := all?_congr fun q hq => by unfold partA; rw [h q.2 (by simp; exact ⟨q.1, by simpa using hq⟩)]
  simp only [aop]
  rw [e]
 case buildSlice t len parts =>
  have e : all? (partA r) parts.toList = all? (partA r') parts.toList := all?_congr fun q hq => by unfold partA; rw [h q.2 (by simp; exact ⟨q.1, by simpa using hq⟩)]
  simp only [aop]
  rw [e]
 case load t x => simp only [aop]; rw [h x (by simp)]
 case store t x y => simp only [aop]; rw [h x (by simp), h y (by simp)]
 case nilCheck x => simp only [aop]; rw [h x (by simp)]
 case binOp op t x y yt => simp only [aop]; rw [h x (by simp), h y (by simp)]
 case unOp op t x => simp only [aop]; rw [h x (by simp)]
 case convert s d x => simp only [aop]; rw [h x (by simp)]
 case makeFunc fn first caps =>
  cases fn <;> first | rfl | skip
  have e : all? r caps.toList = all? r' caps.toList := all?_congr fun x hx => h x (by simp; exact .inr (by simpa using hx))
  simp only [aop]
  rw [e]
 case slice t x lo hi mx =>
  have e1 := optIdx_congr (r := r) (r' := r') (o := lo) fun y hy => h y (by simp at hy ⊢; simp [hy])
  have e2 := optIdx_congr (r := r) (r' := r') (o := hi) fun y hy => h y (by simp at hy ⊢; simp [hy])
  have e3 := optIdx_congr (r := r) (r' := r') (o := mx) fun y hy => h y (by simp at hy ⊢; simp [hy])
  simp only [aop]
  rw [h x (by simp), e1, e2, e3]
 case fieldAddr s x i => simp only [aop]; rw [h x (by simp)]
 case field s x i => simp only [aop]; rw [h x (by simp)]
 case indexAddr t x i => simp only [aop]; rw [h x (by simp), h i (by simp)]
 case index t x i => simp only [aop]; rw [h x (by simp), h i (by simp)]
 case extract x i => simp only [aop]; rw [h x (by simp)]
 case call c =>
  obtain ⟨callee, xs, ats⟩ := c
  simp only [Call.operands] at h
  have e : all? r xs.toList = all? r' xs.toList := all?_congr fun x hx => h x (by simp; exact .inr (by simpa using hx))
  simp only [aop]
  rw [e]
  cases callee
  case value f => simp only [h f (by simp)]
  case invoke => rfl
  case builtin b => cases b <;> rfl
def Loc (slot : Nat) (f : HS → Option (AV × HS × Cls)) (H : HS) (v : AV) (H' : HS) : Cls → Prop
 | .free => H' = H ∧ ∀ H2, f H2 = some (v, H2, .free)
 | .rd id => H' = H ∧ ∀ H2 : HS, H2[id]? = H[id]? → f H2 = some (v, H2, .rd id)
 | .wr id => ∃ x, H' = H.set id x ∧ ∀ H2 : HS, H2[id]? = H[id]? → f H2 = some (v, H2.set id x, .wr id)
 | .new => ∃ x, H' = H.set slot x ∧ H[slot]? = some .none ∧ ∀ H2 : HS, H2[slot]? = some .none → f H2 = some (v, H2.set slot x, .new)
 | .all => True
theorem mk_loc {slot : Nat} {x : Option AV} {v : AV} {H H' : HS} {c : Cls} (h : mk x H = some (v, H', c)) {f : HS → Option (AV × HS × Cls)} (hf : ∀ H2, f H2 = mk x H2) : Loc slot f H v H' c := by
 unfold mk at h
 split at h
 ·cases h; exact ⟨rfl, fun H2 => by rw [hf]; rfl⟩
 ·cases h
set_option maxHeartbeats 1000000 in
theorem aop_loc {call : CallF} {slot : Nat} {op : Op} {ty : TypeId} {r : Operand → Option AV} {v : AV} {H H' : HS} {c : Cls} (h : aop P call slot op ty r H = some (v, H', c)) : Loc slot (fun H => aop P call slot op ty r H) H v H' c := by
 cases op <;> first | (simp only [aop] at h; cases h; done) | skip
 case move x => exact mk_loc h fun _ => rfl
 case assign x => exact mk_loc h fun _ => rfl
 case alloc e =>
  simp only [aop] at h
  split at h <;> first | (cases h; done) | skip
  rename_i z hz hs
  split at h <;> first | (cases h; done) | skip
  rename_i ho
  cases h
  exact ⟨_, rfl, hs, fun H2 h2 => by simp only [aop]; rw [hz, h2]; (try simp only []); rw [if_pos ho]⟩
 case box e x =>
  simp only [aop] at h
  split at h <;> first | (cases h; done) | skip
  rename_i b hb hs
  split at h <;> first | (cases h; done) | skip
  rename_i cs hcs
  split at h <;> first | (cases h; done) | skip
  rename_i ho
  cases h
  exact ⟨_, rfl, hs, fun H2 h2 => by simp only [aop]; rw [hb, h2]; simp only [hcs]; rw [if_pos ho]⟩
 case load t x =>
  simp only [aop] at h
  split at h <;> first | (cases h; done) | skip
  ·rename_i cs hx
   split at h <;> first | (cases h; done) | skip
   rename_i p hp
   exact mk_loc h fun H2 => by simp only [aop, hx, hp]
  ·rename_i id off hx
   split at h <;> first | (cases h; done) | skip
   rename_i cs hcs
   split at h <;> first | (cases h; done) | skip
   rename_i b hb
   cases h
   exact ⟨rfl, fun H2 h2 => by simp only [aop, hx]; rw [h2, hcs]; simp only [hb]⟩
 case store t x y =>
  simp only [aop] at h
  split at h <;> first | (cases h; done) | skip
  rename_i id off b n hx hy hsz
  split at h <;> first | (cases h; done) | skip
  rename_i cs xs hcs hxs
  split at h <;> first | (cases h; done) | skip
  rename_i hcond
  cases h
  exact ⟨_, rfl, fun H2 h2 => by simp only [aop, hx, hy, hsz]; rw [h2, hcs]; simp only [hxs]; rw [if_pos hcond]⟩
 case call cl =>
  obtain ⟨callee, xs, ats⟩ := cl
  simp only [aop] at h
  split at h <;> first | (cases h; done) | skip
  rename_i args hargs
  split at h <;> first | (cases h; done) | skip
  ·split at h <;> first | (cases h; done) | skip
   rename_i y t ht
   split at h <;> first | (cases h; done) | skip
   rename_i n hlen
   split at h <;> first | (cases h; done) | skip
   rename_i hn
   exact mk_loc h fun H2 => by simp only [aop, hargs, ht, hlen]; rw [if_pos hn]
  ·split at h <;> first | (cases h; done) | skip
   split at h <;> first | (cases h; done) | skip
   rename_i m hm
   exact mk_loc h fun H2 => by simp only [aop, hargs, hm]
  ·split at h <;> first | (cases h; done) | skip
   split at h <;> first | (cases h; done) | skip
   rename_i m hm
   exact mk_loc h fun H2 => by simp only [aop, hargs, hm]
  ·split at h <;> first | (cases h; done) | skip
   rename_i s y t t2 ht ht2
   have key : ∀ H2, aop P call slot (.call { callee := .builtin .append, args := xs, argTypes := ats }) ty r H2 = appA P slot t t2 s y H2 := fun H2 => by simp only [aop, hargs, ht, ht2]
   have : Loc slot (fun H => appA P slot t t2 s y H) H v H' c := by
    unfold appA at h
    split at h <;> first | (cases h; done) | skip
    rename_i e hte
    split at h <;> first | (cases h; done) | skip
    rename_i i xn xsz ys hi hxp
    split at h <;> first | (cases h; done) | skip
    rename_i hcond
    split at h <;> first | (cases h; done) | skip
    rename_i sn ssz zs hsp
    split at h <;> first | (cases h; done) | skip
    rename_i hssz
    split at h <;> first | (cases h; done) | skip
    rename_i hbound
    split at h
    ·rename_i hy0
     cases h
     exact ⟨rfl, fun H2 => by unfold appA; simp only [hte, hi, hxp, hsp]; rw [if_neg hcond]; (try simp only []); rw [if_neg hssz, if_pos hbound, if_pos hy0]⟩
    ·rename_i hy0
     split at h
     ·rename_i tk ver p
      split at h <;> first | (cases h; done) | skip
      rename_i cur e' sz htk
      split at h <;> first | (cases h; done) | skip
      rename_i hver
      cases h
      exact ⟨_, rfl, fun H2 h2 => by unfold appA; simp only [hte, hi, hxp, hsp]; rw [if_neg hcond]; (try simp only []); rw [if_neg hssz, if_pos hbound, if_neg hy0]; rw [h2, htk]; (try simp only []); rw [if_pos hver]⟩
     ·split at h <;> first | (cases h; done) | skip
      rename_i hs
      cases h
      exact ⟨_, rfl, hs, fun H2 h2 => by unfold appA; simp only [hte, hi, hxp, hsp]; rw [if_neg hcond]; (try simp only []); rw [if_neg hssz, if_pos hbound, if_neg hy0]; rw [h2]⟩
     ·split at h <;> first | (cases h; done) | skip
      rename_i hs
      cases h
      exact ⟨_, rfl, hs, fun H2 h2 => by unfold appA; simp only [hte, hi, hxp, hsp]; rw [if_neg hcond]; (try simp only []); rw [if_neg hssz, if_pos hbound, if_neg hy0]; rw [h2]⟩
     ·cases h
   have e : (fun H => aop P call slot (.call { callee := .builtin .append, args := xs, argTypes := ats }) ty r H) = fun H => appA P slot t t2 s y H := funext key
   rw [e]
   exact this
  ·rename_i f
   have callLoc : ∀ (g : FuncId) (as : List AV), callA call g as H = some (v, H', c) → Loc slot (fun H => callA call g as H) H v H' c := fun g as h => by
    unfold callA at h
    split at h
    ·rename_i ps hps
     split at h <;> first | (cases h; done) | skip
     rename_i q H1 hc
     cases h
     exact ⟨rfl, fun H2 => by unfold callA; simp only [hps, hc]⟩
    ·split at h <;> first | (cases h; done) | skip
     cases h
     trivial
   split at h <;> first | (cases h; done) | skip
   ·rename_i g hf
    have := callLoc _ _ h
    have e : (fun H => aop P call slot (.call { callee := .value f, args := xs, argTypes := ats }) ty r H) = fun H => callA call g args H := funext fun H => by simp only [aop, hargs, hf]
    rw [e]
    exact this
   ·rename_i g caps hf
    have := callLoc _ _ h
    have e : (fun H => aop P call slot (.call { callee := .value f, args := xs, argTypes := ats }) ty r H) = fun H => callA call g (args ++ caps) H := funext fun H => by simp only [aop, hargs, hf]
    rw [e]
    exact this
 case pick x y z =>
  simp only [aop] at h
  split at h <;> first | (cases h; done) | skip
  rename_i t p q ht hp hq
  exact mk_loc h fun H2 => by simp only [aop, ht, hp, hq]
 case build t parts =>
  simp only [aop] at h
  split at h <;> first | (cases h; done) | skip
  ·rename_i z fs ps hz hu hps
   split at h <;> first | (cases h; done) | skip
   rename_i places hpl
   split at h <;> first | (cases h; done) | skip
   rename_i cs hcs
   exact mk_loc h fun H2 => by simp only [aop, hz, hu, hps, hpl, hcs]
  ·rename_i z n e ps hz hu hps
   split at h <;> first | (cases h; done) | skip
   rename_i m hm
   split at h <;> first | (cases h; done) | skip
   rename_i cs hcs
   exact mk_loc h fun H2 => by simp only [aop, hz, hu, hps, hm, hcs]
 case buildSlice t len parts =>
  simp only [aop] at h
  split at h <;> first | (cases h; done) | skip
  rename_i e hu
  split at h <;> first | (cases h; done) | skip
  rename_i z sz ag ps hz hs hag hps
  split at h <;> first | (cases h; done) | skip
  rename_i hc
  split at h <;> first | (cases h; done) | skip
  rename_i cs hcs
  split at h <;> first | (cases h; done) | skip
  rename_i qs hqs
  exact mk_loc h fun H2 => by simp only [aop, hu, hz, hs, hag, hps]; rw [if_pos hc]; simp only [hcs, hqs]
 case nilCheck x =>
  simp only [aop] at h
  split at h <;> first | (cases h; done) | skip
  all_goals (rename_i hx; exact mk_loc h fun H2 => by simp only [aop, hx])
 case binOp op t x y yt =>
  simp only [aop] at h
  split at h <;> first | (cases h; done) | skip
  rename_i b d hb hd
  exact mk_loc h fun H2 => by simp only [aop, hb, hd]
 case unOp op t x =>
  simp only [aop] at h
  split at h <;> first | (cases h; done) | skip
  rename_i b hb
  exact mk_loc h fun H2 => by simp only [aop, hb]
 case convert s d x =>
  simp only [aop] at h
  split at h <;> first | (cases h; done) | skip
  rename_i b hb
  exact mk_loc h fun H2 => by simp only [aop, hb]
 case makeFunc fn first caps =>
  cases fn <;> first | (simp only [aop] at h; cases h; done) | skip
  simp only [aop] at h
  split at h <;> first | (cases h; done) | skip
  rename_i hf
  split at h <;> first | (cases h; done) | skip
  ·rename_i hc
   exact mk_loc h fun H2 => by simp only [aop]; rw [if_pos hf, hc]
  ·rename_i cs hne hc
   exact mk_loc h fun H2 => by
    simp only [aop]
    rw [if_pos hf, hc]
    cases cs with
    | nil => exact (hne rfl).elim
    | cons _ _ => rfl
 case slice t x lo hi mx =>
  simp only [aop] at h
  split at h <;> first | (cases h; done) | skip
  rename_i b l hh m hb hl hhi hm
  exact mk_loc h fun H2 => by simp only [aop, hb, hl, hhi, hm]
 case fieldAddr s x i =>
  simp only [aop] at h
  split at h <;> first | (cases h; done) | skip
  all_goals
   rename_i hx hf
   split at h <;> first | (cases h; done) | skip
   rename_i n hsz
   split at h <;> first | (cases h; done) | skip
   rename_i hn0
   exact mk_loc h fun H2 => by simp only [aop, hx, hf, hsz]; rw [if_pos hn0]
 case field s x i =>
  simp only [aop] at h
  split at h <;> first | (cases h; done) | skip
  ·rename_i cs f hx hf
   split at h <;> first | (cases h; done) | skip
   rename_i p hp
   exact mk_loc h fun H2 => by simp only [aop, hx, hf, hp]
  ·rename_i cs f hx hf
   exact mk_loc h fun H2 => by simp only [aop, hx, hf]
 case indexAddr t x i =>
  simp only [aop] at h
  split at h <;> first | (cases h; done) | skip
  rename_i b k n hx hi
  split at h <;> first | (cases h; done) | skip
  ·rename_i e hu
   split at h <;> first | (cases h; done) | skip
   rename_i nn sz xs m hp hm
   split at h <;> first | (cases h; done) | skip
   rename_i hcond
   split at h <;> first | (cases h; done) | skip
   rename_i p hpe
   exact mk_loc h fun H2 => by simp only [aop, hx, hi, hu, hp, hm]; rw [if_pos hcond, hpe]
  ·rename_i len e id off hu
   split at h <;> first | (cases h; done) | skip
   rename_i m hm
   split at h <;> first | (cases h; done) | skip
   rename_i hcond
   exact mk_loc h fun H2 => by simp only [aop, hx, hi, hu, hm]; rw [if_pos hcond]
  ·rename_i len e cs hu
   split at h <;> first | (cases h; done) | skip
   rename_i m hm
   split at h <;> first | (cases h; done) | skip
   rename_i hcond
   exact mk_loc h fun H2 => by simp only [aop, hx, hi, hu, hm]; rw [if_pos hcond]
 case index t x i =>
  simp only [aop] at h
  split at h <;> first | (cases h; done) | skip
  rename_i b k n hx hi
  split at h <;> first | (cases h; done) | skip
  ·rename_i s hu
   split at h <;> first | (cases h; done) | skip
   rename_i h0
   split at h <;> first | (cases h; done) | skip
   rename_i bb hbb
   exact mk_loc h fun H2 => by simp only [aop, hx, hi, hu]; rw [if_pos h0, hbb]
  ·rename_i len e cs hu
   split at h <;> first | (cases h; done) | skip
   rename_i m hm
   split at h <;> first | (cases h; done) | skip
   rename_i hcond
   split at h <;> first | (cases h; done) | skip
   rename_i p hp
   exact mk_loc h fun H2 => by simp only [aop, hx, hi, hu, hm]; rw [if_pos hcond, hp]
 case extract x i =>
  simp only [aop] at h
  split at h <;> first | (cases h; done) | skip
  ·rename_i vs hx
   split at h <;> first | (cases h; done) | skip
   rename_i p hp
   exact mk_loc h fun H2 => by simp only [aop, hx, hp]
  ·rename_i vs hx
   exact mk_loc h fun H2 => by simp only [aop, hx]
theorem loc_comm {base : Nat} {ops : Array Oper} {i j : Nat} {f g : HS → Option (AV × HS × Cls)} {H H1 H2 : HS} {v u : AV} {a b : Cls} (hab : clash base ops i a j b = false) (hf : f H = some (v, H1, a)) (hg : g H1 = some (u, H2, b))
  (lf : Loc (base + rank ops i) f H v H1 a) (lg : Loc (base + rank ops j) g H1 u H2 b) : ∃ H3, g H = some (u, H3, b) ∧ f H3 = some (v, H2, a) := by
 cases a with
 | free =>
  obtain ⟨rfl, h1⟩ := lf
  exact ⟨H2, hg, h1 H2⟩
 | all => cases b with
  | free =>
   obtain ⟨rfl, h1⟩ := lg
   exact ⟨H, h1 H, hf⟩
  | _ => simp [clash] at hab
 | rd x =>
  obtain ⟨rfl, h1⟩ := lf
  cases b with
  | free => obtain ⟨rfl, h2⟩ := lg; exact ⟨_, hg, hf⟩
  | rd y => obtain ⟨rfl, h2⟩ := lg; exact ⟨_, hg, hf⟩
  | wr y =>
   obtain ⟨z, rfl, h2⟩ := lg
   simp [clash] at hab
   exact ⟨_, hg, h1 _ (set_get_ne hab)⟩
  | new =>
   obtain ⟨z, rfl, h0, h2⟩ := lg
   simp [clash] at hab
   exact ⟨_, hg, h1 _ (set_get_ne hab)⟩
  | all => simp [clash] at hab
 | wr x =>
  obtain ⟨z, rfl, h1⟩ := lf
  cases b with
  | free => obtain ⟨rfl, h2⟩ := lg; exact ⟨H, h2 H, hf⟩
  | rd y =>
   obtain ⟨rfl, h2⟩ := lg
   simp [clash] at hab
   exact ⟨H, h2 H (set_get_ne (Ne.symm hab)).symm, hf⟩
  | wr y =>
   obtain ⟨q, rfl, h2⟩ := lg
   simp [clash] at hab
   refine ⟨H.set y q, h2 H (set_get_ne (Ne.symm hab)).symm, ?_⟩
   rw [List.set_comm _ _ hab]
   exact h1 _ (set_get_ne hab)
  | new =>
   obtain ⟨q, rfl, h0, h2⟩ := lg
   simp [clash] at hab
   rw [set_get_ne (Ne.symm hab)] at h0
   refine ⟨_, h2 H h0, ?_⟩
   rw [List.set_comm _ _ hab]
   exact h1 _ (set_get_ne hab)
  | all => simp [clash] at hab
 | new =>
  obtain ⟨z, rfl, h0, h1⟩ := lf
  cases b with
  | free => obtain ⟨rfl, h2⟩ := lg; exact ⟨H, h2 H, hf⟩
  | rd y =>
   obtain ⟨rfl, h2⟩ := lg
   simp [clash] at hab
   exact ⟨H, h2 H (set_get_ne hab).symm, hf⟩
  | wr y =>
   obtain ⟨q, rfl, h2⟩ := lg
   simp [clash] at hab
   refine ⟨H.set y q, h2 H (set_get_ne hab).symm, ?_⟩
   rw [List.set_comm _ _ (Ne.symm hab)]
   exact h1 _ (by rw [set_get_ne (Ne.symm hab)]; exact h0)
  | new =>
   obtain ⟨q, rfl, h3, h2⟩ := lg
   simp [clash] at hab
   have hne : base + rank ops j ≠ base + rank ops i := by omega
   rw [set_get_ne hne] at h3
   refine ⟨_, h2 H h3, ?_⟩
   rw [List.set_comm _ _ (Ne.symm hne)]
   exact h1 _ (by rw [set_get_ne (Ne.symm hne)]; exact h0)
  | all => simp [clash] at hab
theorem putA_comm (env : List AV) {x y : Option Tmp} (v u : AV) (h : ∀ d, x = some d → y ≠ some d) : putA (putA env x v) y u = putA (putA env y u) x v := by
 cases x with
 | none => rfl
 | some d =>
  cases y with
  | none => rfl
  | some e =>
   have hne : d ≠ e := fun he => h d rfl (he ▸ rfl)
   exact List.set_comm _ _ hne
theorem opv_put {env : List AV} {d : Option Tmp} {v : AV} {x : Operand} (h : ∀ t, d = some t → x ≠ .tmp t) : opv glob (putA env d v) x = opv glob env x := by
 cases d with
 | none => rfl
 | some d =>
  cases x with
  | tmp t =>
   have hne : t ≠ d := fun e => h d rfl (e ▸ rfl)
   simp only [opv, putA, List.getD_eq_getElem?_getD, List.getElem?_set_ne (Ne.symm hne)]
  | const _ => rfl
  | global _ => rfl
  | func _ => rfl
theorem wantA_put {ops : Array Oper} {env : List AV} {d : Option Tmp} {v : AV} {o : Oper} (h : ∀ t, d = some t → t ∉ o.looksAt ops) : wantA ops (putA env d v) o = wantA ops env o := by
 cases d with
 | none => rfl
 | some d =>
  have hd := h d rfl
  unfold wantA
  split
  ·rfl
  ·rename_i j want hg
   cases hj : (ops[j]?).bind (·.dst) with
   | none => rfl
   | some e =>
    have hne : e ≠ d := fun e2 => hd (by
     unfold Oper.looksAt
     rw [hg]
     simp [hj, e2])
    simp only [putA, List.getElem?_set_ne (Ne.symm hne)]
theorem step_put {call : CallF} {ops : Array Oper} {base i : Nat} {o : Oper} {s : St} {d : Option Tmp} {u : AV} {H : HS} (h1 : ∀ t, d = some t → t ∉ o.looksAt ops) (h2 : ∀ t, d = some t → o.dst ≠ some t) :
  stepA P glob call ops base o i ⟨putA s.env d u, H⟩ = (match stepA P glob call ops base o i ⟨s.env, H⟩ with | some (s', c) => some (⟨putA s'.env d u, s'.H⟩, c) | none => none) := by
 have hop : ∀ x ∈ o.op.operands, opv glob (putA s.env d u) x = opv glob s.env x := fun x hx => opv_put fun t ht e => h1 t ht (by
  unfold Oper.looksAt
  refine List.mem_append.2 (.inl ?_)
  rw [List.mem_filterMap]
  exact ⟨x, by simpa using hx, by rw [e]⟩)
 unfold stepA
 dsimp only
 rw [wantA_put h1]
 cases hw : wantA ops s.env o with
 | none => rfl
 | some b =>
  cases b with
  | true =>
   dsimp only
   rw [aop_congr hop]
   cases ha : aop P call (base + rank ops i) o.op o.type (opv glob s.env) H with
   | none => rfl
   | some q =>
    obtain ⟨v, H', c⟩ := q
    dsimp only
    rw [putA_comm _ _ _ h2]
  | false =>
   dsimp only
   rw [putA_comm _ _ _ h2]
def stepF (P : Program) (glob : Nat → Option (List PV)) (call : CallF) (ops : Array Oper) (base : Nat) (o : Oper) (i : Nat) (env : List AV) (H : HS) : Option (AV × HS × Cls) :=
 match wantA ops env o with
 | some true => aop P call (base + rank ops i) o.op o.type (opv glob env) H
 | some false => some (.undef, H, .free)
 | none => none
theorem stepA_eq {call : CallF} {ops : Array Oper} {base i : Nat} {o : Oper} {s : St} : stepA P glob call ops base o i s = (match stepF P glob call ops base o i s.env s.H with | some (v, H, c) => some (⟨putA s.env o.dst v, H⟩, c) | none => none) := by
 unfold stepA stepF
 cases wantA ops s.env o with
 | none => rfl
 | some b => cases b <;> rfl
theorem stepF_loc {call : CallF} {ops : Array Oper} {base i : Nat} {o : Oper} {env : List AV} {H H' : HS} {v : AV} {c : Cls} (h : stepF P glob call ops base o i env H = some (v, H', c)) : Loc (base + rank ops i) (fun H => stepF P glob call ops base o i env H) H v H' c := by
 unfold stepF at h ⊢
 cases hw : wantA ops env o with
 | none => rw [hw] at h; cases h
 | some b =>
  rw [hw] at h
  cases b with
  | true => exact aop_loc h
  | false => cases h; exact ⟨rfl, fun _ => rfl⟩
theorem step_comm {call : CallF} {ops : Array Oper} {base i j : Nat} {x y : Oper} {s s1 s2 : St} {a b : Cls} (hap : x.apart ops y = true) (hab : clash base ops i a j b = false)
  (h1 : stepA P glob call ops base x i s = some (s1, a)) (h2 : stepA P glob call ops base y j s1 = some (s2, b)) : ∃ s3, stepA P glob call ops base y j s = some (s3, b) ∧ stepA P glob call ops base x i s3 = some (s2, a) := by
 obtain ⟨p1, p2, p3⟩ := Oper.apart_spec hap
 rw [stepA_eq] at h1
 cases hf : stepF P glob call ops base x i s.env s.H with
 | none => rw [hf] at h1; cases h1
 | some q =>
  obtain ⟨v, H1, a'⟩ := q
  rw [hf] at h1
  cases h1
  have lf := stepF_loc hf
  -- y's step at s1 is y's step at s's frame
  have e2 := step_put (P := P) (glob := glob) (call := call) (base := base) (i := j) (s := s) (u := v) (H := H1) p1 (fun t ht => p2 t ht)
  rw [e2, stepA_eq] at h2
  dsimp only at h2
  cases hg : stepF P glob call ops base y j s.env H1 with
  | none => rw [hg] at h2; cases h2
  | some q =>
   obtain ⟨u, H2, b'⟩ := q
   rw [hg] at h2
   cases h2
   have lg := stepF_loc hg
   obtain ⟨H3, g1, g2⟩ := loc_comm hab hf hg lf lg
   refine ⟨⟨putA s.env y.dst u, H3⟩, ?_, ?_⟩
   ·rw [stepA_eq, g1]
   ·have e3 := step_put (P := P) (glob := glob) (call := call) (base := base) (i := i) (s := s) (o := x) (u := u) (H := H3) (d := y.dst) p3 (fun t ht e => p2 t e ht)
    rw [e3, stepA_eq]
    dsimp only
    rw [g2]
    dsimp only
    rw [putA_comm _ _ _ p2]
variable {P : Program} {glob : Nat → Option (List PV)}
inductive Runs (P : Program) (glob : Nat → Option (List PV)) (call : CallF) (ops : Array Oper) (base : Nat) (cl : Nat → Cls) : List Nat → St → St → Prop
 | nil (s : St) : Runs P glob call ops base cl [] s s
 | cons (i : Nat) (o : Oper) (rest : List Nat) (s s1 s2 : St) (ho : ops[i]? = some o) (h : stepA P glob call ops base o i s = some (s1, cl i)) (hr : Runs P glob call ops base cl rest s1 s2) : Runs P glob call ops base cl (i :: rest) s s2
def Free (ops : Array Oper) (base : Nat) (cl : Nat → Cls) (i j : Nat) : Prop :=
 ∀ x y, ops[i]? = some x → ops[j]? = some y → x.apart ops y = true ∧ clash base ops i (cl i) j (cl j) = false
theorem runs_front {call : CallF} {ops : Array Oper} {base : Nat} {cl : Nat → Cls} {i : Nat} : ∀ {L1 L2 : List Nat} {s s2 : St}, Runs P glob call ops base cl (L1 ++ i :: L2) s s2 → (∀ k ∈ L1, Free ops base cl k i) → Runs P glob call ops base cl (i :: (L1 ++ L2)) s s2
 | [], L2, s, s2, h, _ => h
 | k :: L1, L2, s, s2, h, hf => by
  cases h with
  | cons _ x _ _ s1 _ hx h1 hr =>
   have ih := runs_front hr (fun q hq => hf q (List.mem_cons_of_mem _ hq))
   cases ih with
   | cons _ y _ _ s3 _ hy h2 hr2 =>
    obtain ⟨c1, c2⟩ := hf k List.mem_cons_self x y hx hy
    obtain ⟨s4, d1, d2⟩ := step_comm c1 c2 h1 h2
    exact .cons i y _ s s4 s2 hy d1 (.cons k x _ s4 s3 s2 hx d2 hr2)
theorem listC_runs {call : CallF} {ops : Array Oper} {base : Nat} {cl : Nat → Cls} : ∀ {l : List Oper} {i : Nat} {s s2 : St} {cs : List Cls}, listC P glob call ops base l i s = some (s2, cs) → (∀ j o, l[j]? = some o → ops[i + j]? = some o) → (∀ j c, cs[j]? = some c → cl (i + j) = c) →
  Runs P glob call ops base cl (List.range' i l.length) s s2 ∧ cs.length = l.length
 | [], i, s, s2, cs, h, _, _ => by
  simp only [listC] at h
  cases h
  exact ⟨.nil s, rfl⟩
 | o :: l, i, s, s2, cs, h, ho, hc => by
  simp only [listC] at h
  split at h <;> first | (cases h; done) | skip
  rename_i s1 c h1
  split at h <;> first | (cases h; done) | skip
  rename_i s3 cs' h2
  cases h
  obtain ⟨r1, r2⟩ := listC_runs (i := i + 1) h2 (fun j q hq => by have := ho (j + 1) q (by simpa using hq); rwa [show i + (j + 1) = i + 1 + j by omega] at this) (fun j q hq => by have := hc (j + 1) q (by simpa using hq); rwa [show i + (j + 1) = i + 1 + j by omega] at this)
  refine ⟨?_, by simp [r2]⟩
  rw [List.length_cons, List.range'_succ]
  have e : cl i = c := hc 0 c rfl
  exact .cons i o _ s s1 s2 (ho 0 o rfl) (by rw [e]; exact h1) r1
def edgeBits (acc : Array Nat) (o : Oper) : Nat := o.after.foldl (fun s e => if Region.binds .any e then s ||| 2 ^ e.on ||| acc.getD e.on 0 else s) 0
theorem bits_fold {acc : Array Nat} {k : Nat} : ∀ (es : List Edge) (s : Nat), (es.foldl (fun s e => if Region.binds .any e then s ||| 2 ^ e.on ||| acc.getD e.on 0 else s) s).testBit k = true →
  s.testBit k = true ∨ ∃ e ∈ es, Region.binds .any e = true ∧ (e.on = k ∨ (acc.getD e.on 0).testBit k = true)
 | [], s, h => .inl h
 | e :: es, s, h => by
  simp only [List.foldl_cons] at h
  rcases bits_fold es _ h with h1 | ⟨e', he, hb⟩
  ·split at h1
   ·rename_i hbe
    simp only [Nat.testBit_or, Bool.or_eq_true, Nat.testBit_two_pow, decide_eq_true_eq] at h1
    rcases h1 with (h1 | h1) | h1
    ·exact .inl h1
    ·exact .inr ⟨e, List.mem_cons_self, hbe, .inl h1⟩
    ·exact .inr ⟨e, List.mem_cons_self, hbe, .inr h1⟩
   ·exact .inl h1
  ·exact .inr ⟨e', List.mem_cons_of_mem _ he, hb⟩
theorem before_fold : ∀ (l : List Oper) (acc : Array Nat), (∀ (j v : Nat), acc[j]? = some v → (l.foldl (fun a o => a.push (edgeBits a o)) acc)[j]? = some v) ∧
  ∀ (i : Nat) (o : Oper), l[i]? = some o → ∃ pre : Array Nat, (l.foldl (fun a o => a.push (edgeBits a o)) acc)[acc.size + i]? = some (edgeBits pre o) ∧ ∀ (j v : Nat), pre[j]? = some v → (l.foldl (fun a o => a.push (edgeBits a o)) acc)[j]? = some v
 | [], acc => ⟨fun _ _ h => h, fun i o h => by simp at h⟩
 | o :: l, acc => by
  obtain ⟨h1, h2⟩ := before_fold l (acc.push (edgeBits acc o))
  refine ⟨fun j v hj => h1 j v ?_, fun i q hq => ?_⟩
  ·have := (Array.getElem?_eq_some_iff.1 hj).1
   rw [Array.getElem?_push, if_neg (by omega)]
   exact hj
  ·cases i with
   | zero =>
    simp at hq
    subst hq
    refine ⟨acc, ?_, fun j v hj => h1 j v ?_⟩
    ·exact h1 acc.size _ (by simp)
    ·have := (Array.getElem?_eq_some_iff.1 hj).1
     rw [Array.getElem?_push, if_neg (by omega)]
     exact hj
   | succ i =>
    obtain ⟨pre, e1, e2⟩ := h2 i q (by simpa using hq)
    refine ⟨pre, ?_, e2⟩
    rw [Array.size_push, show acc.size + 1 + i = acc.size + (i + 1) by omega] at e1
    exact e1
theorem before_bit {ops : Array Oper} {i k : Nat} {o : Oper} (ho : ops[i]? = some o) (h : ((Region.before ops).getD i 0).testBit k = true) : ∃ e ∈ o.after, Region.binds .any e = true ∧ (e.on = k ∨ ((Region.before ops).getD e.on 0).testBit k = true) := by
 have hb : Region.before ops = ops.toList.foldl (fun a o => a.push (edgeBits a o)) #[] := by
  unfold Region.before edgeBits
  rw [← Array.foldl_toList]
 obtain ⟨pre, e1, e2⟩ := (before_fold ops.toList #[]).2 i o (by simpa using ho)
 rw [← hb] at e1 e2
 simp only [List.size_toArray, List.length_nil, Nat.zero_add] at e1
 rw [Array.getD_eq_getD_getElem?, e1] at h
 simp only [Option.getD_some] at h
 unfold edgeBits at h
 rw [← Array.foldl_toList] at h
 rcases bits_fold o.after.toList 0 h with h1 | ⟨e, he, hbe, hk⟩
 ·simp at h1
 ·refine ⟨e, by simpa using he, hbe, hk.imp id fun h2 => ?_⟩
  cases hp : pre[e.on]? with
  | none => rw [Array.getD_eq_getD_getElem?, hp] at h2; simp at h2
  | some v =>
   rw [Array.getD_eq_getD_getElem?, hp] at h2
   rw [Array.getD_eq_getD_getElem?, e2 _ _ hp]
   exact h2
def Closed (ops : Array Oper) (listed : Array Bool) : Prop := ∀ i k, listed.getD i false = true → ((Region.before ops).getD i 0).testBit k = true → listed.getD k false = true
theorem getD_set (l : Array Bool) (i j : Nat) (hi : i < l.size) : (l.setIfInBounds i true).getD j false = if j = i then true else l.getD j false := by
 by_cases h : j = i
 ·subst h; simp [hi]
 ·simp [h, Array.getElem?_setIfInBounds_ne (Ne.symm h)]
def EdgesOk (ops : Array Oper) : Prop := ∀ (i : Nat) (o : Oper), ops[i]? = some o → ∀ e ∈ o.after, Region.binds .any e = true → e.on < i
theorem any_sound {call : CallF} (hcall : CallOk P glob call) {ops : Array Oper} (hed : EdgesOk ops) {base : Nat} {cl : Nat → Cls} {Q : Exit → Act → World → Prop} {s2 : St} : ∀ (fuel : Nat) (listed : Array Bool) (L : List Nat) (s : St) (G : Gh) (a : Act) (w : World),
  Runs P glob call ops base cl L s s2 → L.length = fuel → listed.size = ops.size → (∀ i, i ∈ L ↔ (i < ops.size ∧ listed.getD i false = false)) → Closed ops listed → L.Pairwise (· < ·) →
  (∀ i j, i ∈ L → j ∈ L → i < j → ((Region.before ops).getD j 0).testBit i = true ∨ Free ops base cl i j) →
  Inv glob s G a w → (∀ G' a' w', Inv glob s2 G' a' w' → Ext G s.H w G' s2.H w' → Q .normal a' w') → wpAny P .any ops Q fuel listed a w := by
 intro fuel
 induction fuel with
 | zero =>
  intro listed L s G a w hr hl hsz hL hcl hpw hfree hi hQ
  have : L = [] := List.eq_nil_of_length_eq_zero hl
  subst this
  cases hr
  refine ⟨?_, hQ G a w hi (Ext.refl _ _ _)⟩
  unfold Region.ready
  rw [List.filter_eq_nil_iff]
  intro i hi2
  have hlt := List.mem_range.1 hi2
  have hlst : listed.getD i false = true := by
   cases hb : listed.getD i false with
   | true => rfl
   | false => exact absurd ((hL i).2 ⟨hlt, hb⟩) (by simp)
  have : listed.getD i true = true := by
   have h3 : i < listed.size := by omega
   simp [h3] at hlst ⊢
   exact hlst
  simp [this]
 | succ fuel ih =>
  intro listed L s G a w hr hl hsz hL hcl hpw hfree hi hQ
  refine ⟨fun hnone => ?_, fun i hir => ?_⟩
  ·-- something is ready: the first of L
   exfalso
   cases hr with
   | nil => simp at hl
   | cons i o rest _ s1 _ ho h1 hr1 =>
    have hm := (hL i).1 List.mem_cons_self
    have hready : i ∈ Region.ready .any ops listed := by
     rw [mem_ready]
     have hlt : i < listed.size := by omega
     have h2 := hm.2
     refine ⟨by simp [hlt] at h2 ⊢; exact h2, o, ho, fun e he hb => ?_⟩
     have hlt2 := hed i o ho e he hb
     cases hb2 : listed.getD e.on false with
     | true => rfl
     | false =>
      have hmem := (hL e.on).2 ⟨by omega, hb2⟩
      rcases List.mem_cons.1 hmem with h3 | h3
      ·omega
      ·have := (List.pairwise_cons.1 hpw).1 _ h3
       omega
    rw [hnone] at hready
    cases hready
  ·obtain ⟨hjun, oi, hoi, hall⟩ := mem_ready.1 hir
   have hlt : i < ops.size := (Array.getElem?_eq_some_iff.1 hoi).1
   have hls : i < listed.size := by omega
   have hlf : listed.getD i false = false := by
    simp [hls] at hjun ⊢
    exact hjun
   have hiL : i ∈ L := (hL i).2 ⟨hlt, hlf⟩
   have hdeps : ∀ k, ((Region.before ops).getD i 0).testBit k = true → listed.getD k false = true := fun k hk => by
    obtain ⟨e, he, hb, hk2⟩ := before_bit hoi hk
    have := hall e he hb
    rcases hk2 with rfl | hk2
    ·exact this
    ·exact hcl _ _ this hk2
   obtain ⟨L1, L2, rfl⟩ := List.append_of_mem hiL
   obtain ⟨pw1, pw2, pw3⟩ := List.pairwise_append.1 hpw
   have hr2 := runs_front hr (fun k hk => by
    have hkL : k ∈ L1 ++ i :: L2 := List.mem_append.2 (.inl hk)
    rcases hfree k i hkL hiL (pw3 k hk i List.mem_cons_self) with h1 | h1
    ·have h2 := hdeps k h1
     rw [((hL k).1 hkL).2] at h2
     cases h2
    ·exact h1)
   cases hr2 with
   | cons _ o _ _ s1 _ ho h1 hr3 =>
    rw [hoi] at ho
    cases ho
    have hsub : ∀ k, k ∈ L1 ++ L2 → k ∈ L1 ++ i :: L2 := fun k hk => by
     rcases List.mem_append.1 hk with h | h
     ·exact List.mem_append.2 (.inl h)
     ·exact List.mem_append.2 (.inr (List.mem_cons_of_mem _ h))
    have hni : i ∉ L1 ++ L2 := fun h => by
     rcases List.mem_append.1 h with h | h
     ·have := pw3 i h i List.mem_cons_self; omega
     ·have := (List.pairwise_cons.1 pw2).1 i h; omega
    have key : ∀ (G' : Gh) (a' : Act) (w' : World), Inv glob s1 G' a' w' → Ext G s.H w G' s1.H w' → wpAny P .any ops Q fuel (listed.setIfInBounds i true) a' w' := fun G' a' w' hi' he => by
     refine ih _ (L1 ++ L2) s1 G' a' w' hr3 ?_ (by simpa using hsz) (fun k => ?_) (fun x k hx hk => ?_) ?_ (fun x y hx hy hxy => hfree x y (hsub x hx) (hsub y hy) hxy) hi' (fun G2 a2 w2 hi2 he2 => hQ G2 a2 w2 hi2 (he.trans hi.mem he2))
     ·simp only [List.length_append, List.length_cons] at hl ⊢
      omega
     ·rw [getD_set _ _ _ hls]
      constructor
      ·intro hk
       have hne : k ≠ i := fun e => hni (e ▸ hk)
       rw [if_neg hne]
       exact (hL k).1 (hsub k hk)
      ·rintro ⟨h2, h3⟩
       split at h3
       ·cases h3
       ·rename_i hne
        have := (hL k).2 ⟨h2, h3⟩
        rcases List.mem_append.1 this with h | h
        ·exact List.mem_append.2 (.inl h)
        ·rcases List.mem_cons.1 h with h | h
         ·exact absurd h hne
         ·exact List.mem_append.2 (.inr h)
     ·rw [getD_set _ _ _ hls] at hx ⊢
      split
      ·rfl
      ·split at hx
       ·rename_i he2
        subst he2
        exact hdeps k hk
       ·exact hcl x k hx hk
     ·exact List.pairwise_append.2 ⟨pw1, (List.pairwise_cons.1 pw2).2, fun x hx y hy => pw3 x hx y (List.mem_cons_of_mem _ hy)⟩
    have := step_sound (Q := Q) (K := wpAny P .any ops Q fuel (listed.setIfInBounds i true)) hcall h1 hi key
    unfold wpOp
    rw [hoi]
    dsimp only
    split
    ·rename_i hw; rw [if_pos hw] at this; exact .inl this
    ·rename_i hw; rw [if_neg hw] at this; exact this
variable {P : Program} {glob : Nat → Option (List PV)}
theorem textOk_spec {ops : Array Oper} (h : textOk ops = true) : EdgesOk ops ∧ ∀ (i j : Nat) (x y : Oper), i < j → ops[i]? = some x → ops[j]? = some y → ((Region.before ops).getD j 0).testBit i = true ∨ x.apart ops y = true := by
 unfold textOk at h
 dsimp only at h
 rw [Bool.and_eq_true] at h
 obtain ⟨h1, h2⟩ := h
 refine ⟨fun i o ho e he hb => ?_, fun i j x y hij hx hy => ?_⟩
 ·have hlt : i < ops.size := (Array.getElem?_eq_some_iff.1 ho).1
  have := List.all_eq_true.1 h1 i (List.mem_range.2 hlt)
  rw [ho] at this
  have := Array.all_eq_true_iff_forall_mem.1 this e he
  simpa [hb] using this
 ·have hlt : j < ops.size := (Array.getElem?_eq_some_iff.1 hy).1
  have := List.all_eq_true.1 h2 j (List.mem_range.2 hlt)
  have := List.all_eq_true.1 this i (List.mem_range.2 hij)
  rw [hx, hy, Bool.or_eq_true] at this
  refine this.imp id fun h3 => ?_
  simpa [touch] using h3
theorem clsOk_spec {ops : Array Oper} {bf : Array Nat} {base i : Nat} {a : Cls} : ∀ {cs : List Cls} {j : Nat}, clsOk ops bf base i a j cs = true → ∀ (n : Nat) (b : Cls), cs[n]? = some b → (bf.getD (j + n) 0).testBit i = true ∨ clash base ops i a (j + n) b = false
 | [], j, _, n, b, hn => by simp at hn
 | c :: cs, j, h, n, b, hn => by
  simp only [clsOk, Bool.and_eq_true] at h
  cases n with
  | zero =>
   simp at hn
   subst hn
   have := h.1
   unfold pairOk at this
   rw [Bool.or_eq_true] at this
   exact this.imp id (fun h3 => by simpa using h3)
  | succ n =>
   have := clsOk_spec h.2 n b (by simpa using hn)
   rwa [show j + 1 + n = j + (n + 1) by omega] at this
theorem clssOk_spec {ops : Array Oper} {bf : Array Nat} {base : Nat} : ∀ {cs : List Cls} {i : Nat}, clssOk ops bf base i cs = true → ∀ (m n : Nat) (a b : Cls), m < n → cs[m]? = some a → cs[n]? = some b → (bf.getD (i + n) 0).testBit (i + m) = true ∨ clash base ops (i + m) a (i + n) b = false
 | [], i, _, m, n, a, b, _, hm, _ => by simp at hm
 | c :: cs, i, h, m, n, a, b, hmn, hm, hn => by
  have rest : clssOk ops bf base (i + 1) cs = true := by
   cases c <;> simp only [clssOk, Bool.and_eq_true] at h <;> first | exact h | exact h.2
  cases n with
  | zero => omega
  | succ n =>
   cases m with
   | zero =>
    simp at hm
    subst hm
    cases c with
    | free => exact .inr rfl
    | _ =>
     simp only [clssOk, Bool.and_eq_true] at h
     have := clsOk_spec h.1 n b (by simpa using hn)
     rwa [show i + 1 + n = i + (n + 1) by omega] at this
   | succ m =>
    have := clssOk_spec rest m n a b (by omega) (by simpa using hm) (by simpa using hn)
    rwa [show i + 1 + n = i + (n + 1) by omega, show i + 1 + m = i + (m + 1) by omega] at this
theorem drew_ext {G : Gh} {H : HS} {w : World} (h : HRep glob G H w) : HRep glob G H w.drew ∧ Ext G H w G H w.drew := by
 have ex : Ext G H w G H w.drew := { Ext.refl G H w with
  os := rfl, tape := rfl, output := rfl, size := Nat.le_refl _, cells := fun _ _ _ => rfl, blocks := fun _ _ _ => rfl, new := (Ext.refl G H w).new, tok := (Ext.refl G H w).tok, F_new := (Ext.refl G H w).F_new }
 refine ⟨⟨fun id cs hq => ?_, fun id v e s hq => ?_, h.apart, fun g cs hg => (h.glob g cs hg).ext ex, h.old⟩, ex⟩
 ·obtain ⟨us, e, q1, q2, q3, q4, q5⟩ := h.box id cs hq
  exact ⟨us, e, q1, q2, q3, fun j a ha => (q4 j a ha).ext ex, q5⟩
 ·exact h.tok id v e s hq
theorem region_sound {call : CallF} (hcall : CallOk P glob call) (hm : P.follows .mixedOrders = true) {id : Nat} {ops : Array Oper} {draw : Bool} {s s' : St} {G : Gh} {a : Act} {w : World} {Q : Exit → Act → World → Prop}
  (h : regionA P glob call ops draw s = some s') (hok : codeOk (.region id ops draw) = true) (hi : Inv glob s G a w) (hQ : ∀ G' a' w', Inv glob s' G' a' w' → Ext G s.H w G' s'.H w' → Q .normal a' w') : (Code.region id ops draw).wp P Q a w := by
 obtain ⟨g1, g2⟩ := grow_rep (slots ops) hi.mem
 have hi1 : Inv glob ⟨s.env, growH (slots ops) s.H⟩ G a w := hi.ext g2 g1
 unfold regionA at h
 dsimp only at h
 cases draw with
 | false =>
  simp only [Bool.false_eq_true, if_false] at h
  exact wp_region_list (list_sound hcall h hi1 fun G' a' w' hi' he => hQ G' a' w' hi' (g2.trans hi.mem he))
 | true =>
  simp only [if_true] at h
  split at h <;> first | (cases h; done) | skip
  rename_i s2 cs hl
  split at h <;> first | (cases h; done) | skip
  rename_i hc
  cases h
  have hto : textOk ops = true := by simpa [codeOk] using hok
  obtain ⟨t1, t2⟩ := textOk_spec hto
  obtain ⟨d1, d2⟩ := drew_ext g1
  have hi2 : Inv glob ⟨s.env, growH (slots ops) s.H⟩ G a w.drew := hi1.ext d2 d1
  let cl : Nat → Cls := fun i => cs.getD i .free
  obtain ⟨r1, r2⟩ := listC_runs (cl := cl) hl (fun j o hj => by simpa using hj) (fun j c hj => by simp [cl, List.getD_eq_getElem?_getD, hj])
  have hlen : ops.toList.length = ops.size := by simp
  rw [hlen] at r1 r2
  have hrep : ∀ i, (Array.replicate ops.size false).getD i false = false := fun i => by rw [Array.getD_eq_getD_getElem?, Array.getElem?_replicate]; split <;> rfl
  refine wp_region_any hm ?_
  refine any_sound hcall t1 ops.size (Array.replicate ops.size false) (List.range' 0 ops.size) _ G a w.drew r1 (by simp) (by simp) (fun i => ?_) (fun i k hik _ => ?_) ?_ (fun i j hi3 hj3 hij => ?_) hi2 (fun G' a' w' hi' he => hQ G' a' w' hi' (g2.trans hi.mem (d2.trans g1 he)))
  ·rw [hrep]
   simp [List.mem_range'_1]
  ·rw [hrep] at hik
   cases hik
  ·rw [← List.range_eq_range']; exact List.pairwise_lt_range
  ·simp only [List.mem_range'_1, Nat.zero_add] at hi3 hj3
   have hx : ∃ x, ops[i]? = some x := ⟨ops[i], Array.getElem?_eq_getElem hi3.2⟩
   have hy : ∃ y, ops[j]? = some y := ⟨ops[j], Array.getElem?_eq_getElem hj3.2⟩
   obtain ⟨x, hx⟩ := hx
   obtain ⟨y, hy⟩ := hy
   have hci : cs[i]? = some (cl i) := by
    have : i < cs.length := by omega
    simp [cl, List.getD_eq_getElem?_getD, this]
   have hcj : cs[j]? = some (cl j) := by
    have : j < cs.length := by omega
    simp [cl, List.getD_eq_getElem?_getD, this]
   rcases t2 i j x y hij hx hy with h1 | h1
   ·exact .inl h1
   ·rcases clssOk_spec hc i j _ _ hij hci hcj with h2 | h2
    ·simp only [Nat.zero_add] at h2; exact .inl h2
    ·simp only [Nat.zero_add] at h2
     refine .inr fun x2 y2 hx2 hy2 => ?_
     rw [hx] at hx2
     rw [hy] at hy2
     cases hx2
     cases hy2
     exact ⟨h1, h2⟩
theorem wp_loop_n {c : Code} {Q : Exit → Act → World → Prop} (L : Nat → Act → World → Prop) (round : ∀ n a w, L n a w → c.wp P (Exit.then (fun a' w' => ∃ m, m < n ∧ L m a' w') Q) a w) {n : Nat} {a : Act} {w : World} (h0 : L n a w) : (Code.loop c).wp P Q a w := by
 classical
 have least : ∀ a w, (∃ n, L n a w) → ∃ n, L n a w ∧ ∀ m, L m a w → n ≤ m := fun a w ⟨n, hn⟩ => by
  induction n using Nat.strongRecOn with
  | _ n ih =>
   by_cases hx : ∃ m, m < n ∧ L m a w
   ·obtain ⟨m, hm, hl⟩ := hx
    exact ih m hm hl
   ·exact ⟨n, hn, fun m hm => Nat.le_of_not_lt fun h => hx ⟨m, h, hm⟩⟩
 refine wp_loop (fun a w => ∃ n, L n a w) (fun a w => if h : ∃ n, L n a w then Classical.choose (least a w h) else 0) ⟨n, h0⟩ ?_
 intro a w hI
 have hs := Classical.choose_spec (least a w hI)
 refine wp_mono (round _ a w hs.1) (fun e a' w' hq => ?_)
 cases e with
 | normal =>
  obtain ⟨m, hm, hl⟩ := hq
  refine ⟨⟨m, hl⟩, ?_⟩
  have hI2 : ∃ n, L n a' w' := ⟨m, hl⟩
  rw [dif_pos hI, dif_pos hI2]
  exact Nat.lt_of_le_of_lt ((Classical.choose_spec (least a' w' hI2)).2 m hl) hm
 | _ => exact hq
def Ex.toExit : Ex → Exit
 | .normal => .normal
 | .exit id => .exit id
 | .ret => .ret
theorem code_sound {call : CallF} (hcall : CallOk P glob call) (hm : P.follows .mixedOrders = true) {k : Nat} : ∀ {c : Code} {s s' : St} {r : Ex} {G : Gh} {a : Act} {w : World} {Q : Exit → Act → World → Prop},
  codeA P glob call k c s = some (r, s') → codeOk c = true → Inv glob s G a w → (∀ G' a' w', Inv glob s' G' a' w' → Ext G s.H w G' s'.H w' → Q r.toExit a' w') → c.wp P Q a w := by
 intro c
 induction c with
 | skip =>
  intro s s' r G a w Q h _ hi hQ
  simp only [codeA] at h
  cases h
  exact wp_skip (hQ G a w hi (Ext.refl _ _ _))
 | region id ops draw =>
  intro s s' r G a w Q h hok hi hQ
  simp only [codeA] at h
  split at h <;> first | (cases h; done) | skip
  rename_i s2 h2
  cases h
  exact region_sound hcall hm h2 hok hi hQ
 | seq x y ihx ihy =>
  intro s s' r G a w Q h hok hi hQ
  simp only [codeOk, Bool.and_eq_true] at hok
  simp only [codeA] at h
  split at h
  ·rename_i s1 h1
   refine wp_seq (ihx h1 hok.1 hi fun G' a' w' hi' he => ?_)
   exact ihy h hok.2 hi' fun G2 a2 w2 hi2 he2 => hQ G2 a2 w2 hi2 (he.trans hi.mem he2)
  ·rename_i hne
   refine wp_seq (ihx h hok.1 hi fun G' a' w' hi' he => ?_)
   have := hQ G' a' w' hi' he
   cases r with
   | normal => exact (hne _ h).elim
   | exit id => exact this
   | ret => exact this
 | cond o x y ihx ihy =>
  intro s s' r G a w Q h hok hi hQ
  simp only [codeOk, Bool.and_eq_true] at hok
  simp only [codeA] at h
  split at h <;> first | (cases h; done) | skip
  ·rename_i hc
   exact wp_cond_true (bool_of (hi.operand _ _ hc)) (ihx h hok.1 hi hQ)
  ·rename_i hc
   exact wp_cond_false (bool_of (hi.operand _ _ hc)) (ihy h hok.2 hi hQ)
 | block id x ih =>
  intro s s' r G a w Q h hok hi hQ
  simp only [codeOk] at hok
  simp only [codeA] at h
  split at h
  ·rename_i j s1 h1
   cases h
   refine wp_block (ih h1 hok hi fun G' a' w' hi' he => ?_)
   have := hQ G' a' w' hi' he
   show (if j = id then Q .normal a' w' else Q (.exit j) a' w')
   by_cases hj : j = id
   ·rw [if_pos hj] at this ⊢; exact this
   ·rw [if_neg hj] at this ⊢; exact this
  ·rename_i hne
   refine wp_block (ih h hok hi fun G' a' w' hi' he => ?_)
   have := hQ G' a' w' hi' he
   cases r with
   | normal => exact this
   | exit j => exact (hne _ _ h).elim
   | ret => exact this
 | loop x ih =>
  intro s s' r G a w Q h hok hi hQ
  simp only [codeOk] at hok
  simp only [codeA] at h
  refine wp_loop_n (fun n a w => ∃ s1 G1 G0 w0, loopA (codeA P glob call k x) s.env s.H.length n s1 = some (r, s') ∧ Inv glob s1 G1 a w ∧ HRep glob G0 s.H w0 ∧ Ext G0 s.H w0 G1 s1.H w ∧ (∀ G' a' w', Inv glob s' G' a' w' → Ext G0 s.H w0 G' s'.H w' → Q r.toExit a' w')) ?_ (n := k) ⟨s, G, G, w, h, hi, hi.mem, Ext.refl _ _ _, hQ⟩
  rintro n a w ⟨s1, G1, G0, w0, h1, hi1, hm0, he0, hQ1⟩
  cases n with
  | zero => simp only [loopA] at h1; cases h1
  | succ n =>
   simp only [loopA] at h1
   split at h1
   ·rename_i s2 h2
    refine ih h2 hok hi1 fun G' a' w' hi' he => ?_
    obtain ⟨t1, t2⟩ := trim_inv s.env s.H.length hi'
    exact ⟨n, Nat.lt_succ_self n, trim s.env s.H.length s2, G', G0, w0, h1, t1, hm0, (t2 (Nat.le_refl _) (he0.trans hm0 he)).1, hQ1⟩
   ·rename_i hne
    refine ih h1 hok hi1 fun G' a' w' hi' he => ?_
    have := hQ1 G' a' w' hi' (he0.trans hm0 he)
    cases r with
    | normal => exact (hne _ h1).elim
    | exit id => exact this
    | ret => exact this
 | exit id =>
  intro s s' r G a w Q h _ hi hQ
  simp only [codeA] at h
  cases h
  exact wp_exit (hQ G a w hi (Ext.refl _ _ _))
 | scope x ih =>
  intro s s' r G a w Q h hok hi hQ
  simp only [codeOk] at hok
  simp only [codeA] at h
  refine wp_scope_straight (ih h hok hi fun G' a' w' hi' he => ?_)
  have := hQ G' a' w' hi' he
  cases r with
  | normal => exact this
  | exit id => exact this
  | ret => exact this
 | label l =>
  intro s s' r G a w Q h _ hi hQ
  simp only [codeA] at h
  cases h
  exact wp_label (hQ G a w hi (Ext.refl _ _ _))
 | ret =>
  intro s s' r G a w Q h _ hi hQ
  simp only [codeA] at h
  cases h
  exact wp_ret (hQ G a w hi (Ext.refl _ _ _))
 | rangeFunc f ps x y _ _ => intro s s' r G a w Q h; simp only [codeA] at h; cases h
 | goto l => intro s s' r G a w Q h; simp only [codeA] at h; cases h
 | refuse s => intro s s' r G a w Q h; simp only [codeA] at h; cases h
def ExtOk (P : Program) (ext : Nat → FuncId → List PV → Option PV) : Prop :=
 ∀ (k : Nat) (f : FuncId) (ps : List PV) (r : PV), ext k f ps = some r →
  (∃ fn, P.funcs[f]? = some fn ∧ (fn.name == "runtime.NumGoroutine") = false ∧ fn.body.isNone = false) ∧
  ∀ (F : Nat → Nat → Prop) (w : World) (vs : List Value), (∀ b o, F b o → b < w.heap.size) → vs.length = ps.length → (∀ (j : Nat) (p : PV), ps[j]? = some p → Rep F w p (vs.getD j Go.undef)) →
   Calls P f vs.toArray w fun e w' => ∃ (u : Value) (F' : Nat → Nat → Prop), e = .returned u ∧ Rep F' w' r u ∧ Below w.heap.size w w' ∧ (∀ b o, F b o → F' b o) ∧ ∀ b o, F' b o → F b o ∨ (w.heap.size ≤ b ∧ b < w'.heap.size)
def FuncsOk (P : Program) : Prop := ∀ (f : FuncId) (fn : Func), P.funcs[f]? = some fn → ∀ c, fn.body = some c → codeOk c = true ∧ (fn.name == "runtime.NumGoroutine") = false
theorem resA_sound {s : St} {G : Gh} {a : Act} {w : World} {q : ResultVar} {r : AV} (h : resA P s q = some r) (hi : Inv glob s G a w) :
  ∃ u, ((match q with | .tmp t => pure (a.tmps.getD t Go.undef) | .cell b t => do loadVar t (← asAddr (a.tmps.getD b Go.undef)) : Sem Value)).run P w = .ok u w ∧ RepA G s.H w r u := by
 cases q with
 | tmp t => simp only [resA] at h; cases h; exact ⟨_, rfl, out_rep (hi.tmp t)⟩
 | cell b t =>
  simp only [resA] at h
  have hb := hi.tmp b
  split at h <;> first | (cases h; done) | skip
  ·rename_i id off he
   rw [he] at hb
   have hp := ptr_of hb
   split at h <;> first | (cases h; done) | skip
   rename_i cs hcs
   split at h <;> first | (cases h; done) | skip
   rename_i v hv
   cases h
   obtain ⟨x, h1, h2⟩ := load_ptr (P := P) hi.mem hcs hv
   refine ⟨x, ?_, out_rep h2⟩
   dsimp only
   rw [hp]
   simpa [asAddr, Instr.loadAt, Instr.sureAddr] using h1
  ·rename_i cs he
   rw [he] at hb
   split at h <;> first | (cases h; done) | skip
   rename_i p hp
   cases h
   obtain ⟨x, h1, h2⟩ := load_pim (P := P) hb hp
   obtain ⟨b2, o2, hv⟩ := pim_of hb
   refine ⟨x, ?_, h2⟩
   dsimp only
   rw [hv] at h1 ⊢
   simpa [asAddr, Instr.loadAt, Instr.sureAddr] using h1
theorem mapM_run {α : Type} {f : α → Sem Value} {w : World} : ∀ (l : List α) (us : List Value), us.length = l.length → (∀ (j : Nat) (x : α), l[j]? = some x → (f x).run P w = .ok (us.getD j Go.undef) w) → (l.mapM f).run P w = .ok us w
 | [], us, hl, _ => by
  have : us = [] := List.eq_nil_of_length_eq_zero (by simpa using hl)
  subst this
  simp
 | x :: l, [], hl, _ => by simp at hl
 | x :: l, u :: us, hl, h => by
  have h0 := h 0 x rfl
  simp only [List.getD_cons_zero] at h0
  have hr := mapM_run l us (by simpa using hl) (fun j y hy => by have := h (j + 1) y (by simpa using hy); simpa using this)
  simp [List.mapM_cons, h0, hr]
theorem results_sound {fn : Func} {s : St} {G : Gh} {a : Act} {w : World} {r : AV} (h : resultsA P fn s = some r) (hi : Inv glob s G a w) : ∃ u, (results fn a.tmps).run P w = .ok u w ∧ RepA G s.H w r u := by
 unfold resultsA at h
 have key : ∀ xs, all? (resA P s) fn.results.toList = some xs → ∃ us : List Value, us.length = xs.length ∧ (∀ (j : Nat) (b : AV), xs[j]? = some b → RepA G s.H w b (us.getD j Go.undef)) ∧
   (results fn a.tmps).run P w = .ok (if us.length = 1 then us.getD 0 Go.undef else .tuple us.toArray) w := by
  intro xs hx
  obtain ⟨h1, h2⟩ := all?_get hx
  classical
  have ex : ∀ q, (∃ r, resA P s q = some r) → ∃ u, ((match q with | .tmp t => pure (a.tmps.getD t Go.undef) | .cell b t => do loadVar t (← asAddr (a.tmps.getD b Go.undef)) : Sem Value)).run P w = .ok u w ∧ ∀ r, resA P s q = some r → RepA G s.H w r u := fun q ⟨r, hq⟩ => by
   obtain ⟨u, k1, k2⟩ := resA_sound hq hi
   refine ⟨u, k1, fun r2 hq2 => ?_⟩
   rw [hq] at hq2
   cases hq2
   exact k2
  let g : ResultVar → Value := fun q => if hq : ∃ r, resA P s q = some r then Classical.choose (ex q hq) else Go.undef
  have hg : ∀ q r, resA P s q = some r → ((match q with | .tmp t => pure (a.tmps.getD t Go.undef) | .cell b t => do loadVar t (← asAddr (a.tmps.getD b Go.undef)) : Sem Value)).run P w = .ok (g q) w ∧ RepA G s.H w r (g q) := fun q r hq => by
   have hq2 : ∃ r, resA P s q = some r := ⟨r, hq⟩
   have hs := Classical.choose_spec (ex q hq2)
   rw [show g q = Classical.choose (ex q hq2) from dif_pos hq2]
   exact ⟨hs.1, hs.2 r hq⟩
  have hget : ∀ (j : Nat) (q : ResultVar), fn.results.toList[j]? = some q → ((fn.results.toList.map g).getD j Go.undef) = g q := fun j q hq => by simp [List.getD_eq_getElem?_getD, hq]
  refine ⟨fn.results.toList.map g, by simpa using h1.symm, fun j b hb => ?_, ?_⟩
  ·have hlt : j < fn.results.toList.length := by have := (List.getElem?_eq_some_iff.1 hb).1; omega
   obtain ⟨y, e1, e2⟩ := h2 j _ (List.getElem?_eq_getElem hlt)
   rw [hb] at e1
   cases e1
   rw [hget j _ (List.getElem?_eq_getElem hlt)]
   exact (hg _ _ e2).2
  ·have hm := mapM_run (P := P) (w := w) (f := fun q => (match q with | .tmp t => pure (a.tmps.getD t Go.undef) | .cell b t => do loadVar t (← asAddr (a.tmps.getD b Go.undef)) : Sem Value)) fn.results.toList (fn.results.toList.map g) (by simp) (fun j q hq => by
    have hlt : j < fn.results.toList.length := (List.getElem?_eq_some_iff.1 hq).1
    obtain ⟨y, _, e2⟩ := h2 j q hq
    rw [hget j q hq]
    exact (hg _ _ e2).1)
   have e : (results fn a.tmps).run P w = ((fn.results.toList.mapM fun q => (match q with | .tmp t => pure (a.tmps.getD t Go.undef) | .cell b t => do loadVar t (← asAddr (a.tmps.getD b Go.undef)) : Sem Value)).run P w).andThen fun vs w' => .ok (if h : vs.toArray.size = 1 then vs.toArray[0] else .tuple vs.toArray) w' := by
    unfold results
    rw [Array.mapM_eq_mapM_toList]
    simp
    first | rfl | (congr 2; congr 1; funext x; cases x <;> rfl)
   rw [e, hm]
   simp only [Result.andThen_ok]
   congr 1
   split
   ·rename_i hl
    have hl2 : (fn.results.toList.map g).length = 1 := by simpa using hl
    rw [if_pos hl2]
    have : 0 < (fn.results.toList.map g).length := by omega
    simp only [List.getElem_toArray]
    rw [List.getD_eq_getElem?_getD, List.getElem?_eq_getElem this]
    rfl
   ·rename_i hl
    rw [if_neg (by simpa using hl)]
 split at h
 ·rename_i x hx
  cases h
  obtain ⟨us, u1, u2, u3⟩ := key _ hx
  rw [if_pos (by simpa using u1)] at u3
  exact ⟨_, u3, u2 0 r rfl⟩
 ·rename_i xs hne hx
  cases h
  obtain ⟨us, u1, u2, u3⟩ := key _ hx
  have hn : us.length ≠ 1 := fun hl => by
   rw [hl] at u1
   cases xs with
   | nil => cases u1
   | cons x xs =>
    cases xs with
    | nil => exact hne x rfl
    | cons y ys => simp at u1
  rw [if_neg hn] at u3
  exact ⟨_, u3, tupOf_rep u1 u2⟩
 ·cases h
theorem ext_back {G : Gh} {H : HS} {w w' : World} {F' : Nat → Nat → Prop} (hH : HRep glob G H w) (hb : Below w.heap.size w w') (h1 : ∀ b o, G.F b o → F' b o) (h2 : ∀ b o, F' b o → G.F b o ∨ (w.heap.size ≤ b ∧ b < w'.heap.size)) :
  HRep glob { G with F := F' } H w' ∧ Ext G H w { G with F := F' } H w' := by
 have ex : Ext G H w { G with F := F' } H w' := {
  os := hb.os
  tape := hb.tape
  output := hb.output
  size := hb.size
  F_mono := h1
  cells := fun x o hF => hb.cell (p := ⟨x, o, none⟩) (hH.old x o hF)
  F_new := fun x o h => by
   rcases h2 x o h with p | ⟨p, _⟩
   ·exact .inl p
   ·exact .inr (.inl p)
  box := fun id cs h => ⟨rfl, cs, h⟩
  tok := fun id ver e sz h => ⟨ver, h, Nat.le_refl _, fun _ => rfl, .inl rfl⟩
  new := fun id k hn hk => by
   obtain ⟨x, hx, hlv⟩ := Gh.at_live hk
   exact absurd hlv (by rw [hn x hx]; simp)
  blocks := fun x hx _ => hb.block x hx }
 have hout : H[H.length]? = none := by simp
 refine ⟨hH.step H.length ex (fun id _ => ⟨rfl, rfl, rfl⟩) (fun x hx _ => hb.block x hx) (fun x o h => ?_) (fun k hk => ?_) (fun cs h => ?_) (fun v e s h => ?_) (fun x o h => ?_), ex⟩
 ·rcases h2 x o h with p | ⟨p, _⟩
  ·exact .inl p
  ·exact .inr (.inl p)
 ·obtain ⟨x, hx, _⟩ := Gh.at_live hk
  rw [hout] at hx
  cases hx
 ·rw [hout] at h; cases h
 ·rw [hout] at h; cases h
 ·rcases h2 x o h with p | ⟨_, p⟩
  ·exact Nat.lt_of_lt_of_le (hH.old x o p) hb.size
  ·exact p
theorem ev_sound {ext : Nat → FuncId → List PV → Option PV} (hext : ExtOk P ext) (hm : P.follows .mixedOrders = true) (hf : FuncsOk P) : ∀ k, CallOk P glob (ev P glob ext k) := by
 intro k
 induction k with
 | zero => intro f args H r H' h; simp only [ev] at h; cases h
 | succ k ih =>
  intro f args H r H' h
  simp only [ev] at h
  split at h
  ·rename_i p hp
   cases h
   split at hp <;> first | (cases hp; done) | skip
   rename_i ps hps
   obtain ⟨e1, e2⟩ := hext _ _ _ _ hp
   refine ⟨e1, fun G w vs hl hr hH => ?_⟩
   obtain ⟨g1, g2⟩ := all?_get hps
   refine (e2 G.F w vs hH.old (by omega) (fun j q hq => ?_)).mono ?_
   ·have hlt : j < args.length := by have := (List.getElem?_eq_some_iff.1 hq).1; omega
    obtain ⟨y, k1, k2⟩ := g2 j _ (List.getElem?_eq_getElem hlt)
    rw [hq] at k1
    cases k1
    have := hr j _ (List.getElem?_eq_getElem hlt)
    rw [pv?_eq k2] at this
    exact this.of_pv
   ·rintro e w' ⟨u, F', he, hu, hb, f1, f2⟩
    obtain ⟨b1, b2⟩ := ext_back hH hb f1 f2
    exact ⟨u, _, he, .pv _ _ hu, b1, b2⟩
  ·split at h <;> first | (cases h; done) | skip
   rename_i fn hfn
   split at h <;> first | (cases h; done) | skip
   rename_i c hc
   obtain ⟨ho, hn⟩ := hf f fn hfn c hc
   refine ⟨⟨fn, hfn, hn, by rw [hc]; rfl⟩, fun G w vs hl hr hH => ?_⟩
   have hi : Inv glob ⟨args ++ List.replicate (fn.ntmps - args.length) .undef, H⟩ G { tmps := vs.toArray ++ Array.replicate (fn.ntmps - vs.toArray.size) Go.undef, defers := [] } w := by
    have hle : fn.ntmps - vs.toArray.size = fn.ntmps - args.length := by simp [hl]
    refine ⟨rfl, by simp [hl], fun t => ?_, hH⟩
    dsimp only
    rw [hle, List.getD_eq_getElem?_getD, List.getElem?_append, Array.getD_eq_getD_getElem?, Array.getElem?_append]
    have hsz : vs.toArray.size = args.length := by simpa using hl
    rw [hsz]
    split
    ·rename_i ht
     have := hr t _ (List.getElem?_eq_getElem ht)
     rw [List.getElem?_eq_getElem ht]
     simpa [List.getD_eq_getElem?_getD] using this
    ·have e1 : ∀ (α : Type) (n i : Nat) (x : α), ((List.replicate n x)[i]?).getD x = x := fun α n i x => by rw [List.getElem?_replicate]; split <;> rfl
     have e2 : ∀ (n i : Nat) (x : Value), ((Array.replicate n x)[i]?).getD x = x := fun n i x => by rw [Array.getElem?_replicate]; split <;> rfl
     rw [e1, e2]
     exact .pv _ _ Rep.undef
   have fin : ∀ s', resultsA P fn s' = some r → ∀ G' a' w', Inv glob s' G' a' w' → Ext G H w G' s'.H w' → a'.defers = [] ∧ ∃ v, (results fn a'.tmps).run P w' = .ok v w' ∧ ∃ u G'', Ending.returned v = .returned u ∧ RepA G'' s'.H w' r u ∧ HRep glob G'' s'.H w' ∧ Ext G H w G'' s'.H w' := fun s' hres G' a' w' hi' he => by
    obtain ⟨u, r1, r2⟩ := results_sound hres hi'
    exact ⟨hi'.defers, u, r1, u, G', rfl, r2, hi'.mem, he⟩
   refine calls_of_wp hfn hc ?_
   split at h <;> first | (cases h; done) | skip
   ·rename_i s' hs'
    split at h <;> first | (cases h; done) | skip
    rename_i r2 hres
    cases h
    exact code_sound ih hm hs' ho hi (fun G' a' w' hi' he => fin s' hres G' a' w' hi' he)
   ·rename_i s' hs'
    split at h <;> first | (cases h; done) | skip
    rename_i r2 hres
    cases h
    exact code_sound ih hm hs' ho hi (fun G' a' w' hi' he => fin s' hres G' a' w' hi' he)
end Go.Proofs.YtkjdpojbmkpkgaaGreatDoor.AV
