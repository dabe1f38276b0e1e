/- What printed contracts say, in the evaluator's terms: rows of numbers, in and out; what a law owes at its end. -/
import Derived.Test.YtkjdpojbmkpkgaaGreatDoorQtA0
import Derived.Test.YtkjdpojbmkpkgaaGreatDoorQtWMore
import Derived.OpenShut
import Derived.ShutString
import Derived.Laws.IdiomArrays
import Derived.ChangeSlices
namespace Go.Proofs.YtkjdpojbmkpkgaaGreatDoor.AV
open Go Go.RowKit Go.Proofs.YtkjdpojbmkpkgaaGreatDoorW.PrintWords
variable {P : Program} {glob : Nat → Option (List PV)}
def ints (k : IntKind) : List PV → Option (List Int)
 | [] => some []
 | .int k' n :: ps => if k' = k then (match ints k ps with | some l => some (n :: l) | none => none) else none
 | _ => none
def rowOf (k : IntKind) : PV → Option (List Int)
 | .sl _ sz ps => if (sz = 1 ∨ ps.isEmpty = true) ∧ ps.length ≤ 4611686018427387904 then ints k ps else none
 | _ => none
def row (k : IntKind) (l : List Int) : PV := .sl none 1 (l.map (.int k))
def strP (b : ByteArray) : PV := .str b.data.toList
def bytes (l : List UInt8) : ByteArray := ⟨l.toArray⟩
theorem ints_eq {k : IntKind} : ∀ {ps : List PV} {l : List Int}, ints k ps = some l → ps = l.map (.int k)
 | [], l, h => by simp only [ints] at h; cases h; rfl
 | p :: ps, l, h => by
  cases p with
  | int k' n =>
   simp only [ints] at h
   split at h <;> first | (cases h; done) | skip
   rename_i hk
   subst hk
   split at h <;> first | (cases h; done) | skip
   rename_i l2 hl
   cases h
   rw [ints_eq hl]
   rfl
  | _ => simp only [ints] at h; cases h
theorem ints_map {k : IntKind} : ∀ (l : List Int), ints k (l.map (.int k)) = some l
 | [] => rfl
 | n :: l => by simp only [List.map_cons, ints, if_true, ints_map l]
theorem rowOf_row {k : IntKind} {l : List Int} (h : l.length ≤ 4611686018427387904) : rowOf k (row k l) = some l := by
 unfold rowOf row
 simp only []
 rw [if_pos (by rw [List.length_map]; exact ⟨by simp, h⟩)]
 exact ints_map l
theorem flat_ints (k : IntKind) : ∀ l : List Int, (l.map (PV.int k)).flatMap PV.cells = l.map (PV.int k)
 | [] => rfl
 | a :: l => by simp only [List.map_cons, List.flatMap_cons, PV.cells, flat_ints k l]; rfl
theorem row_in {F : Nat → Nat → Prop} {w : World} {k : IntKind} {p : PV} {l : List Int} {v : Value} (h : rowOf k p = some l) (hr : Rep F w p v) :
  ∃ A c, v = .slice A l.length c ∧ l.length ≤ c ∧ Kd.C (Kd.int k) w A l.length l ∧ ∀ (e base : Nat) (ok : Nat → Prop), (∀ k_, ok k_) → Kd.V (Kd.int k) e w base ok (.slice A l.length c) l := by
 unfold rowOf at h
 split at h <;> first | (cases h; done) | skip
 rename_i nn sz ps
 split at h <;> first | (cases h; done) | skip
 rename_i hcond
 obtain ⟨hsz, hlen⟩ := hcond
 have hps := ints_eq h
 have hlp : ps.length = l.length := by rw [hps, List.length_map]
 have key : ∀ (W : World) (A : Option Addr), (0 < l.length → ∃ b o, A = some ⟨b, o, none⟩ ∧ ∀ j, j < l.length → W.cell? ⟨b, o + j, none⟩ = some (.int k (l.getD j 0))) → Kd.C (Kd.int k) W A l.length l := fun W A hA => by
  refine ⟨rfl, by omega, fun h0 => ?_⟩
  obtain ⟨b, o, rfl, hc⟩ := hA h0
  refine ⟨_, rfl, fun j p hj => ⟨[.int k p], rfl, rfl, fun i u hu => ?_⟩⟩
  have hjl := (List.getElem?_eq_some_iff.1 hj).1
  cases i with
  | zero =>
   simp at hu
   subst hu
   rw [show j * (Kd.int k).sz + 0 = j from Nat.mul_one j, add_none, hc j hjl]
   rw [List.getD_eq_getElem?_getD, hj]
   rfl
  | succ i => simp at hu
 cases hr with
 | nilsl _ _ =>
  have : l = [] := List.eq_nil_of_length_eq_zero hlp.symm
  subst this
  exact ⟨none, 0, rfl, Nat.le_refl _, key w none (fun h0 => by simp at h0), fun e base ok hok => Kd.V_nil _ _ _ _ _⟩
 | sl _ _ b o c _ _ u hc hs h1 hu hrr =>
  rw [hlp] at hc hu ⊢
  have hszn : 0 < l.length → sz = 1 := fun h0 => by
   rcases hsz with hz0 | hz0
   ·exact hz0
   ·cases l with
    | nil => simp at h0
    | cons a l => rw [hps] at hz0; simp at hz0
  have hcell : ∀ j, j < l.length → u j = .int k (l.getD j 0) := fun j hj => by
   have := hrr j (.int k (l.getD j 0)) (by
    rw [hps, flat_ints, List.getElem?_map, List.getElem?_eq_getElem hj, List.getD_eq_getElem?_getD, List.getElem?_eq_getElem hj]
    rfl)
   exact this.int_inv
  have hw : ∀ j, j < l.length → w.cell? ⟨b, o + j, none⟩ = some (.int k (l.getD j 0)) := fun j hj => by
   have h0 := hszn (by omega)
   subst h0
   rw [(hu j (by omega)).1, hcell j hj]
  refine ⟨_, c, rfl, hc, key w _ (fun h0 => ⟨b, o, rfl, hw⟩), fun e base ok hok => ⟨_, c, rfl, hc, fun W' hW => key W' _ (fun h0 => ⟨b, o, rfl, fun j hj => ?_⟩)⟩⟩
  have hlt : b < w.heap.size := World.block_lt_of_cell? w ⟨b, o + j, none⟩ (hw j hj)
  rw [← hw j hj]
  exact World.cell?_of_block (a := ⟨b, o + j, none⟩) (hW b (hok b) hlt)
theorem row_out {w' : World} {k : IntKind} {e base : Nat} {ok : Nat → Prop} {v : Value} {xs : List Int} (h : Kd.R (Kd.int k) e w' base ok v xs) :
  ∃ C : Nat → Nat → Prop, (∀ b o, C b o → base ≤ b ∧ b < w'.heap.size) ∧ ∀ F' : Nat → Nat → Prop, (∀ b o, C b o → F' b o) → Rep F' w' (row k xs) v := by
 obtain ⟨A, c, hv, hl, hC⟩ := Kd.R_reads h
 obtain ⟨inner, hown⟩ := Kd.R_own h
 have hlen : (xs.map (PV.int k)).length = xs.length := List.length_map _
 rcases hown.2 with ⟨hn, h0⟩ | ⟨g, cap, cur, hv2, hbase, hh, hnc, _, hcs, htk⟩
 ·have : xs = [] := List.eq_nil_of_length_eq_zero h0
  subst this
  refine ⟨fun _ _ => False, fun b o h => h.elim, fun F' _ => ?_⟩
  rw [hn]
  exact .nilsl none (by simp) 1
 ·refine ⟨fun b _ => b = g, fun b o hb => ⟨by omega, by rw [hb]; exact (Array.getElem?_eq_some_iff.1 hh).1⟩, fun F' hF => ?_⟩
  rw [hv2] at hv
  injection hv with hA hn2 hc2
  subst hA
  subst hc2
  rw [hv2]
  have := Rep.sl (F := F') (w := w') none (by simp) g 0 cap 1 (xs.map (.int k)) (fun j => .int k (xs.getD j 0)) (by rw [hlen]; exact hnc) (fun x hx => by simp only [List.mem_map] at hx; obtain ⟨n, _, rfl⟩ := hx; rfl)
   (fun x hx y hy => by simp only [List.mem_map] at hx; obtain ⟨n, _, rfl⟩ := hx; simp [PV.cells] at hy; subst hy; rfl)
   (fun j hj => by
    rw [hlen, Nat.mul_one] at hj
    refine ⟨?_, hF _ _ rfl⟩
    obtain ⟨ad, hA, hcell⟩ := hC.2.2 (by omega)
    cases hA
    obtain ⟨cs, _, hK, hc3⟩ := hcell j (xs.getD j 0) (by rw [List.getD_eq_getElem?_getD, List.getElem?_eq_getElem hj]; rfl)
    have hK2 : cs = [.int k (xs.getD j 0)] := hK
    subst hK2
    have := hc3 0 _ rfl
    rw [show j * (Kd.int k).sz + 0 = j from Nat.mul_one j, add_none] at this
    exact this)
   (fun j p hp => by
    rw [flat_ints, List.getElem?_map, Option.map_eq_some_iff] at hp
    obtain ⟨n, hn3, rfl⟩ := hp
    rw [List.getD_eq_getElem?_getD, hn3]
    exact .int _ _)
  rw [hlen] at this
  exact this
theorem str_in {F : Nat → Nat → Prop} {w : World} {s : List UInt8} {v : Value} (h : Rep F w (.str s) v) : v = .string (bytes s) := by
 cases h
 rfl
theorem one_arg {vs : List Value} (h : vs.length = 1) : ∃ a, vs = [a] := by
 cases vs with
 | nil => cases h
 | cons a vs => cases vs with
  | nil => exact ⟨a, rfl⟩
  | cons b vs => simp at h
theorem two_args {vs : List Value} (h : vs.length = 2) : ∃ a b, vs = [a, b] := by
 cases vs with
 | nil => cases h
 | cons a vs => obtain ⟨b, rfl⟩ := one_arg (vs := vs) (by simpa using h); exact ⟨a, b, rfl⟩
theorem agg_mk3 {F : Nat → Nat → Prop} {w : World} {p q r : PV} {a b c : Value} (h1 : Rep F w p a) (h2 : Rep F w q b) (h3 : Rep F w r c) (o1 : p.one = true) (o2 : q.one = true) (o3 : r.one = true) : Rep F w (.agg [p, q, r]) (.agg #[a, b, c]) :=
 .agg [p, q, r] [a, b, c] rfl (fun y hy => by simp at hy; rcases hy with rfl | rfl | rfl <;> assumption) (fun j x hx => by
  rcases j with _ | _ | _ | j
  ·simp at hx; subst hx; exact h1
  ·simp at hx; subst hx; exact h2
  ·simp at hx; subst hx; exact h3
  ·simp at hx)
theorem tup_mk2 {F : Nat → Nat → Prop} {w : World} {p q : PV} {a b : Value} (h1 : Rep F w p a) (h2 : Rep F w q b) : Rep F w (.tup [p, q]) (.tuple #[a, b]) :=
 .tup [p, q] [a, b] rfl (fun j x hx => by
  rcases j with _ | _ | j
  ·simp at hx; subst hx; exact h1
  ·simp at hx; subst hx; exact h2
  ·simp at hx)
theorem tup_mk3 {F : Nat → Nat → Prop} {w : World} {p q r : PV} {a b c : Value} (h1 : Rep F w p a) (h2 : Rep F w q b) (h3 : Rep F w r c) : Rep F w (.tup [p, q, r]) (.tuple #[a, b, c]) :=
 .tup [p, q, r] [a, b, c] rfl (fun j x hx => by
  rcases j with _ | _ | _ | j
  ·simp at hx; subst hx; exact h1
  ·simp at hx; subst hx; exact h2
  ·simp at hx; subst hx; exact h3
  ·simp at hx)
theorem drawn_below {w w' : World} (h : Drawn0 w w') : Below w.heap.size w w' := by
 obtain ⟨n, rfl⟩ := h.out
 exact z6 (Below.refl _ _) n
def ExtCall (P : Program) (f : FuncId) (ps : List PV) (r : PV) : Prop :=
 ∀ (F : Nat → Nat → Prop) (w : World) (vs : List Value), (∀ b o, F b o → b < w.heap.size) → vs.length = ps.length → (∀ (j : Nat) (p : PV), ps[j]? = some p → Rep F w p (vs.getD j Go.undef)) →
   Calls P f vs.toArray w fun e w' => ∃ (u : Value) (F' : Nat → Nat → Prop), e = .returned u ∧ Rep F' w' r u ∧ Below w.heap.size w w' ∧ (∀ b o, F b o → F' b o) ∧ ∀ b o, F' b o → F b o ∨ (w.heap.size ≤ b ∧ b < w'.heap.size)
theorem law_calls {ext : Nat → FuncId → List PV → Option PV} (hext : ExtOk P ext) (hm : P.follows .mixedOrders = true) (hf : FuncsOk P) {k : Nat} {f : FuncId} {ps : List PV} {H' : HS} (h : ev P glob ext k f (ps.map .pv) [] = some (.pv (.bool true), H')) {W : World} {vs : List Value}
  (hl : vs.length = ps.length) (hr : ∀ (j : Nat) (p : PV), ps[j]? = some p → Rep (fun b _ => b < W.heap.size) W p (vs.getD j Go.undef)) (hg : ∀ g cs, glob g = some cs → RepA ⟨fun b _ => b < W.heap.size, id, fun _ => Go.undef⟩ [] W (.pim cs) (.pointer (some ⟨g, 0, none⟩))) :
  Calls P f vs.toArray W fun e W' => e = .returned (.bool true) ∧ Below W.heap.size W W' := by
 have hH : HRep glob ⟨fun b _ => b < W.heap.size, id, fun _ => Go.undef⟩ [] W := {
  box := fun id cs hq => by simp at hq
  tok := fun id v e s hq => by simp at hq
  apart := fun i j k _ hi _ => by obtain ⟨x, hx, _⟩ := Gh.at_live hi; simp at hx
  glob := hg
  old := fun b o h => h }
 refine ((ev_sound hext hm hf k f _ _ _ _ h).2 ⟨fun b _ => b < W.heap.size, id, fun _ => Go.undef⟩ W vs (by simpa using hl) (fun j a ha => ?_) hH).mono ?_
 ·simp only [List.getElem?_map, Option.map_eq_some_iff] at ha
  obtain ⟨p, hp, rfl⟩ := ha
  exact .pv _ _ (hr j p hp)
 ·rintro e W' ⟨u, G', rfl, hu, _, he⟩
  rw [bool_of hu]
  exact ⟨rfl, ⟨he.os, he.tape, he.output, he.size, fun b hb => he.blocks b hb (fun id => by unfold Gh.at; simp)⟩⟩
open Go
inductive Item where
 | call (f : FuncId) (ps : List PV) (r : PV)
 | len (t : TypeId) (x : AV) (n : Nat)
 | cut (t : TypeId) (x : AV) (l h m : Option Int) (r : AV)
 | test (b v : Bool)
 | bin (op : BinOp) (t : TypeId) (a b : AV) (yc : Bool) (r : AV)
 | loop (c : Code) (s : St) (e : Ex) (s' : St)
 deriving Inhabited
structure SS where
 sc : List Item
 log : List Item
 deriving Inhabited
structure Flags where
 len : Bool := false
 cut : Bool := false
 test : Bool := false
 loop : Bool := false
 bin : BinOp → TypeId → AV → AV → Bool := fun _ _ _ _ => false
abbrev CallS := FuncId → List AV → HS → SS → Option (AV × HS × SS)
section
variable (P : Program) (glob : Nat → Option (List PV)) (known : FuncId → Bool) (fl : Flags)
def noCall : CallF := fun _ _ _ => none
def plainS (slot : Nat) (op : Op) (ty : TypeId) (r : Operand → Option AV) (H : HS) (q : SS) : Option (AV × HS × Cls × SS) :=
 match aop P noCall slot op ty r H with
 | some (v, H, c) => some (v, H, c, q)
 | none => none
def callAS (call : CallS) (f : FuncId) (args : List AV) (H : HS) (q : SS) : Option (AV × HS × Cls × SS) :=
 match all? AV.pure? args with
 | some ps =>
  if known f then
   (match q.sc with
   | .call _ _ r :: sc => some (.pv r, H, .free, ⟨sc, .call f ps r :: q.log⟩)
   | _ => none)
  else (match call f (ps.map .pv) [] q with | some (.pv r, _, q) => some (.pv r, H, .free, q) | _ => none)
 | none => (match call f args H q with | some (r, H', q) => some (r, H', .all, q) | none => none)
def aopS (call : CallS) (slot : Nat) (op : Op) (ty : TypeId) (r : Operand → Option AV) (H : HS) (q : SS) : Option (AV × HS × Cls × SS) :=
 match op with
 | .slice t x lo hi mx =>
  if fl.cut then
   (match r x, optIdx r lo, optIdx r hi, optIdx r mx, q.sc with
   | some a, some l, some h, some m, .cut _ _ _ _ _ v :: sc => some (v, H, .free, ⟨sc, .cut t a l h m v :: q.log⟩)
   | _, _, _, _, _ => none)
  else plainS P slot (.slice t x lo hi mx) ty r H q
 | .binOp op t x y u =>
  (match r x, r y with
  | some a, some b =>
   if fl.bin op t a b then
    (match q.sc with
    | .bin _ _ _ _ _ v :: sc => some (v, H, .free, ⟨sc, .bin op t a b (isConstO y) v :: q.log⟩)
    | _ => none)
   else plainS P slot (.binOp op t x y u) ty r H q
  | _, _ => none)
 | .call c =>
  (match all? r c.args.toList with
  | some args =>
   (match c.callee with
   | .builtin .len =>
    if fl.len then
     (match args, c.argTypes[0]?, q.sc with
     | [x], some t, .len _ _ n :: sc => some (.pv (.int .i64 n), H, .free, ⟨sc, .len t x n :: q.log⟩)
     | _, _, _ => none)
    else plainS P slot (.call c) ty r H q
   | .value f => (match r f with
    | some (.pv (.fn g)) => callAS known call g args H q
    | some (.clo g caps) => callAS known call g (args ++ caps) H q
    | _ => none)
   | _ => plainS P slot (.call c) ty r H q)
  | none => none)
 | op => plainS P slot op ty r H q
def testS (b : Bool) (q : SS) : Option (Bool × SS) :=
 if fl.test then (match q.sc with | .test _ v :: sc => some (v, ⟨sc, .test b v :: q.log⟩) | _ => none) else some (b, q)
def stepS (call : CallS) (ops : Array Oper) (base : Nat) (o : Oper) (i : Nat) (s : St) (q : SS) : Option (St × Cls × SS) :=
 match wantA ops s.env o with
 | some true => (match aopS P known fl call (base + rank ops i) o.op o.type (opv glob s.env) s.H q with
  | some (v, H, c, q) => some (⟨putA s.env o.dst v, H⟩, c, q)
  | none => none)
 | some false => some (⟨putA s.env o.dst .undef, s.H⟩, .free, q)
 | none => none
def listS (call : CallS) (ops : Array Oper) (base : Nat) : List Oper → Nat → St → SS → Option (St × List Cls × SS)
 | [], _, s, q => some (s, [], q)
 | o :: rest, i, s, q => match stepS P glob known fl call ops base o i s q with
  | some (s, c, q) => (match listS call ops base rest (i + 1) s q with | some (s, cs, q) => some (s, c :: cs, q) | none => none)
  | none => none
def regionS (call : CallS) (ops : Array Oper) (draw : Bool) (s : St) (q : SS) : Option (St × SS) :=
 match listS P glob known fl call ops s.H.length ops.toList 0 ⟨s.env, growH (slots ops) s.H⟩ q with
 | some (s2, cs, q) => if draw = false ∨ clssOk ops (Region.before ops) s.H.length 0 cs then some (s2, q) else none
 | none => none
def loopS (body : St → SS → Option (Ex × St × SS)) (env0 : List AV) (n : Nat) : Nat → St → SS → Option (Ex × St × SS)
 | 0, _, _ => none
 | k + 1, s, q => match body s q with
  | some (.normal, s, q) => loopS body env0 n k (trim env0 n s) q
  | r => r
def codeS (call : CallS) (k : Nat) : Code → St → SS → Option (Ex × St × SS)
 | .skip, s, q => some (.normal, s, q)
 | .region _ ops draw, s, q => (match regionS P glob known fl call ops draw s q with | some (s, q) => some (.normal, s, q) | none => none)
 | .seq a b, s, q => (match codeS call k a s q with | some (.normal, s, q) => codeS call k b s q | r => r)
 | .cond c a b, s, q => (match opv glob s.env c with
  | some (.pv (.bool t)) => (match testS fl t q with | some (true, q) => codeS call k a s q | some (false, q) => codeS call k b s q | none => none)
  | _ => none)
 | .block id c, s, q => (match codeS call k c s q with | some (.exit j, s, q) => some (if j = id then .normal else .exit j, s, q) | r => r)
 | .loop c, s, q =>
  if fl.loop then (match q.sc with | .loop _ _ e s' :: sc => some (e, s', ⟨sc, .loop c s e s' :: q.log⟩) | _ => none)
  else loopS (codeS call k c) s.env s.H.length k s q
 | .exit id, s, q => some (.exit id, s, q)
 | .scope c, s, q => codeS call k c s q
 | .label _, s, q => some (.normal, s, q)
 | .ret, s, q => some (.ret, s, q)
 | _, _, _ => none
def evS (dom : FuncId → Bool) : Nat → CallS
 | 0, _, _, _, _ => none
 | k + 1, f, args, H, q =>
  if dom f then none else
  match P.funcs[f]? with
  | some fn => (match fn.body with
   | some c => (match codeS P glob known fl (evS dom k) k c ⟨args ++ List.replicate (fn.ntmps - args.length) .undef, H⟩ q with
    | some (.normal, s, q) | some (.ret, s, q) => (match resultsA P fn s with | some r => some (r, s.H, q) | none => none)
    | _ => none)
   | none => none)
  | none => none
end
section
variable {P : Program} {glob : Nat → Option (List PV)} {known : FuncId → Bool} {fl : Flags} {ext : Nat → FuncId → List PV → Option PV} {K : Nat}
def Good (P : Program) (glob : Nat → Option (List PV)) (ext : Nat → FuncId → List PV → Option PV) (K : Nat) : Item → Prop
 | .call f ps r => ∀ k, K ≤ k → ∃ H', ev P glob ext k f (ps.map .pv) [] = some (.pv r, H')
 | .len t x n => lenA P t x = some n ∧ n ≤ 9223372036854775807
 | .cut t x l h m r => sliceA P t x l h m = some r
 | .test b v => b = v
 | .bin op t a b yc r => binA P op t a b yc = some r
 | .loop c s e s' => ∀ k, K ≤ k → codeA P glob (ev P glob ext k) k (.loop c) s = some (e, s')
abbrev Goods (P : Program) (glob : Nat → Option (List PV)) (ext : Nat → FuncId → List PV → Option PV) (K : Nat) (q : SS) : Prop := ∀ i ∈ q.log, Good P glob ext K i
def Stands (P : Program) (glob : Nat → Option (List PV)) (known : FuncId → Bool) (ext : Nat → FuncId → List PV → Option PV) (K : Nat) (call : CallS) (callF : CallF) : Prop :=
 (∀ f args H q r H' q', call f args H q = some (r, H', q') → (∃ l, q'.log = l ++ q.log) ∧ (Goods P glob ext K q' → callF f args H = some (r, H'))) ∧
 ∀ f ps r, known f = true → Good P glob ext K (.call f ps r) → ∃ H', callF f (ps.map .pv) [] = some (.pv r, H')
theorem goods_of {q q' : SS} (h : ∃ l, q'.log = l ++ q.log) (hg : Goods P glob ext K q') : Goods P glob ext K q := fun i hi => by
 obtain ⟨l, hl⟩ := h
 exact hg i (by rw [hl]; exact List.mem_append_right _ hi)
theorem log_trans {q q' q2 : SS} (h : ∃ l, q'.log = l ++ q.log) (h2 : ∃ l, q2.log = l ++ q'.log) : ∃ l, q2.log = l ++ q.log := by
 obtain ⟨l, hl⟩ := h
 obtain ⟨m, hm⟩ := h2
 exact ⟨m ++ l, by rw [hm, hl, List.append_assoc]⟩
theorem log_refl (q : SS) : ∃ l, q.log = l ++ q.log := ⟨[], rfl⟩
theorem aop_more {slot : Nat} {op : Op} {ty : TypeId} {r : Operand → Option AV} {H : HS} {x : AV × HS × Cls} (h : aop P noCall slot op ty r H = some x) (call : CallF) : aop P call slot op ty r H = some x := by
 have cN : ∀ f args, callA noCall f args H = none := fun f args => by
  unfold callA noCall
  split
  ·rfl
  ·rfl
 cases op with
 | call c =>
  simp only [aop] at h ⊢
  split at h <;> first | (cases h; done) | skip
  rename_i args ha
  cases hc : c.callee with
  | value f =>
   rw [hc] at h
   simp only [cN] at h
   split at h <;> cases h
  | builtin b => rw [hc] at h; cases b <;> exact h
  | _ => rw [hc] at h; exact h
 | makeFunc fn f c => cases fn <;> exact h
 | _ => exact h
theorem plainS_sound {call : CallF} {slot : Nat} {op : Op} {ty : TypeId} {r : Operand → Option AV} {H H' : HS} {q q' : SS} {v : AV} {c : Cls} (h : plainS P slot op ty r H q = some (v, H', c, q')) :
  (∃ l, q'.log = l ++ q.log) ∧ (Goods P glob ext K q' → aop P call slot op ty r H = some (v, H', c)) := by
 unfold plainS at h
 split at h <;> first | (cases h; done) | skip
 rename_i hx
 cases h
 exact ⟨log_refl _, fun _ => aop_more hx call⟩
theorem callAS_sound {call : CallS} {callF : CallF} (hs : Stands P glob known ext K call callF) {f : FuncId} {args : List AV} {H H' : HS} {q q' : SS} {v : AV} {c : Cls} (h : callAS known call f args H q = some (v, H', c, q')) :
  (∃ l, q'.log = l ++ q.log) ∧ (Goods P glob ext K q' → callA callF f args H = some (v, H', c)) := by
 unfold callAS at h
 split at h
 ·rename_i ps hps
  split at h
  ·rename_i hk
   split at h <;> first | (cases h; done) | skip
   cases h
   rename_i r sc hsc
   refine ⟨⟨[_], rfl⟩, fun hg => ?_⟩
   obtain ⟨H2, h2⟩ := hs.2 f ps r hk (hg _ (List.mem_cons_self ..))
   unfold callA
   rw [hps]
   simp only []
   rw [h2]
  ·split at h <;> first | (cases h; done) | skip
   rename_i r H2 q2 hc
   cases h
   obtain ⟨h1, h2⟩ := hs.1 _ _ _ _ _ _ _ hc
   refine ⟨h1, fun hg => ?_⟩
   unfold callA
   rw [hps]
   simp only []
   rw [h2 hg]
 ·rename_i hps
  split at h <;> first | (cases h; done) | skip
  rename_i r H2 q2 hc
  cases h
  obtain ⟨h1, h2⟩ := hs.1 _ _ _ _ _ _ _ hc
  refine ⟨h1, fun hg => ?_⟩
  unfold callA
  rw [hps]
  simp only []
  rw [h2 hg]
theorem aopS_sound {call : CallS} {callF : CallF} (hs : Stands P glob known ext K call callF) {slot : Nat} {op : Op} {ty : TypeId} {r : Operand → Option AV} {H H' : HS} {q q' : SS} {v : AV} {c : Cls} (h : aopS P known fl call slot op ty r H q = some (v, H', c, q')) :
  (∃ l, q'.log = l ++ q.log) ∧ (Goods P glob ext K q' → aop P callF slot op ty r H = some (v, H', c)) := by
 unfold aopS at h
 split at h
 ·rename_i t x lo hi mx
  split at h
  ·split at h <;> first | (cases h; done) | skip
   rename_i h1 h2 h3 h4 h5
   cases h
   refine ⟨⟨[_], rfl⟩, fun hg => ?_⟩
   have h6 : sliceA P t _ _ _ _ = some v := hg _ (List.mem_cons_self ..)
   simp only [aop]
   rw [h1, h2, h3, h4]
   simp only []
   rw [h6]
   rfl
  ·exact plainS_sound h
 ·rename_i op t x y u
  split at h <;> first | (cases h; done) | skip
  rename_i a b h1 h2
  split at h
  ·split at h <;> first | (cases h; done) | skip
   cases h
   refine ⟨⟨[_], rfl⟩, fun hg => ?_⟩
   have h6 : binA P op t a b _ = some v := hg _ (List.mem_cons_self ..)
   simp only [aop]
   rw [h1, h2]
   simp only []
   rw [h6]
   rfl
  ·exact plainS_sound h
 ·rename_i cc
  split at h <;> first | (cases h; done) | skip
  rename_i args ha
  split at h
  ·rename_i hcal
   split at h
   ·split at h <;> first | (cases h; done) | skip
    rename_i h1 h2
    cases h
    refine ⟨⟨[_], rfl⟩, fun hg => ?_⟩
    have h6 := hg _ (List.mem_cons_self ..)
    simp only [aop]
    rw [ha]
    simp only []
    rw [hcal]
    simp only []
    rw [h1]
    simp only []
    rw [h6.1]
    simp only []
    rw [if_pos h6.2]
    rfl
   ·exact plainS_sound h
  ·rename_i f hcal
   split at h
   ·rename_i g hf
    obtain ⟨h1, h2⟩ := callAS_sound hs h
    refine ⟨h1, fun hg => ?_⟩
    simp only [aop]
    rw [ha]
    simp only []
    rw [hcal]
    simp only []
    rw [hf]
    exact h2 hg
   ·rename_i g caps hf
    obtain ⟨h1, h2⟩ := callAS_sound hs h
    refine ⟨h1, fun hg => ?_⟩
    simp only [aop]
    rw [ha]
    simp only []
    rw [hcal]
    simp only []
    rw [hf]
    exact h2 hg
   ·cases h
  ·exact plainS_sound h
 ·exact plainS_sound h
theorem testS_sound {b v : Bool} {q q' : SS} (h : testS fl b q = some (v, q')) : (∃ l, q'.log = l ++ q.log) ∧ (Goods P glob ext K q' → b = v) := by
 unfold testS at h
 split at h
 ·split at h <;> first | (cases h; done) | skip
  cases h
  exact ⟨⟨[_], rfl⟩, fun hg => hg _ (List.mem_cons_self ..)⟩
 ·cases h
  exact ⟨log_refl _, fun _ => rfl⟩
theorem stepS_sound {call : CallS} {callF : CallF} (hs : Stands P glob known ext K call callF) {ops : Array Oper} {base : Nat} {o : Oper} {i : Nat} {s s' : St} {q q' : SS} {c : Cls} (h : stepS P glob known fl call ops base o i s q = some (s', c, q')) :
  (∃ l, q'.log = l ++ q.log) ∧ (Goods P glob ext K q' → stepA P glob callF ops base o i s = some (s', c)) := by
 unfold stepS at h
 split at h <;> first | (cases h; done) | skip
 ·rename_i hw
  split at h <;> first | (cases h; done) | skip
  rename_i v H c2 q2 ho
  cases h
  obtain ⟨a1, a2⟩ := aopS_sound hs ho
  refine ⟨a1, fun hg => ?_⟩
  unfold stepA
  rw [hw]
  simp only []
  rw [a2 hg]
 ·rename_i hw
  cases h
  refine ⟨log_refl _, fun hg => ?_⟩
  unfold stepA
  rw [hw]
theorem listS_sound {call : CallS} {callF : CallF} (hs : Stands P glob known ext K call callF) {ops : Array Oper} {base : Nat} : ∀ {L : List Oper} {i : Nat} {s s' : St} {q q' : SS} {cs : List Cls}, listS P glob known fl call ops base L i s q = some (s', cs, q') →
  (∃ l, q'.log = l ++ q.log) ∧ (Goods P glob ext K q' → listC P glob callF ops base L i s = some (s', cs))
 | [], i, s, s', q, q', cs, h => by
  simp only [listS] at h
  cases h
  exact ⟨log_refl _, fun _ => rfl⟩
 | o :: L, i, s, s', q, q', cs, h => by
  simp only [listS] at h
  split at h <;> first | (cases h; done) | skip
  rename_i s1 c q1 h1
  split at h <;> first | (cases h; done) | skip
  rename_i s2 cs2 q2 h2
  cases h
  obtain ⟨a1, a2⟩ := stepS_sound hs h1
  obtain ⟨b1, b2⟩ := listS_sound hs h2
  refine ⟨log_trans a1 b1, fun hg => ?_⟩
  simp only [listC]
  rw [a2 (goods_of b1 hg)]
  simp only []
  rw [b2 hg]
theorem listC_listA {callF : CallF} {ops : Array Oper} {base : Nat} : ∀ {L : List Oper} {i : Nat} {s s' : St} {cs : List Cls}, listC P glob callF ops base L i s = some (s', cs) → listA P glob callF ops base L i s = some s'
 | [], i, s, s', cs, h => by
  simp only [listC] at h
  cases h
  rfl
 | o :: L, i, s, s', cs, h => by
  simp only [listC] at h
  split at h <;> first | (cases h; done) | skip
  rename_i s1 c h1
  split at h <;> first | (cases h; done) | skip
  rename_i s2 cs2 h2
  cases h
  simp only [listA]
  rw [h1]
  exact listC_listA h2
theorem regionS_sound {call : CallS} {callF : CallF} (hs : Stands P glob known ext K call callF) {ops : Array Oper} {draw : Bool} {s s' : St} {q q' : SS} (h : regionS P glob known fl call ops draw s q = some (s', q')) :
  (∃ l, q'.log = l ++ q.log) ∧ (Goods P glob ext K q' → regionA P glob callF ops draw s = some s') := by
 unfold regionS at h
 split at h <;> first | (cases h; done) | skip
 rename_i s2 cs q2 h2
 split at h <;> first | (cases h; done) | skip
 rename_i hd
 cases h
 obtain ⟨a1, a2⟩ := listS_sound hs h2
 refine ⟨a1, fun hg => ?_⟩
 unfold regionA
 cases draw with
 | false =>
  simp only [Bool.false_eq_true, if_false]
  exact listC_listA (a2 hg)
 | true =>
  simp only [if_true]
  rw [a2 hg]
  simp only []
  rw [if_pos (by simpa using hd)]
theorem loopS_sound {body : St → SS → Option (Ex × St × SS)} {bodyF : St → Option (Ex × St)} (hb : ∀ s q e s' q', body s q = some (e, s', q') → (∃ l, q'.log = l ++ q.log) ∧ (Goods P glob ext K q' → bodyF s = some (e, s'))) :
  ∀ {v : List AV} {z n m : Nat} {s s' : St} {q q' : SS} {e : Ex}, n ≤ m → loopS body v z n s q = some (e, s', q') → (∃ l, q'.log = l ++ q.log) ∧ (Goods P glob ext K q' → loopA bodyF v z m s = some (e, s'))
 | v, z, 0, m, s, s', q, q', e, hm, h => by simp only [loopS] at h; cases h
 | v, z, n + 1, 0, s, s', q, q', e, hm, h => by omega
 | v, z, n + 1, m + 1, s, s', q, q', e, hm, h => by
  simp only [loopS] at h
  split at h
  ·rename_i s1 q1 h1
   obtain ⟨a1, a2⟩ := hb _ _ _ _ _ h1
   obtain ⟨b1, b2⟩ := loopS_sound hb (m := m) (by omega) h
   refine ⟨log_trans a1 b1, fun hg => ?_⟩
   simp only [loopA]
   rw [a2 (goods_of b1 hg)]
   exact b2 hg
  ·rename_i hne
   obtain ⟨a1, a2⟩ := hb _ _ _ _ _ h
   refine ⟨a1, fun hg => ?_⟩
   simp only [loopA]
   rw [a2 hg]
   cases e with
   | normal => exact absurd h (hne _ _)
   | _ => rfl
theorem codeS_sound {call : CallS} {callF : CallF} (hs : Stands P glob known ext K call callF) {n m : Nat} (hnm : n ≤ m) (hlp : ∀ c s e s', Good P glob ext K (.loop c s e s') → codeA P glob callF m (.loop c) s = some (e, s')) : ∀ {c : Code} {s s' : St} {q q' : SS} {e : Ex}, codeS P glob known fl call n c s q = some (e, s', q') →
  (∃ l, q'.log = l ++ q.log) ∧ (Goods P glob ext K q' → codeA P glob callF m c s = some (e, s')) := by
 intro c
 induction c with
 | skip => intro s s' q q' e h; simp only [codeS] at h; cases h; exact ⟨log_refl _, fun _ => rfl⟩
 | region id ops draw =>
  intro s s' q q' e h
  simp only [codeS] at h
  split at h <;> first | (cases h; done) | skip
  rename_i s1 q1 h1
  cases h
  obtain ⟨a1, a2⟩ := regionS_sound hs h1
  exact ⟨a1, fun hg => by simp only [codeA]; rw [a2 hg]⟩
 | seq a b iha ihb =>
  intro s s' q q' e h
  simp only [codeS] at h
  split at h
  ·rename_i s1 q1 h1
   obtain ⟨a1, a2⟩ := iha h1
   obtain ⟨b1, b2⟩ := ihb h
   refine ⟨log_trans a1 b1, fun hg => ?_⟩
   simp only [codeA]
   rw [a2 (goods_of b1 hg)]
   exact b2 hg
  ·rename_i hne
   obtain ⟨a1, a2⟩ := iha h
   refine ⟨a1, fun hg => ?_⟩
   simp only [codeA]
   rw [a2 hg]
   cases e with
   | normal => exact absurd h (hne _ _)
   | _ => rfl
 | cond x a b iha ihb =>
  intro s s' q q' e h
  simp only [codeS] at h
  split at h <;> first | (cases h; done) | skip
  rename_i t ht
  split at h <;> first | (cases h; done) | skip
  ·rename_i q1 h1
   obtain ⟨t1, t2⟩ := testS_sound (P := P) (glob := glob) (ext := ext) (K := K) h1
   obtain ⟨a1, a2⟩ := iha h
   refine ⟨log_trans t1 a1, fun hg => ?_⟩
   have hb := t2 (goods_of a1 hg)
   subst hb
   simp only [codeA]
   rw [ht]
   exact a2 hg
  ·rename_i q1 h1
   obtain ⟨t1, t2⟩ := testS_sound (P := P) (glob := glob) (ext := ext) (K := K) h1
   obtain ⟨a1, a2⟩ := ihb h
   refine ⟨log_trans t1 a1, fun hg => ?_⟩
   have hb := t2 (goods_of a1 hg)
   subst hb
   simp only [codeA]
   rw [ht]
   exact a2 hg
 | block id c ih =>
  intro s s' q q' e h
  simp only [codeS] at h
  split at h
  ·rename_i j s1 q1 h1
   cases h
   obtain ⟨a1, a2⟩ := ih h1
   refine ⟨a1, fun hg => ?_⟩
   simp only [codeA]
   rw [a2 hg]
  ·rename_i hne
   obtain ⟨a1, a2⟩ := ih h
   refine ⟨a1, fun hg => ?_⟩
   simp only [codeA]
   rw [a2 hg]
   cases e with
   | exit j => exact absurd h (hne _ _ _)
   | _ => rfl
 | loop c ih =>
  intro s s' q q' e h
  simp only [codeS] at h
  split at h
  ·split at h <;> first | (cases h; done) | skip
   cases h
   exact ⟨⟨[_], rfl⟩, fun hg => hlp _ _ _ _ (hg _ (List.mem_cons_self ..))⟩
  obtain ⟨a1, a2⟩ := loopS_sound (P := P) (glob := glob) (ext := ext) (K := K) (bodyF := codeA P glob callF m c) (fun s q e s' q' h => ih h) hnm h
  exact ⟨a1, fun hg => by simp only [codeA]; exact a2 hg⟩
 | exit id => intro s s' q q' e h; simp only [codeS] at h; cases h; exact ⟨log_refl _, fun _ => rfl⟩
 | scope c ih =>
  intro s s' q q' e h
  simp only [codeS] at h
  obtain ⟨a1, a2⟩ := ih h
  exact ⟨a1, fun hg => by simp only [codeA]; exact a2 hg⟩
 | label l => intro s s' q q' e h; simp only [codeS] at h; cases h; exact ⟨log_refl _, fun _ => rfl⟩
 | ret => intro s s' q q' e h; simp only [codeS] at h; cases h; exact ⟨log_refl _, fun _ => rfl⟩
 | _ => intro s s' q q' e h; simp only [codeS] at h; cases h
theorem evS_sound {dom : FuncId → Bool} (hd : ∀ f, dom f = false → ∀ k ps, ext k f ps = none) : ∀ (n : Nat) {m : Nat}, K + n ≤ m → Stands P glob known ext K (evS P glob known fl dom n) (ev P glob ext m) := by
 intro n
 induction n with
 | zero =>
  intro m hm
  refine ⟨fun f args H q r H' q' h => ?_, fun f ps r _ hg => hg m (by omega)⟩
  simp only [evS] at h
  cases h
 | succ n ih =>
  intro m hm
  refine ⟨fun f args H q r H' q' h => ?_, fun f ps r _ hg => hg m (by omega)⟩
  obtain ⟨m, rfl⟩ : ∃ j, m = j + 1 := ⟨m - 1, by omega⟩
  simp only [evS] at h
  split at h <;> first | (cases h; done) | skip
  rename_i hdf
  have hdf2 : dom f = false := by simpa using hdf
  split at h <;> first | (cases h; done) | skip
  rename_i fn hfn
  split at h <;> first | (cases h; done) | skip
  rename_i c hc
  split at h
  ·rename_i s q1 h1
   split at h <;> first | (cases h; done) | skip
   rename_i r2 hr
   cases h
   obtain ⟨a1, a2⟩ := codeS_sound (m := m) (ih (m := m) (by omega)) (by omega) (fun _ _ _ _ hg => hg m (by omega)) h1
   refine ⟨a1, fun hg => ?_⟩
   cases hp : all? AV.pv? args <;> simp only [ev, hp, hd f hdf2, hfn, hc, a2 hg, hr]
  ·rename_i s q1 h1
   split at h <;> first | (cases h; done) | skip
   rename_i r2 hr
   cases h
   obtain ⟨a1, a2⟩ := codeS_sound (m := m) (ih (m := m) (by omega)) (by omega) (fun _ _ _ _ hg => hg m (by omega)) h1
   refine ⟨a1, fun hg => ?_⟩
   cases hp : all? AV.pv? args <;> simp only [ev, hp, hd f hdf2, hfn, hc, a2 hg, hr]
  ·cases h
end
theorem int_in {F : Nat → Nat → Prop} {w : World} {k : IntKind} {n : Int} {v : Value} (h : Rep F w (.int k n) v) : v = .int k n := by cases h; rfl
theorem str_out {F : Nat → Nat → Prop} {w : World} (b : ByteArray) : Rep F w (strP b) (.string b) := .str b
def fnThereB (P : Program) (f : FuncId) : Bool := match P.funcs[f]? with | some fn => !(fn.name == "runtime.NumGoroutine") && !fn.body.isNone | none => false
theorem fnThere {P : Program} {f : FuncId} (h : fnThereB P f = true) : ∃ fn, P.funcs[f]? = some fn ∧ (fn.name == "runtime.NumGoroutine") = false ∧ fn.body.isNone = false := by
 unfold fnThereB at h
 split at h
 ·rename_i fn hf
  exact ⟨fn, hf, by simpa using h⟩
 ·cases h
def funcsB (P : Program) : Bool := P.funcs.toList.all fun fn => match fn.body with | some c => codeOk c && !(fn.name == "runtime.NumGoroutine") | none => true
theorem funcsOk_of {P : Program} (h : funcsB P = true) : FuncsOk P := by
 intro f fn hf c hc
 unfold funcsB at h
 rw [List.all_eq_true] at h
 have := h fn (Array.mem_toList_iff.2 (Array.mem_of_getElem? hf))
 rw [hc] at this
 simpa using this
open Go Go.ChangeShapes
theorem reps_nil {F : Nat → Nat → Prop} {w : World} : ∀ (j : Nat) (p : PV), ([] : List PV)[j]? = some p → Rep F w p (([] : List Value).getD j Go.undef) := fun j p h => by simp at h
theorem reps_cons {F : Nat → Nat → Prop} {w : World} {p : PV} {v : Value} {ps : List PV} {vs : List Value} (h : Rep F w p v) (hs : ∀ (j : Nat) (p : PV), ps[j]? = some p → Rep F w p (vs.getD j Go.undef)) :
  ∀ (j : Nat) (q : PV), (p :: ps)[j]? = some q → Rep F w q ((v :: vs).getD j Go.undef)
 | 0, q, hq => by simp at hq; subst hq; exact h
 | j + 1, q, hq => hs j q (by simpa using hq)
section
variable {H : Type} {enc : TypeId × Value → H} {P : Program} {w : World} {base : Nat} {spare : Nat → Bool} {held : Bool}
theorem open_row {t e : TypeId} {k : IntKind} {fuel : Nat} {v : Value} {x : DataW H × List MemPlace} {r : Reach} {b0 : Nat} (ht : P.underlying t = some (.slice e)) (he : P.underlying e = some (.int k)) (hce : P.cellsOf e = 1)
  (hval : Cell.okWide P w r b0 t v) (hd : DataW.trod enc P w base spare held fuel t [v] = some x) :
  ∃ l : List Int, (∀ n ∈ l, (Lit.int k n).wf = true) ∧ l.length ≤ maxLen ∧ Rep (fun b _ => b < w.heap.size) w (row k l) v := by
 rcases open_ints ht he hce hd with ⟨h1, _⟩ | ⟨a, len, cap, zs, h1, _, hl, hm, hz, _, hcell, hwf⟩
 ·cases h1
  exact ⟨[], fun n hn => by simp at hn, Nat.zero_le _, .nilsl none (by simp) 1⟩
 ·cases h1
  have hs : a.spot = none := by
   simp only [Cell.okWide, ht, Cell.ok] at hval
   exact hval.2.2.2.1
  obtain ⟨b, o, s⟩ := a
  subst hs
  have hzl : len ≤ zs.length := by rw [hz]; split <;> omega
  have hlen : ((zs.take len).map (PV.int k)).length = len := by rw [List.length_map, List.length_take]; omega
  refine ⟨zs.take len, fun n hn => hwf n (List.mem_of_mem_take hn), by rw [List.length_take]; omega, ?_⟩
  have := Rep.sl (F := fun b _ => b < w.heap.size) (w := w) none (by simp) b o cap 1 ((zs.take len).map (.int k)) (fun j => .int k (zs.getD j 0)) (by rw [hlen]; exact hl)
   (fun x hx => by simp only [List.mem_map] at hx; obtain ⟨n, _, rfl⟩ := hx; rfl)
   (fun x hx y hy => by simp only [List.mem_map] at hx; obtain ⟨n, _, rfl⟩ := hx; simp [PV.cells] at hy; subst hy; rfl)
   (fun j hj => by
    rw [hlen, Nat.mul_one] at hj
    have hc := hcell j (by omega)
    rw [add_none] at hc
    exact ⟨hc, World.block_lt_of_cell? w _ hc⟩)
   (fun j p hp => by
    rw [flat_ints, List.getElem?_map, Option.map_eq_some_iff] at hp
    obtain ⟨n, hn, rfl⟩ := hp
    rw [List.getElem?_take] at hn
    split at hn
    ·rw [List.getD_eq_getElem?_getD, hn]
     exact .int _ _
    ·cases hn)
  rw [hlen] at this
  exact this
theorem open_rat {t tb ts e : TypeId} {k : IntKind} {f0 f1 f2 : Field} {v : Value} {d : DataW H} {ps : List MemPlace} {r : Reach} {b0 : Nat} (ht : P.underlying t = some (.struct #[f0, f1, f2])) (e0 : f0.type = tb ∧ f0.offset = 0) (e1 : f1.type = ts ∧ f1.offset = 1) (e2 : f2.type = ts ∧ f2.offset = 2)
  (hb : P.underlying tb = some .bool) (hs : P.underlying ts = some (.slice e)) (he : P.underlying e = some (.int k)) (hct : P.cellsOf t = 3) (hcb : P.cellsOf tb = 1) (hcs : P.cellsOf ts = 1) (hce : P.cellsOf e = 1)
  (hty : P.cellTypes P.depth t = some [tb, ts, ts]) (hval : Value.okWide P w r b0 t v) (hd : DataW.Trod enc P w base spare held t v d ps) :
  ∃ (s : Bool) (l m : List Int), (∀ n ∈ l, (Lit.int k n).wf = true) ∧ (∀ n ∈ m, (Lit.int k n).wf = true) ∧ l.length ≤ maxLen ∧ m.length ≤ maxLen ∧ Rep (fun b _ => b < w.heap.size) w (.agg [.bool s, row k l, row k m]) v := by
 simp only [Value.okWide, ht] at hval
 obtain ⟨cs, rfl, hsz, hrow⟩ := hval
 obtain ⟨fuel, hf⟩ := hd
 obtain ⟨c0, c1, c2, rfl⟩ : ∃ c0 c1 c2, cs = #[c0, c1, c2] := by
  rw [hct] at hsz
  obtain ⟨l⟩ := cs
  rcases l with _ | ⟨a, _ | ⟨b, _ | ⟨c, _ | ⟨x, l⟩⟩⟩⟩ <;> simp at hsz
  exact ⟨a, b, c, rfl⟩
 obtain ⟨ts', h1, _, h2⟩ := hrow
 rw [hty] at h1
 cases h1
 obtain ⟨u1, q1, o1⟩ := h2 1 c1 rfl
 obtain ⟨u2, q2, o2⟩ := h2 2 c2 rfl
 simp at q1 q2
 subst q1 q2
 cases fuel with
 | zero => simp [DataW.trod] at hf
 | succ fuel =>
  unfold DataW.trod at hf
  rw [ht] at hf
  simp only [Value.cells] at hf
  simp [hct, e0, e1, e2, hcb, hcs] at hf
  cases g0 : DataW.trod enc P w base spare held fuel tb [c0] with
  | none => simp [g0] at hf
  | some y0 =>
   cases g1 : DataW.trod enc P w base spare held fuel ts [c1] with
   | none => simp [g0, g1] at hf
   | some y1 =>
    cases g2 : DataW.trod enc P w base spare held fuel ts [c2] with
    | none => simp [g0, g1, g2] at hf
    | some y2 =>
     obtain ⟨s, rfl⟩ : ∃ s, c0 = .bool s := by
      cases fuel with
      | zero => simp [DataW.trod] at g0
      | succ fuel =>
       unfold DataW.trod at g0
       rw [hb] at g0
       cases c0 <;> simp at g0
       exact ⟨_, rfl⟩
     obtain ⟨l, wl, nl, rl⟩ := open_row hs he hce o1 g1
     obtain ⟨m, wm, nm, rm⟩ := open_row hs he hce o2 g2
     exact ⟨s, l, m, wl, wm, nl, nm, agg_mk3 (.bool s) rl rm rfl rfl rfl⟩
end
end Go.Proofs.YtkjdpojbmkpkgaaGreatDoor.AV
