/- The abstract machine: values, heaps, injections, pure operations. -/
import Derived.Calls
import Derived.Below
import Derived.Laws.Entries
import Derived.Laws.Cells
import Derived.Laws.StructEq
import Derived.Laws.Slices
import Derived.ChangeKeysEq
import Derived.Laws.Unary
import Derived.Laws.BytesString
import Derived.Lib.ConvBytes
import Derived.Laws.MakeOwn
set_option linter.unusedSimpArgs false
set_option linter.unusedVariables false
/- The words of the abstract machine: values with handles in the place of blocks, objects, how they stand to the machine's memory. -/
namespace Go.Am
open Go

/-- An object of the abstract heap: its cells, the type of its row, may it be written? -/
inductive AObj where
  | dead
  | cells (c : List Value) (elem : TypeId) (w : Bool)
  | map (es : List MapEntry) (clock : Nat)
  | siter (s : ByteArray) (pos : Nat)
  | miter (m : Option Nat) (since : Nat) (seen : List Nat) (stepped : Nat)
  deriving Inhabited

def AObj.wlive : AObj → Bool
  | .dead => false
  | .cells _ _ w => w
  | .map _ _ => true
  | .siter _ _ => true
  | .miter .. => true

def AObj.live : AObj → Bool
  | .dead => false
  | _ => true

theorem AObj.live_of_wlive {o : AObj} (h : o.wlive = true) : o.live = true := by cases o <;> simp_all [AObj.wlive, AObj.live]

structure AHeap where
  objs : List AObj

def AHeap.next (H : AHeap) : Nat := H.objs.length
def AHeap.get (H : AHeap) (h : Nat) : AObj := H.objs.getD h .dead
def AHeap.set (H : AHeap) (h : Nat) (o : AObj) : AHeap := ⟨H.objs.set h o⟩
def AHeap.push (H : AHeap) (o : AObj) : AHeap := ⟨H.objs ++ [o]⟩

section
variable (H : AHeap) (h h' : Nat) (o : AObj)
@[simp] theorem next_set : (H.set h o).next = H.next := by simp [AHeap.set, AHeap.next]
@[simp] theorem next_push : (H.push o).next = H.next + 1 := by simp [AHeap.push, AHeap.next]
theorem get_set_same (hh : h < H.next) : (H.set h o).get h = o := by
  simp only [AHeap.set, AHeap.get, AHeap.next] at *; simp [List.getD, List.getElem?_set, hh]
theorem get_set_ne (hh : h' ≠ h) : (H.set h' o).get h = H.get h := by
  simp only [AHeap.set, AHeap.get]; simp [List.getD, List.getElem?_set, hh]
theorem get_push_lt (hh : h < H.next) : (H.push o).get h = H.get h := by
  simp only [AHeap.push, AHeap.get, AHeap.next] at *; simp [List.getD, List.getElem?_append, hh]
@[simp] theorem get_push_new : (H.push o).get H.next = o := by
  simp only [AHeap.push, AHeap.get, AHeap.next] at *; simp [List.getD, List.getElem?_append]
theorem get_push_ne (hh : h ≠ H.next) : (H.push o).get h = H.get h := by
  simp only [AHeap.push, AHeap.get, AHeap.next] at *
  simp only [List.getD, List.getElem?_append]
  split
  · rfl
  · rename_i h1
    have : ([o] : List AObj)[h - H.objs.length]? = none := by
      rw [List.getElem?_eq_none]; simp; omega
    rw [this, List.getElem?_eq_none (by omega)]
theorem get_ge (hh : H.next ≤ h) : H.get h = .dead := by
  simp only [AHeap.get, AHeap.next] at *; simp [List.getD, List.getElem?_eq_none hh]
end

/-- Where a handle's object lies: its block, its first cell, how many cells the block has. -/
structure Loc where
  blk : Nat
  base : Nat
  lim : Nat

abbrev Inj := Nat → Option Loc

def Inj.Sub (β β' : Inj) : Prop := ∀ h l, β h = some l → β' h = some l
theorem Inj.Sub.refl (β : Inj) : Inj.Sub β β := fun _ _ h => h
theorem Inj.Sub.trans {a b c : Inj} (h : Inj.Sub a b) (k : Inj.Sub b c) : Inj.Sub a c := fun x l e => k x l (h x l e)

mutual
inductive VRel (β : Inj) : Value → Value → Prop
  | bool (b : Bool) : VRel β (.bool b) (.bool b)
  | int (k : IntKind) (n : Int) : VRel β (.int k n) (.int k n)
  | float (k : FloatKind) (n : Nat) : VRel β (.float k n) (.float k n)
  | complex (k : FloatKind) (n m : Nat) : VRel β (.complex k n m) (.complex k n m)
  | string (s : ByteArray) : VRel β (.string s) (.string s)
  | pnil : VRel β (.pointer none) (.pointer none)
  | ptr {b o : Nat} {l : Loc} : β b = some l → VRel β (.pointer (some ⟨b, o, none⟩)) (.pointer (some ⟨l.blk, l.base + o, none⟩))
  | snil : VRel β (.slice none 0 0) (.slice none 0 0)
  | slice {b o n c c' : Nat} {l : Loc} : β b = some l → n ≤ c' → n ≤ c → (c = n → c' = n) → (∀ sz k, sz < 1000000000000 → c = n + 2 + sz + 1000000000000 * k → l.base + o + c' * sz ≤ l.lim ∧ n + k ≤ c') →
      VRel β (.slice (some ⟨b, o, none⟩) n c) (.slice (some ⟨l.blk, l.base + o, none⟩) n c')
  | sliceE {b o c : Nat} {l : Loc} {a' : Addr} : β b = some l → c < 1000000000002 → VRel β (.slice (some ⟨b, o, none⟩) 0 c) (.slice (some a') 0 0)
  | mnil : VRel β (.map none) (.map none)
  | map {b : Nat} {l : Loc} : β b = some l → VRel β (.map (some b)) (.map (some l.blk))
  | cnil : VRel β (.chan none) (.chan none)
  | chan {b : Nat} {l : Loc} : β b = some l → VRel β (.chan (some b)) (.chan (some l.blk))
  | func {fn : Fn} {xs ys cs ds : List Value} : LRel β xs ys → LRel β cs ds → VRel β (.func fn ⟨xs⟩ ⟨cs⟩) (.func fn ⟨ys⟩ ⟨ds⟩)
  | nilFunc : VRel β .nilFunc .nilFunc
  | iface {t : TypeId} {v v' : Value} : VRel β v v' → VRel β (.iface t v) (.iface t v')
  | nilIface : VRel β .nilIface .nilIface
  | agg {xs ys : List Value} : LRel β xs ys → VRel β (.agg ⟨xs⟩) (.agg ⟨ys⟩)
  | tuple {xs ys : List Value} : LRel β xs ys → VRel β (.tuple ⟨xs⟩) (.tuple ⟨ys⟩)
inductive LRel (β : Inj) : List Value → List Value → Prop
  | nil : LRel β [] []
  | cons {v v' : Value} {vs vs' : List Value} : VRel β v v' → LRel β vs vs' → LRel β (v :: vs) (v' :: vs')
end

mutual
theorem VRel.mono {β β' : Inj} (hs : Inj.Sub β β') {v v' : Value} : VRel β v v' → VRel β' v v'
  | .bool b => .bool b
  | .int k n => .int k n
  | .float k n => .float k n
  | .complex k n m => .complex k n m
  | .string s => .string s
  | .pnil => .pnil
  | .ptr h => .ptr (hs _ _ h)
  | .snil => .snil
  | .slice h a b c d => .slice (hs _ _ h) a b c d
  | .sliceE h k => .sliceE (hs _ _ h) k
  | .mnil => .mnil
  | .map h => .map (hs _ _ h)
  | .cnil => .cnil
  | .chan h => .chan (hs _ _ h)
  | .func h k => .func (LRel.mono hs h) (LRel.mono hs k)
  | .nilFunc => .nilFunc
  | .iface h => .iface (VRel.mono hs h)
  | .nilIface => .nilIface
  | .agg h => .agg (LRel.mono hs h)
  | .tuple h => .tuple (LRel.mono hs h)
theorem LRel.mono {β β' : Inj} (hs : Inj.Sub β β') {v v' : List Value} : LRel β v v' → LRel β' v v'
  | .nil => .nil
  | .cons h k => .cons (VRel.mono hs h) (LRel.mono hs k)
end

theorem LRel.length {β : Inj} : ∀ {xs ys : List Value}, LRel β xs ys → xs.length = ys.length
  | _, _, .nil => rfl
  | _, _, .cons _ h => by simp [h.length]

theorem LRel.get {β : Inj} : ∀ {xs ys : List Value}, LRel β xs ys → ∀ (i : Nat) (v : Value), xs[i]? = some v → ∃ v', ys[i]? = some v' ∧ VRel β v v'
  | _, _, .nil, i, v, h => by simp at h
  | _, _, .cons hv h, 0, v, e => by simp at e; subst e; exact ⟨_, rfl, hv⟩
  | _, _, .cons hv h, i + 1, v, e => by simp only [List.getElem?_cons_succ] at e ⊢; exact h.get i v e

theorem LRel.of_get {β : Inj} : ∀ {xs ys : List Value}, xs.length = ys.length → (∀ (i : Nat) (v : Value), xs[i]? = some v → ∃ v', ys[i]? = some v' ∧ VRel β v v') → LRel β xs ys
  | [], [], _, _ => .nil
  | x :: xs, y :: ys, hl, h => by
    refine .cons ?_ (LRel.of_get (by simpa using hl) fun i v e => by simpa using h (i + 1) v (by simpa using e))
    obtain ⟨v', e, hv⟩ := h 0 x rfl
    simp at e; subst e; exact hv
  | [], _ :: _, hl, _ => by simp at hl
  | _ :: _, [], hl, _ => by simp at hl

theorem LRel.getD {β : Inj} {xs ys : List Value} (h : LRel β xs ys) (i : Nat) {d d' : Value} (hd : VRel β d d') : VRel β (xs.getD i d) (ys.getD i d') := by
  simp only [List.getD]
  cases e : xs[i]? with
  | some v => obtain ⟨v', e', hv⟩ := h.get i v e; rw [e']; exact hv
  | none =>
    have : ys[i]? = none := by rw [List.getElem?_eq_none_iff] at *; rw [← h.length]; exact e
    rw [this]; exact hd

theorem LRel.none {β : Inj} {xs ys : List Value} (h : LRel β xs ys) {i : Nat} (e : xs[i]? = none) : ys[i]? = none := by
  rw [List.getElem?_eq_none_iff] at *; rw [← h.length]; exact e

theorem LRel.append {β : Inj} : ∀ {xs ys us vs : List Value}, LRel β xs ys → LRel β us vs → LRel β (xs ++ us) (ys ++ vs)
  | _, _, _, _, .nil, k => k
  | _, _, _, _, .cons hv h, k => .cons hv (h.append k)

theorem LRel.take {β : Inj} : ∀ {xs ys : List Value} (n : Nat), LRel β xs ys → LRel β (xs.take n) (ys.take n)
  | _, _, 0, _ => by simp; exact .nil
  | _, _, n + 1, .nil => .nil
  | _, _, n + 1, .cons hv h => .cons hv (h.take n)

theorem LRel.drop {β : Inj} : ∀ {xs ys : List Value} (n : Nat), LRel β xs ys → LRel β (xs.drop n) (ys.drop n)
  | _, _, 0, h => h
  | _, _, n + 1, .nil => .nil
  | _, _, n + 1, .cons _ h => by simpa using h.drop n

theorem LRel.set {β : Inj} : ∀ {xs ys : List Value} (n : Nat) {v v' : Value}, LRel β xs ys → VRel β v v' → LRel β (xs.set n v) (ys.set n v')
  | _, _, _, _, _, .nil, _ => .nil
  | _, _, 0, _, _, .cons _ h, hv => .cons hv h
  | _, _, n + 1, _, _, .cons h0 h, hv => .cons h0 (h.set n hv)

mutual
def plainV : Value → Bool
  | .bool _ | .int _ _ | .float _ _ | .complex _ _ _ | .string _ | .nilFunc | .nilIface => true
  | .pointer none | .map none | .chan none => true
  | .slice none 0 0 => true
  | .iface _ v => plainV v
  | .agg ⟨cs⟩ => plainL cs
  | .tuple ⟨cs⟩ => plainL cs
  | _ => false
def plainL : List Value → Bool
  | [] => true
  | v :: vs => plainV v && plainL vs
end

mutual
theorem VRel.plain {β : Inj} {v v' : Value} : VRel β v v' → plainV v = true → v' = v
  | .bool _, _ => rfl
  | .int _ _, _ => rfl
  | .float _ _, _ => rfl
  | .complex _ _ _, _ => rfl
  | .string _, _ => rfl
  | .pnil, _ => rfl
  | .ptr _, h => by simp [plainV] at h
  | .snil, _ => rfl
  | .slice _ _ _ _ _, h => by simp [plainV] at h
  | .sliceE _ _, h => by simp [plainV] at h
  | .mnil, _ => rfl
  | .map _, h => by simp [plainV] at h
  | .cnil, _ => rfl
  | .chan _, h => by simp [plainV] at h
  | .func _ _, h => by simp [plainV] at h
  | .nilFunc, _ => rfl
  | .iface h, hp => by simp only [plainV] at hp; rw [h.plain hp]
  | .nilIface, _ => rfl
  | .agg h, hp => by simp only [plainV] at hp; rw [h.plain hp]
  | .tuple h, hp => by simp only [plainV] at hp; rw [h.plain hp]
theorem LRel.plain {β : Inj} {v v' : List Value} : LRel β v v' → plainL v = true → v' = v
  | .nil, _ => rfl
  | .cons h k, hp => by simp only [plainL, Bool.and_eq_true] at hp; rw [h.plain hp.1, k.plain hp.2]
end

mutual
theorem VRel.of_plain {β : Inj} : ∀ {v : Value}, plainV v = true → VRel β v v
  | .bool b, _ => .bool b
  | .int k n, _ => .int k n
  | .float k n, _ => .float k n
  | .complex k n m, _ => .complex k n m
  | .string s, _ => .string s
  | .pointer none, _ => .pnil
  | .pointer (some _), h => by simp [plainV] at h
  | .slice none 0 0, _ => .snil
  | .slice none 0 (n + 1), h => by simp [plainV] at h
  | .slice none (n + 1) _, h => by simp [plainV] at h
  | .slice (some _) _ _, h => by simp [plainV] at h
  | .map none, _ => .mnil
  | .map (some _), h => by simp [plainV] at h
  | .chan none, _ => .cnil
  | .chan (some _), h => by simp [plainV] at h
  | .func _ _ _, h => by simp [plainV] at h
  | .nilFunc, _ => .nilFunc
  | .iface t v, h => by simp only [plainV] at h; exact .iface (VRel.of_plain h)
  | .nilIface, _ => .nilIface
  | .agg ⟨cs⟩, h => by simp only [plainV] at h; exact .agg (LRel.of_plain h)
  | .tuple ⟨cs⟩, h => by simp only [plainV] at h; exact .tuple (LRel.of_plain h)
theorem LRel.of_plain {β : Inj} : ∀ {v : List Value}, plainL v = true → LRel β v v
  | [], _ => .nil
  | v :: vs, h => by simp only [plainL, Bool.and_eq_true] at h; exact .cons (VRel.of_plain h.1) (LRel.of_plain h.2)
end

/-- A run that asks nothing of the world. -/
def prun (P : Program) {α : Type} : Sem α → Option α
  | .pure a => some a
  | .program k => prun P (k P)
  | _ => none

theorem prun_run {P : Program} {α : Type} {s : Sem α} {a : α} (h : prun P s = some a) (w : World) : s.run P w = .ok a w := by
  induction s with
  | pure b => simp only [prun, Option.some.injEq] at h; subst h; rfl
  | program k ih => simp only [prun] at h; simp only [Sem.run]; exact ih P h
  | _ => simp [prun] at h

@[simp] theorem prun_pure (P : Program) {α : Type} (a : α) : prun P (pure a : Sem α) = some a := rfl
@[simp] theorem prun_pure' (P : Program) {α : Type} (a : α) : prun P (Sem.pure a : Sem α) = some a := rfl
@[simp] theorem prun_program (P : Program) : prun P program = some P := rfl
theorem prun_bind' (P : Program) {α γ : Type} (s : Sem α) (f : α → Sem γ) : prun P (s.bind f) = (prun P s).bind fun a => prun P (f a) := by
  induction s with
  | pure b => rfl
  | program k ih => simp only [Sem.bind, prun]; exact ih P
  | _ => simp [prun, Sem.bind]
@[simp] theorem prun_bind (P : Program) {α γ : Type} (s : Sem α) (f : α → Sem γ) : prun P (s >>= f) = (prun P s).bind fun a => prun P (f a) := prun_bind' P s f

/-- Entries of maps, side by side. -/
inductive ERel (β : Inj) : List MapEntry → List MapEntry → Prop
  | nil : ERel β [] []
  | cons {e e' : MapEntry} {es es' : List MapEntry} : VRel β e.key e'.key → VRel β e.val e'.val → e'.born = e.born → ERel β es es' → ERel β (e :: es) (e' :: es')

theorem ERel.mono {β β' : Inj} (hs : Inj.Sub β β') {a b : List MapEntry} (h : ERel β a b) : ERel β' a b := by
  induction h with
  | nil => exact .nil
  | cons a b c _ ih => exact .cons (a.mono hs) (b.mono hs) c ih

/-- How an object stands in memory. -/
def ORel (β : Inj) (l : Loc) (w : World) : AObj → Prop
  | .dead => True
  | .cells c T wr => (∀ i v, c[i]? = some v → ∃ v', w.cell? ⟨l.blk, l.base + i, none⟩ = some v' ∧ VRel β v v') ∧
      (wr = true → l.base + c.length ≤ l.lim ∧ ∃ (arr : Array Value) (T' : TypeId) (fr : Nat × Nat), w.heap[l.blk]? = some (.cells arr T' fr) ∧ arr.size = l.lim ∧ ∀ i, i < l.lim → ¬ (fr.1 ≤ i ∧ i < fr.2))
  | .map es clock => ∃ es', w.heap[l.blk]? = some (.map ⟨es'⟩ clock) ∧ ERel β es es'
  | .siter s pos => l.base = 0 ∧ w.heap[l.blk]? = some (.stringIter s pos)
  | .miter none since seen st => l.base = 0 ∧ w.heap[l.blk]? = some (.mapIter none since ⟨seen⟩ st)
  | .miter (some m) since seen st => l.base = 0 ∧ ∃ k, β m = some k ∧ w.heap[l.blk]? = some (.mapIter (some k.blk) since ⟨seen⟩ st)

structure HRel (P : Program) (B : Nat) (β : Inj) (H : AHeap) (w : World) : Prop where
  obj : ∀ h l, β h = some l → ORel β l w (H.get h)
  blk : ∀ h l, β h = some l → l.blk < w.heap.size
  excl : ∀ h h' l l', β h = some l → β h' = some l' → (H.get h).wlive = true → (H.get h').live = true → h ≠ h' → l.blk ≠ l'.blk
  low : ∀ h l, β h = some l → (H.get h).wlive = true → B ≤ l.blk
  dom : ∀ h l, β h = some l → h < H.next
  glob : ∀ g, g < P.globals.size → ∃ n, β g = some ⟨g, 0, n⟩
  base : B ≤ w.heap.size

/-- What a step of the abstract machine, and the steps of the machine that it stands for, leave as it was. -/
structure Step (P : Program) (B : Nat) (β : Inj) (H : AHeap) (w : World) (β' : Inj) (H' : AHeap) (w' : World) : Prop where
  sub : Inj.Sub β β'
  rel : HRel P B β' H' w'
  size : w.heap.size ≤ w'.heap.size
  os : w'.os = w.os
  output : w'.output = w.output
  tape : w'.tape = w.tape
  frame : ∀ b, b < w.heap.size → (∀ h l, β h = some l → (H.get h).wlive = true → l.blk ≠ b) → w'.heap[b]? = w.heap[b]?
  own : ∀ h l, β' h = some l → (H'.get h).wlive = true → l.blk < w.heap.size → ∃ h0 l0, β h0 = some l0 ∧ (H.get h0).wlive = true ∧ l0.blk = l.blk
  next : H.next ≤ H'.next
  keep : ∀ h, h < H.next → β h = none → H'.get h = H.get h ∧ β' h = none

theorem Step.trans {P : Program} {B : Nat} {β β₁ β₂ : Inj} {H H₁ H₂ : AHeap} {w w₁ w₂ : World} (a : Step P B β H w β₁ H₁ w₁) (b : Step P B β₁ H₁ w₁ β₂ H₂ w₂) : Step P B β H w β₂ H₂ w₂ where
  sub := a.sub.trans b.sub
  rel := b.rel
  size := Nat.le_trans a.size b.size
  os := b.os.trans a.os
  output := b.output.trans a.output
  tape := b.tape.trans a.tape
  frame := fun x hx hn => (b.frame x (Nat.lt_of_lt_of_le hx a.size) (fun h l hl hw e => by
    obtain ⟨h0, l0, e0, w0, q⟩ := a.own h l hl hw (e ▸ hx)
    exact hn h0 l0 e0 w0 (q.trans e))).trans (a.frame x hx hn)
  own := fun h l hl hw hx => by
    obtain ⟨h1, l1, e1, w1, q1⟩ := b.own h l hl hw (Nat.lt_of_lt_of_le hx a.size)
    obtain ⟨h0, l0, e0, w0, q0⟩ := a.own h1 l1 e1 w1 (q1 ▸ hx)
    exact ⟨h0, l0, e0, w0, q0.trans q1⟩
  next := Nat.le_trans a.next b.next
  keep := fun h hh hn => by
    obtain ⟨k1, k2⟩ := a.keep h hh hn
    obtain ⟨j1, j2⟩ := b.keep h (Nat.lt_of_lt_of_le hh a.next) k2
    exact ⟨j1.trans k1, j2⟩

end Go.Am

/- The operations that look at no memory: what they make of values, and that the machine's own operations make the same. -/
namespace Go.Am
open Go

def szT (P : Program) (t : TypeId) : Option Nat := (P.info? t).map (·.size)
def bytesT (P : Program) (t : TypeId) : Option Nat := (P.info? t).map (·.bytes)
def zeroT (P : Program) (t : TypeId) : Option Value := (P.types[t]?).bind (·.zero)
def aggD : TypeDesc → Bool
  | .struct _ | .array _ _ => true
  | _ => false
def aggT (P : Program) (t : TypeId) : Option Bool := (P.underlying t).map aggD

section
variable {P : Program} {t : TypeId} (w : World)
theorem run_sizeOf' {n : Nat} (h : szT P t = some n) : (sizeOf t).run P w = .ok n w := by
  simp only [szT, Option.map_eq_some_iff] at h
  obtain ⟨i, hi, rfl⟩ := h
  simp [sizeOf, typeInfo, hi]
theorem run_zeroValue' {v : Value} (h : zeroT P t = some v) : (zeroValue t).run P w = .ok v w := by
  simp only [zeroT, Option.bind_eq_some_iff] at h
  obtain ⟨i, hi, hz⟩ := h
  have hlt : t < P.types.size := by
    rcases Nat.lt_or_ge t P.types.size with h | h
    · exact h
    · simp [Array.getElem?_eq_none h] at hi
  have hi' : P.info? t = some i := by simp only [Tables.info?]; rw [if_pos hlt]; exact hi
  simp [zeroValue, typeInfo, hi', hz]
theorem run_isAgg' {b : Bool} (h : aggT P t = some b) : (isAgg t).run P w = .ok b w := by
  simp only [aggT, Option.map_eq_some_iff] at h
  obtain ⟨d, hd, rfl⟩ := h
  simp only [isAgg, Sem.run_bind, run_underlying hd, Result.andThen]
  cases d <;> rfl
theorem run_bytes' {n : Nat} (h : bytesT P t = some n) : ∃ i, P.info? t = some i ∧ i.bytes = n := by
  simpa [bytesT] using h
end

/-- A part of a list of cells. -/
def apart (P : Program) (t : TypeId) (cs : List Value) (off : Nat) : Option Value :=
  match aggT P t with
  | some true => (szT P t).map fun n => .agg ⟨(cs.drop off).take n⟩
  | some false => cs[off]?
  | none => none

theorem apart_sim {P : Program} {β : Inj} {t : TypeId} {cs cs' : List Value} {off : Nat} {v : Value} (h : apart P t cs off = some v) (hc : LRel β cs cs') (w : World) :
    ∃ v', (part t ⟨cs'⟩ off).run P w = .ok v' w ∧ VRel β v v' := by
  unfold apart at h
  cases ha : aggT P t with
  | none => simp [ha] at h
  | some b =>
    cases b with
    | true =>
      simp only [ha, Option.map_eq_some_iff] at h
      obtain ⟨n, hn, rfl⟩ := h
      refine ⟨.agg ⟨(cs'.drop off).take n⟩, ?_, .agg ((hc.drop off).take n)⟩
      simp only [part, Sem.run_bind, run_isAgg' w ha, Result.andThen, if_true, run_sizeOf' w hn, Sem.run_pure]
      congr 2
      apply Array.ext'
      simp [List.take_drop]
    | false =>
      simp only [ha] at h
      obtain ⟨v', hv', hr⟩ := hc.get off v h
      refine ⟨v', ?_, hr⟩
      simp only [part, Sem.run_bind, run_isAgg' w ha, Result.andThen, Bool.false_eq_true, if_false]
      simp [hv']

/-- A run that asks nothing of the world, and gives a value without an address. -/
def prunP (P : Program) (s : Sem Value) : Option Value := (prun P s).bind fun v => if plainV v then some v else none

theorem prunP_run {P : Program} {s : Sem Value} {v : Value} (h : prunP P s = some v) (w : World) : s.run P w = .ok v w ∧ plainV v = true := by
  simp only [prunP, Option.bind_eq_some_iff] at h
  obtain ⟨u, hu, h⟩ := h
  split at h
  · simp only [Option.some.injEq] at h; subst h; exact ⟨prun_run hu w, by assumption⟩
  · simp at h

/-- Bounds of a slice expression: a whole number, or none. -/
def natOf (dflt most : Nat) : Option Value → Option Nat
  | none => some dflt
  | some (.int _ i) => if 0 ≤ i ∧ i ≤ most then some i.toNat else none
  | _ => none

/-- How much more than its elements a slice is known to have. -/
def roomOf (n c : Nat) : Nat := (c - n - 2) / 1000000000000

/-- 'x[lo:hi:mx]' of a slice with n elements: where it begins, how many, and what is known of its room. -/
def sliceV (P : Program) (t : TypeId) (x : Value) (lo hi mx : Option Value) : Option Value :=
  match P.underlying t with
  | some .string => if plainV x && lo.all plainV && hi.all plainV && mx.all plainV then prunP P (Instr.slice t x lo hi mx) else none
  | some (.slice e) =>
    match x with
    | .slice (some ⟨b, o, none⟩) n c => do
      let sz ← szT P e
      if 1000000000000 ≤ sz then none else
      match mx with
      | none => do
        let h ← natOf n (n + roomOf n c) hi
        let l ← natOf 0 h lo
        some (.slice (some ⟨b, o + l * sz, none⟩) (h - l) (if c = n then (if h = n then h - l else h - l + 1) else if c = n + 2 + sz then h - l + 2 + sz + (if lo.isNone then 1000000000000 * (n - h) else 0) else h - l + 1))
      | some _ => do
        let m ← natOf n n mx
        if hi.isNone then none else
        let h ← natOf n m hi
        let l ← natOf 0 h lo
        some (.slice (some ⟨b, o + l * sz, none⟩) (h - l) (if h = m then h - l else h - l + 1))
    | .slice none 0 0 => do
      let _ ← szT P e
      let m ← natOf 0 0 mx
      if mx.isSome && hi.isNone then none else
      let h ← natOf 0 m hi
      let _ ← natOf 0 h lo
      some (.slice none 0 0)
    | _ => none
  | some (.array n e) =>
    match x with
    | .pointer (some ⟨b, o, none⟩) => do
      let sz ← szT P e
      if mx.isSome then none else
      let h ← natOf n n hi
      let l ← natOf 0 h lo
      some (.slice (some ⟨b, o + l * sz, none⟩) (h - l) (if h = n then h - l else h - l + 1))
    | _ => none
  | _ => none

theorem natOf_le {d m : Nat} {v : Option Value} {k : Nat} (h : natOf d m v = some k) (hd : d ≤ m) : k ≤ m := by
  unfold natOf at h
  split at h
  · simp at h; omega
  · split at h
    · simp at h; omega
    · simp at h
  · simp at h

theorem natOf_run {P : Program} {m : Nat} {x : Value} {k d : Nat} (h : natOf d m (some x) = some k) (code : BoundsCode) (m' : Nat) (hm : m ≤ m') (w : World) :
    (Instr.sliceBound x m' code).run P w = .ok k w := by
  unfold natOf at h
  split at h
  · simp at *
  · rename_i kk i hx
    simp only [Option.some.injEq] at hx
    subst hx
    split at h
    · rename_i hi
      simp only [Option.some.injEq] at h
      subst h
      exact run_sliceBound w kk i m' code hi.1 (by omega)
    · simp at h
  · simp at h

theorem bounds_none {P : Program} {n m c : Nat} {lo hi : Option Value} {l h : Nat} (isS : Bool) (w : World) (hn : m ≤ c) (hh : natOf n m hi = some h) (hl : natOf 0 h lo = some l) :
    (Instr.sliceBounds isS n c lo hi none).run P w = .ok (l, h, c) w := by
  cases hi with
  | none =>
    simp only [natOf, Option.some.injEq] at hh
    subst hh
    cases lo with
    | none => simp only [natOf, Option.some.injEq] at hl; subst hl; rfl
    | some v => simp only [Instr.sliceBounds, Sem.run_bind, Sem.run_pure, Result.andThen_ok, natOf_run hl _ n (Nat.le_refl _) w]
  | some u =>
    cases lo with
    | none => simp only [natOf, Option.some.injEq] at hl; subst hl; simp only [Instr.sliceBounds, Sem.run_bind, Sem.run_pure, Result.andThen_ok, natOf_run hh _ c hn w]
    | some v => simp only [Instr.sliceBounds, Sem.run_bind, Sem.run_pure, Result.andThen_ok, natOf_run hh _ c hn w, natOf_run hl _ h (Nat.le_refl _) w]

theorem bounds_some {P : Program} {n c : Nat} {lo hi : Option Value} {x : Value} {l h m : Nat} (isS : Bool) (w : World) (hn : n ≤ c) (hm : natOf n n (some x) = some m) (hs : hi.isSome = true)
    (hh : natOf n m hi = some h) (hl : natOf 0 h lo = some l) :
    (Instr.sliceBounds isS n c lo hi (some x)).run P w = .ok (l, h, m) w := by
  cases hi with
  | none => simp at hs
  | some u =>
    cases lo with
    | none => simp only [natOf, Option.some.injEq] at hl; subst hl; simp only [Instr.sliceBounds, Sem.run_bind, Sem.run_pure, Result.andThen_ok, natOf_run hm _ c hn w, natOf_run hh _ m (Nat.le_refl _) w]
    | some v => simp only [Instr.sliceBounds, Sem.run_bind, Sem.run_pure, Result.andThen_ok, natOf_run hm _ c hn w, natOf_run hh _ m (Nat.le_refl _) w, natOf_run hl _ h (Nat.le_refl _) w]

theorem Addr.add_mk (b o n : Nat) : (⟨b, o, none⟩ : Addr).add n = ⟨b, o + n, none⟩ := Addr.add_lit b o n

theorem orel_of_rel {β : Inj} {vo vo' : Option Value} (h : ∀ v, vo = some v → ∃ v', vo' = some v' ∧ VRel β v v') (hn : vo = none → vo' = none) (d m k : Nat) (hk : natOf d m vo = some k) : natOf d m vo' = some k := by
  cases vo with
  | none => rw [hn rfl]; exact hk
  | some v =>
    obtain ⟨v', rfl, hr⟩ := h v rfl
    unfold natOf at hk ⊢
    split at hk
    · simp at *
    · rename_i kk i e
      simp only [Option.some.injEq] at e
      subst e
      cases hr
      exact hk
    · simp at hk

/-- Optional operands, side by side. -/
inductive ORelV (β : Inj) : Option Value → Option Value → Prop
  | no : ORelV β none none
  | yes {v v' : Value} : VRel β v v' → ORelV β (some v) (some v')

theorem ORelV.natOf {β : Inj} {vo vo' : Option Value} (h : ORelV β vo vo') {d m k : Nat} (hk : natOf d m vo = some k) : natOf d m vo' = some k := by
  cases h with
  | no => exact hk
  | yes hr => exact orel_of_rel (vo' := some _) (fun v e => ⟨_, rfl, by cases e; exact hr⟩) (fun e => by simp at e) d m k hk

theorem ORelV.plain {β : Inj} {vo vo' : Option Value} (h : ORelV β vo vo') (hp : vo.all plainV = true) : vo' = vo := by
  cases h with
  | no => rfl
  | yes hr => simp at hp; rw [hr.plain hp]

theorem ORelV.isSome {β : Inj} {vo vo' : Option Value} (h : ORelV β vo vo') : vo'.isSome = vo.isSome := by cases h <;> rfl

theorem sliceV_sim {P : Program} {β : Inj} {t : TypeId} {x x' v : Value} {lo hi mx lo' hi' mx' : Option Value} (h : sliceV P t x lo hi mx = some v)
    (hx : VRel β x x') (hlo : ORelV β lo lo') (hhi : ORelV β hi hi') (hmx : ORelV β mx mx') (w : World) :
    ∃ v', (Instr.sliceAt t x' lo' hi' mx').run P w = .ok v' w ∧ VRel β v v' := by
  unfold sliceV at h
  split at h
  · rename_i hu
    split at h
    · rename_i hp
      simp only [Bool.and_eq_true] at hp
      rw [hx.plain hp.1.1.1, hlo.plain hp.1.1.2, hhi.plain hp.1.2, hmx.plain hp.2]
      refine ⟨v, ?_, ?_⟩
      · rw [run_sliceAt_string w t x lo hi mx hu]; exact (prunP_run h w).1
      · exact .of_plain (prunP_run h w).2
    · simp at h
  · rename_i e hu
    have hu' : P.underlying t = some (.slice (P.elem t)) := by simp [Program.elem, hu]
    have he : P.elem t = e := by simp [Program.elem, hu]
    rw [run_sliceAt_slice w t x' lo' hi' mx' hu']
    split at h
    · rename_i b o n c
      simp only [Option.bind_eq_bind, Option.bind_eq_some_iff] at h
      obtain ⟨sz, hsz, h⟩ := h
      by_cases hszR : 1000000000000 ≤ sz
      · rw [if_pos hszR] at h; exact absurd h (by simp)
      rw [if_neg hszR] at h
      cases hmx with
      | no =>
        simp only [Option.bind_eq_some_iff] at h
        obtain ⟨hh, ehh, l, el, h⟩ := h
        simp only [Option.some.injEq] at h
        have hle := natOf_le ehh (Nat.le_add_right n _)
        have lle := natOf_le el (Nat.zero_le _)
        cases hx with
        | slice hb h1 h2 h3 h4 =>
          rename_i c' lc
          have hrm : n + roomOf n c ≤ c' := by
            by_cases hc2 : n + 2 ≤ c
            · exact (h4 ((c - n - 2) % 1000000000000) (roomOf n c) (Nat.mod_lt _ (by decide)) (by unfold roomOf; omega)).2
            · have : roomOf n c = 0 := by unfold roomOf; omega
              omega
          have hcn0 : c = n → roomOf n c = 0 := fun e => by unfold roomOf; omega
          have hcs0 : c = n + 2 + sz → roomOf n c = 0 := fun e => by unfold roomOf; omega
          have el0 : lo.isNone = true → l = 0 := fun e => by
            cases lo with
            | none => simpa [natOf] using el.symm
            | some _ => simp at e
          refine ⟨_, by rw [run_slice_any w t _ n c' hu' lo' hi' none, bounds_none true w hrm (hhi.natOf ehh) (hlo.natOf el), Result.andThen_ok, he, run_sizeOf' w hsz]; rfl, ?_⟩
          subst h
          simp only [sliced, Option.map_some, Addr.add_mk]
          by_cases hc : c' = l
          · rw [if_pos hc]
            have h0 : hh - l = 0 := by omega
            have h00 : c' - l = 0 := by omega
            rw [h0, h00]
            refine .sliceE hb ?_
            split
            · split <;> omega
            · split
              · split
                · rename_i hln; have := el0 hln; omega
                · omega
              · omega
          · rw [if_neg hc, Nat.add_assoc lc.base o (l * sz)]
            refine .slice hb (by omega) ?_ ?_ ?_
            · split <;> (try split) <;> (try split) <;> omega
            · intro e
              split at e
              · rename_i hcn
                have := hcn0 hcn
                split at e
                · rename_i hhn; have := h3 hcn; omega
                · omega
              · split at e
                · split at e <;> omega
                · omega
            · intro s k hsR e
              split at e
              · split at e <;> omega
              · split at e
                · rename_i hc2
                  have hr0 := hcs0 hc2
                  have hsk : s = sz ∧ (hh - l) + k ≤ c' - l := by
                    split at e
                    · rename_i hln
                      have := el0 hln
                      have : k = n - hh := by omega
                      exact ⟨by omega, by omega⟩
                    · have : k = 0 := by omega
                      exact ⟨by omega, by omega⟩
                  obtain ⟨rfl, hk2⟩ := hsk
                  have h4' := (h4 s 0 (by omega) (by omega)).1
                  refine ⟨?_, hk2⟩
                  have e1 : (c' - l) * s = c' * s - l * s := Nat.sub_mul _ _ _
                  have e2 : l * s ≤ c' * s := Nat.mul_le_mul_right s (by omega)
                  omega
                · omega
        | sliceE hb hk0 =>
          rename_i a' lc
          have hr0 : roomOf 0 c = 0 := by unfold roomOf; omega
          have h0 : hh = 0 := by omega
          have l0 : l = 0 := by omega
          subst h0 l0
          refine ⟨_, by rw [run_slice_any w t _ 0 0 hu' lo' hi' none, bounds_none true w (show 0 + roomOf 0 c ≤ 0 by omega) (hhi.natOf ehh) (hlo.natOf el), Result.andThen_ok, he, run_sizeOf' w hsz]; rfl, ?_⟩
          subst h
          simp only [sliced, if_true, Nat.sub_self, Nat.zero_mul, Nat.add_zero]
          refine .sliceE hb ?_
          split
          · omega
          · split
            · split <;> omega
            · omega
      | yes hmv =>
        rename_i mxv mxv'
        simp only [Option.bind_eq_some_iff] at h
        obtain ⟨m, em, h⟩ := h
        split at h
        · simp at h
        rename_i hsome
        simp only [Option.bind_eq_some_iff] at h
        obtain ⟨hh, ehh, l, el, h⟩ := h
        simp only [Option.some.injEq] at h
        have mle := natOf_le em (Nat.le_refl n)
        have hle := natOf_le ehh
        have lle := natOf_le el (Nat.zero_le _)
        have hsome' : hi'.isSome = true := by rw [hhi.isSome]; cases hi <;> simp_all
        have hle : hh ≤ m := by
          cases hi with
          | none => simp at hsome
          | some hv =>
            unfold natOf at ehh
            split at ehh
            · simp at *
            · split at ehh
              · simp at ehh; omega
              · simp at ehh
            · simp at ehh
        cases hx with
        | slice hb h1 h2 h3 h4 =>
          rename_i c' lc
          refine ⟨_, by rw [run_slice_any w t _ n c' hu' lo' hi' (some mxv'), bounds_some true w h1 ((ORelV.yes hmv).natOf em) hsome' (hhi.natOf ehh) (hlo.natOf el), Result.andThen_ok, he, run_sizeOf' w hsz]; rfl, ?_⟩
          subst h
          simp only [sliced, Option.map_some, Addr.add_mk]
          by_cases hc : m = l
          · rw [if_pos hc]
            have h0 : hh - l = 0 := by omega
            have h00 : m - l = 0 := by omega
            rw [h0, h00]
            exact .sliceE hb (by split <;> omega)
          · rw [if_neg hc, Nat.add_assoc lc.base o (l * sz)]
            refine .slice hb (by omega) ?_ ?_ ?_
            · split <;> omega
            · intro e
              split at e
              · omega
              · omega
            · intro s k hsR e
              split at e <;> omega
        | sliceE hb hk0 =>
          rename_i a' lc
          have m0 : m = 0 := by omega
          have h0 : hh = 0 := by omega
          have l0 : l = 0 := by omega
          subst m0 h0 l0
          refine ⟨_, by rw [run_slice_any w t _ 0 0 hu' lo' hi' (some mxv'), bounds_some true w (Nat.le_refl 0) ((ORelV.yes hmv).natOf em) hsome' (hhi.natOf ehh) (hlo.natOf el), Result.andThen_ok, he, run_sizeOf' w hsz]; rfl, ?_⟩
          subst h
          simp only [sliced, if_true, Nat.sub_self, Nat.zero_mul, Nat.add_zero]
          exact .sliceE hb (by omega)
    · simp only [Option.bind_eq_bind, Option.bind_eq_some_iff] at h
      obtain ⟨sz, hsz, m, em, h⟩ := h
      split at h
      · simp at h
      rename_i hsome
      simp only [Option.bind_eq_some_iff] at h
      obtain ⟨hh, ehh, l, el, h⟩ := h
      simp only [Option.some.injEq] at h
      have mle := natOf_le em (Nat.le_refl 0)
      have m0 : m = 0 := by omega
      subst m0
      have hle := natOf_le ehh (Nat.le_refl 0)
      have h0 : hh = 0 := by omega
      subst h0
      have lle := natOf_le el (Nat.zero_le _)
      have l0 : l = 0 := by omega
      subst l0 h
      cases hx
      cases hmx with
      | no =>
        refine ⟨_, by rw [run_slice_any w t _ 0 0 hu' lo' hi' none, bounds_none true w (Nat.le_refl 0) (hhi.natOf ehh) (hlo.natOf el), Result.andThen_ok, he, run_sizeOf' w hsz]; rfl, ?_⟩
        simp only [sliced, if_true, Nat.sub_self]
        exact .snil
      | yes hmv =>
        rename_i mxv mxv'
        have hsome' : hi'.isSome = true := by rw [hhi.isSome]; cases hi <;> simp_all
        refine ⟨_, by rw [run_slice_any w t _ 0 0 hu' lo' hi' (some mxv'), bounds_some true w (Nat.le_refl 0) ((ORelV.yes hmv).natOf em) hsome' (hhi.natOf ehh) (hlo.natOf el), Result.andThen_ok, he, run_sizeOf' w hsz]; rfl, ?_⟩
        simp only [sliced, if_true, Nat.sub_self]
        exact .snil
    · simp at h
  · rename_i n e hu
    split at h
    · rename_i b o
      simp only [Option.bind_eq_bind, Option.bind_eq_some_iff] at h
      obtain ⟨sz, hsz, h⟩ := h
      split at h
      · simp at h
      rename_i hmn
      simp only [Option.bind_eq_some_iff] at h
      obtain ⟨hh, ehh, l, el, h⟩ := h
      simp only [Option.some.injEq] at h
      have hle := natOf_le ehh (Nat.le_refl n)
      have lle := natOf_le el (Nat.zero_le _)
      have hmn' : mx' = none := by cases hmx <;> simp_all
      subst hmn'
      cases hx with
      | ptr hb =>
        rename_i lc
        refine ⟨_, by
          simp only [Instr.sliceAt, Sem.run_bind, run_underlying hu, Result.andThen_ok, Instr.sureAddr, Sem.run_pure]
          rw [bounds_none false w (Nat.le_refl n) (hhi.natOf ehh) (hlo.natOf el), Result.andThen_ok, run_sizeOf' w hsz]; rfl, ?_⟩
        subst h
        simp only [Addr.add_mk]
        by_cases hc : n = l
        · rw [if_pos hc]
          have h0 : hh - l = 0 := by omega
          have h00 : n - l = 0 := by omega
          rw [h0, h00]
          exact .sliceE hb (by split <;> omega)
        · rw [if_neg hc, Nat.add_assoc lc.base o (l * sz)]
          refine .slice hb (by omega) ?_ ?_ ?_
          · split <;> omega
          · intro e
            split at e
            · omega
            · omega
          · intro s k hsR e
            split at e <;> omega
    · simp at h
  · simp at h
end Go.Am

/- The operations that look at no memory, the second part: fields, elements, literals. -/
namespace Go.Am
open Go

theorem VRel.cells {β : Inj} {v v' : Value} (h : VRel β v v') : LRel β v.cells.toList v'.cells.toList := by
  cases h <;> first
    | (rename_i h; exact h)
    | (refine .cons ?_ .nil; first
        | exact .bool _ | exact .int _ _ | exact .float _ _ | exact .complex _ _ _ | exact .string _ | exact .pnil | exact .ptr (by assumption) | exact .snil
        | exact .slice (by assumption) (by assumption) (by assumption) (by assumption) (by assumption)
        | exact .sliceE (by assumption) (by assumption) | exact .mnil | exact .map (by assumption) | exact .cnil | exact .chan (by assumption)
        | exact .func (by assumption) (by assumption) | exact .nilFunc | exact .iface (by assumption) | exact .nilIface | exact .tuple (by assumption))

/-- The address of an element. -/
def indexAddrV (P : Program) (t : TypeId) (x i : Value) : Option Value :=
  match P.underlying t, x, i with
  | some (.slice e), .slice (some ⟨b, o, none⟩) n _, .int _ j => (szT P e).bind fun sz => if 0 ≤ j ∧ j < n then some (.pointer (some ⟨b, o + j.toNat * sz, none⟩)) else none
  | some (.array n e), .pointer (some ⟨b, o, none⟩), .int _ j => (szT P e).bind fun sz => if 0 ≤ j ∧ j < n then some (.pointer (some ⟨b, o + j.toNat * sz, none⟩)) else none
  | _, _, _ => none

theorem indexAddrV_sim {P : Program} {β : Inj} {t : TypeId} {x x' i i' v : Value} (h : indexAddrV P t x i = some v) (hx : VRel β x x') (hi : VRel β i i') (w : World) :
    ∃ v', (Instr.indexAt t x' i').run P w = .ok v' w ∧ VRel β v v' := by
  unfold indexAddrV at h
  split at h
  · rename_i e b o n c k j hu
    simp only [Option.bind_eq_some_iff] at h
    obtain ⟨sz, hsz, h⟩ := h
    split at h
    · rename_i hj
      simp only [Option.some.injEq] at h
      cases hi
      cases hx with
      | slice hb h1 h2 h3 h4 =>
        rename_i c' lc
        refine ⟨_, by simp only [Instr.indexAt, asIntOf, Sem.run_bind, Sem.run_pure, Result.andThen_ok, run_underlying hu, hj, and_self, if_true, run_sizeOf' w hsz, Addr.add_mk]; rfl, ?_⟩
        subst h
        rw [Nat.add_assoc]
        exact .ptr hb
      | sliceE hb hk0 => omega
    · simp at h
  · rename_i n e b o k j hu
    simp only [Option.bind_eq_some_iff] at h
    obtain ⟨sz, hsz, h⟩ := h
    split at h
    · rename_i hj
      simp only [Option.some.injEq] at h
      cases hi
      cases hx with
      | ptr hb =>
        refine ⟨_, by simp only [Instr.indexAt, asIntOf, Sem.run_bind, Sem.run_pure, Result.andThen_ok, run_underlying hu, Instr.sureAddr, hj, and_self, if_true, run_sizeOf' w hsz, Addr.add_mk]; rfl, ?_⟩
        subst h
        rw [Nat.add_assoc]
        exact .ptr hb
    · simp at h
  · simp at h

/-- The address of a field. -/
def fieldAddrV (P : Program) (t : TypeId) (x : Value) (f : Nat) : Option Value :=
  match P.underlying t, x with
  | some (.struct fs), .pointer (some ⟨b, o, none⟩) => (fs[f]?).bind fun d => (szT P d.type).bind fun n => if n = 0 then none else some (.pointer (some ⟨b, o + d.offset, none⟩))
  | _, _ => none

theorem fieldAddrV_sim {P : Program} {β : Inj} {t : TypeId} {x x' v : Value} {f : Nat} (h : fieldAddrV P t x f = some v) (hx : VRel β x x') (w : World) :
    ∃ v', (Instr.fieldAt t x' f).run P w = .ok v' w ∧ VRel β v v' := by
  unfold fieldAddrV at h
  split at h
  · rename_i fs b o hu
    simp only [Option.bind_eq_some_iff] at h
    obtain ⟨d, hd, n, hn, h⟩ := h
    split at h
    · simp at h
    · rename_i hn0
      simp only [Option.some.injEq] at h
      cases hx with
      | ptr hb =>
        refine ⟨_, by simp only [Instr.fieldAt, Sem.run_bind, Sem.run_pure, Result.andThen_ok, run_underlying hu, hd, Instr.sureAddr, fieldPlace, run_sizeOf' w hn, hn0, if_false, Addr.add_mk]; rfl, ?_⟩
        subst h
        rw [Nat.add_assoc]
        exact .ptr hb
  · simp at h

/-- A slice's array. -/
def s2apV (P : Program) (t : TypeId) (x : Value) : Option Value :=
  match P.underlying t, x with
  | some (.array n _), .slice (some a) m _ => if n ≤ m ∧ n ≠ 0 then some (.pointer (some a)) else none
  | _, _ => none

theorem s2apV_sim {P : Program} {β : Inj} {t : TypeId} {x x' v : Value} (h : s2apV P t x = some v) (hx : VRel β x x') (w : World) :
    ∃ v', (Instr.arrayAt t x').run P w = .ok v' w ∧ VRel β v v' := by
  unfold s2apV at h
  split at h
  · rename_i n e a m c hu
    split at h
    · rename_i hn
      simp only [Option.some.injEq] at h
      cases hx with
      | slice hb h1 h2 h3 h4 =>
        refine ⟨_, by simp only [Instr.arrayAt, Sem.run_bind, Sem.run_pure, Result.andThen_ok, run_underlying hu, Nat.not_lt.2 hn.1, if_false]; rfl, ?_⟩
        subst h
        exact .ptr hb
      | sliceE hb hk0 => omega
    · simp at h
  · simp at h

/-- A field of a value. -/
def fieldV (P : Program) (t : TypeId) (x : Value) (f : Nat) : Option Value :=
  match P.underlying t, x with
  | some (.struct fs), .agg ⟨cs⟩ => (fs[f]?).bind fun d => apart P d.type cs d.offset
  | _, _ => none

theorem fieldV_sim {P : Program} {β : Inj} {t : TypeId} {x x' v : Value} {f : Nat} (h : fieldV P t x f = some v) (hx : VRel β x x') (w : World) :
    ∃ v', (Instr.field t x' f).run P w = .ok v' w ∧ VRel β v v' := by
  unfold fieldV at h
  split at h
  · rename_i fs cs hu
    simp only [Option.bind_eq_some_iff] at h
    obtain ⟨d, hd, h⟩ := h
    cases hx with
    | agg hc =>
      obtain ⟨v', hv, hr⟩ := apart_sim h hc w
      refine ⟨v', ?_, hr⟩
      simp only [Instr.field, Sem.run_bind, Result.andThen_ok, run_underlying hu, hd, asAgg, Sem.run_pure, hv]
  · simp at h

/-- An element of a value. -/
def indexV (P : Program) (t : TypeId) (x i : Value) : Option Value :=
  match P.underlying t, x, i with
  | some (.array n e), .agg ⟨cs⟩, .int _ j => (szT P e).bind fun sz => if 0 ≤ j ∧ j < n then apart P e cs (j.toNat * sz) else none
  | some .string, .string s, .int _ j => if 0 ≤ j then (s[j.toNat]?).map fun b => .int .u8 b.toNat else none
  | _, _, _ => none

theorem indexV_sim {P : Program} {β : Inj} {t : TypeId} {x x' i i' v : Value} (h : indexV P t x i = some v) (hx : VRel β x x') (hi : VRel β i i') (w : World) :
    ∃ v', (Instr.index t x' i').run P w = .ok v' w ∧ VRel β v v' := by
  unfold indexV at h
  split at h
  · rename_i n e cs k j hu
    simp only [Option.bind_eq_some_iff] at h
    obtain ⟨sz, hsz, h⟩ := h
    split at h
    · rename_i hj
      cases hi
      cases hx with
      | agg hc =>
        obtain ⟨v', hv, hr⟩ := apart_sim h hc w
        refine ⟨v', ?_, hr⟩
        simp only [Instr.index, asIntOf, Sem.run_bind, Sem.run_pure, Result.andThen_ok, run_underlying hu, hj, and_self, if_true, run_sizeOf' w hsz, hv]
    · simp at h
  · rename_i s k j hu
    split at h
    · rename_i hj
      simp only [Option.map_eq_some_iff] at h
      obtain ⟨c, hc, rfl⟩ := h
      cases hi
      cases hx
      refine ⟨_, ?_, .int _ _⟩
      simp only [Instr.index, asIntOf, Sem.run_bind, Sem.run_pure, Result.andThen_ok, run_underlying hu, hj, if_true, hc]
    · simp at h
  · simp at h

/-- A list with another one laid over it from a place on. -/
def lay (cs : List Value) (off : Nat) (vs : List Value) : List Value := cs.take off ++ vs ++ cs.drop (off + vs.length)

theorem lay_length {cs vs : List Value} {off : Nat} (h : off + vs.length ≤ cs.length) : (lay cs off vs).length = cs.length := by
  simp [lay]; omega

theorem LRel.lay {β : Inj} {cs cs' vs vs' : List Value} {off : Nat} (h : LRel β cs cs') (k : LRel β vs vs') : LRel β (lay cs off vs) (Am.lay cs' off vs') := by
  simp only [Am.lay, k.length]
  exact ((h.take off).append k).append (h.drop _)

theorem getElem?_lay {cs vs : List Value} {off : Nat} (h : off + vs.length ≤ cs.length) (i : Nat) :
    (lay cs off vs)[i]? = if off ≤ i ∧ i < off + vs.length then vs[i - off]? else cs[i]? := by
  simp only [lay, List.append_assoc]
  rw [List.getElem?_append]
  simp only [List.length_take, Nat.min_eq_left (show off ≤ cs.length by omega)]
  split
  · rename_i h1
    rw [if_neg (by omega), List.getElem?_take, if_pos h1]
  · rename_i h1
    rw [List.getElem?_append]
    split
    · rename_i h2
      rw [if_pos (by omega)]
    · rename_i h2
      rw [if_neg (by omega), List.getElem?_drop]
      congr 1
      omega

theorem foldl_set_eq (vs : List Value) : ∀ (cs : Array Value) (off j : Nat), off + j + vs.length ≤ cs.size →
    ((vs.zipIdx j).foldl (fun (cs : Array Value) (x : Value × Nat) => cs.setIfInBounds (off + x.2) x.1) cs).toList = lay cs.toList (off + j) vs := by
  induction vs with
  | nil => intro cs off j h; simp [lay]
  | cons v vs ih =>
    intro cs off j h
    simp only [List.length_cons] at h
    simp only [List.zipIdx_cons, List.foldl_cons]
    rw [ih _ off (j + 1) (by simp; omega)]
    simp only [Array.toList_setIfInBounds]
    apply List.ext_getElem?
    intro i
    have hl : cs.toList.length = cs.size := by simp
    rw [getElem?_lay (by simp; omega), getElem?_lay (by simp; omega)]
    simp only [List.length_cons, List.getElem?_set]
    by_cases h1 : off + (j + 1) ≤ i ∧ i < off + (j + 1) + vs.length
    · rw [if_pos h1, if_pos (by omega)]
      rw [show i - (off + j) = (i - (off + (j + 1))) + 1 by omega, List.getElem?_cons_succ]
    · rw [if_neg h1]
      by_cases h2 : off + j = i
      · subst h2
        rw [if_pos rfl, if_pos (by omega)]
        simp
      · rw [if_neg h2, if_neg (by omega)]

/-- A literal's parts laid over its zero. -/
def fillL (place : Nat → Option (Nat × Nat)) (cells : List Value) : List (Nat × Value) → Option (List Value)
  | [] => some cells
  | (i, v) :: rest =>
    match place i with
    | none => none
    | some (off, size) => if v.cells.toList.length = size ∧ off + v.cells.toList.length ≤ cells.length then fillL place (lay cells off v.cells.toList) rest else none

/-- Parts, side by side. -/
inductive PRel (β : Inj) : List (Nat × Value) → List (Nat × Value) → Prop
  | nil : PRel β [] []
  | cons {i : Nat} {v v' : Value} {l l' : List (Nat × Value)} : VRel β v v' → PRel β l l' → PRel β ((i, v) :: l) ((i, v') :: l')

theorem fillL_sim {β : Inj} {place : Nat → Option (Nat × Nat)} : ∀ {parts parts' : List (Nat × Value)} {cs cs' out : List Value}, fillL place cs parts = some out → LRel β cs cs' →
    PRel β parts parts' → ∃ out' : List Value, Instr.fill place ⟨cs'⟩ parts' = some ⟨out'⟩ ∧ LRel β out out'
  | [], _, cs, cs', out, h, hc, hp => by
    cases hp
    simp only [fillL, Option.some.injEq] at h
    subst h
    exact ⟨cs', rfl, hc⟩
  | (i, v) :: rest, _, cs, cs', out, h, hc, hp => by
    cases hp with
    | cons hv hr =>
      rename_i v' rest'
      simp only [fillL] at h
      split at h
      · simp at h
      · rename_i off size hpl
        split at h
        · rename_i hl
          have hvl := hv.cells.length
          have hcl := hc.length
          obtain ⟨out', ho, hr'⟩ := fillL_sim h (hc.lay (off := off) hv.cells) hr
          refine ⟨out', ?_, hr'⟩
          simp only [Instr.fill, hpl]
          rw [if_neg (by
            simp only [Array.length_toList] at hl hvl
            simp only [List.size_toArray]
            simp only [Bool.or_eq_true, decide_eq_true_eq]
            omega)]
          rw [← ho]
          congr 1
          apply Array.ext'
          rw [← Array.foldl_toList, Array.toList_zipIdx]
          rw [foldl_set_eq _ _ off 0 (by simp only [Array.length_toList] at hl hvl ⊢; simp only [List.size_toArray]; omega)]
          simp
        · simp at h

theorem zeros_eq (zero : Array Value) (n : Nat) : ((Array.range (n * zero.size)).map fun i => zero[i % zero.size]!).toList = (List.replicate n zero.toList).flatten := by
  simp only [Array.toList_map, Array.toList_range]
  induction n with
  | zero => simp
  | succ n ih =>
    rw [List.replicate_succ', List.flatten_append, ← ih, Nat.add_mul, Nat.one_mul, List.range_add]
    simp only [List.map_append, List.flatten_cons, List.flatten_nil, List.append_nil, List.map_map]
    congr 1
    apply List.ext_getElem?
    intro i
    simp only [List.getElem?_map, List.getElem?_range]
    by_cases hi : i < zero.size
    · simp [hi, Nat.mul_add_mod_self_right, Nat.mod_eq_of_lt hi]
    · simp [hi]
end Go.Am

/- '==' of values: by the type's leaves. -/
namespace Go.Am
open Go

inductive LK where
  | int | bool | str | ptr
  deriving DecidableEq

def lkSum (P : Program) (leaf : TypeId → Option (List LK)) : Nat → List Field → Option (List LK)
  | _, [] => some []
  | off, f :: fs =>
    if f.name ≠ "_" ∧ f.offset = off then
      match leaf f.type with
      | some ks => if szT P f.type = some ks.length then (lkSum P leaf (off + ks.length) fs).map (ks ++ ·) else none
      | none => none
    else none

/-- The leaves of a type that '==' goes through one by one. -/
def leafKinds (P : Program) : Nat → TypeId → Option (List LK)
  | 0, _ => none
  | d + 1, t =>
    match P.underlying t with
    | some (.int _) => some [.int]
    | some .bool => some [.bool]
    | some .string => some [.str]
    | some (.pointer _) => some [.ptr]
    | some (.array n e) =>
      match leafKinds P d e with
      | some ks => if szT P e = some ks.length then some (List.replicate n ks).flatten else none
      | none => none
    | some (.struct fs) => if P.stoodInHeld t then none else lkSum P (leafKinds P d) 0 fs.toList
    | _ => none

def eqLeaf : LK → Value → Value → Option Bool
  | .int, .int k a, .int k' b => if k = k' then some (a == b) else none
  | .bool, .bool a, .bool b => some (a == b)
  | .str, .string a, .string b => some (a == b)
  | .ptr, .pointer none, .pointer b => some b.isNone
  | .ptr, .pointer (some _), .pointer none => some false
  | _, _, _ => none

def eqL : List LK → List Value → List Value → Option Bool
  | [], [], [] => some true
  | k :: ks, x :: xs, y :: ys => (eqLeaf k x y).bind fun b => (eqL ks xs ys).map fun r => b && r
  | _, _, _ => none

theorem eqL_length : ∀ {ks : List LK} {xs ys : List Value} {b : Bool}, eqL ks xs ys = some b → xs.length = ks.length ∧ ys.length = ks.length
  | [], [], [], _, _ => ⟨rfl, rfl⟩
  | k :: ks, x :: xs, y :: ys, b, h => by
    simp only [eqL, Option.bind_eq_some_iff, Option.map_eq_some_iff] at h
    obtain ⟨_, _, _, h, _⟩ := h
    have := eqL_length h
    simp [this.1, this.2]
  | [], [], _ :: _, _, h => by simp [eqL] at h
  | [], _ :: _, _, _, h => by simp [eqL] at h
  | _ :: _, [], _, _, h => by simp [eqL] at h
  | _ :: _, _ :: _, [], _, h => by simp [eqL] at h

theorem eqL_split : ∀ {ks js : List LK} {xs ys : List Value} {b : Bool}, eqL (ks ++ js) xs ys = some b →
    ∃ b1 b2, eqL ks (xs.take ks.length) (ys.take ks.length) = some b1 ∧ eqL js (xs.drop ks.length) (ys.drop ks.length) = some b2 ∧ b = (b1 && b2)
  | [], js, xs, ys, b, h => ⟨true, b, by simp [eqL], by simpa using h, by simp⟩
  | k :: ks, js, [], ys, b, h => by simp [eqL] at h
  | k :: ks, js, x :: xs, [], b, h => by simp [eqL] at h
  | k :: ks, js, x :: xs, y :: ys, b, h => by
    simp only [List.cons_append, eqL, Option.bind_eq_some_iff, Option.map_eq_some_iff] at h
    obtain ⟨b0, h0, r, hr, rfl⟩ := h
    obtain ⟨b1, b2, h1, h2, rfl⟩ := eqL_split hr
    exact ⟨b0 && b1, b2, by simp [eqL, h0, h1], by simpa using h2, by rw [Bool.and_assoc]⟩

/-- What leaves make of a type. -/
def valOf (P : Program) (t : TypeId) (xs : List Value) : Value :=
  match aggT P t with
  | some true => .agg ⟨xs⟩
  | _ => xs.headD undef

theorem part_valOf {P : Program} {t : TypeId} {cs : List Value} {off k : Nat} (w : World) (ha : aggT P t ≠ none) (hk : szT P t = some k) (hl : off + k ≤ cs.length) (h1 : aggT P t = some false → k = 1) :
    (part t ⟨cs⟩ off).run P w = .ok (valOf P t ((cs.drop off).take k)) w := by
  cases h : aggT P t with
  | none => exact absurd h ha
  | some b =>
    cases b with
    | true =>
      have hp : apart P t cs off = some (.agg ⟨(cs.drop off).take k⟩) := by simp [apart, h, hk]
      simp only [part, Sem.run_bind, run_isAgg' w h, Result.andThen, if_true, run_sizeOf' w hk, Sem.run_pure, valOf, h]
      congr 2
      apply Array.ext'
      simp [List.take_drop]
    | false =>
      have := h1 h
      subst this
      have hlt : off < cs.length := by omega
      simp only [part, Sem.run_bind, run_isAgg' w h, Result.andThen, Bool.false_eq_true, if_false, valOf, h]
      rw [List.drop_eq_getElem_cons hlt]
      simp only [List.take_succ_cons, List.headD_cons]
      simp [hlt]

theorem leafKinds_agg {P : Program} : ∀ {d : Nat} {t : TypeId} {ks : List LK}, leafKinds P d t = some ks → aggT P t ≠ none ∧ (aggT P t = some false → ks.length = 1)
  | 0, _, _, h => by simp [leafKinds] at h
  | d + 1, t, ks, h => by
    simp only [leafKinds] at h
    cases hu : P.underlying t with
    | none => simp [hu] at h
    | some D => cases D <;> simp only [hu, Option.some.injEq] at h <;> (try simp at h) <;> simp [aggT, hu, aggD] <;> (try (subst h; rfl)) <;> (try (simp [← h]))

theorem fields_run {P : Program} (d : Nat) (D : Nat) (ih : ∀ (t : TypeId) (ks : List LK) (xs ys : List Value) (b : Bool), leafKinds P d t = some ks → eqL ks xs ys = some b →
    ∀ w : World, (Op.equalIn D t (valOf P t xs) (valOf P t ys)).run P w = .ok b w) :
    ∀ (fs : List Field) (off : Nat) (ks : List LK) (xs ys : List Value) (b : Bool) (w : World), lkSum P (leafKinds P d) off fs = some ks → eqL ks (xs.drop off) (ys.drop off) = some b →
      (Op.eqFields D ⟨xs⟩ ⟨ys⟩ fs).run P w = .ok b w
  | [], off, ks, xs, ys, b, w, h, he => by
    simp only [lkSum, Option.some.injEq] at h
    subst h
    have : b = true := by
      cases hx : xs.drop off <;> cases hy : ys.drop off <;> simp_all [eqL]
    subst this
    rfl
  | f :: fs, off, ks, xs, ys, b, w, h, he => by
    simp only [lkSum] at h
    split at h
    · rename_i hf
      split at h
      · rename_i js hjs
        split at h
        · rename_i hsz
          simp only [Option.map_eq_some_iff] at h
          obtain ⟨rs, hrs, rfl⟩ := h
          obtain ⟨b1, b2, e1, e2, rfl⟩ := eqL_split he
          have hl := eqL_length he
          simp only [List.length_append, List.length_drop] at hl
          obtain ⟨ha, h1⟩ := leafKinds_agg hjs
          have len1 := (eqL_length e1)
          simp only [Op.eqFields, Sem.run_bind]
          rw [if_pos hf.1, hf.2]
          simp only [Sem.run_bind]
          by_cases hj0 : js.length = 0
          · -- no leaf: only an aggregate may be so
            have hp : ∀ cs : List Value, (part f.type ⟨cs⟩ off).run P w = .ok (valOf P f.type ((cs.drop off).take js.length)) w := by
              intro cs
              cases hag : aggT P f.type with
              | none => exact absurd hag ha
              | some c =>
                cases c with
                | true =>
                  simp only [part, Sem.run_bind, run_isAgg' w hag, Result.andThen, if_true, run_sizeOf' w hsz, Sem.run_pure, valOf, hag]
                  congr 2
                  apply Array.ext'
                  simp [List.take_drop]
                | false => have := h1 hag; omega
            rw [hp, Result.andThen_ok, hp, Result.andThen_ok, ih _ _ _ _ _ hjs e1 w, Result.andThen_ok]
            cases b1 with
            | false => simp
            | true =>
              simp only [Bool.not_true, Bool.false_eq_true, if_false, Bool.true_and]
              exact fields_run d D ih fs _ _ _ _ _ w hrs (by simpa [List.drop_drop, Nat.add_comm] using e2)
          · rw [part_valOf w ha hsz (by omega) h1, Result.andThen_ok, part_valOf w ha hsz (by omega) h1, Result.andThen_ok, ih _ _ _ _ _ hjs e1 w, Result.andThen_ok]
            cases b1 with
            | false => simp
            | true =>
              simp only [Bool.not_true, Bool.false_eq_true, if_false, Bool.true_and]
              exact fields_run d D ih fs _ _ _ _ _ w hrs (by simpa [List.drop_drop, Nat.add_comm] using e2)
        · simp at h
      · simp at h
    · simp at h

theorem items_run {P : Program} (d D : Nat) {e : TypeId} {ks : List LK} (hk : leafKinds P d e = some ks) (hsz : szT P e = some ks.length)
    (ih : ∀ (xs ys : List Value) (b : Bool), eqL ks xs ys = some b → ∀ w : World, (Op.equalIn D e (valOf P e xs) (valOf P e ys)).run P w = .ok b w) :
    ∀ (n i : Nat) (xs ys : List Value) (b : Bool) (w : World), eqL (List.replicate n ks).flatten (xs.drop (i * ks.length)) (ys.drop (i * ks.length)) = some b →
      (Op.eqItems D e (P.cellsOf e) ⟨xs⟩ ⟨ys⟩ (List.range' i n)).run P w = .ok b w
  | 0, i, xs, ys, b, w, he => by
    have : b = true := by
      cases hx : xs.drop (i * ks.length) <;> cases hy : ys.drop (i * ks.length) <;> simp_all [eqL]
    subst this
    rfl
  | n + 1, i, xs, ys, b, w, he => by
    have hc : P.cellsOf e = ks.length := by simp only [szT, Option.map_eq_some_iff] at hsz; obtain ⟨j, hj, hj2⟩ := hsz; simp [Program.cellsOf, hj, hj2]
    rw [List.replicate_succ, List.flatten_cons] at he
    obtain ⟨b1, b2, e1, e2, rfl⟩ := eqL_split he
    have hl := eqL_length he
    simp only [List.length_append, List.length_drop] at hl
    obtain ⟨ha, h1⟩ := leafKinds_agg hk
    rw [List.range'_succ]
    simp only [Op.eqItems, Sem.run_bind, hc]
    have hp : ∀ cs : List Value, (i * ks.length + ks.length ≤ cs.length ∨ ks.length = 0) → (part e ⟨cs⟩ (i * ks.length)).run P w = .ok (valOf P e ((cs.drop (i * ks.length)).take ks.length)) w := by
      intro cs hcs
      rcases hcs with hcs | hcs
      · exact part_valOf w ha hsz hcs h1
      · cases hag : aggT P e with
        | none => exact absurd hag ha
        | some c =>
          cases c with
          | true =>
            simp only [part, Sem.run_bind, run_isAgg' w hag, Result.andThen, if_true, run_sizeOf' w hsz, Sem.run_pure, valOf, hag]
            congr 2
            apply Array.ext'
            simp [List.take_drop]
          | false => have := h1 hag; omega
    rw [hp xs (by omega), Result.andThen_ok, hp ys (by omega), Result.andThen_ok, ih _ _ _ e1 w, Result.andThen_ok]
    cases b1 with
    | false => simp
    | true =>
      simp only [Bool.not_true, Bool.false_eq_true, if_false, Bool.true_and]
      have := items_run d D hk hsz ih n (i + 1) xs ys b2 w (by simpa [List.drop_drop, Nat.add_mul, Nat.add_comm] using e2)
      rw [hc] at this
      exact this

theorem leaf_run {P : Program} {k : LK} {x y : Value} {b : Bool} (h : eqLeaf k x y = some b) (d : Nat) {t : TypeId}
    (ht : match k with | .int => ∃ j, P.underlying t = some (.int j) | .bool => P.underlying t = some .bool | .str => P.underlying t = some .string | .ptr => ∃ e, P.underlying t = some (.pointer e)) (w : World) :
    (Op.equalIn (d + 1) t x y).run P w = .ok b w := by
  cases k with
  | int =>
    obtain ⟨j, hj⟩ := ht
    unfold eqLeaf at h
    split at h <;> simp_all
    obtain ⟨rfl, rfl⟩ := h
    simp [Op.equalIn, run_underlying hj]
  | bool =>
    simp only at ht
    unfold eqLeaf at h
    split at h <;> simp_all
    subst h
    simp [Op.equalIn, run_underlying ht]
  | str =>
    simp only at ht
    unfold eqLeaf at h
    split at h <;> simp_all
    subst h
    simp [Op.equalIn, run_underlying ht]
  | ptr =>
    obtain ⟨e, he⟩ := ht
    unfold eqLeaf at h
    split at h <;> simp_all
    · subst h
      simp [Op.equalIn, run_underlying he]
    · subst h
      simp [Op.equalIn, run_underlying he]

theorem eq_run {P : Program} : ∀ (d : Nat) (t : TypeId) (ks : List LK) (xs ys : List Value) (b : Bool), leafKinds P d t = some ks → eqL ks xs ys = some b →
    ∀ (D : Nat) (w : World), (Op.equalIn (D + d + 1) t (valOf P t xs) (valOf P t ys)).run P w = .ok b w
  | 0, _, _, _, _, _, h, _, _, _ => by simp [leafKinds] at h
  | d + 1, t, ks, xs, ys, b, h, he, D, w => by
    have one : ∀ {k : LK}, ks = [k] → ∃ x y, xs = [x] ∧ ys = [y] ∧ eqLeaf k x y = some b := by
      intro k hk
      subst hk
      have hl := eqL_length he
      match xs, ys, hl, he with
      | [x], [y], _, he =>
        refine ⟨x, y, rfl, rfl, ?_⟩
        simp only [eqL, Option.bind_eq_some_iff, Option.map_some, Option.some.injEq] at he
        obtain ⟨b0, h0, e⟩ := he
        rw [h0, ← e]; simp
    simp only [leafKinds] at h
    cases hu : P.underlying t with
    | none => simp [hu] at h
    | some D =>
      cases D with
      | int j =>
        simp only [hu, Option.some.injEq] at h
        obtain ⟨x, y, rfl, rfl, e⟩ := one h.symm
        simp only [valOf, aggT, hu, Option.map_some, aggD, List.headD_cons]
        exact leaf_run e (D + (d + 1)) ⟨j, hu⟩ w
      | bool =>
        simp only [hu, Option.some.injEq] at h
        obtain ⟨x, y, rfl, rfl, e⟩ := one h.symm
        simp only [valOf, aggT, hu, Option.map_some, aggD, List.headD_cons]
        exact leaf_run e (D + (d + 1)) hu w
      | string =>
        simp only [hu, Option.some.injEq] at h
        obtain ⟨x, y, rfl, rfl, e⟩ := one h.symm
        simp only [valOf, aggT, hu, Option.map_some, aggD, List.headD_cons]
        exact leaf_run e (D + (d + 1)) hu w
      | pointer j =>
        simp only [hu, Option.some.injEq] at h
        obtain ⟨x, y, rfl, rfl, e⟩ := one h.symm
        simp only [valOf, aggT, hu, Option.map_some, aggD, List.headD_cons]
        exact leaf_run e (D + (d + 1)) ⟨j, hu⟩ w
      | array n e =>
        simp only [hu] at h
        split at h
        · rename_i js hjs
          split at h
          · rename_i hsz
            simp only [Option.some.injEq] at h
            subst h
            obtain ⟨i, hi, _⟩ := (by simpa [szT] using hsz : ∃ i, P.info? e = some i ∧ i.size = js.length)
            simp only [valOf, aggT, hu, Option.map_some, aggD]
            rw [run_equalIn_array w (D + (d + 1)) ⟨xs⟩ ⟨ys⟩ hu hi, List.range_eq_range']
            exact items_run d (D + (d + 1)) hjs hsz (fun xs ys b hb w => eq_run d e js xs ys b hjs hb D w) n 0 xs ys b w (by simpa using he)
          · simp at h
        · simp at h
      | struct fs =>
        simp only [hu] at h
        split at h
        · simp at h
        · rename_i hst
          have hf : P.fieldsOf t = fs := by simp [Program.fieldsOf, hu]
          simp only [valOf, aggT, hu, Option.map_some, aggD]
          rw [run_equalIn_struct w (D + (d + 1)) t ⟨xs⟩ ⟨ys⟩ (by rw [hf]; exact hu) (by simpa using hst), hf]
          exact fields_run d (D + (d + 1)) (fun t ks xs ys b hk hb w => eq_run d t ks xs ys b hk hb D w) fs.toList 0 ks xs ys b w h (by simpa using he)
      | _ => simp [hu] at h
end Go.Am

/- All operations that look at no memory, in one function. -/
namespace Go.Am
open Go

def eqKs (P : Program) (t : TypeId) : Option (List LK) := if P.eqGuardType P.depth t then none else leafKinds P 50 t

/-- Of which sort a type is. -/
def kindT (P : Program) (t : TypeId) : Nat :=
  match P.underlying t with
  | some .bool => 1
  | some (.pointer _) => 2
  | some (.slice _) => 3
  | some (.map _ _) => 4
  | some (.chan _ _) => 5
  | some (.func _ _ _) => 6
  | some (.interface _) => 7
  | _ => 0

theorem kindT_und {P : Program} {t : TypeId} : match kindT P t with
    | 1 => P.underlying t = some .bool | 2 => ∃ e, P.underlying t = some (.pointer e) | 3 => ∃ e, P.underlying t = some (.slice e) | 4 => ∃ k e, P.underlying t = some (.map k e)
    | 5 => ∃ d e, P.underlying t = some (.chan d e) | 6 => ∃ a b c, P.underlying t = some (.func a b c) | 7 => ∃ a, P.underlying t = some (.interface a) | _ => True := by
  cases hu : P.underlying t with
  | none => simp [kindT, hu]
  | some D => cases D <;> simp [kindT, hu]

/-- '==' of two values. -/
def eqV (P : Program) (t : TypeId) (x y : Value) : Option Bool :=
  match x, y with
  | .int k a, .int k' b => if k = k' then some (a == b) else none
  | .string a, .string b => some (a.toList == b.toList)
  | .bool a, .bool b => if kindT P t = 1 then some (a == b) else none
  | .agg ⟨xs⟩, .agg ⟨ys⟩ => (eqKs P t).bind fun ks => if aggT P t = some true then eqL ks xs ys else none
  | .pointer none, .pointer b => if kindT P t = 2 then some b.isNone else none
  | .pointer (some _), .pointer none => if kindT P t = 2 then some false else none
  | .slice none 0 0, .slice b _ _ => if kindT P t = 3 then some b.isNone else none
  | .slice (some _) _ _, .slice none 0 0 => if kindT P t = 3 then some false else none
  | .map none, .map b => if kindT P t = 4 then some b.isNone else none
  | .map (some _), .map none => if kindT P t = 4 then some false else none
  | .chan none, .chan b => if kindT P t = 5 then some b.isNone else none
  | .chan (some _), .chan none => if kindT P t = 5 then some false else none
  | .nilFunc, .nilFunc => if kindT P t = 6 then some true else none
  | .nilFunc, .func _ _ _ => if kindT P t = 6 then some false else none
  | .func _ _ _, .nilFunc => if kindT P t = 6 then some false else none
  | .nilIface, .iface _ _ => if kindT P t = 7 then some false else none
  | .iface _ _, .nilIface => if kindT P t = 7 then some false else none
  | _, _ => none

theorem eqLeaf_rel {β : Inj} {k : LK} {x y x' y' : Value} {b : Bool} (h : eqLeaf k x y = some b) (hx : VRel β x x') (hy : VRel β y y') : eqLeaf k x' y' = some b := by
  unfold eqLeaf at h
  split at h
  · cases hx; cases hy; exact h
  · cases hx; cases hy; exact h
  · cases hx; cases hy; exact h
  · cases hx; cases hy <;> exact h
  · cases hx; cases hy; exact h
  · simp at h

theorem eqL_rel {β : Inj} : ∀ {ks : List LK} {xs ys xs' ys' : List Value} {b : Bool}, eqL ks xs ys = some b → LRel β xs xs' → LRel β ys ys' → eqL ks xs' ys' = some b
  | [], [], [], _, _, _, h, .nil, .nil => h
  | k :: ks, x :: xs, y :: ys, _, _, b, h, .cons hx hxs, .cons hy hys => by
    simp only [eqL, Option.bind_eq_some_iff, Option.map_eq_some_iff] at h ⊢
    obtain ⟨b0, h0, r, hr, e⟩ := h
    exact ⟨b0, eqLeaf_rel h0 hx hy, r, eqL_rel hr hxs hys, e⟩
  | [], [], _ :: _, _, _, _, h, _, _ => by simp [eqL] at h
  | [], _ :: _, _, _, _, _, h, _, _ => by simp [eqL] at h
  | _ :: _, [], _, _, _, _, h, _, _ => by simp [eqL] at h
  | _ :: _, _ :: _, [], _, _, _, h, _, _ => by simp [eqL] at h

theorem eqKs_run {P : Program} {t : TypeId} {ks : List LK} {xs ys : List Value} {b : Bool} (hk : eqKs P t = some ks) (ha : aggT P t = some true) (h : eqL ks xs ys = some b) (w : World) :
    (Op.equal t (.agg ⟨xs⟩) (.agg ⟨ys⟩)).run P w = .ok b w ∧ P.eqGuardType P.depth t = false := by
  unfold eqKs at hk
  split at hk
  · simp at hk
  · rename_i hg
    have e := eq_run 50 t ks xs ys b hk h 9949 w
    simp only [valOf, ha] at e
    exact ⟨e, by simpa using hg⟩

theorem binOp_eql_run {P : Program} {t : TypeId} {x y : Value} {b : Bool} {w : World} (hx : match x, y with | .int _ _, _ => False | .string _, .string _ => False | .float _ _, _ => False | .complex _ _ _, _ => False | _, _ => True)
    (h : (Op.equal t x y).run P w = .ok b w) : (binOp .eql t x y).run P w = .ok (.bool b) w := by
  have e : binOp .eql t x y = (do pure (.bool (← Op.equal t x y))) := by
    cases x <;> first | exact hx.elim | (cases y <;> first | rfl | exact hx.elim)
  rw [e]
  simp [h]

theorem binOp_neq_run {P : Program} {t : TypeId} {x y : Value} {b : Bool} {w : World} (hx : match x, y with | .int _ _, _ => False | .string _, .string _ => False | .float _ _, _ => False | .complex _ _ _, _ => False | _, _ => True)
    (h : (Op.equal t x y).run P w = .ok b w) : (binOp .neq t x y).run P w = .ok (.bool (!b)) w := by
  have e : binOp .neq t x y = (do pure (.bool (!(← Op.equal t x y)))) := by
    cases x <;> first | exact hx.elim | (cases y <;> first | rfl | exact hx.elim)
  rw [e]
  simp [h]

/-- What '==' needs of the machine. -/
structure EqRuns (P : Program) (t : TypeId) (x y : Value) (b : Bool) (w : World) : Prop where
  eql : ∀ ox oy, (do eqGuard .eql t ox oy x y; binOp .eql t x y).run P w = .ok (.bool b) w
  neq : ∀ ox oy, (do eqGuard .neq t ox oy x y; binOp .neq t x y).run P w = .ok (.bool (!b)) w

theorem EqRuns.of_equal {P : Program} {t : TypeId} {x y : Value} {b : Bool} {w : World} (hx : match x, y with | .int _ _, _ => False | .string _, .string _ => False | .float _ _, _ => False | .complex _ _ _, _ => False | _, _ => True)
    (hg : ∀ op ox oy, (eqGuard op t ox oy x y).run P w = .ok () w) (h : (Op.equal t x y).run P w = .ok b w) : EqRuns P t x y b w :=
  ⟨fun ox oy => by rw [Sem.run_bind, hg, Result.andThen_ok]; exact binOp_eql_run hx h, fun ox oy => by rw [Sem.run_bind, hg, Result.andThen_ok]; exact binOp_neq_run hx h⟩

theorem equal_run1 {P : Program} {t : TypeId} {x y : Value} {b : Bool} {w : World} (h : ∀ d, (Op.equalIn (d + 1) t x y).run P w = .ok b w) : (Op.equal t x y).run P w = .ok b w := h 9999

theorem eqV_sim {P : Program} {β : Inj} {t : TypeId} {x y x' y' : Value} {b : Bool} (h : eqV P t x y = some b) (hx : VRel β x x') (hy : VRel β y y') (w : World) : EqRuns P t x' y' b w := by
  unfold eqV at h
  split at h
  · -- int
    split at h
    · rename_i k a k' c hk
      subst hk
      simp only [Option.some.injEq] at h
      cases hx; cases hy
      subst h
      exact ⟨fun ox oy => by rw [eqGuard_at_int, binOp_eql]; simp, fun ox oy => by rw [eqGuard_at_int, binOp_neq]; simp [bne]⟩
    · simp at h
  · simp only [Option.some.injEq] at h
    cases hx; cases hy
    subst h
    exact ⟨fun ox oy => by rw [eqGuard_at_string]; simp [binOp, Op.stringOp], fun ox oy => by rw [eqGuard_at_string]; simp [binOp, Op.stringOp]⟩
  · split at h
    · rename_i hu
      simp only [Option.some.injEq] at h
      cases hx; cases hy
      subst h
      have hk := @kindT_und P t
      rw [hu] at hk
      exact .of_equal trivial (fun op ox oy => by rw [eqGuard_at_bool]; rfl) (equal_run1 (fun d => run_equalIn_bool w d t _ _ hk))
    · simp at h
  · simp only [Option.bind_eq_some_iff] at h
    obtain ⟨ks, hk, h⟩ := h
    split at h
    · rename_i ha
      cases hx with
      | agg hx =>
        cases hy with
        | agg hy =>
          have := fun w => eqKs_run hk ha (eqL_rel h hx hy) w
          exact .of_equal trivial (fun op ox oy => run_eqGuard_agg w op t ox oy _ _ (this w).2) (this w).1
    · simp at h
  all_goals first
    | (simp only [Option.ite_none_right_eq_some, Option.some.injEq] at h
       obtain ⟨hu, rfl⟩ := h
       have hk := @kindT_und P t
       rw [hu] at hk
       first
         | (obtain ⟨e1, hk⟩ := hk
            cases hx <;> cases hy <;> exact .of_equal trivial (fun op ox oy => by first | (rw [eqGuard_at_pointer]; rfl) | (rw [eqGuard_at_slice]; rfl) | (rw [eqGuard_nil_iface]; rfl) | (rw [eqGuard_at_iface]; rfl)) (equal_run1 (fun d => by simp [Op.equalIn, run_underlying hk])))
         | (obtain ⟨e1, e2, hk⟩ := hk
            cases hx <;> cases hy <;> exact .of_equal trivial (fun op ox oy => by first | (rw [eqGuard_at_map]; rfl) | (rw [eqGuard_at_chan]; rfl)) (equal_run1 (fun d => by simp [Op.equalIn, run_underlying hk])))
         | (obtain ⟨e1, e2, e3, hk⟩ := hk
            cases hx <;> cases hy <;> exact .of_equal trivial (fun op ox oy => by first | (rw [eqGuard_at_func]; rfl) | (rw [eqGuard_at_nilFunc]; rfl)) (equal_run1 (fun d => by simp [Op.equalIn, run_underlying hk]))))
    | simp at h
end Go.Am

/- All operations that look at no memory, in one function; the machine does the same. -/
namespace Go.Am
open Go

def unV (P : Program) (op : UnOp) (x : Value) : Option Value :=
  match op, x with
  | .not, .bool b => some (.bool !b)
  | .neg, .int k n => some (.int k (k.wrap (0 - n)))
  | .xor, .int _ _ => prunP P (Op.unary op x)
  | _, _ => none

theorem unV_sim {P : Program} {β : Inj} {op : UnOp} {x x' v : Value} (h : unV P op x = some v) (hx : VRel β x x') (w : World) : (Op.unary op x').run P w = .ok v w ∧ VRel β v v := by
  unfold unV at h
  split at h
  · simp only [Option.some.injEq] at h; cases hx; subst h; exact ⟨rfl, .bool _⟩
  · simp only [Option.some.injEq] at h; cases hx; subst h; exact ⟨rfl, .int _ _⟩
  · cases hx; exact ⟨(prunP_run h w).1, .of_plain (prunP_run h w).2⟩
  · simp at h

def convV (P : Program) (s d : TypeId) (x : Value) : Option Value :=
  match P.underlying s, P.underlying d, x with
  | some _, some (.int k), .int _ n => some (.int k (k.wrap n))
  | some .string, some .string, .string b => some (.string b)
  | _, _, _ => none

theorem convV_sim {P : Program} {β : Inj} {s d : TypeId} {x x' v : Value} (h : convV P s d x = some v) (hx : VRel β x x') (w : World) : (convert s d x').run P w = .ok v w ∧ VRel β v v := by
  unfold convV at h
  split at h
  · rename_i D k k' n hs hd
    simp only [Option.some.injEq] at h
    cases hx
    subst h
    refine ⟨?_, .int _ _⟩
    simp only [convert, Sem.run_bind, run_underlying hs, run_underlying hd, Result.andThen_ok]
    rfl
  · rename_i b hs hd
    simp only [Option.some.injEq] at h
    cases hx
    subst h
    refine ⟨?_, .string _⟩
    simp only [convert, Sem.run_bind, run_underlying hs, run_underlying hd, Result.andThen_ok]
    rfl
  · simp at h

/-- Whole numbers. -/
def intBin (op : BinOp) (k : IntKind) (a b : Int) : Option Value :=
  match op with
  | .add => some (.int k (k.wrap (a + b)))
  | .sub => some (.int k (k.wrap (a - b)))
  | .mul => some (.int k (k.wrap (a * b)))
  | .quo => if b = 0 then none else some (.int k (k.wrap (a.tdiv b)))
  | .rem => if b = 0 then none else some (.int k (a.tmod b))
  | .and => some (.int k (k.wrap (BitVec.ofInt k.bits a &&& BitVec.ofInt k.bits b).toNat))
  | .or => some (.int k (k.wrap (BitVec.ofInt k.bits a ||| BitVec.ofInt k.bits b).toNat))
  | .xor => some (.int k (k.wrap (BitVec.ofInt k.bits a ^^^ BitVec.ofInt k.bits b).toNat))
  | .andNot => some (.int k (k.wrap (BitVec.ofInt k.bits a &&& ~~~ BitVec.ofInt k.bits b).toNat))
  | .lss => some (.bool (a < b))
  | .leq => some (.bool (a ≤ b))
  | .gtr => some (.bool (a > b))
  | .geq => some (.bool (a ≥ b))
  | _ => none

/-- Shifts. -/
def intShift (op : BinOp) (k : IntKind) (a b : Int) : Option Value :=
  match op with
  | .shl => if b < 0 then none else some (.int k (k.wrap (a * 2 ^ (min b.toNat k.bits))))
  | .shr => if b < 0 then none else some (.int k (a.fdiv (2 ^ (min b.toNat k.bits))))
  | _ => none

def binV (P : Program) (op : BinOp) (t : TypeId) (x y : Value) : Option Value :=
  match op with
  | .eql => (eqV P t x y).map .bool
  | .neq => (eqV P t x y).map fun b => .bool !b
  | .shl | .shr => match x, y with | .int k a, .int _ b => intShift op k a b | _, _ => none
  | _ => match x, y with
    | .int k a, .int k' b => if k = k' then intBin op k a b else none
    | .string _, .string _ => prunP P (binOp op t x y)
    | _, _ => none

theorem intBin_run {P : Program} {op : BinOp} {k : IntKind} {a b : Int} {v : Value} (t : TypeId) (h : intBin op k a b = some v) (w : World) : (binOp op t (.int k a) (.int k b)).run P w = .ok v w ∧ plainV v = true := by
  cases op <;> simp only [intBin, Option.some.injEq, reduceCtorEq] at h
  all_goals first
    | (subst h; exact ⟨by simp [binOp, Op.intArith, Op.intBits, Op.intCmp], rfl⟩)
    | (split at h
       · simp at h
       · rename_i hb; simp only [Option.some.injEq] at h; subst h; exact ⟨by simp [binOp, Op.intDiv, hb], rfl⟩)

theorem binV_sim {P : Program} {β : Inj} {op : BinOp} {t : TypeId} {x y x' y' v : Value} (ox oy : Operand) (h : binV P op t x y = some v) (hx : VRel β x x') (hy : VRel β y y') (w : World) :
    (do eqGuard op t ox oy x' y'; binOp op t x' y').run P w = .ok v w ∧ VRel β v v := by
  have notEq : ∀ (op : BinOp), op ≠ .eql → op ≠ .neq → eqGuard op t ox oy x' y' = pure () := by
    intro op h1 h2; cases op <;> first | rfl | contradiction
  cases op
  case eql => simp only [binV, Option.map_eq_some_iff] at h; obtain ⟨b, hb, rfl⟩ := h; exact ⟨(eqV_sim hb hx hy w).eql ox oy, .bool _⟩
  case neq => simp only [binV, Option.map_eq_some_iff] at h; obtain ⟨b, hb, rfl⟩ := h; exact ⟨(eqV_sim hb hx hy w).neq ox oy, .bool _⟩
  case shl =>
    rw [notEq _ (by decide) (by decide)]
    simp only [binV] at h
    split at h
    · cases hx; cases hy
      simp only [intShift] at h
      split at h
      · simp at h
      · rename_i hb; simp only [Option.some.injEq] at h; subst h; exact ⟨by simp [binOp, Op.shift, hb], .int _ _⟩
    · simp at h
  case shr =>
    rw [notEq _ (by decide) (by decide)]
    simp only [binV] at h
    split at h
    · cases hx; cases hy
      simp only [intShift] at h
      split at h
      · simp at h
      · rename_i hb; simp only [Option.some.injEq] at h; subst h; exact ⟨by simp [binOp, Op.shift, hb], .int _ _⟩
    · simp at h
  all_goals
    rw [notEq _ (by decide) (by decide)]
    simp only [binV] at h
    split at h
    · split at h
      · rename_i hk
        subst hk
        cases hx; cases hy
        have := intBin_run (P := P) t h w
        exact ⟨by rw [Sem.run_bind]; exact this.1, .of_plain this.2⟩
      · simp at h
    · cases hx; cases hy
      exact ⟨by rw [Sem.run_bind]; exact (prunP_run h w).1, .of_plain (prunP_run h w).2⟩
    · simp at h

/-- len, but of maps and channels. -/
def lenV (P : Program) (t : TypeId) (x : Value) : Option Value :=
  match P.underlying t, x with
  | some .string, .string s => some (.int .i64 s.size)
  | some (.slice _), .slice _ n _ => some (.int .i64 n)
  | some (.array n _), _ => some (.int .i64 n)
  | _, _ => none

theorem lenV_sim {P : Program} {β : Inj} {t ty : TypeId} {ts : Array TypeId} {x x' v : Value} (h : lenV P t x = some v) (ht : ts[0]? = some t) (hx : VRel β x x') (w : World) :
    (Builtin.len_ ts ty #[x']).run P w = .ok v w ∧ VRel β v v := by
  unfold lenV at h
  split at h
  · rename_i s hu
    simp only [Option.some.injEq] at h
    cases hx; subst h
    exact ⟨by simp [Builtin.len_, ht, run_underlying hu, goInt], .int _ _⟩
  · rename_i e a n c hu
    simp only [Option.some.injEq] at h
    subst h
    cases hx <;> exact ⟨by simp [Builtin.len_, ht, run_underlying hu, goInt], .int _ _⟩
  · rename_i n e hu
    simp only [Option.some.injEq] at h
    subst h
    exact ⟨by cases hx <;> simp [Builtin.len_, ht, run_underlying hu, goInt], .int _ _⟩
  · simp at h

/-- cap, where it is known. -/
def capV (P : Program) (t : TypeId) (x : Value) : Option Value :=
  match P.underlying t, x with
  | some (.slice _), .slice _ n c => if c = n then some (.int .i64 n) else none
  | _, _ => none

theorem capV_sim {P : Program} {β : Inj} {t ty : TypeId} {ts : Array TypeId} {x x' v : Value} (h : capV P t x = some v) (ht : ts[0]? = some t) (hx : VRel β x x') (w : World) :
    (Builtin.cap_ ts ty #[x']).run P w = .ok v w ∧ VRel β v v := by
  unfold capV at h
  split at h
  · rename_i e a n c hu
    simp only [Option.ite_none_right_eq_some, Option.some.injEq] at h
    obtain ⟨hc, rfl⟩ := h
    cases hx with
    | snil => exact ⟨by simp [Builtin.cap_, ht, run_underlying hu, goInt], .int _ _⟩
    | slice hb h1 h2 h3 h4 => have := h3 hc; subst this; exact ⟨by simp [Builtin.cap_, ht, run_underlying hu, goInt], .int _ _⟩
    | sliceE hb hk0 => exact ⟨by simp [Builtin.cap_, ht, run_underlying hu, goInt], .int _ _⟩
  · simp at h

/-- A literal of a struct or an array. -/
def buildV (P : Program) (t : TypeId) (parts : List (Nat × Value)) : Option Value :=
  match P.underlying t with
  | some (.struct fs) =>
    if fs.toList.all fun f => (szT P f.type).isSome then
      (zeroT P t).bind fun z => (fillL (fun i => (fs[i]?).bind fun f => (szT P f.type).map fun n => (f.offset, n)) z.cells.toList parts).map fun cs => .agg ⟨cs⟩
    else none
  | some (.array _ e) => (szT P e).bind fun sz => (zeroT P t).bind fun z => (fillL (fun i => some (i * sz, sz)) z.cells.toList parts).map fun cs => .agg ⟨cs⟩
  | _ => none

theorem mapM_places {P : Program} {fs : List Field} (h : fs.all (fun f => (szT P f.type).isSome) = true) (w : World) :
    (fs.mapM fun f => do pure (f.offset, ← sizeOf f.type) : Sem (List (Nat × Nat))).run P w = .ok (fs.map fun f => (f.offset, (szT P f.type).getD 0)) w := by
  induction fs with
  | nil => rfl
  | cons f fs ih =>
    simp only [List.all_cons, Bool.and_eq_true] at h
    obtain ⟨n, hn⟩ := Option.isSome_iff_exists.1 h.1
    rw [List.mapM_cons]
    simp only [Sem.run_bind, run_sizeOf' w hn, Result.andThen_ok, Sem.run_pure, ih h.2, List.map_cons, hn, Option.getD_some]

theorem buildV_sim {P : Program} {β : Inj} {t : TypeId} {parts parts' : List (Nat × Value)} {v : Value} (h : buildV P t parts = some v) (hp : PRel β parts parts')
    (hz : ∀ z, zeroT P t = some z → plainV z = true) (w : World) : ∃ v', (Instr.build t parts'.toArray).run P w = .ok v' w ∧ VRel β v v' := by
  unfold buildV at h
  split at h
  · rename_i fs hu
    split at h
    · rename_i hall
      simp only [Option.bind_eq_some_iff, Option.map_eq_some_iff] at h
      obtain ⟨z, hzz, cs, hcs, rfl⟩ := h
      obtain ⟨out', ho, hr⟩ := fillL_sim hcs (VRel.cells (VRel.of_plain (β := β) (hz z hzz))) hp
      refine ⟨.agg ⟨out'⟩, ?_, .agg hr⟩
      simp only [Instr.build, Sem.run_bind, run_zeroValue' w hzz, Result.andThen_ok, run_underlying hu]
      rw [← Array.toArray_toList (xs := fs), List.mapM_toArray, Sem.run_map, mapM_places hall w, Result.andThen_ok, Result.andThen_ok]
      have e : (fun (i : Nat) => ((fs.toList.map fun (f : Field) => (f.offset, (szT P f.type).getD 0)).toArray)[i]?) = fun (i : Nat) => (fs[i]?).bind fun (f : Field) => (szT P f.type).map fun n => (f.offset, n) := by
        funext i
        simp only [List.getElem?_toArray, List.getElem?_map, Array.getElem?_toList]
        cases hf : fs[i]? with
        | none => rfl
        | some f =>
          have hm : f ∈ fs.toList := by
            rw [← Array.getElem?_toList] at hf
            exact List.mem_of_getElem? hf
          obtain ⟨n, hn⟩ := Option.isSome_iff_exists.1 (by simpa using (List.all_eq_true.1 hall) f hm : (szT P f.type).isSome)
          simp [hn]
      simp only [e]
      have ho' : Instr.fill (fun (i : Nat) => (fs[i]?).bind fun (f : Field) => (szT P f.type).map fun n => (f.offset, n)) z.cells parts' = some ⟨out'⟩ := ho
      simp only [List.toList_toArray, ho']
      rfl
    · simp at h
  · rename_i n e hu
    simp only [Option.bind_eq_some_iff, Option.map_eq_some_iff] at h
    obtain ⟨sz, hsz, z, hzz, cs, hcs, rfl⟩ := h
    obtain ⟨out', ho, hr⟩ := fillL_sim hcs (VRel.cells (VRel.of_plain (β := β) (hz z hzz))) hp
    refine ⟨.agg ⟨out'⟩, ?_, .agg hr⟩
    have ho' : Instr.fill (fun i => some (i * sz, sz)) z.cells parts' = some ⟨out'⟩ := ho
    simp only [Instr.build, Sem.run_bind, run_zeroValue' w hzz, Result.andThen_ok, run_underlying hu, run_sizeOf' w hsz, List.toList_toArray, ho']
    rfl
  · simp at h
end Go.Am

/- The abstract machine's operations, by what they do to memory: none, one object read, one object made, or more. -/
namespace Go.Am
open Go

def ORelO (β : Inj) (ρ ρ' : Operand → Value) (o : Oper) : Prop := ∀ x, x ∈ o.op.operands.toList → VRel β (ρ x) (ρ' x)

/-- Operations that look at no memory. -/
def pop (P : Program) (ρ : Operand → Value) (o : Oper) : Option Value :=
  match o.op with
  | .move x => some (ρ x)
  | .assign x => some (ρ x)
  | .pick c a b => match ρ c with | .bool t => some (if t then ρ a else ρ b) | _ => none
  | .nilCheck x => match ρ x with
    | .pointer (some a) => some (.pointer (some a))
    | .func (.func f) a b => some (.func (.func f) a b)
    | .iface t v => some (.iface t v)
    | _ => none
  | .binOp op t x y _ => binV P op t (ρ x) (ρ y)
  | .unOp op _ x => unV P op (ρ x)
  | .convert s d x => convV P s d (ρ x)
  | .sliceToArrayPointer t x => s2apV P t (ρ x)
  | .makeInterface t x => if kindT P t ≠ 7 ∧ (P.underlying t).isSome = true then some (.iface t (ρ x)) else none
  | .makeFunc (.func f) first cap => some (.func (.func f) ⟨first.toList.map ρ⟩ ⟨cap.toList.map ρ⟩)
  | .slice t x lo hi mx => sliceV P t (ρ x) (lo.map ρ) (hi.map ρ) (mx.map ρ)
  | .fieldAddr t x f => fieldAddrV P t (ρ x) f
  | .field t x f => fieldV P t (ρ x) f
  | .indexAddr t x i => indexAddrV P t (ρ x) (ρ i)
  | .index t x i => indexV P t (ρ x) (ρ i)
  | .extract t i => match ρ t with | .tuple ⟨vs⟩ => vs[i]? | _ => none
  | .build t parts => buildV P t (parts.toList.map fun p => (p.1, ρ p.2))
  | .call c =>
    match c.callee, c.args.toList with
    | .builtin .len, [x] => (c.argTypes[0]?).bind fun t => lenV P t (ρ x)
    | .builtin .cap, [x] => (c.argTypes[0]?).bind fun t => capV P t (ρ x)
    | .builtin .min, xs => if xs.all fun x => plainV (ρ x) then prunP P (Builtin.min_ c.argTypes o.type ⟨xs.map ρ⟩) else none
    | .builtin .max, xs => if xs.all fun x => plainV (ρ x) then prunP P (Builtin.max_ c.argTypes o.type ⟨xs.map ρ⟩) else none
    | _, _ => none
  | _ => none

theorem LRel.of_map {β : Inj} {ρ ρ' : Operand → Value} : ∀ {xs : List Operand}, (∀ x, x ∈ xs → VRel β (ρ x) (ρ' x)) → LRel β (xs.map ρ) (xs.map ρ')
  | [], _ => .nil
  | x :: xs, h => .cons (h x (by simp)) (LRel.of_map fun y hy => h y (by simp [hy]))

theorem PRel.of_map {β : Inj} {ρ ρ' : Operand → Value} : ∀ {xs : List (Nat × Operand)}, (∀ x, x ∈ xs.map (·.2) → VRel β (ρ x) (ρ' x)) → PRel β (xs.map fun p => (p.1, ρ p.2)) (xs.map fun p => (p.1, ρ' p.2))
  | [], _ => .nil
  | x :: xs, h => .cons (h x.2 (by simp)) (PRel.of_map fun y hy => h y (by simp at hy ⊢; exact .inr hy))

theorem ORelV.of_map {β : Inj} {ρ ρ' : Operand → Value} {x : Option Operand} (h : ∀ y, x = some y → VRel β (ρ y) (ρ' y)) : ORelV β (x.map ρ) (x.map ρ') := by
  cases x with
  | none => exact .no
  | some y => exact .yes (h y rfl)

theorem plain_args {β : Inj} {ρ ρ' : Operand → Value} {xs : List Operand} (h : ∀ x, x ∈ xs → VRel β (ρ x) (ρ' x)) (hp : (xs.all fun x => plainV (ρ x)) = true) : xs.map ρ' = xs.map ρ := by
  apply List.map_congr_left
  intro x hx
  exact (h x hx).plain (List.all_eq_true.1 hp x hx)

theorem pop_sim {P : Program} {β : Inj} {ρ ρ' : Operand → Value} {o : Oper} {v : Value} (hz : ∀ t z, zeroT P t = some z → plainV z = true) (h : pop P ρ o = some v) (hρ : ORelO β ρ ρ' o) (w : World) :
    ∃ v', (execOp ρ' o).run P w = .ok (.value v') w ∧ VRel β v v' := by
  obtain ⟨dst, op, type, pos, after, guard⟩ := o
  cases op
  case move x => simp only [pop, Option.some.injEq] at h; subst h; exact ⟨_, rfl, hρ x (by simp [Op.operands])⟩
  case assign x => simp only [pop, Option.some.injEq] at h; subst h; exact ⟨_, rfl, hρ x (by simp [Op.operands])⟩
  case pick c a b =>
    simp only [pop] at h
    split at h
    · rename_i t ht
      simp only [Option.some.injEq] at h
      have hc := hρ c (by simp [Op.operands])
      rw [ht] at hc
      cases hc' : ρ' c <;> rw [hc'] at hc <;> cases hc
      subst h
      refine ⟨if t then ρ' a else ρ' b, by simp only [execOp, hc', asBool, Sem.run_bind, Sem.run_pure, Result.andThen_ok], ?_⟩
      cases t
      · exact hρ b (by simp [Op.operands])
      · exact hρ a (by simp [Op.operands])
    · simp at h
  case nilCheck x =>
    simp only [pop] at h
    have hx := hρ x (by simp [Op.operands])
    split at h
    · rename_i a ha
      simp only [Option.some.injEq] at h
      rw [ha] at hx
      cases hx' : ρ' x <;> rw [hx'] at hx <;> cases hx
      subst h
      refine ⟨_, by simp only [execOp, hx']; rfl, .ptr (by assumption)⟩
    · rename_i f a b ha
      simp only [Option.some.injEq] at h
      rw [ha] at hx
      cases hx' : ρ' x <;> rw [hx'] at hx <;> cases hx
      subst h
      refine ⟨_, by simp only [execOp, hx']; rfl, .func (by assumption) (by assumption)⟩
    · rename_i t u ha
      simp only [Option.some.injEq] at h
      rw [ha] at hx
      cases hx' : ρ' x <;> rw [hx'] at hx <;> cases hx
      subst h
      refine ⟨_, by simp only [execOp, hx']; rfl, .iface (by assumption)⟩
    · simp at h
  case binOp op t x y yt =>
    obtain ⟨hr, hv⟩ := binV_sim x y h (hρ x (by simp [Op.operands])) (hρ y (by simp [Op.operands])) w
    refine ⟨v, ?_, hv⟩
    simp only [execOp]
    rw [Sem.run_bind, hr]
    rfl
  case unOp op t x =>
    obtain ⟨hr, hv⟩ := unV_sim h (hρ x (by simp [Op.operands])) w
    exact ⟨v, by simp only [execOp]; rw [Sem.run_bind, hr]; rfl, hv⟩
  case convert s d x =>
    obtain ⟨hr, hv⟩ := convV_sim h (hρ x (by simp [Op.operands])) w
    exact ⟨v, by simp only [execOp]; rw [Sem.run_bind, hr]; rfl, hv⟩
  case sliceToArrayPointer t x =>
    obtain ⟨v', hr, hv⟩ := s2apV_sim h (hρ x (by simp [Op.operands])) w
    exact ⟨v', by simp only [execOp]; rw [Sem.run_bind, hr]; rfl, hv⟩
  case makeInterface t x =>
    simp only [pop, Option.ite_none_right_eq_some, Option.some.injEq] at h
    obtain ⟨⟨h7, hs⟩, rfl⟩ := h
    refine ⟨.iface t (ρ' x), ?_, .iface (hρ x (by simp [Op.operands]))⟩
    obtain ⟨d, hd⟩ := Option.isSome_iff_exists.1 hs
    simp only [execOp, Instr.makeInterface, Sem.run_bind, run_underlying hd, Result.andThen_ok]
    cases d <;> first | rfl | (simp [kindT, hd] at h7)
  case makeFunc fn first cap =>
    cases fn <;> simp only [pop, Option.some.injEq, reduceCtorEq] at h
    rename_i f
    subst h
    refine ⟨.func (.func f) ⟨first.toList.map ρ'⟩ ⟨cap.toList.map ρ'⟩, ?_, .func (.of_map fun x hx => hρ x ?_) (.of_map fun x hx => hρ x ?_)⟩
    · simp only [execOp, Instr.makeFunc, Sem.run_bind, Sem.run_pure, Result.andThen_ok]
      congr 3 <;> (apply Array.ext'; simp)
    · simp [Op.operands]; exact .inl (by simpa using hx)
    · simp [Op.operands]; exact .inr (by simpa using hx)
  case slice t x lo hi mx =>
    obtain ⟨v', hr, hv⟩ := sliceV_sim (lo' := lo.map ρ') (hi' := hi.map ρ') (mx' := mx.map ρ') h (hρ x (by simp [Op.operands])) (.of_map fun y hy => hρ y (by subst hy; simp [Op.operands])) (.of_map fun y hy => hρ y (by subst hy; simp [Op.operands])) (.of_map fun y hy => hρ y (by subst hy; simp [Op.operands])) w
    exact ⟨v', by simp only [execOp]; rw [Sem.run_bind, hr]; rfl, hv⟩
  case fieldAddr t x f =>
    obtain ⟨v', hr, hv⟩ := fieldAddrV_sim h (hρ x (by simp [Op.operands])) w
    exact ⟨v', by simp only [execOp]; rw [Sem.run_bind, hr]; rfl, hv⟩
  case field t x f =>
    obtain ⟨v', hr, hv⟩ := fieldV_sim h (hρ x (by simp [Op.operands])) w
    exact ⟨v', by simp only [execOp]; rw [Sem.run_bind, hr]; rfl, hv⟩
  case indexAddr t x i =>
    obtain ⟨v', hr, hv⟩ := indexAddrV_sim h (hρ x (by simp [Op.operands])) (hρ i (by simp [Op.operands])) w
    exact ⟨v', by simp only [execOp]; rw [Sem.run_bind, hr]; rfl, hv⟩
  case index t x i =>
    obtain ⟨v', hr, hv⟩ := indexV_sim h (hρ x (by simp [Op.operands])) (hρ i (by simp [Op.operands])) w
    exact ⟨v', by simp only [execOp]; rw [Sem.run_bind, hr]; rfl, hv⟩
  case extract t i =>
    simp only [pop] at h
    have hx := hρ t (by simp [Op.operands])
    split at h
    · rename_i vs hvs
      rw [hvs] at hx
      cases hx' : ρ' t <;> rw [hx'] at hx <;> cases hx
      rename_i ys hl
      obtain ⟨v', hv, hr⟩ := hl.get i v h
      refine ⟨v', ?_, hr⟩
      simp [execOp, hx', Instr.extract, hv]
    · simp at h
  case build t parts =>
    obtain ⟨v', hr, hv⟩ := buildV_sim (parts' := parts.toList.map fun p => (p.1, ρ' p.2)) h (.of_map fun x hx => hρ x (by simp [Op.operands] at hx ⊢; exact hx)) (hz t) w
    refine ⟨v', ?_, hv⟩
    simp only [execOp]
    have e : (parts.map fun (p : Nat × Operand) => (p.1, ρ' p.2)) = (parts.toList.map fun p => (p.1, ρ' p.2)).toArray := by apply Array.ext'; simp
    rw [Sem.run_bind, e, hr]
    rfl
  case call c =>
    obtain ⟨callee, args, argTypes⟩ := c
    simp only [pop] at h
    have hops : ∀ x, x ∈ args.toList → VRel β (ρ x) (ρ' x) := fun x hx => hρ x (by simp [Op.operands, Call.operands]; exact .inr (by simpa using hx))
    split at h
    · rename_i x hx
      simp only [Option.bind_eq_some_iff] at h
      obtain ⟨t, ht, h⟩ := h
      obtain ⟨hr, hv⟩ := lenV_sim (ty := type) h ht (hops x (by simp [hx])) w
      refine ⟨v, ?_, hv⟩
      have e : args.map ρ' = #[ρ' x] := by apply Array.ext'; simp [hx]
      simp only [execOp, resolve, Sem.run_bind, Sem.run_pure, Result.andThen_ok, invoke, builtin, e, hr]
    · rename_i x hx
      simp only [Option.bind_eq_some_iff] at h
      obtain ⟨t, ht, h⟩ := h
      obtain ⟨hr, hv⟩ := capV_sim (ty := type) h ht (hops x (by simp [hx])) w
      refine ⟨v, ?_, hv⟩
      have e : args.map ρ' = #[ρ' x] := by apply Array.ext'; simp [hx]
      simp only [execOp, resolve, Sem.run_bind, Sem.run_pure, Result.andThen_ok, invoke, builtin, e, hr]
    · split at h
      · rename_i hp
        obtain ⟨hr, hv⟩ := prunP_run h w
        refine ⟨v, ?_, .of_plain hv⟩
        have e : args.map ρ' = ⟨args.toList.map ρ⟩ := by apply Array.ext'; rw [Array.toList_map, plain_args hops hp]
        simp only [execOp, resolve, Sem.run_bind, Sem.run_pure, Result.andThen_ok, invoke, builtin, e, hr]
      · simp at h
    · split at h
      · rename_i hp
        obtain ⟨hr, hv⟩ := prunP_run h w
        refine ⟨v, ?_, .of_plain hv⟩
        have e : args.map ρ' = ⟨args.toList.map ρ⟩ := by apply Array.ext'; rw [Array.toList_map, plain_args hops hp]
        simp only [execOp, resolve, Sem.run_bind, Sem.run_pure, Result.andThen_ok, invoke, builtin, e, hr]
      · simp at h
    · simp at h
  all_goals simp [pop] at h
end Go.Am

/- Keys of maps: may a value be a key, where is it found. -/
namespace Go.Am
open Go

theorem part_seg {P : Program} {t : TypeId} {ks : List LK} {d : Nat} {cs : List Value} {off : Nat} (hk : leafKinds P d t = some ks) (hsz : szT P t = some ks.length) (hl : off + ks.length ≤ cs.length) (w : World) :
    (part t ⟨cs⟩ off).run P w = .ok (valOf P t ((cs.drop off).take ks.length)) w :=
  part_valOf w (leafKinds_agg hk).1 hsz hl (leafKinds_agg hk).2

theorem ckFields_run {P : Program} (em : Bool) (d D : Nat) (ih : ∀ (t : TypeId) (ks : List LK) (xs : List Value), leafKinds P d t = some ks → xs.length = ks.length →
    ∀ w : World, (Instr.checkKey em D t (valOf P t xs)).run P w = .ok () w) (F : Field → PUnit → Sem (ForInStep PUnit))
    (hF : ∀ (xs : List Value) (f : Field) (w : World) (v : Value), f.name ≠ "_" → (part f.type ⟨xs⟩ f.offset).run P w = .ok v w → (Instr.checkKey em D f.type v).run P w = .ok () w → True) (xs : List Value)
    (hF' : ∀ (f : Field) (w : World) (v : Value), f.name ≠ "_" → (part f.type ⟨xs⟩ f.offset).run P w = .ok v w → (Instr.checkKey em D f.type v).run P w = .ok () w → (F f PUnit.unit).run P w = .ok (ForInStep.yield PUnit.unit) w) :
    ∀ (fs : List Field) (off : Nat) (ks : List LK) (w : World), lkSum P (leafKinds P d) off fs = some ks → off + ks.length ≤ xs.length →
      (forIn fs PUnit.unit F : Sem PUnit).run P w = .ok PUnit.unit w
  | [], _, _, w, _, _ => by simp
  | f :: fs, off, ks, w, h, hl => by
    simp only [lkSum] at h
    split at h
    · rename_i hf
      split at h
      · rename_i js hjs
        split at h
        · rename_i hsz
          simp only [Option.map_eq_some_iff] at h
          obtain ⟨rs, hrs, rfl⟩ := h
          simp only [List.length_append] at hl
          have rest := ckFields_run em d D ih F hF xs hF' fs (off + js.length) rs w hrs (by omega)
          have hp := part_seg hjs hsz (show off + js.length ≤ xs.length by omega) w
          have hc := ih f.type js ((xs.drop off).take js.length) hjs (by simp; omega) w
          simp only [List.forIn_cons, Sem.run_bind]
          rw [hF' f w _ hf.1 (by rw [hf.2]; exact hp) hc, Result.andThen_ok]
          exact rest
        · simp at h
      · simp at h
    · simp at h

theorem ckItems_run {P : Program} (em : Bool) (d D : Nat) {e : TypeId} {ks : List LK} (hk : leafKinds P d e = some ks) (hsz : szT P e = some ks.length)
    (ih : ∀ (xs : List Value), xs.length = ks.length → ∀ w : World, (Instr.checkKey em D e (valOf P e xs)).run P w = .ok () w) (F : Nat → PUnit → Sem (ForInStep PUnit)) (xs : List Value)
    (hF : ∀ (i : Nat) (w : World) (v : Value), (part e ⟨xs⟩ (i * ks.length)).run P w = .ok v w → (Instr.checkKey em D e v).run P w = .ok () w → (F i PUnit.unit).run P w = .ok (ForInStep.yield PUnit.unit) w) :
    ∀ (n i : Nat) (w : World), (i + n) * ks.length ≤ xs.length → (forIn (List.range' i n) PUnit.unit F : Sem PUnit).run P w = .ok PUnit.unit w
  | 0, i, w, _ => by simp
  | n + 1, i, w, hl => by
    have hle : i * ks.length + ks.length ≤ xs.length := by
      have : (i + 1) * ks.length ≤ (i + (n + 1)) * ks.length := Nat.mul_le_mul_right _ (by omega)
      rw [Nat.add_mul, Nat.one_mul] at this
      omega
    have rest := ckItems_run em d D hk hsz ih F xs hF n (i + 1) w (by rw [show i + 1 + n = i + (n + 1) by omega]; exact hl)
    have hp := part_seg hk hsz hle w
    have hc := ih ((xs.drop (i * ks.length)).take ks.length) (by simp; omega) w
    rw [List.range'_succ]
    simp only [List.forIn_cons, Sem.run_bind]
    rw [hF i w _ hp hc, Result.andThen_ok]
    exact rest

theorem ck_run {P : Program} (em : Bool) : ∀ (d : Nat) (t : TypeId) (ks : List LK) (xs : List Value), leafKinds P d t = some ks → xs.length = ks.length →
    ∀ (D : Nat) (w : World), (Instr.checkKey em (D + d + 1) t (valOf P t xs)).run P w = .ok () w
  | 0, _, _, _, h, _, _, _ => by simp [leafKinds] at h
  | d + 1, t, ks, xs, h, hl, D, w => by
    have ihM : ∀ (t : TypeId) (ks : List LK) (ys : List Value), leafKinds P d t = some ks → ys.length = ks.length → ∀ w : World, (Instr.checkKey em (D + (d + 1)) t (valOf P t ys)).run P w = .ok () w :=
      fun t ks ys hk hy w => ck_run em d t ks ys hk hy D w
    generalize D + (d + 1) = M at ihM ⊢
    simp only [leafKinds] at h
    cases hu : P.underlying t with
    | none => simp [hu] at h
    | some DD =>
      cases DD with
      | int j => simp [Instr.checkKey, run_underlying hu]
      | bool => simp [Instr.checkKey, run_underlying hu]
      | string => simp [Instr.checkKey, run_underlying hu]
      | pointer j => simp [Instr.checkKey, run_underlying hu]
      | array n e =>
        simp only [hu] at h
        split at h
        · rename_i js hjs
          split at h
          · rename_i hsz
            simp only [Option.some.injEq] at h
            subst h
            simp only [valOf, aggT, hu, Option.map_some, aggD]
            simp only [Instr.checkKey, Sem.run_bind, run_underlying hu, Result.andThen_ok]
            simp only [Std.Legacy.Range.forIn_eq_forIn_range', Std.Legacy.Range.size, Nat.sub_zero, Nat.add_one_sub_one, Nat.div_one]
            refine (congrArg (Result.andThen · _) (ckItems_run em d M hjs hsz (fun ys hy w => ihM e js ys hjs hy w) _ xs (fun i w v hp hc => ?_) n 0 w (by simp at hl; simp [hl]))).trans ?_
            · simp only [Sem.run_bind, run_sizeOf' w hsz, Result.andThen_ok, hp, hc, Sem.run_pure]
            · rfl
          · simp at h
        · simp at h
      | struct fs =>
        simp only [hu] at h
        split at h
        · simp at h
        · simp only [valOf, aggT, hu, Option.map_some, aggD]
          simp only [Instr.checkKey, Sem.run_bind, run_underlying hu, Result.andThen_ok]
          rw [← Array.forIn_toList]
          refine (congrArg (Result.andThen · _) (ckFields_run em d M ihM _ (fun _ _ _ _ _ _ _ => trivial) xs (fun f w v hn hp hc => ?_) fs.toList 0 ks w h (by omega))).trans ?_
          · simp only [ne_eq, hn, not_false_eq_true, if_true, Sem.run_bind, hp, hc, Result.andThen_ok, Sem.run_pure]
          · rfl
      | _ => simp [hu] at h

/-- May it be a key of that type? -/
def keyOK (P : Program) (t : TypeId) (k : Value) : Bool :=
  match k with
  | .int _ _ => match P.underlying t with | some (.int _) => true | _ => false
  | .string _ => match P.underlying t with | some .string => true | _ => false
  | .bool _ => match P.underlying t with | some .bool => true | _ => false
  | .agg ⟨xs⟩ => match eqKs P t with | some ks => aggT P t = some true && xs.length == ks.length && plainL xs | none => false
  | _ => false

theorem keyOK_plain {P : Program} {t : TypeId} {k : Value} (h : keyOK P t k = true) : plainV k = true := by
  unfold keyOK at h
  split at h
  · rfl
  · rfl
  · rfl
  · split at h
    · simp only [Bool.and_eq_true] at h; simpa [plainV] using h.2
    · simp at h
  · simp at h

theorem ck_scalar {P : Program} {t : TypeId} {k : Value} {D : TypeDesc} (hu : P.underlying t = some D) (hD : match D with | .int _ | .string | .bool => True | _ => False) (em : Bool) (d : Nat) (w : World) : (Instr.checkKey em (d + 1) t k).run P w = .ok () w := by
  cases D <;> first | exact hD.elim | (simp [Instr.checkKey, run_underlying hu])

theorem keyOK_run {P : Program} {t : TypeId} {k : Value} (h : keyOK P t k = true) (em : Bool) (w : World) : (Instr.checkKey em 10000 t k).run P w = .ok () w := by
  unfold keyOK at h
  split at h
  · split at h
    · rename_i hu; exact ck_scalar hu trivial em 9999 w
    · simp at h
  · split at h
    · rename_i hu; exact ck_scalar hu trivial em 9999 w
    · simp at h
  · split at h
    · rename_i hu; exact ck_scalar hu trivial em 9999 w
    · simp at h
  · rename_i xs
    split at h
    · rename_i ks hks
      simp only [Bool.and_eq_true, beq_iff_eq, decide_eq_true_eq] at h
      unfold eqKs at hks
      split at hks
      · simp at hks
      · have := ck_run em 50 t ks xs hks h.1.2 9949 w
        simp only [valOf, h.1.1] at this
        exact this
    · simp at h
  · simp at h

theorem equal_succ {P : Program} {t : TypeId} {x y : Value} {b : Bool} {w : World} (h : ∀ d, (Op.equalIn (d + 1) t x y).run P w = .ok b w) : (Op.equal t x y).run P w = .ok b w := h 9999

/-- Where a key is. -/
def findE (P : Program) (t : TypeId) (k : Value) : List MapEntry → Nat → Option (Option (Nat × Value))
  | [], _ => some none
  | e :: es, i => (eqV P t k e.key).bind fun b => if b then some (some (i, e.val)) else findE P t k es (i + 1)

theorem eqV_equal {P : Program} {t : TypeId} {x y : Value} {b : Bool} (h : eqV P t x y = some b) (hk : keyOK P t x = true) (hy : plainV y = true) (w : World) : (Op.equal t x y).run P w = .ok b w := by
  unfold keyOK at hk
  split at hk
  · split at hk
    · rename_i k n K hu
      unfold eqV at h
      split at h <;> simp_all
      obtain ⟨rfl, rfl⟩ := h
      exact equal_succ fun d => run_equalIn_int w d t _ _ _ _ hu
    · simp at hk
  · split at hk
    · rename_i s hu
      unfold eqV at h
      split at h <;> simp_all
      subst h
      exact equal_succ fun d => run_equalIn_string w d t _ _ hu
    · simp at hk
  · split at hk
    · rename_i s hu
      unfold eqV at h
      split at h <;> simp_all
      obtain ⟨_, rfl⟩ := h
      exact equal_succ fun d => run_equalIn_bool w d t _ _ hu
    · simp at hk
  · rename_i xs
    cases y with
    | agg ys =>
      obtain ⟨ys⟩ := ys
      simp only [eqV, Option.bind_eq_some_iff, Option.ite_none_right_eq_some] at h
      obtain ⟨ks, hks, ha, h⟩ := h
      exact (eqKs_run hks ha h w).1
    | _ => simp [eqV] at h
  · simp at hk

/-- What was found, side by side. -/
inductive FRel (β : Inj) : Option (Nat × Value) → Option (Nat × Value) → Prop
  | no : FRel β none none
  | yes {i : Nat} {v v' : Value} : VRel β v v' → FRel β (some (i, v)) (some (i, v'))

theorem findAsking_run {P : Program} {β : Inj} {t : TypeId} {k : Value} (hk : keyOK P t k = true) : ∀ {es es' : List MapEntry} {i : Nat} {r : Option (Nat × Value)}, findE P t k es i = some r → (∀ e ∈ es, plainV e.key = true) → ERel β es es' → ∀ w : World,
    ∃ r', (Instr.findAsking t k es' i).run P w = .ok r' w ∧ FRel β r r'
  | [], _, i, r, h, _, .nil, w => by
    simp only [findE, Option.some.injEq] at h
    subst h
    exact ⟨none, rfl, .no⟩
  | e :: es, _, i, r, h, hp, .cons (e' := e') h1 h2 h3 h4, w => by
    simp only [findE, Option.bind_eq_some_iff] at h
    obtain ⟨b, hb, h⟩ := h
    have hke := h1.plain (hp e (by simp))
    have he := eqV_equal hb hk (hp e (by simp)) w
    cases b with
    | true =>
      simp only [if_true, Option.some.injEq] at h
      subst h
      exact ⟨some (i, e'.val), by simp only [Instr.findAsking, hke, Sem.run_bind, he, Result.andThen_ok, if_true]; rfl, .yes h2⟩
    | false =>
      simp only [Bool.false_eq_true, if_false] at h
      obtain ⟨r', hr', hm⟩ := findAsking_run hk h (fun e he => hp e (by simp [he])) h4 w
      exact ⟨r', by simp only [Instr.findAsking, hke, Sem.run_bind, he, Result.andThen_ok, Bool.false_eq_true, if_false]; exact hr', hm⟩

theorem sameNow_equal {P : Program} {t : TypeId} {k y : Value} {D : TypeDesc} {b : Bool} (hu : P.underlying t = some D) (h : Instr.sameNow D k y = some b) (w : World) : (Op.equal t k y).run P w = .ok b w := by
  unfold Instr.sameNow at h
  split at h
  · split at h
    · rename_i hkk
      simp only [Option.some.injEq] at h
      subst h hkk
      exact equal_succ fun d => run_equalIn_int w d t _ _ _ _ hu
    · simp at h
  · simp only [Option.some.injEq] at h
    subst h
    rw [beq_toListBytes]
    exact equal_succ fun d => run_equalIn_string w d t _ _ hu
  · simp only [Option.some.injEq] at h
    subst h
    exact equal_succ fun d => run_equalIn_bool w d t _ _ hu
  · simp at h

theorem findNow_agree {P : Program} {t : TypeId} {k : Value} {D : TypeDesc} (hu : P.underlying t = some D) (w : World) : ∀ (es : List MapEntry) (i : Nat) (r : Option (Nat × Value)), Instr.findNow D k es i = some r →
    (∀ e ∈ es, ∀ b, Instr.sameNow D k e.key = some b → (Op.equal t k e.key).run P w = .ok b w) → (Instr.findAsking t k es i).run P w = .ok r w
  | [], i, r, h, _ => by simp only [Instr.findNow, Option.some.injEq] at h; subst h; rfl
  | e :: es, i, r, h, hb => by
    simp only [Instr.findNow] at h
    split at h
    · rename_i hs
      simp only [Option.some.injEq] at h
      subst h
      simp only [Instr.findAsking, Sem.run_bind, hb e (by simp) _ hs, Result.andThen_ok, if_true]
      rfl
    · rename_i hs
      simp only [Instr.findAsking, Sem.run_bind, hb e (by simp) _ hs, Result.andThen_ok, Bool.false_eq_true, if_false]
      exact findNow_agree hu w es (i + 1) r h fun e he => hb e (by simp [he])
    · simp at h

theorem findKey_run {P : Program} {β : Inj} {t : TypeId} {k : Value} (hk : keyOK P t k = true) {es es' : List MapEntry} {r : Option (Nat × Value)} (h : findE P t k es 0 = some r) (hp : ∀ e ∈ es, plainV e.key = true) (he : ERel β es es') (w : World) :
    ∃ r', (Instr.findKey t k es').run P w = .ok r' w ∧ FRel β r r' := by
  obtain ⟨r', hr, hm⟩ := findAsking_run hk h hp he w
  refine ⟨r', ?_, hm⟩
  have hD : ∃ D, P.underlying t = some D := by
    unfold keyOK at hk
    split at hk
    · split at hk <;> first | exact ⟨_, by assumption⟩ | simp at hk
    · split at hk <;> first | exact ⟨_, by assumption⟩ | simp at hk
    · split at hk <;> first | exact ⟨_, by assumption⟩ | simp at hk
    · split at hk
      · simp only [Bool.and_eq_true, decide_eq_true_eq] at hk
        have := hk.1.1
        simp only [aggT, Option.map_eq_some_iff] at this
        exact ⟨_, this.choose_spec.1⟩
      · simp at hk
    · simp at hk
  obtain ⟨D, hu⟩ := hD
  simp only [Instr.findKey, Sem.run_bind, run_underlying hu, Result.andThen_ok]
  cases hn : Instr.findNow D k es' 0 with
  | none => simp only [hn]; exact hr
  | some q =>
    have := findNow_agree (P := P) (t := t) hu w es' 0 q hn (fun e _ b hs => sameNow_equal hu hs w)
    rw [hr] at this
    simp only [Result.ok.injEq, and_true] at this
    subst this
    simp [hn]
end Go.Am

/- The operations that read one object, and those that make one. -/
namespace Go.Am
open Go

theorem cells_list {β : Inj} {w : World} {b : Nat} : ∀ (c : List Value) (base : Nat), (∀ (i : Nat) (v : Value), c[i]? = some v → ∃ v', w.cell? ⟨b, base + i, none⟩ = some v' ∧ VRel β v v') →
    ∃ c', LRel β c c' ∧ ∀ (j : Nat) (v : Value), c'[j]? = some v → w.cell? ⟨b, base + j, none⟩ = some v
  | [], base, _ => ⟨[], .nil, fun j v h => by simp at h⟩
  | x :: c, base, h => by
    obtain ⟨x', hx, hr⟩ := h 0 x rfl
    obtain ⟨c', hc, hj⟩ := cells_list c (base + 1) (fun i v e => by
      have := h (i + 1) v (by simpa using e)
      rwa [show base + 1 + i = base + (i + 1) by omega])
    refine ⟨x' :: c', .cons hr hc, fun j v e => ?_⟩
    cases j with
    | zero => simp at e; subst e; exact hx
    | succ j =>
      have := hj j v (by simpa using e)
      rwa [show base + (j + 1) = base + 1 + j by omega]

theorem load_segs {P : Program} {β : Inj} {w : World} {b base : Nat} {c : List Value} (h : ∀ (i : Nat) (v : Value), c[i]? = some v → ∃ v', w.cell? ⟨b, base + i, none⟩ = some v' ∧ VRel β v v') {off n : Nat} (hl : off + n ≤ c.length) :
    ∃ s', (∀ w' : World, w'.heap = w.heap → (loadCells ⟨b, base + off, none⟩ n).run P w' = .ok ⟨s'⟩ w') ∧ LRel β ((c.drop off).take n) s' := by
  obtain ⟨c', hc, hj⟩ := cells_list c base h
  have hlen := hc.length
  refine ⟨(c'.drop off).take n, fun w' hw' => ?_, (hc.drop off).take n⟩
  have e : n = ((c'.drop off).take n).length := by simp; omega
  have := run_loadCells_list (P := P) w' ⟨b, base + off, none⟩ ((c'.drop off).take n) (fun j v hv => by
    rw [Addr.add_mk, Nat.add_assoc]
    have hcell : ∀ a : Addr, w'.cell? a = w.cell? a := fun a => by simp [World.cell?, hw']
    rw [hcell]
    refine hj (off + j) v ?_
    rw [List.getElem?_take] at hv
    split at hv
    · rwa [List.getElem?_drop] at hv
    · simp at hv)
  rw [← e] at this
  exact this

theorem load_seg {P : Program} {β : Inj} {w : World} {b base : Nat} {c : List Value} (h : ∀ (i : Nat) (v : Value), c[i]? = some v → ∃ v', w.cell? ⟨b, base + i, none⟩ = some v' ∧ VRel β v v') {off n : Nat} (hl : off + n ≤ c.length) :
    ∃ s', (loadCells ⟨b, base + off, none⟩ n).run P w = .ok ⟨s'⟩ w ∧ LRel β ((c.drop off).take n) s' := by
  obtain ⟨s', h1, h2⟩ := load_segs (P := P) h hl
  exact ⟨s', h1 w rfl, h2⟩

/-- A variable's value out of an object. -/
def aLoad (P : Program) (t : TypeId) (obj : AObj) (off : Nat) : Option Value :=
  match obj with
  | .cells c _ _ => match aggT P t with
    | some true => (szT P t).bind fun n => if off + n ≤ c.length then some (.agg ⟨(c.drop off).take n⟩) else none
    | some false => c[off]?
    | none => none
  | _ => none

def aBytes : List Value → Option (List UInt8)
  | [] => some []
  | .int .u8 n :: vs => (aBytes vs).map fun l => UInt8.ofNat n.toNat :: l
  | _ :: _ => none

/-- What a look-up gives. -/
def foundV (P : Program) (et : TypeId) (ok : Bool) (r : Option (Nat × Value)) : Option Value :=
  match r with
  | some (_, v) => some (if ok then .tuple ⟨[v, .bool true]⟩ else v)
  | none => (zeroT P et).map fun z => if ok then .tuple ⟨[z, .bool false]⟩ else z

def keysPlain (es : List MapEntry) : Bool := es.all fun e => plainV e.key

/-- Operations that read one object: its handle, if there is one, and what they make of it. -/
def rop (P : Program) (ρ : Operand → Value) (o : Oper) : Option (Option Nat × (AObj → Option Value)) :=
  match o.op with
  | .load t a => match ρ a with | .pointer (some ⟨b, o, none⟩) => some (some b, fun obj => aLoad P t obj o) | _ => none
  | .lookup t m k ok =>
    match P.underlying t with
    | some (.map kt et) =>
      if keyOK P kt (ρ k) then
        match ρ m with
        | .map none => some (none, fun _ => foundV P et ok none)
        | .map (some h) => some (some h, fun obj => match obj with | .map es _ => if keysPlain es then (findE P kt (ρ k) es 0).bind (foundV P et ok) else none | _ => none)
        | _ => none
      else none
    | _ => none
  | .convert s d x =>
    match P.underlying s, P.underlying d with
    | some (.slice e), some .string => match P.underlying e with
      | some (.int .u8) => match ρ x with
        | .slice none 0 0 => some (none, fun _ => some (.string .empty))
        | .slice (some ⟨b, o, none⟩) n _ => if n = 0 then some (none, fun _ => some (.string .empty)) else some (some b, fun obj => match obj with
          | .cells c _ _ => if o + n ≤ c.length then (aBytes ((c.drop o).take n)).map fun l => .string ⟨⟨l⟩⟩ else none
          | _ => none)
        | _ => none
      | _ => none
    | _, _ => none
  | .call c =>
    match c.callee, c.args.toList with
    | .builtin .len, [x] => (c.argTypes[0]?).bind fun t => match P.underlying t with
      | some (.map _ _) => match ρ x with
        | .map none => some (none, fun _ => some (.int .i64 0))
        | .map (some h) => some (some h, fun obj => match obj with | .map es _ => some (.int .i64 es.length) | _ => none)
        | _ => none
      | _ => none
    | _, _ => none
  | _ => none

theorem aBytes_ints : ∀ {vs : List Value} {l : List UInt8}, aBytes vs = some l → ∃ ns : List Int, vs = ns.map (Value.int .u8) ∧ l = ns.map fun n => UInt8.ofNat n.toNat
  | [], l, h => by simp only [aBytes, Option.some.injEq] at h; subst h; exact ⟨[], rfl, rfl⟩
  | v :: vs, l, h => by
    unfold aBytes at h
    split at h
    · simp at *
    · rename_i n ws heq
      simp only [List.cons.injEq] at heq
      obtain ⟨rfl, rfl⟩ := heq
      simp only [Option.map_eq_some_iff] at h
      obtain ⟨l', hl, rfl⟩ := h
      obtain ⟨ns, rfl, rfl⟩ := aBytes_ints hl
      exact ⟨n :: ns, rfl, rfl⟩
    · simp at h

theorem foldl_push_bytes : ∀ (ns : List Int) (s : ByteArray), ns.foldl (fun r n => r.push (UInt8.ofNat n.toNat)) s = ⟨⟨s.data.toList ++ ns.map fun n => UInt8.ofNat n.toNat⟩⟩
  | [], s => by obtain ⟨⟨l⟩⟩ := s; simp
  | n :: ns, s => by
    rw [List.foldl_cons, foldl_push_bytes ns]
    obtain ⟨⟨l⟩⟩ := s
    simp [ByteArray.push]

theorem ERel.length {β : Inj} {a b : List MapEntry} (h : ERel β a b) : b.length = a.length := by
  induction h with
  | nil => rfl
  | cons _ _ _ _ ih => simp [ih]

theorem run_getObj_map' {P : Program} {w : World} {b : Nat} {es : Array MapEntry} {clock : Nat} (h : w.heap[b]? = some (.map es clock)) : (getObj b).run P w = .ok (.map es clock) w := by
  simp [getObj, Sem.run, h]

theorem rop_sim {P : Program} {β : Inj} {ρ ρ' : Operand → Value} {o : Oper} {hd : Option Nat} {f : AObj → Option Value} {obj : AObj} {v : Value} {w : World} (hz : ∀ t z, zeroT P t = some z → plainV z = true)
    (h : rop P ρ o = some (hd, f)) (hf : f obj = some v) (hρ : ORelO β ρ ρ' o) (ho : ∀ h, hd = some h → ∀ l, β h = some l → ORel β l w obj) :
    ∃ v', (execOp ρ' o).run P w = .ok (.value v') w ∧ VRel β v v' := by
  obtain ⟨dst, op, type, pos, after, guard⟩ := o
  cases op
  case load t a =>
    simp only [rop] at h
    have ha := hρ a (by simp [Op.operands])
    split at h
    · rename_i b off hb
      simp only [Option.some.injEq, Prod.mk.injEq] at h
      obtain ⟨rfl, rfl⟩ := h
      rw [hb] at ha
      cases ha' : ρ' a <;> rw [ha'] at ha <;> cases ha
      rename_i l hl
      have hobj := ho b rfl l hl
      cases obj with
      | cells c T wr =>
        simp only [ORel] at hobj
        simp only [aLoad] at hf
        split at hf
        · rename_i hag
          simp only [Option.bind_eq_some_iff, Option.ite_none_right_eq_some, Option.some.injEq] at hf
          obtain ⟨n, hn, hlen, rfl⟩ := hf
          obtain ⟨s', hs, hr⟩ := load_seg (P := P) hobj.1 hlen
          refine ⟨.agg ⟨s'⟩, ?_, .agg hr⟩
          simp only [execOp, ha', Instr.loadAt, Instr.sureAddr, loadVar, Sem.run_bind, Sem.run_pure, Result.andThen_ok, run_isAgg' w hag, if_true, run_sizeOf' w hn, hs]
        · rename_i hag
          obtain ⟨v', hv, hr⟩ := hobj.1 off v hf
          refine ⟨v', ?_, hr⟩
          simp only [execOp, ha', Instr.loadAt, Instr.sureAddr, loadVar, Sem.run_bind, Sem.run_pure, Result.andThen_ok, run_isAgg' w hag, Bool.false_eq_true, if_false, run_load, hv]
        · simp at hf
      | _ => simp [aLoad] at hf
    · simp at h
  case lookup t m k ok =>
    simp only [rop] at h
    have hm := hρ m (by simp [Op.operands])
    have hk := hρ k (by simp [Op.operands])
    split at h
    · rename_i kt et hu
      split at h
      · rename_i hko
        have hkk := hk.plain (keyOK_plain hko)
        have zz : ∀ z, zeroT P et = some z → ∀ w : World, (zeroValue et).run P w = .ok z w := fun z hz w => run_zeroValue' w hz
        split at h
        · rename_i hm0
          simp only [Option.some.injEq, Prod.mk.injEq] at h
          obtain ⟨rfl, rfl⟩ := h
          rw [hm0] at hm
          cases hm' : ρ' m <;> rw [hm'] at hm <;> cases hm
          simp only [foundV, Option.map_eq_some_iff] at hf
          obtain ⟨z, hzz, rfl⟩ := hf
          have hD : ∃ D, P.underlying kt = some D := by
            unfold keyOK at hko
            split at hko
            · split at hko <;> first | exact ⟨_, by assumption⟩ | simp at hko
            · split at hko <;> first | exact ⟨_, by assumption⟩ | simp at hko
            · split at hko <;> first | exact ⟨_, by assumption⟩ | simp at hko
            · split at hko
              · simp only [Bool.and_eq_true, decide_eq_true_eq] at hko
                have := hko.1.1
                simp only [aggT, Option.map_eq_some_iff] at this
                exact ⟨_, this.choose_spec.1⟩
              · simp at hko
            · simp at hko
          obtain ⟨D, hD⟩ := hD
          have hfk : (Instr.findKey kt (ρ k) []).run P w = .ok none w := by
            simp [Instr.findKey, run_underlying hD, Instr.findNow]
          refine ⟨if ok then .tuple ⟨[z, .bool false]⟩ else z, ?_, ?_⟩
          · simp only [execOp, hm', hkk, Instr.lookup, Sem.run_bind, run_underlying hu, Result.andThen_ok, Sem.run_pure, keyOK_run hko, hfk, zz z hzz w]
          · cases ok
            · exact .of_plain (hz et z hzz)
            · exact .tuple (.cons (.of_plain (hz et z hzz)) (.cons (.bool _) .nil))
        · rename_i b hm0
          simp only [Option.some.injEq, Prod.mk.injEq] at h
          obtain ⟨rfl, rfl⟩ := h
          rw [hm0] at hm
          cases hm' : ρ' m <;> rw [hm'] at hm <;> cases hm
          rename_i l hl
          have hobj := ho b rfl l hl
          cases obj with
          | map es clock =>
            simp only [ORel] at hobj
            obtain ⟨es', hblk, her⟩ := hobj
            simp only [Option.ite_none_right_eq_some, Option.bind_eq_some_iff] at hf
            obtain ⟨hkp, r, hr, hf⟩ := hf
            obtain ⟨r', hr', hfr⟩ := findKey_run hko hr (fun e he => List.all_eq_true.1 hkp e he) her w
            cases hfr with
            | no =>
              simp only [foundV, Option.map_eq_some_iff] at hf
              obtain ⟨z, hzz, rfl⟩ := hf
              refine ⟨if ok then .tuple ⟨[z, .bool false]⟩ else z, ?_, ?_⟩
              · simp only [execOp, hm', hkk, Instr.lookup, Sem.run_bind, run_underlying hu, Result.andThen_ok, run_getObj_map' hblk, Sem.run_pure, keyOK_run hko, hr', zz z hzz w]
              · cases ok
                · exact .of_plain (hz et z hzz)
                · exact .tuple (.cons (.of_plain (hz et z hzz)) (.cons (.bool _) .nil))
            | yes hv =>
              rename_i i0 v0 v0'
              simp only [foundV, Option.some.injEq] at hf
              subst hf
              refine ⟨if ok then .tuple ⟨[v0', .bool true]⟩ else v0', ?_, ?_⟩
              · simp only [execOp, hm', hkk, Instr.lookup, Sem.run_bind, run_underlying hu, Result.andThen_ok, run_getObj_map' hblk, Sem.run_pure, keyOK_run hko, hr']
              · cases ok
                · exact hv
                · exact .tuple (.cons hv (.cons (.bool _) .nil))
          | _ => simp at hf
        · simp at h
      · simp at h
    · simp at h
  case convert s d x =>
    simp only [rop] at h
    have hx := hρ x (by simp [Op.operands])
    split at h
    · rename_i e hs hd
      split at h
      · rename_i he
        split at h
        · rename_i hx0
          simp only [Option.some.injEq, Prod.mk.injEq] at h
          obtain ⟨rfl, rfl⟩ := h
          simp only [Option.some.injEq] at hf
          subst hf
          rw [hx0] at hx
          cases hx' : ρ' x <;> rw [hx'] at hx <;> cases hx
          refine ⟨_, ?_, .string _⟩
          simp only [execOp, hx', Sem.run_bind, run_convert_bytes_string w s d e _ _ _ hs he hd]
          rfl
        · rename_i b off n cp hx0
          split at h
          · rename_i hn0
            subst hn0
            simp only [Option.some.injEq, Prod.mk.injEq] at h
            obtain ⟨rfl, rfl⟩ := h
            simp only [Option.some.injEq] at hf
            subst hf
            rw [hx0] at hx
            cases hx' : ρ' x <;> rw [hx'] at hx <;> cases hx
            all_goals (
              refine ⟨_, ?_, .string _⟩
              simp only [execOp, hx', Sem.run_bind, run_convert_bytes_string w s d e _ _ _ hs he hd, run_bytesToString w _ 0 _ [] rfl]
              rfl)
          rename_i hn0
          simp only [Option.some.injEq, Prod.mk.injEq] at h
          obtain ⟨rfl, rfl⟩ := h
          rw [hx0] at hx
          cases obj with
          | cells c T wr =>
            simp only [Option.ite_none_right_eq_some, Option.map_eq_some_iff] at hf
            obtain ⟨hlen, l8, hl8, rfl⟩ := hf
            obtain ⟨ns, hns, rfl⟩ := aBytes_ints hl8
            cases hx' : ρ' x <;> rw [hx'] at hx <;> cases hx
            · rename_i c' l hl h1 h2 h3 h4
              have hobj := ho b rfl l hl
              simp only [ORel] at hobj
              obtain ⟨s', hs', hr⟩ := load_seg (P := P) hobj.1 hlen
              rw [hns] at hr
              have hpl : plainL (ns.map (Value.int .u8)) = true := by
                clear hr hns hl8
                induction ns with
                | nil => rfl
                | cons n ns ih => simp [plainL, plainV, ih]
              have e2 := hr.plain hpl
              subst e2
              refine ⟨_, ?_, .string _⟩
              simp only [execOp, hx', Sem.run_bind, run_convert_bytes_string w s d e _ _ _ hs he hd, run_bytesToString w _ _ _ ns hs', foldl_push_bytes]
              simp
            · rename_i l a' hl hk0
              have hobj := ho b rfl l hl
              have : ns = [] := by
                have := congrArg List.length hns
                simp at this
                exact List.eq_nil_of_length_eq_zero (by simpa using this.symm)
              subst this
              refine ⟨_, ?_, .string _⟩
              simp only [execOp, hx', Sem.run_bind, run_convert_bytes_string w s d e _ _ _ hs he hd, run_bytesToString w a' 0 0 [] rfl]
              rfl
          | _ => simp at hf
        · simp at h
      · simp at h
    · simp at h
  case call c =>
    obtain ⟨callee, args, argTypes⟩ := c
    simp only [rop] at h
    have hops : ∀ x, x ∈ args.toList → VRel β (ρ x) (ρ' x) := fun x hx => hρ x (by simp [Op.operands, Call.operands]; exact .inr (by simpa using hx))
    split at h
    · rename_i x hx
      simp only [Option.bind_eq_some_iff] at h
      obtain ⟨t, ht, h⟩ := h
      have hxx := hops x (by simp [hx])
      have e : args.map ρ' = #[ρ' x] := by apply Array.ext'; simp [hx]
      split at h
      · rename_i hu
        split at h
        · rename_i hx0
          simp only [Option.some.injEq, Prod.mk.injEq] at h
          obtain ⟨rfl, rfl⟩ := h
          simp only [Option.some.injEq] at hf
          subst hf
          rw [hx0] at hxx
          cases hx' : ρ' x <;> rw [hx'] at hxx <;> cases hxx
          refine ⟨_, ?_, .int _ _⟩
          simp only [execOp, resolve, Sem.run_bind, Sem.run_pure, Result.andThen_ok, invoke, builtin, e, hx']
          simp [Builtin.len_, ht, run_underlying hu, goInt]
        · rename_i b hx0
          simp only [Option.some.injEq, Prod.mk.injEq] at h
          obtain ⟨rfl, rfl⟩ := h
          rw [hx0] at hxx
          cases hx' : ρ' x <;> rw [hx'] at hxx <;> cases hxx
          rename_i l hl
          have hobj := ho b rfl l hl
          cases obj with
          | map es clock =>
            simp only [Option.some.injEq] at hf
            subst hf
            simp only [ORel] at hobj
            obtain ⟨es', hblk, her⟩ := hobj
            refine ⟨_, ?_, .int _ _⟩
            simp only [execOp, resolve, Sem.run_bind, Sem.run_pure, Result.andThen_ok, invoke, builtin, e, hx']
            simp [Builtin.len_, ht, run_underlying hu, goInt, run_getObj_map' hblk, her.length]
          | _ => simp at hf
        · simp at h
      · simp at h
    · simp at h
  all_goals simp [rop] at h
end Go.Am

/- The operations that make one object. -/
namespace Go.Am
open Go

/-- One block more. -/
structure Grow (w w' : World) (o : Obj) : Prop where
  size : w'.heap.size = w.heap.size + 1
  new : w'.heap[w.heap.size]? = some o
  old : ∀ k, k < w.heap.size → w'.heap[k]? = w.heap[k]?
  os : w'.os = w.os
  output : w'.output = w.output
  tape : w'.tape = w.tape

theorem Grow.alloc (w : World) (o : Obj) : Grow w (w.alloc o) o where
  size := by simp
  new := by simp [World.alloc, -World.alloc_eq]
  old := fun k hk => by simp only [World.alloc, Array.getElem?_push]; rw [if_neg (by omega)]
  os := rfl
  output := rfl
  tape := rfl

theorem Grow.drew {w w' : World} {o : Obj} (h : Grow w.drew w' o) : Grow w w' o := ⟨h.size, h.new, h.old, h.os, h.output, h.tape⟩

theorem ORel.newCells {β : Inj} {w : World} {b : Nat} {arr : Array Value} {T T' : TypeId} {fr : Nat × Nat} {c c' rest : List Value} (h : w.heap[b]? = some (.cells arr T' fr)) (ha : arr.toList = c' ++ rest) (hc : LRel β c c')
    (hfr : ∀ i, i < arr.size → ¬ (fr.1 ≤ i ∧ i < fr.2)) : ORel β ⟨b, 0, arr.size⟩ w (.cells c T true) := by
  have hl := hc.length
  have hs : arr.size = c'.length + rest.length := by rw [← Array.length_toList, ha]; simp
  refine ⟨fun i v hv => ?_, fun _ => ⟨by simp; omega, arr, T', fr, h, rfl, hfr⟩⟩
  obtain ⟨v', hv', hr⟩ := hc.get i v hv
  refine ⟨v', ?_, hr⟩
  have hi : i < c'.length := (List.getElem?_eq_some_iff.1 hv').1
  simp only [World.cell?, h, Nat.zero_add]
  rw [← Array.getElem?_toList, ha, List.getElem?_append_left hi, hv']
  rfl

/-- Operations that make one object: the object, and the value out of its handle. -/
def nop (P : Program) (ρ : Operand → Value) (o : Oper) : Option (AObj × (Nat → Value)) :=
  match o.op with
  | .alloc t => (zeroT P t).map fun z => (.cells z.cells.toList t true, fun h => .pointer (some ⟨h, 0, none⟩))
  | .box t x => some (.cells (ρ x).cells.toList t true, fun h => .pointer (some ⟨h, 0, none⟩))
  | .buildSlice t n parts =>
    match P.underlying t with
    | some (.slice e) => (szT P e).bind fun sz => if n * sz ≤ 2 ^ 24 ∧ sz ≠ 0 then
        (zeroT P e).bind fun z => if z.cells.toList.length = sz then
          (fillL (fun i => some (i * sz, sz)) (List.replicate n z.cells.toList).flatten (parts.toList.map fun p => (p.1, ρ p.2))).map fun cs => (.cells cs e true, fun h => .slice (some ⟨h, 0, none⟩) n n)
        else none
      else none
    | _ => none
  | .makeMap _ none => some (.map [] 0, fun h => .map (some h))
  | .makeSlice t l c =>
    match P.underlying t, ρ l, ρ c with
    | some (.slice e), .int _ n, .int _ m => (szT P e).bind fun sz => (bytesT P e).bind fun bs => (zeroT P e).bind fun z =>
      if 0 ≤ n ∧ n ≤ m ∧ 0 < bs ∧ bs * m ≤ 2 ^ 48 ∧ sz ≠ 0 ∧ z.cells.toList.length = sz ∧ sz < 1000000000000 then
        some (.cells (List.replicate n.toNat z.cells.toList).flatten e true, fun h => .slice (some ⟨h, 0, none⟩) n.toNat (if n = m then n.toNat else n.toNat + 2 + sz))
      else none
    | _, _, _ => none
  | .convert s d x =>
    match P.underlying s, P.underlying d with
    | some .string, some (.slice e) => match P.underlying e with
      | some (.int .u8) => match ρ x with
        | .string b => some (.cells (b.data.toList.map fun c => .int .u8 c.toNat) e true, fun h => .slice (some ⟨h, 0, none⟩) b.size (b.size + 2 + 1))
        | _ => none
      | _ => none
    | _, _ => none
  | _ => none

theorem flatten_replicate_length {α : Type} (n : Nat) (l : List α) : (List.replicate n l).flatten.length = n * l.length := by simp

theorem nop_sim {P : Program} {β : Inj} {ρ ρ' : Operand → Value} {o : Oper} {obj : AObj} {f : Nat → Value} (w : World) (hz : ∀ t z, zeroT P t = some z → plainV z = true) (h : nop P ρ o = some (obj, f)) (hρ : ORelO β ρ ρ' o) :
    ∃ (w' : World) (v' : Value) (o' : Obj) (lim : Nat), (execOp ρ' o).run P w = .ok (.value v') w' ∧ Grow w w' o' ∧
      ∀ β' h, Inj.Sub β β' → β' h = some ⟨w.heap.size, 0, lim⟩ → ORel β' ⟨w.heap.size, 0, lim⟩ w' obj ∧ VRel β' (f h) v' := by
  have nofr : ∀ (n i : Nat), i < n → ¬ ((0, 0) : Nat × Nat).1 ≤ i ∨ ¬ i < ((0, 0) : Nat × Nat).2 := fun n i _ => by simp
  have nofr' : ∀ (n : Nat), ∀ i, i < n → ¬ (((0, 0) : Nat × Nat).1 ≤ i ∧ i < ((0, 0) : Nat × Nat).2) := fun n i _ => by simp
  obtain ⟨dst, op, type, pos, after, guard⟩ := o
  cases op
  case alloc t =>
    simp only [nop, Option.map_eq_some_iff, Prod.mk.injEq] at h
    obtain ⟨z, hzz, rfl, rfl⟩ := h
    refine ⟨w.alloc (.cells z.cells t), _, _, z.cells.size, by simp only [execOp, Instr.alloc, newVar, newRow, Sem.run_bind, run_zeroValue' w hzz, Result.andThen_ok, run_newObj, Sem.run_pure]; rfl, .alloc w _, fun β' h hs hb => ⟨?_, .ptr (l := ⟨w.heap.size, 0, z.cells.size⟩) hb⟩⟩
    exact .newCells (rest := []) (c' := z.cells.toList) (Grow.alloc w _).new (by simp) (VRel.cells (.of_plain (hz t z hzz))) (nofr' _)
  case box t x =>
    simp only [nop, Option.some.injEq, Prod.mk.injEq] at h
    obtain ⟨rfl, rfl⟩ := h
    have hx := hρ x (by simp [Op.operands])
    refine ⟨w.alloc (.cells (ρ' x).cells t), _, _, (ρ' x).cells.size, by simp only [execOp, Instr.box, newVar, newRow, Sem.run_bind, run_newObj, Result.andThen_ok, Sem.run_pure]; rfl, .alloc w _, fun β' h hs hb => ⟨?_, .ptr (l := ⟨w.heap.size, 0, (ρ' x).cells.size⟩) hb⟩⟩
    exact .newCells (rest := []) (c' := (ρ' x).cells.toList) (Grow.alloc w _).new (by simp) ((hx.mono hs).cells) (nofr' _)
  case buildSlice t n parts =>
    simp only [nop] at h
    split at h
    · rename_i e hu
      simp only [Option.bind_eq_some_iff, Option.ite_none_right_eq_some, Option.map_eq_some_iff, Prod.mk.injEq] at h
      obtain ⟨sz, hsz, ⟨hle, hs0⟩, z, hzz, hzl, cs, hcs, rfl, rfl⟩ := h
      have hzp := hz e z hzz
      have pz : LRel β (List.replicate n z.cells.toList).flatten (List.replicate n z.cells.toList).flatten := by
        have h1 : LRel β z.cells.toList z.cells.toList := VRel.cells (.of_plain hzp)
        clear hle hcs hρ
        induction n with
        | zero => exact .nil
        | succ n ih => rw [List.replicate_succ, List.flatten_cons]; exact h1.append ih
      obtain ⟨out', ho, hr⟩ := fillL_sim (parts' := parts.toList.map fun p => (p.1, ρ' p.2)) hcs pz (.of_map fun x hx => hρ x (by simp [Op.operands] at hx ⊢; exact hx))
      have hlen := hr.length
      have hfl : ∀ (pl : Nat → Option (Nat × Nat)) (ps : List (Nat × Value)) (c1 c2 : List Value), fillL pl c1 ps = some c2 → c2.length = c1.length := by
        intro pl ps
        induction ps with
        | nil => intro c1 c2 h; simp only [fillL, Option.some.injEq] at h; rw [h]
        | cons p ps ih =>
          intro c1 c2 h
          obtain ⟨i, v⟩ := p
          simp only [fillL] at h
          split at h
          · simp at h
          · split at h
            · rename_i hh
              rw [ih _ _ h, lay_length hh.2]
            · simp at h
      have hcl := hfl _ _ _ _ hcs
      rw [flatten_replicate_length, hzl] at hcl
      refine ⟨w.alloc (.cells ⟨out'⟩ e), .slice (some ⟨w.heap.size, 0, none⟩) n n, _, out'.length, ?_, .alloc w _, fun β' h hs hb => ⟨?_, ?_⟩⟩
      · have e1 : (parts.map fun (p : Nat × Operand) => (p.1, ρ' p.2)).toList = parts.toList.map fun p => (p.1, ρ' p.2) := by simp
        have hcells : (Array.range (n * sz)).map (fun i => z.cells[i % z.cells.size]!) = ⟨(List.replicate n z.cells.toList).flatten⟩ := by
          apply Array.ext'
          have hzs : z.cells.size = sz := by rw [← hzl]; simp
          rw [← hzs, zeros_eq]
        have hnot : ¬ (n * sz > 2 ^ 24) := by omega
        simp only [execOp, Instr.buildSlice, Sem.run_bind, run_underlying hu, Result.andThen_ok, run_sizeOf' w hsz]
        rw [if_neg hnot]
        by_cases hn0 : n * sz = 0
        · have n0 : n = 0 := by rcases Nat.mul_eq_zero.1 hn0 with h | h <;> omega
          subst n0
          simp only [Sem.run_bind, hn0, if_true, Sem.run_pure, Result.andThen_ok, Array.range_zero', Array.map_empty, e1]
          have ho' : Instr.fill (fun i => some (i * sz, sz)) #[] (parts.toList.map fun p => (p.1, ρ' p.2)) = some ⟨out'⟩ := ho
          simp only [ho', newRow, Sem.run_bind, run_newObj, Result.andThen_ok, Sem.run_pure, World.alloc_eq]
        · have hzs : z.cells.size = sz := by rw [← hzl]; simp
          simp only [Sem.run_bind, hn0, if_false, run_zeroValue' w hzz, Sem.run_pure, Result.andThen_ok, e1, hcells, ho, newRow, run_newObj, World.alloc_eq]
      · exact .newCells (rest := []) (c' := out') (arr := ⟨out'⟩) (Grow.alloc w _).new (by simp) (hr.mono hs) (nofr' _)
      · exact .slice (l := ⟨w.heap.size, 0, out'.length⟩) hb (Nat.le_refl _) (Nat.le_refl _) (fun _ => rfl) (fun s k _ hs => by omega)
    · simp at h
  case makeMap t r =>
    cases r with
    | none =>
      simp only [nop, Option.some.injEq, Prod.mk.injEq] at h
      obtain ⟨rfl, rfl⟩ := h
      refine ⟨w.alloc (.map #[] 0), _, _, 0, by simp only [execOp, Instr.makeMap, Sem.run_bind, run_newObj, Result.andThen_ok, Sem.run_pure, Option.map_none]; rfl, .alloc w _, fun β' h hs hb => ⟨?_, .map (l := ⟨w.heap.size, 0, 0⟩) hb⟩⟩
      exact ⟨[], (Grow.alloc w _).new, .nil⟩
    | some x => simp [nop] at h
  case makeSlice t l c =>
    simp only [nop] at h
    have hl' := hρ l (by simp [Op.operands])
    have hc' := hρ c (by simp [Op.operands])
    split at h
    · rename_i e k1 n k2 m hu hl hc
      rw [hl] at hl'
      rw [hc] at hc'
      cases hl2 : ρ' l <;> rw [hl2] at hl' <;> cases hl'
      cases hc2 : ρ' c <;> rw [hc2] at hc' <;> cases hc'
      simp only [Option.bind_eq_some_iff, Option.ite_none_right_eq_some, Option.some.injEq, Prod.mk.injEq] at h
      obtain ⟨sz, hsz, bs, hbs, z, hzz, ⟨h0, hnm, hb0, hbm, hs0, hzl, hszR⟩, rfl, rfl⟩ := h
      obtain ⟨i, hi, rfl⟩ := run_bytes' hbs
      have hisz : i.size = sz := by simp only [szT, hi, Option.map_some, Option.some.injEq] at hsz; exact hsz
      have hmax : m ≤ 2 ^ 48 := by
        have : (1 : Int) * m ≤ i.bytes * m := Int.mul_le_mul_of_nonneg_right (by omega) (by omega)
        omega
      have wn : IntKind.i64.wrap n = n := by unfold IntKind.wrap; simp only [IntKind.bits, IntKind.signed, Bool.true_and]; split <;> simp_all <;> omega
      have wm : IntKind.i64.wrap m = m := by unfold IntKind.wrap; simp only [IntKind.bits, IntKind.signed, Bool.true_and]; split <;> simp_all <;> omega
      have hbn : (i.bytes : Int) * n ≤ i.bytes * m := Int.mul_le_mul_of_nonneg_left hnm (by omega)
      have hcells : ∀ k : Nat, (Array.range (k * sz)).map (fun j => z.cells[j % z.cells.size]!) = ⟨(List.replicate k z.cells.toList).flatten⟩ := by
        intro k
        apply Array.ext'
        have hzs : z.cells.size = sz := by rw [← hzl]; simp
        rw [← hzs, zeros_eq]
      refine ⟨w.alloc (.cells ⟨(List.replicate m.toNat z.cells.toList).flatten⟩ e), .slice (some ⟨w.heap.size, 0, none⟩) n.toNat m.toNat, _, (List.replicate m.toNat z.cells.toList).flatten.length, ?_, .alloc w _, fun β' h hs hb => ⟨?_, ?_⟩⟩
      · simp only [execOp, hl2, hc2, Instr.makeSlice, Sem.run_bind, run_underlying hu, Result.andThen_ok, asInt, asIntOf, Sem.run_pure, typeInfo, run_program, hi, wn, wm]
        have t1 : ¬ ((m < 0 ∨ (i.bytes : Int) * m > 2 ^ 48) ∨ n < 0 ∨ n > m) := by omega
        have tb : ((m < 0 || decide ((i.bytes : Int) * m > 2 ^ 48) || decide (n < 0) || decide (n > m)) = true) = False := by
          simp only [Bool.or_eq_true, decide_eq_true_eq, eq_iff_iff, iff_false]
          omega
        simp only [Bool.or_assoc] at tb
        simp only [Bool.or_assoc, tb, if_false, Sem.run_bind, Sem.run_pure, Result.andThen_ok, run_askRoom, run_sizeOf' w hsz]
        by_cases hn0 : m.toNat * sz = 0
        · have n0 : m.toNat = 0 := by rcases Nat.mul_eq_zero.1 hn0 with h | h <;> omega
          simp only [n0, Nat.zero_mul, if_true, Sem.run_bind, Sem.run_pure, Result.andThen_ok, newRow, run_newObj, List.replicate_zero, List.flatten_nil, Array.range_zero', Array.map_empty]
          rfl
        · simp only [hn0, if_false, Sem.run_bind, run_zeroValue' w hzz, Sem.run_pure, Result.andThen_ok, hcells, newRow, run_newObj]
          rfl
      · have pz : ∀ k : Nat, LRel β' (List.replicate k z.cells.toList).flatten (List.replicate k z.cells.toList).flatten := by
          intro k
          have h1 : LRel β' z.cells.toList z.cells.toList := VRel.cells (.of_plain (hz e z hzz))
          induction k with
          | zero => exact .nil
          | succ n ih => rw [List.replicate_succ, List.flatten_cons]; exact h1.append ih
        have hsplit : (List.replicate m.toNat z.cells.toList).flatten = (List.replicate n.toNat z.cells.toList).flatten ++ (List.replicate (m.toNat - n.toNat) z.cells.toList).flatten := by
          rw [← List.flatten_append, List.replicate_append_replicate]
          congr 2
          omega
        exact .newCells (arr := ⟨(List.replicate m.toNat z.cells.toList).flatten⟩) (Grow.alloc w _).new hsplit (pz _) (nofr' _)
      · refine .slice (l := ⟨w.heap.size, 0, (List.replicate m.toNat z.cells.toList).flatten.length⟩) hb (by omega) (by split <;> omega) ?_ ?_
        · intro hh
          split at hh
          · rename_i hnm'; rw [hnm']
          · omega
        · intro s k hsR hh
          rw [flatten_replicate_length, hzl]
          split at hh
          · omega
          · have hsk : s = sz ∧ k = 0 := by omega
            obtain ⟨rfl, rfl⟩ := hsk
            refine ⟨by simp, by omega⟩
    · simp at h
  case convert s d x =>
    simp only [nop] at h
    have hx := hρ x (by simp [Op.operands])
    split at h
    · rename_i e hs hd
      split at h
      · rename_i he
        split at h
        · rename_i b hxb
          simp only [Option.some.injEq, Prod.mk.injEq] at h
          obtain ⟨rfl, rfl⟩ := h
          rw [hxb] at hx
          cases hx' : ρ' x <;> rw [hx'] at hx <;> cases hx
          have hrun := Lib.run_convert_string_bytes w s d e b hs hd he
          refine ⟨_, _, _, (Lib.bytesCells w e b).size, by simp only [execOp, hx', Sem.run_bind, hrun, Result.andThen_ok]; rfl, ⟨Lib.bytesWorld_size w e b, Lib.bytesWorld_at_new w e b, fun k hk => Lib.bytesWorld_at_old w e b k hk, ?_, ?_, ?_⟩, fun β' h hs hb => ⟨?_, ?_⟩⟩
          · simp only [Lib.bytesWorld, World.freeze]; split <;> rfl
          · simp only [Lib.bytesWorld, World.freeze]; split <;> rfl
          · simp only [Lib.bytesWorld, World.freeze]; split <;> rfl
          · have hp : LRel β' (b.data.toList.map fun c => (.int .u8 c.toNat : Value)) (b.data.toList.map fun c => (.int .u8 c.toNat : Value)) := by
              generalize b.data.toList = l
              induction l with
              | nil => exact .nil
              | cons c l ih => exact .cons (.int _ _) ih
            exact .newCells (rest := List.replicate (grownCap w b.size 0 e - b.size) (.int .u8 0)) (Lib.bytesWorld_at_new w e b) (by simp [Lib.bytesCells]) hp (fun i hi => by simp only; omega)
          · have hsz : (Lib.bytesCells w e b).size = grownCap w b.size 0 e := by
              have := grownCap_ge w b.size 0 e
              simp only [Lib.bytesCells, Array.size_append, Array.size_map, Array.size_replicate]
              have h2 : b.data.size = b.size := rfl
              omega
            refine .slice (l := ⟨w.heap.size, 0, (Lib.bytesCells w e b).size⟩) hb (grownCap_ge w b.size 0 e) (by omega) (fun h => by omega) (fun k j hkR hk => ?_)
            have hkj : k = 1 ∧ j = 0 := by omega
            obtain ⟨rfl, rfl⟩ := hkj
            exact ⟨by simp [hsz], grownCap_ge w b.size 0 e⟩
        · simp at h
      · simp at h
    · simp at h
  all_goals simp [nop] at h
end Go.Am

/- Steps: a new object, an object that is written. -/
namespace Go.Am
open Go

def Inj.put (β : Inj) (h : Nat) (l : Loc) : Inj := fun x => if x = h then some l else β x

theorem Inj.put_same (β : Inj) (h : Nat) (l : Loc) : Inj.put β h l h = some l := by simp [Inj.put]
theorem Inj.put_ne {β : Inj} {h x : Nat} {l : Loc} (e : x ≠ h) : Inj.put β h l x = β x := by simp [Inj.put, e]
theorem Inj.put_sub {β : Inj} {h : Nat} {l : Loc} (e : β h = none) : Inj.Sub β (Inj.put β h l) := fun x k hx => by
  by_cases hxh : x = h
  · subst hxh; rw [e] at hx; simp at hx
  · rw [Inj.put_ne hxh]; exact hx

theorem cell_same {w w' : World} {b i : Nat} (h : w'.heap[b]? = w.heap[b]?) : w'.cell? ⟨b, i, none⟩ = w.cell? ⟨b, i, none⟩ := by simp [World.cell?, h]

theorem ORel.same {β β' : Inj} {l : Loc} {w w' : World} {o : AObj} (hs : Inj.Sub β β') (h : w'.heap[l.blk]? = w.heap[l.blk]?) (ho : ORel β l w o) : ORel β' l w' o := by
  cases o with
  | dead => trivial
  | cells c T wr =>
    refine ⟨fun i v hv => ?_, fun hw => ?_⟩
    · obtain ⟨v', h1, h2⟩ := ho.1 i v hv
      exact ⟨v', by rw [cell_same h]; exact h1, h2.mono hs⟩
    · obtain ⟨h1, arr, T', fr, h2, h3⟩ := ho.2 hw
      exact ⟨h1, arr, T', fr, by rw [h]; exact h2, h3⟩
  | map es clock =>
    obtain ⟨es', h1, h2⟩ := ho
    exact ⟨es', by rw [h]; exact h1, h2.mono hs⟩
  | siter s pos =>
    exact ⟨ho.1, by rw [h]; exact ho.2⟩
  | miter m since seen st =>
    cases m with
    | none => exact ⟨ho.1, by rw [h]; exact ho.2⟩
    | some m => exact ⟨ho.1, ho.2.choose, hs _ _ ho.2.choose_spec.1, by rw [h]; exact ho.2.choose_spec.2⟩

theorem HRel.none_of_ge {P : Program} {B : Nat} {β : Inj} {H : AHeap} {w : World} (r : HRel P B β H w) {h : Nat} (hh : H.next ≤ h) : β h = none := by
  cases e : β h with
  | none => rfl
  | some l => have := r.dom h l e; omega

theorem Step.refl {P : Program} {B : Nat} {β : Inj} {H : AHeap} {w : World} (r : HRel P B β H w) : Step P B β H w β H w where
  sub := .refl β
  rel := r
  size := Nat.le_refl _
  os := rfl
  output := rfl
  tape := rfl
  frame := fun _ _ _ => rfl
  own := fun h l e hw _ => ⟨h, l, e, hw, rfl⟩
  next := Nat.le_refl _
  keep := fun _ _ e => ⟨rfl, e⟩

/-- A draw, and nothing else. -/
theorem Step.drew {P : Program} {B : Nat} {β : Inj} {H : AHeap} {w : World} (r : HRel P B β H w) : Step P B β H w β H w.drew where
  sub := .refl β
  rel := ⟨fun h l e => .same (.refl β) rfl (r.obj h l e), r.blk, r.excl, r.low, r.dom, r.glob, r.base⟩
  size := Nat.le_refl _
  os := rfl
  output := rfl
  tape := rfl
  frame := fun _ _ _ => rfl
  own := fun h l e hw _ => ⟨h, l, e, hw, rfl⟩
  next := Nat.le_refl _
  keep := fun _ _ e => ⟨rfl, e⟩

/-- A new object in a slot that was dead and without a place: a block more. -/
theorem Step.newAt {P : Program} {B : Nat} {β : Inj} {H H' : AHeap} {w w' : World} {o' : Obj} {obj : AObj} {h lim : Nat} (r : HRel P B β H w) (g : Grow w w' o') (hb : β h = none) (hg : H'.get h = obj) (hlt : h < H'.next)
    (hne : ∀ x, x ≠ h → H'.get x = H.get x) (hn : H.next ≤ H'.next) (ho : ORel (Inj.put β h ⟨w.heap.size, 0, lim⟩) ⟨w.heap.size, 0, lim⟩ w' obj) :
    HRel P B (Inj.put β h ⟨w.heap.size, 0, lim⟩) H' w' where
  obj := fun x l e => by
    by_cases hx : x = h
    · subst hx
      rw [Inj.put_same, Option.some.injEq] at e
      subst e
      rw [hg]; exact ho
    · rw [Inj.put_ne hx] at e
      rw [hne x hx]
      exact .same (Inj.put_sub hb) (g.old _ (r.blk x l e)) (r.obj x l e)
  blk := fun x l e => by
    rw [g.size]
    by_cases hx : x = h
    · subst hx
      rw [Inj.put_same, Option.some.injEq] at e
      subst e
      simp
    · rw [Inj.put_ne hx] at e
      have := r.blk x l e; omega
  excl := fun x y l m ex ey hw hl hxy => by
    by_cases hx : x = h
    · subst hx
      rw [Inj.put_same, Option.some.injEq] at ex
      subst ex
      rw [Inj.put_ne (Ne.symm hxy)] at ey
      have := r.blk y m ey; simp only; omega
    · rw [Inj.put_ne hx] at ex
      rw [hne x hx] at hw
      by_cases hy : y = h
      · subst hy
        rw [Inj.put_same, Option.some.injEq] at ey
        subst ey
        have := r.blk x l ex; simp only; omega
      · rw [Inj.put_ne hy] at ey
        rw [hne y hy] at hl
        exact r.excl x y l m ex ey hw hl hxy
  low := fun x l e hw => by
    by_cases hx : x = h
    · subst hx
      rw [Inj.put_same, Option.some.injEq] at e
      subst e
      exact r.base
    · rw [Inj.put_ne hx] at e
      rw [hne x hx] at hw
      exact r.low x l e hw
  dom := fun x l e => by
    by_cases hx : x = h
    · subst hx; exact hlt
    · rw [Inj.put_ne hx] at e
      have := r.dom x l e; omega
  glob := fun k hk => by
    obtain ⟨n, hn⟩ := r.glob k hk
    exact ⟨n, Inj.put_sub hb _ _ hn⟩
  base := by have := r.base; have := g.size; omega

theorem Step.push {P : Program} {B : Nat} {β : Inj} {H : AHeap} {w w' : World} {o' : Obj} {obj : AObj} {lim : Nat} (r : HRel P B β H w) (g : Grow w w' o') (ho : ORel (Inj.put β H.next ⟨w.heap.size, 0, lim⟩) ⟨w.heap.size, 0, lim⟩ w' obj) :
    Step P B β H w (Inj.put β H.next ⟨w.heap.size, 0, lim⟩) (H.push obj) w' where
  sub := Inj.put_sub (r.none_of_ge (Nat.le_refl _))
  rel := Step.newAt r g (r.none_of_ge (Nat.le_refl _)) (by simp) (by simp) (fun x hx => get_push_ne H x obj hx) (by simp) ho
  size := by rw [g.size]; omega
  os := g.os
  output := g.output
  tape := g.tape
  frame := fun b hb _ => g.old b hb
  own := fun x l e hw hlt => by
    by_cases hx : x = H.next
    · subst hx
      rw [Inj.put_same, Option.some.injEq] at e
      subst e
      simp at hlt
    · rw [Inj.put_ne hx] at e
      rw [get_push_ne H x obj hx] at hw
      exact ⟨x, l, e, hw, rfl⟩
  next := by simp
  keep := fun x hx e => ⟨get_push_lt H x obj hx, by rw [Inj.put_ne (by omega)]; exact e⟩

/-- An object that may be written turns into another one, in its own block. -/
theorem Step.write {P : Program} {B : Nat} {β : Inj} {H : AHeap} {w w' : World} {obj : AObj} {h : Nat} {l : Loc} (r : HRel P B β H w) (hb : β h = some l) (hw : (H.get h).wlive = true)
    (hs : w'.heap.size = w.heap.size) (hk : ∀ k, k ≠ l.blk → w'.heap[k]? = w.heap[k]?) (hos : w'.os = w.os) (hou : w'.output = w.output) (hta : w'.tape = w.tape) (ho : ORel β l w' obj) : Step P B β H w β (H.set h obj) w' where
  sub := .refl β
  rel :=
    { obj := fun x m e => by
        by_cases hx : x = h
        · subst hx
          rw [hb, Option.some.injEq] at e
          subst e
          rw [get_set_same H x obj (r.dom x l hb)]; exact ho
        · rw [get_set_ne H x h obj (Ne.symm hx)]
          by_cases hl : (H.get x).live = true
          · exact .same (.refl β) (hk _ (Ne.symm (r.excl h x l m hb e hw hl (Ne.symm hx)))) (r.obj x m e)
          · have : H.get x = .dead := by cases hg : H.get x <;> simp_all [AObj.live]
            rw [this]; trivial
      blk := fun x m e => by rw [hs]; exact r.blk x m e
      excl := fun x y m n ex ey hx hy hxy => by
        have live : ∀ z, ((H.set h obj).get z).live = true → (H.get z).live = true := fun z hz => by
          by_cases hzh : z = h
          · subst hzh; exact AObj.live_of_wlive hw
          · rwa [get_set_ne H z h obj (Ne.symm hzh)] at hz
        have wlive : ((H.set h obj).get x).wlive = true → (H.get x).wlive = true := fun hz => by
          by_cases hzh : x = h
          · subst hzh; exact hw
          · rwa [get_set_ne H x h obj (Ne.symm hzh)] at hz
        exact r.excl x y m n ex ey (wlive hx) (live y hy) hxy
      low := fun x m e hx => by
        by_cases hxh : x = h
        · subst hxh; exact r.low x m e hw
        · rw [get_set_ne H x h obj (Ne.symm hxh)] at hx; exact r.low x m e hx
      dom := fun x m e => by rw [next_set]; exact r.dom x m e
      glob := r.glob
      base := by rw [hs]; exact r.base }
  size := by omega
  os := hos
  output := hou
  tape := hta
  frame := fun b _ hn => hk b (Ne.symm (hn h l hb hw))
  own := fun x m e hx _ => by
    by_cases hxh : x = h
    · subst hxh; exact ⟨x, m, e, hw, rfl⟩
    · rw [get_set_ne H x h obj (Ne.symm hxh)] at hx; exact ⟨x, m, e, hx, rfl⟩
  next := by simp
  keep := fun x hx e => ⟨get_set_ne H x h obj (fun hh => by subst hh; rw [hb] at e; simp at e), e⟩

/-- An object that may be written is forgotten. -/
theorem Step.kill {P : Program} {B : Nat} {β : Inj} {H : AHeap} {w : World} {h : Nat} {l : Loc} (r : HRel P B β H w) (hb : β h = some l) (hw : (H.get h).wlive = true) : Step P B β H w β (H.set h .dead) w :=
  .write r hb hw rfl (fun _ _ => rfl) rfl rfl rfl trivial

/-- An object that may be written lives on under a new handle, in its own block. -/
theorem Step.moved {P : Program} {B : Nat} {β : Inj} {H : AHeap} {w w' : World} {obj : AObj} {h : Nat} {l l' : Loc} (r : HRel P B β H w) (hb : β h = some l) (hw : (H.get h).wlive = true) (hl : l'.blk = l.blk)
    (hs : w'.heap.size = w.heap.size) (hk : ∀ k, k ≠ l.blk → w'.heap[k]? = w.heap[k]?) (hos : w'.os = w.os) (hou : w'.output = w.output) (hta : w'.tape = w.tape) (ho : ORel (Inj.put β H.next l') l' w' obj) :
    Step P B β H w (Inj.put β H.next l') ((H.set h .dead).push obj) w' := by
  have hnone : β H.next = none := r.none_of_ge (Nat.le_refl _)
  have hne : h ≠ H.next := fun e => by rw [← e, hb] at hnone; simp at hnone
  have gnew : ((H.set h .dead).push obj).get H.next = obj := by
    have : (H.set h .dead).next = H.next := next_set H h .dead
    rw [← this]; exact get_push_new _ _
  have gold : ∀ x, x ≠ H.next → ((H.set h .dead).push obj).get x = (H.set h .dead).get x := fun x hx => get_push_ne _ _ _ (by rw [next_set]; exact hx)
  have gdead : ((H.set h .dead).push obj).get h = .dead := by rw [gold h hne]; exact get_set_same H h .dead (r.dom h l hb)
  have gsame : ∀ x, x ≠ H.next → x ≠ h → ((H.set h .dead).push obj).get x = H.get x := fun x hx hxh => by rw [gold x hx]; exact get_set_ne H x h .dead (Ne.symm hxh)
  have old : ∀ x m, Inj.put β H.next l' x = some m → x ≠ H.next → β x = some m := fun x m e hx => by rwa [Inj.put_ne hx] at e
  have hexcl : ∀ x m, β x = some m → x ≠ h → (H.get x).live = true → m.blk ≠ l.blk := fun x m e hx hlv => Ne.symm (r.excl h x l m hb e hw hlv (Ne.symm hx))
  exact
    { sub := Inj.put_sub hnone
      rel :=
        { obj := fun x m e => by
            by_cases hx : x = H.next
            · subst hx
              rw [Inj.put_same, Option.some.injEq] at e
              subst e
              rw [gnew]; exact ho
            · have e' := old x m e hx
              by_cases hxh : x = h
              · subst hxh; rw [gdead]; trivial
              · rw [gsame x hx hxh]
                by_cases hlv : (H.get x).live = true
                · exact .same (Inj.put_sub hnone) (hk _ (hexcl x m e' hxh hlv)) (r.obj x m e')
                · have : H.get x = .dead := by cases hg : H.get x <;> simp_all [AObj.live]
                  rw [this]; trivial
          blk := fun x m e => by
            rw [hs]
            by_cases hx : x = H.next
            · subst hx
              rw [Inj.put_same, Option.some.injEq] at e
              subst e
              rw [hl]; exact r.blk h l hb
            · exact r.blk x m (old x m e hx)
          excl := fun x y m n ex ey hwx hly hxy => by
            by_cases hx : x = H.next
            · subst hx
              rw [Inj.put_same, Option.some.injEq] at ex
              subst ex
              have hy : y ≠ H.next := Ne.symm hxy
              have ey' := old y n ey hy
              by_cases hyh : y = h
              · subst hyh; rw [gdead] at hly; simp [AObj.live] at hly
              · rw [gsame y hy hyh] at hly
                rw [hl]; exact Ne.symm (hexcl y n ey' hyh hly)
            · have ex' := old x m ex hx
              have hxh : x ≠ h := fun e => by subst e; rw [gdead] at hwx; simp [AObj.wlive] at hwx
              rw [gsame x hx hxh] at hwx
              by_cases hy : y = H.next
              · subst hy
                rw [Inj.put_same, Option.some.injEq] at ey
                subst ey
                rw [hl]; exact hexcl x m ex' hxh (AObj.live_of_wlive hwx)
              · have ey' := old y n ey hy
                have hyh : y ≠ h := fun e => by subst e; rw [gdead] at hly; simp [AObj.live] at hly
                rw [gsame y hy hyh] at hly
                exact r.excl x y m n ex' ey' hwx hly hxy
          low := fun x m e hwx => by
            by_cases hx : x = H.next
            · subst hx
              rw [Inj.put_same, Option.some.injEq] at e
              subst e
              rw [hl]; exact r.low h l hb hw
            · have hxh : x ≠ h := fun e => by subst e; rw [gdead] at hwx; simp [AObj.wlive] at hwx
              rw [gsame x hx hxh] at hwx
              exact r.low x m (old x m e hx) hwx
          dom := fun x m e => by
            simp only [next_push, next_set]
            by_cases hx : x = H.next
            · omega
            · have := r.dom x m (old x m e hx); omega
          glob := fun k hk => by
            obtain ⟨n, hn⟩ := r.glob k hk
            exact ⟨n, Inj.put_sub hnone _ _ hn⟩
          base := by rw [hs]; exact r.base }
      size := by omega
      os := hos
      output := hou
      tape := hta
      frame := fun b _ hn => hk b (Ne.symm (hn h l hb hw))
      own := fun x m e hwx _ => by
        by_cases hx : x = H.next
        · subst hx
          rw [Inj.put_same, Option.some.injEq] at e
          subst e
          exact ⟨h, l, hb, hw, hl.symm⟩
        · have hxh : x ≠ h := fun e => by subst e; rw [gdead] at hwx; simp [AObj.wlive] at hwx
          rw [gsame x hx hxh] at hwx
          exact ⟨x, m, old x m e hx, hwx, rfl⟩
      next := by simp
      keep := fun x hx e => ⟨gsame x (by omega) (fun hh => by subst hh; rw [hb] at e; simp at e), by rw [Inj.put_ne (by omega)]; exact e⟩ }
end Go.Am
