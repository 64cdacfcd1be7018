/- Walks: the map. -/
import Derived.Test.YtjimjolfnimimaaDoorWalkB
import Derived.Test.YtjimjolfnimimaaDoorSy
set_option linter.unusedSimpArgs false
set_option linter.unusedVariables false
/- The tree of layer 5 in memory; node.hash, Map.none. -/
namespace Go.Proofs.YtjimjolfnimimaaDoor
open Go Go.Am
set_option maxRecDepth 100000
set_option linter.unusedVariables false

inductive Tree where
  | nil
  | leaf (h k v : Hsh)
  | node (h : Hsh) (l r : Tree)
def Tree.hash : Tree → Hsh
  | .nil => zeroH
  | .leaf h _ _ => h
  | .node h _ _ => h

def leafC (h : Hsh) (q : Nat) : List Value := hC h ++ [.pointer none, .pointer none, .pointer (some ⟨q, 0, none⟩)]
def nodeC (h : Hsh) (pl pr : Option Addr) : List Value := hC h ++ [.pointer pl, .pointer pr, .pointer none]

/-- An object: a new one, or an old one below a bound. -/
def Ob (H : AHeap) (B : Nat) (L : Hm) (a : Nat) (cs : List Value) (T : TypeId) : Prop := (a, AObj.cells cs T true) ∈ L ∨ (a < B ∧ ∃ w, H.get a = .cells cs T w)
theorem Ob.less {H : AHeap} {B : Nat} {L L' : Hm} {a : Nat} {cs : List Value} {T : TypeId} (h : Ob H B L a cs T) (hs : ∀ p ∈ L, p ∈ L') : Ob H B L' a cs T := h.imp (hs _) id

inductive TreeL (H : AHeap) (B : Nat) (L : Hm) : Option Addr → Tree → Prop
  | nil : TreeL H B L none .nil
  | leaf {a q : Nat} {h k v : Hsh} : Ob H B L a (leafC h q) 207 → Ob H B L q (hC k ++ hC v) 138 → TreeL H B L (some ⟨a, 0, none⟩) (.leaf h k v)
  | node {a : Nat} {h : Hsh} {pl pr : Option Addr} {l r : Tree} : Ob H B L a (nodeC h pl pr) 207 → TreeL H B L pl l → TreeL H B L pr r → TreeL H B L (some ⟨a, 0, none⟩) (.node h l r)
theorem TreeL.less {H : AHeap} {B : Nat} {L L' : Hm} (hs : ∀ p ∈ L, p ∈ L') {v : Option Addr} {t : Tree} (h : TreeL H B L v t) : TreeL H B L' v t := by
  induction h with
  | nil => exact .nil
  | leaf h1 h2 => exact .leaf (h1.less hs) (h2.less hs)
  | node h1 _ _ ih1 ih2 => exact .node (h1.less hs) ih1 ih2
theorem TreeL.back {H H1 : AHeap} {B : Nat} {L : Hm} (hs : ∀ a, a < B → H1.get a = H.get a) {v : Option Addr} {t : Tree} (h : TreeL H1 B L v t) : TreeL H B L v t := by
  have ob : ∀ {a cs T}, Ob H1 B L a cs T → Ob H B L a cs T := fun h => h.imp id fun ⟨h1, w, h2⟩ => ⟨h1, w, by rw [← hs _ h1]; exact h2⟩
  induction h with
  | nil => exact .nil
  | leaf h1 h2 => exact .leaf (ob h1) (ob h2)
  | node h1 _ _ ih1 ih2 => exact .node (ob h1) ih1 ih2
theorem Ob.get {H0 H : AHeap} {B lo hi : Nat} {L Mn : Hm} (h : Hp H0 lo hi H [] Mn) (hL : ∀ p ∈ L, p ∈ Mn) (hB : B ≤ H0.next) {a : Nat} {cs : List Value} {T : TypeId} (o : Ob H0 B L a cs T) : ∃ w, H.get a = .cells cs T w := by
  rcases o with o | ⟨h1, w, h2⟩
  · exact ⟨true, h.vn _ (hL _ o)⟩
  · exact ⟨w, by rw [h.get0 h2 rfl (by simp)]⟩

theorem TreeL.at {H0 H : AHeap} {B lo hi : Nat} {L Mn : Hm} {v : Option Addr} {t : Tree} (ht : TreeL H0 B L v t) (h : Hp H0 lo hi H [] Mn) (hL : ∀ p ∈ L, p ∈ Mn) (hB : B ≤ H0.next) : TreeL H H.next [] v t := by
  have ob : ∀ {a cs T}, Ob H0 B L a cs T → Ob H H.next [] a cs T := fun o => .inr ⟨by
    rcases o with o | ⟨h1, _⟩
    · exact h.lt _ (hL _ o)
    · exact Nat.lt_of_lt_of_le h1 (Nat.le_trans hB h.le), o.get h hL hB⟩
  induction ht with
  | nil => exact .nil
  | leaf h1 h2 => exact .leaf (ob h1) (ob h2)
  | node h1 _ _ ih1 ih2 => exact .node (ob h1) ih1 ih2

theorem c_hash (pv : Option Addr) (t : Tree) (B : Nat) (H : AHeap) (ht : TreeL H B [] pv t) : CallR Tryd.prog noPrims 117 [.pointer pv] H (fun u H' => u = hV t.hash ∧ Hp H 0 0 H' [] []) := by
  cases ht with
  | nil =>
    refine CallR.sy (n := 10) Tryd.func117 rfl rfl rfl ?_
    repeat' (first
    | (with_reducible refine Sy.seq ?_)
    | (with_reducible refine Sy.regionL ?_)
    | (with_reducible refine Sy.opsnil ?_)
    | (with_reducible refine Sy.go ?_)
    | (with_reducible refine Sy.nrm ?_)
    | ((with_reducible apply Sy.move); exact rfl; exact rfl)
    | ((with_reducible apply Sy.bin (op := .eql) (t := 179)); exact rfl; exact rfl; exact rfl; exact p_eq0 kd179)
    | ((with_reducible apply Sy.bin (op := .eql) (t := 179)); exact rfl; exact rfl; exact rfl; exact p_eq1 kd179)
    | ((with_reducible apply Sy.bin (op := .eql) (t := 179)); exact rfl; exact rfl; exact rfl; exact p_eq2 kd179)
    | ((with_reducible apply Sy.stNa (t := 44)); exact rfl; exact rfl; exact sz44; (· first | exact hC_length _ | (simp; done)); (· first | exact hC_one _); exact turnT; (· first | (simp; done)); (· first | exact lay_all (by first | (simp; done))))
    | ((with_reducible apply Sy.call0 (k := 116)); exact rfl; exact rfl; exact en116; exact rfl; (intro H' hp; exact c_none H'))
    | ((with_reducible apply Sy.newY (o := ⟨some 2, .alloc 44, _, _, _, _⟩)); exact rfl; exact rfl; exact nwz44; intro q2)
    | (with_reducible refine Sy.ret ?_)
    | (with_reducible refine Sy.aret ?_)
    | ((with_reducible apply Sy.yes); exact rfl))
    exact .fin [hV zeroH] (.inr rfl) ⟨⟨q2, 0, _, rfl, (by repeat (first | exact Has.here | apply Has.there | apply Has.app)), ld_hV ag44 sz44⟩, trivial⟩ fun H1 hp => ⟨rfl, hp.less (List.nil_sublist _)⟩
  | leaf h1 h2 =>
    rcases h1 with h1 | ⟨_, w, h1⟩
    · simp at h1
    unfold leafC at h1
    refine CallR.sy (n := 10) Tryd.func117 rfl rfl rfl ?_
    repeat' (first
    | (with_reducible refine Sy.seq ?_)
    | (with_reducible refine Sy.regionL ?_)
    | (with_reducible refine Sy.opsnil ?_)
    | (with_reducible refine Sy.go ?_)
    | (with_reducible refine Sy.nrm ?_)
    | ((with_reducible apply Sy.move); exact rfl; exact rfl)
    | ((with_reducible apply Sy.bin (op := .eql) (t := 179)); exact rfl; exact rfl; exact rfl; exact p_eq0 kd179)
    | ((with_reducible apply Sy.bin (op := .eql) (t := 179)); exact rfl; exact rfl; exact rfl; exact p_eq1 kd179)
    | ((with_reducible apply Sy.bin (op := .eql) (t := 179)); exact rfl; exact rfl; exact rfl; exact p_eq2 kd179)
    | ((with_reducible apply Sy.stNa (t := 44)); exact rfl; exact rfl; exact sz44; (· first | exact hC_length _ | (simp; done)); (· first | exact hC_one _); exact turnT; (· first | (simp; done)); (· first | exact lay_all (by first | (simp; done))))
    | ((with_reducible apply Sy.nilC); exact rfl; exact rfl; exact rfl)
    | ((with_reducible apply Sy.fa (t := 207) (i := 0)); exact rfl; exact rfl; exact fa207_0 _ _)
    | ((with_reducible apply Sy.ld0 (t := 44)); exact rfl; exact rfl; (· with_reducible assumption); exact rfl; exact notM; (· first | exact ld_agg (cs' := hC _) ag44 sz44 (by simp; done) (by first | exact cut_here (by simp; done))))
    | ((with_reducible apply Sy.newY (o := ⟨some 2, .alloc 44, _, _, _, _⟩)); exact rfl; exact rfl; exact nwz44; intro q2)
    | (with_reducible refine Sy.skip ?_)
    | (with_reducible refine Sy.ret ?_)
    | ((with_reducible apply Sy.no); exact rfl))
    exact .fin [hV _] (.inr rfl) ⟨⟨q2, 0, _, rfl, (by repeat (first | exact Has.here | apply Has.there | apply Has.app)), ld_hV ag44 sz44⟩, trivial⟩ fun H1 hp => ⟨rfl, hp.less (List.nil_sublist _)⟩
  | node h1 h2 h3 =>
    rcases h1 with h1 | ⟨_, w, h1⟩
    · simp at h1
    unfold nodeC at h1
    refine CallR.sy (n := 10) Tryd.func117 rfl rfl rfl ?_
    repeat' (first
    | (with_reducible refine Sy.seq ?_)
    | (with_reducible refine Sy.regionL ?_)
    | (with_reducible refine Sy.opsnil ?_)
    | (with_reducible refine Sy.go ?_)
    | (with_reducible refine Sy.nrm ?_)
    | ((with_reducible apply Sy.move); exact rfl; exact rfl)
    | ((with_reducible apply Sy.bin (op := .eql) (t := 179)); exact rfl; exact rfl; exact rfl; exact p_eq0 kd179)
    | ((with_reducible apply Sy.bin (op := .eql) (t := 179)); exact rfl; exact rfl; exact rfl; exact p_eq1 kd179)
    | ((with_reducible apply Sy.bin (op := .eql) (t := 179)); exact rfl; exact rfl; exact rfl; exact p_eq2 kd179)
    | ((with_reducible apply Sy.stNa (t := 44)); exact rfl; exact rfl; exact sz44; (· first | exact hC_length _ | (simp; done)); (· first | exact hC_one _); exact turnT; (· first | (simp; done)); (· first | exact lay_all (by first | (simp; done))))
    | ((with_reducible apply Sy.nilC); exact rfl; exact rfl; exact rfl)
    | ((with_reducible apply Sy.fa (t := 207) (i := 0)); exact rfl; exact rfl; exact fa207_0 _ _)
    | ((with_reducible apply Sy.ld0 (t := 44)); exact rfl; exact rfl; (· with_reducible assumption); exact rfl; exact notM; (· first | exact ld_agg (cs' := hC _) ag44 sz44 (by simp; done) (by first | exact cut_here (by simp; done))))
    | ((with_reducible apply Sy.newY (o := ⟨some 2, .alloc 44, _, _, _, _⟩)); exact rfl; exact rfl; exact nwz44; intro q2)
    | (with_reducible refine Sy.skip ?_)
    | (with_reducible refine Sy.ret ?_)
    | ((with_reducible apply Sy.no); exact rfl))
    exact .fin [hV _] (.inr rfl) ⟨⟨q2, 0, _, rfl, (by repeat (first | exact Has.here | apply Has.there | apply Has.app)), ld_hV ag44 sz44⟩, trivial⟩ fun H1 hp => ⟨rfl, hp.less (List.nil_sublist _)⟩
end Go.Proofs.YtjimjolfnimimaaDoor

/- node.put. -/
namespace Go.Proofs.YtjimjolfnimimaaDoor
open Go Go.Am
set_option maxRecDepth 100000
set_option linter.unusedVariables false

def Tree.kids : Tree → Tree × Tree
  | .node _ l r => (l, r)
  | _ => (.nil, .nil)
def Tree.mk (l r : Tree) : Tree := match l, r with
  | .nil, .nil => .nil
  | l, r => .node (aboveH l.hash r.hash) l r
/-- A key's value is put, n levels above the leaves. -/
def tput (k v : Hsh) : Nat → Tree → Tree
  | 0, _ => if v = zeroH then .nil else .leaf (leafH k v) k v
  | n + 1, t => if bitOf k (256 - (n + 1)) = 0 then Tree.mk (tput k v n t.kids.1) t.kids.2 else Tree.mk t.kids.1 (tput k v n t.kids.2)

theorem TreeL.two {H : AHeap} {B : Nat} {pv : Option Addr} {t : Tree} (ht : TreeL H B [] pv t) : (pv = none ∧ t = .nil) ∨ ∃ (a : Nat) (w : Bool) (h : Hsh) (pl pr x : Option Addr), pv = some ⟨a, 0, none⟩ ∧ H.get a = .cells (hC h ++ [.pointer pl, .pointer pr, .pointer x]) 207 w ∧ TreeL H B [] pl t.kids.1 ∧ TreeL H B [] pr t.kids.2 := by
  cases ht with
  | nil => exact .inl ⟨rfl, rfl⟩
  | leaf h1 h2 =>
    rcases h1 with h1 | ⟨_, w, h1⟩
    · simp at h1
    · exact .inr ⟨_, w, _, _, _, _, rfl, h1, .nil, .nil⟩
  | node h1 h2 h3 =>
    rcases h1 with h1 | ⟨_, w, h1⟩
    · simp at h1
    · exact .inr ⟨_, w, _, _, _, _, rfl, h1, h2, h3⟩

theorem ek204 : eqKs Tryd.prog 204 = some [.ptr, .ptr] := by kernel_rfl
theorem eq204 {a b : Option Addr} : binV Tryd.prog .eql 204 (.agg ⟨[.pointer a, .pointer b]⟩) (.agg ⟨[.pointer none, .pointer none]⟩) = some (.bool (a.isNone && b.isNone)) := by
  cases a <;> cases b <;> simp [binV, eqV, ek204, ag204, eqL, eqLeaf]

theorem hV_cells (h : Hsh) : (hV h).cells.toList = hC h := rfl
theorem bvP (k v : Hsh) : buildV Tryd.prog 138 [(0, hV k), (1, hV v)] = some (.agg ⟨hC k ++ hC v⟩) := bv138 (by
  simp only [fillL, plc, hV_cells]
  have e1 : lay (hC zeroH ++ hC zeroH) 0 (hC k) = hC k ++ hC zeroH := lay_here (by simp)
  have e2 : lay (hC k ++ hC zeroH) 32 (hC v) = hC k ++ hC v := by
    have := lay_there (a := hC k) (b := hC zeroH) (v := hC v) (o := 32) (k := 0) (by simp)
    rw [Nat.add_zero] at this
    rw [this, lay_all (by simp)]
  simp [e1, e2])
theorem bvL (h : Hsh) (q : Addr) : buildV Tryd.prog 207 [(0, hV h), (2, .pointer (some q))] = some (.agg ⟨hC h ++ [.pointer none, .pointer none, .pointer (some q)]⟩) := bv207 (by
  have e0 : (Value.pointer (some q)).cells.toList = [.pointer (some q)] := rfl
  simp only [fillL, plc, hV_cells, e0]
  have e1 : lay (hC zeroH ++ [Value.pointer none, .pointer none, .pointer none]) 0 (hC h) = hC h ++ [Value.pointer none, .pointer none, .pointer none] := lay_here (by simp)
  have e2 : lay (hC h ++ [Value.pointer none, .pointer none, .pointer none]) 34 [.pointer (some q)] = hC h ++ [Value.pointer none, .pointer none, .pointer (some q)] := by
    have := lay_there (a := hC h) (b := [Value.pointer none, .pointer none, .pointer none]) (v := [.pointer (some q)]) (o := 32) (k := 2) (by simp)
    rw [this]; rfl
  simp [e1, e2])
theorem c_bit0 (h : Hsh) (n b : Nat) (hn : n < 256) (hb : bitOf h n = b) (H : AHeap) :
    CallR Tryd.prog noPrims 138 [hV h, .int .i64 n] H (fun v H' => v = .int .i64 ((b : Nat) : Int) ∧ Hp H 0 0 H' [] []) := by
  subst hb; exact c_bit h n hn H

theorem TreeL.isNil {H : AHeap} {B : Nat} {L : Hm} {v : Option Addr} {t : Tree} (h : TreeL H B L v t) : v.isNone = true ↔ t = .nil := by
  cases h <;> simp
theorem Tree.mk_nil {l r : Tree} (hl : l = .nil) (hr : r = .nil) : Tree.mk l r = .nil := by subst hl; subst hr; rfl
theorem Tree.mk_node {l r : Tree} (h : ¬ (l = .nil ∧ r = .nil)) : Tree.mk l r = .node (aboveH l.hash r.hash) l r := by
  cases l <;> cases r <;> first | rfl | exact absurd ⟨rfl, rfl⟩ h
theorem cells0 {h h' : Hsh} {a b c x : Value} : lay ((hC h ++ [a, b, c]).set (0 + 32 + 0) x) 0 (hC h') = hC h' ++ [x, b, c] := by
  rw [List.set_append, if_neg (by simp)]
  simp only [hC_length]
  exact lay_here (by simp)
theorem cells1 {h h' : Hsh} {a b c x : Value} : lay ((hC h ++ [a, b, c]).set (0 + 32 + 1) x) 0 (hC h') = hC h' ++ [a, x, c] := by
  rw [List.set_append, if_neg (by simp)]
  simp only [hC_length]
  exact lay_here (by simp)
theorem cut_kids {h : Hsh} {a b c : Value} : List.take 2 (List.drop (0 + 32) (hC h ++ [a, b, c])) = [a, b] := by rw [show (0 + 32 : Nat) = 32 + 0 from rfl, cut_there (by simp)]; rfl
theorem set191 {h : Hsh} {a b c x y : Value} : lay (hC h ++ [a, b, c]) (0 + 32) [x, y] = hC h ++ [x, y, c] := by rw [show (0 + 32 : Nat) = 32 + 0 from rfl, lay_there (by simp)]; rfl
/-- The node that is made, and its tree. -/
theorem TreeL.made {H : AHeap} {B : Nat} {L L' : Hm} {u1 u2 : Option Addr} {t1 t2 : Tree} {q : Nat} (h1 : TreeL H B L u1 t1) (h2 : TreeL H B L u2 t2) (hc : (u1.isNone && u2.isNone) = false) (hL : L' = L ++ [(q, .cells (hC (aboveH t1.hash t2.hash) ++ [.pointer u1, .pointer u2, .pointer none]) 207 true)]) : TreeL H B L' (some ⟨q, 0, none⟩) (Tree.mk t1 t2) := by
  have hn : ¬ (t1 = .nil ∧ t2 = .nil) := by
    rintro ⟨a, b⟩
    rw [h1.isNil.mpr a, h2.isNil.mpr b] at hc; simp at hc
  rw [Tree.mk_node hn]; subst hL
  exact .node (.inl (by simp [nodeC])) (h1.less fun p h => by simp [h]) (h2.less fun p h => by simp [h])
theorem TreeL.made0 {H : AHeap} {B : Nat} {L L1 : Hm} {u1 u2 : Option Addr} {t1 t2 : Tree} (h1 : TreeL H B L u1 t1) (h2 : TreeL H B L u2 t2) (hc : (u1.isNone && u2.isNone) = true) : TreeL H B L1 none (Tree.mk t1 t2) := by
  simp only [Bool.and_eq_true] at hc
  rw [Tree.mk_nil (h1.isNil.mp hc.1) (h2.isNil.mp hc.2)]; exact .nil

theorem put_at {k v : Hsh} {n B : Nat} {d : Int} {H0 H : AHeap} {lo hi : Nat} {Mn : Hm} {pv : Option Addr} {t : Tree}
    (ih : ∀ (pv : Option Addr) (t : Tree) (B : Nat) (H : AHeap), Gl H → B ≤ H.next → TreeL H B [] pv t → CallR Tryd.prog noPrims 129 [.pointer pv, hV k, hV v, .int .i64 d] H (fun u H' => ∃ i : Option Addr × Hm, TreeL H B i.2 i.1 (tput k v n t) ∧ u = .pointer i.1 ∧ Hp H 0 0 H' [] i.2))
    (hp : Hp H0 lo hi H [] Mn) (g : Gl H0) (hB : B ≤ H0.next) (ht : TreeL H0 B [] pv t) :
    CallR Tryd.prog noPrims 129 [.pointer pv, hV k, hV v, .int .i64 d] H (fun u H' => ∃ i : Option Addr × Hm, TreeL H0 B i.2 i.1 (tput k v n t) ∧ u = .pointer i.1 ∧ Hp H 0 0 H' [] i.2) := by
  have same : ∀ a, a < B → H.get a = H0.get a := fun a ha => hp.fr a (by omega) (by simp)
  refine (ih pv t B H (g.of hp (by simp)) (Nat.le_trans hB hp.le) (ht.back fun a ha => (same a ha).symm)).mono ?_
  rintro u H' ⟨i, h1, h2, h3⟩
  exact ⟨i, h1.back same, h2, h3⟩

set_option maxHeartbeats 2000000 in
theorem c_put (k v : Hsh) : ∀ (n : Nat), n ≤ 256 → ∀ (pv : Option Addr) (t : Tree) (B : Nat) (H : AHeap), Gl H → B ≤ H.next → TreeL H B [] pv t →
    CallR Tryd.prog noPrims 129 [.pointer pv, hV k, hV v, .int .i64 ((256 - n : Nat) : Int)] H (fun u H' => ∃ i : Option Addr × Hm, TreeL H B i.2 i.1 (tput k v n t) ∧ u = .pointer i.1 ∧ Hp H 0 0 H' [] i.2) := by
  intro n
  induction n with
  | zero =>
    intro _ pv t B H g hB ht
    refine CallR.sy (n := 61) Tryd.func129 rfl rfl rfl ?_
    repeat' (first
    | (with_reducible refine Sy.seq ?_)
    | (with_reducible refine Sy.regionL ?_)
    | (with_reducible refine Sy.opsnil ?_)
    | (with_reducible refine Sy.go ?_)
    | (with_reducible refine Sy.nrm ?_)
    | ((with_reducible apply Sy.assign); exact rfl; exact rfl)
    | ((with_reducible apply Sy.move); exact rfl; exact rfl)
    | ((with_reducible apply Sy.bin (op := .eql) (t := 3)); exact rfl; exact rfl; exact rfl; exact b_eql)
    | ((with_reducible apply Sy.bin (op := .eql) (t := 3)); exact rfl; exact rfl; exact rfl; exact bz_eql)
    | ((with_reducible apply Sy.ldN (t := 44)); exact rfl; exact rfl; exact hasT; (· first | exact ld_hV ag44 sz44))
    | ((with_reducible apply Sy.bin (op := .eql) (t := 44)); exact rfl; exact rfl; exact rfl; exact eq44)
    | ((with_reducible apply Sy.ldN (t := 204)); exact rfl; exact rfl; exact hasT; (· first | exact ld_all ag204 (by first | exact sz204 | (simp [sz204, *]; done)) | exact ld_agg ag204 sz204 (by first | (simp; done) | (simp; omega)) (by first | with_reducible exact cut_kids | rfl | (simp [List.drop_append, List.take_append, List.getElem?_append, lay, hC_length, ints_length, ints_drop, ints_take, ints_append, List.drop_of_length_le, List.take_of_length_le, List.map_append, List.set_append, Value.cells]; done))))
    | ((with_reducible apply Sy.ldN (t := 179)); exact rfl; exact rfl; exact hasT; (· first | exact ld_one ag179 rfl | with_reducible assumption | exact ld_one ag179 (by with_reducible assumption) | exact ld_one ag179 (by simp [List.drop_append, List.take_append, List.getElem?_append, lay, hC_length, ints_length, ints_drop, ints_take, ints_append, List.drop_of_length_le, List.take_of_length_le, List.map_append, List.set_append, Value.cells]; done)))
    | ((with_reducible apply Sy.bin (op := .eql) (t := 204)); exact rfl; exact rfl; exact rfl; exact eq204)
    | ((with_reducible apply Sy.dcall0 (k := 116)); (first | exact wantY_none); exact rfl; (intro h hh; first | exact hh | (subst hh; omega)); exact rfl; exact rfl; exact rfl; exact en116; exact rfl; (intro H' hp; exact c_none H'))
    | ((with_reducible apply Sy.dcall0 (k := 130)); (first | exact wantY_none); exact rfl; (intro h hh; first | exact hh | (subst hh; omega)); exact rfl; exact rfl; exact rfl; exact en130; exact rfl; (intro H' hp; exact c_Leaf k v H' (g.of hp (by simp))))
    | ((with_reducible apply Sy.build (t := 138)); (case hd => exact rfl); (case hx => exact rfl); (case hv => exact bvP _ _))
    | ((with_reducible apply Sy.build (t := 207)); (case hd => exact rfl); (case hx => exact rfl); (case hv => exact bvL _ _))
    | ((with_reducible apply Sy.newY (o := ⟨some 5, .box 44 _, _, _, _, _⟩)); exact rfl; exact rfl; exact nbH rfl; intro q5)
    | ((with_reducible apply Sy.newY (o := ⟨some 5, .box 44 _, _, _, _, _⟩)); exact rfl; exact rfl; exact nb1 rfl rfl; intro q5)
    | ((with_reducible apply Sy.newY (o := ⟨some 5, .box 44 _, _, _, _, _⟩)); exact rfl; exact rfl; exact nbA rfl; intro q5)
    | ((with_reducible apply Sy.newY (o := ⟨some 6, .box 44 _, _, _, _, _⟩)); exact rfl; exact rfl; exact nbH rfl; intro q6)
    | ((with_reducible apply Sy.newY (o := ⟨some 6, .box 44 _, _, _, _, _⟩)); exact rfl; exact rfl; exact nb1 rfl rfl; intro q6)
    | ((with_reducible apply Sy.newY (o := ⟨some 6, .box 44 _, _, _, _, _⟩)); exact rfl; exact rfl; exact nbA rfl; intro q6)
    | ((with_reducible apply Sy.dnew (o := ⟨some 22, .box 138 _, _, _, _, _⟩)); (· first | exact wantY_none); exact rfl; exact rfl; exact rfl; exact rfl; exact rfl; exact nbA rfl; intro q22 hq22)
    | ((with_reducible apply Sy.dnew (o := ⟨some 24, .box 207 _, _, _, _, _⟩)); (· first | exact wantY_none); exact rfl; exact rfl; exact rfl; exact rfl; exact rfl; exact nbA rfl; intro q24 hq24)
    | (with_reducible refine Sy.skip ?_)
    | (with_reducible refine Sy.ret ?_)
    | (with_reducible refine Sy.aret ?_)
    | ((with_reducible apply Sy.drawL (id := 2) 3 [(0, 1)] (fun hi h => h < hi)); (case hp => kernel_rfl); (case hN => exact rfl); intro base hbase hM; try simp only [List.forall_mem_cons, List.forall_mem_append, List.not_mem_nil, false_implies, implies_true, and_true] at hM)
    | ((with_reducible apply Sy.drawL (id := 4) 10 [(3, 2), (4, 2)] (fun hi h => h < hi)); (case hp => kernel_rfl); (case hN => exact rfl); intro base hbase hM; try simp only [List.forall_mem_cons, List.forall_mem_append, List.not_mem_nil, false_implies, implies_true, and_true] at hM)
    | ((with_reducible apply Sy.drawL (id := 12) 11 [(6, 3)] (fun hi h => h < hi)); (case hp => kernel_rfl); (case hN => exact rfl); intro base hbase hM; try simp only [List.forall_mem_cons, List.forall_mem_append, List.not_mem_nil, false_implies, implies_true, and_true] at hM)
    | ((with_reducible apply Sy.yes); exact rfl)
    | (with_reducible refine Sy.dend ?_)
    | ((with_reducible apply Sy.dgo); (· first | exact wantY_none); (· intro hcls; cases hcls); exact rfl; exact rfl)
    | ((with_reducible apply Sy.dld); (· first | exact wantY_none); exact rfl; (· first | omega | exact rfl); exact rfl)
    | ((with_reducible apply Sy.ite); (case hx => exact rfl); all_goals (intro hc; try (exfalso; omega))))
    · exact .fin [.pointer none] (.inr rfl) ⟨rfl, trivial⟩ fun H' hp => ⟨(none, []), by rw [tput, if_pos (by assumption)]; exact .nil, rfl, hp.less (List.nil_sublist _)⟩
    · exact .fin [.pointer (some ⟨q24, 0, none⟩)] (.inr rfl) ⟨rfl, trivial⟩ fun H' hp => ⟨(some ⟨q24, 0, none⟩, [_, _]), by rw [tput, if_neg (by assumption)]; exact .leaf (.inl (List.mem_cons_self ..)) (.inl (List.mem_cons_of_mem _ (List.mem_cons_self ..))), rfl, hp.less (.cons_cons _ (.cons_cons _ (List.nil_sublist _)))⟩
  | succ n ih =>
    intro hn pv t B H g hB ht
    have hb01 : bitOf k (256 - (n + 1)) = 0 ∨ bitOf k (256 - (n + 1)) = 1 := by have := and1_lt (k.at ((256 - (n + 1)) / 8) >>> (7 - (256 - (n + 1)) % 8)); unfold bitOf; omega
    have hk := ht.two
    have ih2 := ih (by omega)
    rw [show 256 - n = 256 - (n + 1) + 1 by omega] at ih2
    rcases hk with ⟨rfl, rfl⟩ | ⟨a, w, h, pl, pr, x, rfl, hga, hl, hr⟩
    · rcases hb01 with hb | hb
      · refine CallR.sy (n := 61) Tryd.func129 rfl rfl rfl ?_
        repeat' (first
    | (with_reducible refine Sy.seq ?_)
    | (with_reducible refine Sy.regionL ?_)
    | (with_reducible refine Sy.opsnil ?_)
    | (with_reducible refine Sy.go ?_)
    | (with_reducible refine Sy.nrm ?_)
    | ((with_reducible apply Sy.assign); exact rfl; exact rfl)
    | ((with_reducible apply Sy.move); exact rfl; exact rfl)
    | ((with_reducible apply Sy.bin (op := .eql) (t := 3)); exact rfl; exact rfl; exact rfl; exact b_eql)
    | ((with_reducible apply Sy.bin (op := .eql) (t := 3)); exact rfl; exact rfl; exact rfl; exact bz_eql)
    | ((with_reducible apply Sy.ldN (t := 44)); exact rfl; exact rfl; exact hasT; (· first | exact ld_hV ag44 sz44))
    | ((with_reducible apply Sy.bin (op := .eql) (t := 44)); exact rfl; exact rfl; exact rfl; exact eq44)
    | ((with_reducible apply Sy.build (t := 138)); exact rfl; exact rfl; (· exact (bv138 (by first | rfl))))
    | ((with_reducible apply Sy.build (t := 207)); exact rfl; exact rfl; (· exact (bv207 (by first | rfl))))
    | ((with_reducible apply Sy.bin (op := .neq) (t := 179)); exact rfl; exact rfl; exact rfl; exact p_ne0 kd179)
    | ((with_reducible apply Sy.bin (op := .neq) (t := 179)); exact rfl; exact rfl; exact rfl; exact p_ne1 kd179)
    | ((with_reducible apply Sy.bin (op := .neq) (t := 179)); exact rfl; exact rfl; exact rfl; exact p_ne2 kd179)
    | ((with_reducible apply Sy.fa (t := 207) (i := 1)); exact rfl; exact rfl; exact fa207_1 _ _)
    | ((with_reducible apply Sy.ldN (t := 204)); exact rfl; exact rfl; exact hasT; (· first | exact ld_agg ag204 sz204 (by first | (simp; done)) (by first | rfl)))
    | ((with_reducible apply Sy.stNa (t := 204)); exact rfl; exact rfl; exact sz204; (· first | exact hC_length _ | exact rfl | (simp; done)); (· first | exact hC_one _ | exact rfl); exact turnT; (· first | (simp; done)); (· first | exact rfl))
    | ((with_reducible apply Sy.ia (t := 204)); exact rfl; exact rfl; exact rfl; exact (ia_ar10 Tryd.underlying204 sz179 (by omega)))
    | ((with_reducible apply Sy.ia (t := 204)); exact rfl; exact rfl; exact rfl; exact (ia_ar1 Tryd.underlying204 sz179 (by omega)))
    | ((with_reducible apply Sy.ldN (t := 179)); exact rfl; exact rfl; exact hasT; (· first | exact ld_one ag179 rfl))
    | ((with_reducible apply Sy.bin (op := .add) (t := 3)); exact rfl; exact rfl; exact rfl; exact (b_add (by omega)))
    | ((with_reducible apply Sy.bin (op := .add) (t := 3)); exact rfl; exact rfl; exact rfl; exact (bz_add (by omega) (by omega)))
    | ((with_reducible apply Sy.stN1 (t := 179)); exact rfl; exact rfl; exact sz179; (· first | exact rfl | exact accV_cells); (· first | exact rfl | exact accV_oneL); exact turnT; (· first | (simp; done)); (· first | rfl))
    | ((with_reducible apply Sy.build (t := 204)); exact rfl; exact rfl; (· exact (bv204 (by first | rfl))))
    | ((with_reducible apply Sy.bin (op := .eql) (t := 204)); exact rfl; exact rfl; exact rfl; exact eq204)
    | ((with_reducible apply Sy.fa (t := 207) (i := 0)); exact rfl; exact rfl; exact fa207_0 _ _)
    | ((with_reducible apply Sy.stNa (t := 44)); exact rfl; exact rfl; exact sz44; (· first | exact hC_length _ | exact rfl | (simp; done)); (· first | exact hC_one _ | exact rfl); exact turnT; (· first | (simp; done)); (· first | exact rfl))
    | ((with_reducible apply Sy.call0 (k := 138)); exact rfl; exact rfl; exact en138; exact rfl; (intro H' hp; exact c_bit0 k _ 0 (by omega) hb H'))
    | ((with_reducible apply Sy.dcall0 (k := 138)); (first | exact wantY_none); exact rfl; (intro h hh; first | exact hh | (subst hh; omega)); exact rfl; exact rfl; exact rfl; exact en138; exact rfl; (intro H' hp; exact c_bit0 k _ 0 (by omega) hb H'))
    | ((with_reducible apply Sy.call0 (k := 116)); exact rfl; exact rfl; exact en116; exact rfl; (intro H' hp; exact c_none H'))
    | ((with_reducible apply Sy.dcall0 (k := 116)); (first | exact wantY_none); exact rfl; (intro h hh; first | exact hh | (subst hh; omega)); exact rfl; exact rfl; exact rfl; exact en116; exact rfl; (intro H' hp; exact c_none H'))
    | ((with_reducible apply Sy.dcall (k := 129)); (first | exact wantY_none); exact rfl; (intro h hh; first | exact hh | (subst hh; omega)); exact rfl; exact rfl; exact rfl; exact en129; exact rfl; (intro H' hp; exact put_at ih2 hp g hB .nil); rintro ⟨u, L⟩ hT)
    | ((with_reducible apply Sy.call0 (k := 117)); exact rfl; exact rfl; exact en117; exact rfl; (intro H' hp; exact c_hash _ _ _ H' (by first | exact TreeL.at hT hp (fun p h => by simp only [List.mem_append, List.mem_cons, h, true_or, or_true]) hB | exact TreeL.nil (B := 0))))
    | ((with_reducible apply Sy.dcall0 (k := 117)); (first | exact wantY_none); exact rfl; (intro h hh; first | exact hh | (subst hh; omega)); exact rfl; exact rfl; exact rfl; exact en117; exact rfl; (intro H' hp; exact c_hash _ _ _ H' (by first | exact TreeL.at hT hp (fun p h => by simp only [List.mem_append, List.mem_cons, h, true_or, or_true]) hB | exact TreeL.nil (B := 0))))
    | ((with_reducible apply Sy.call0 (k := 132)); exact rfl; exact rfl; exact en132; exact rfl; (intro H' hp; exact c_Above _ _ H' (g.of hp (by simp))))
    | ((with_reducible apply Sy.dcall0 (k := 132)); (first | exact wantY_none); exact rfl; (intro h hh; first | exact hh | (subst hh; omega)); exact rfl; exact rfl; exact rfl; exact en132; exact rfl; (intro H' hp; exact c_Above _ _ H' (g.of hp (by simp))))
    | ((with_reducible apply Sy.newY (o := ⟨some 5, .box 44 _, _, _, _, _⟩)); exact rfl; exact rfl; exact nbH rfl; intro q5)
    | ((with_reducible apply Sy.newY (o := ⟨some 5, .box 44 _, _, _, _, _⟩)); exact rfl; exact rfl; exact nb1 rfl rfl; intro q5)
    | ((with_reducible apply Sy.newY (o := ⟨some 5, .box 44 _, _, _, _, _⟩)); exact rfl; exact rfl; exact nbA rfl; intro q5)
    | ((with_reducible apply Sy.newY (o := ⟨some 6, .box 44 _, _, _, _, _⟩)); exact rfl; exact rfl; exact nbH rfl; intro q6)
    | ((with_reducible apply Sy.newY (o := ⟨some 6, .box 44 _, _, _, _, _⟩)); exact rfl; exact rfl; exact nb1 rfl rfl; intro q6)
    | ((with_reducible apply Sy.newY (o := ⟨some 6, .box 44 _, _, _, _, _⟩)); exact rfl; exact rfl; exact nbA rfl; intro q6)
    | ((with_reducible apply Sy.newY (o := ⟨some 9, .alloc 207, _, _, _, _⟩)); exact rfl; exact rfl; exact nwz207; intro q9)
    | (with_reducible refine Sy.skip ?_)
    | (with_reducible refine Sy.ret ?_)
    | (with_reducible refine Sy.aret ?_)
    | ((with_reducible apply Sy.drawL (id := 2) 3 [(0, 1)] (fun hi h => h < hi)); (case hp => kernel_rfl); (case hN => exact rfl); intro base hbase hM; try simp only [List.forall_mem_cons, List.forall_mem_append, List.not_mem_nil, false_implies, implies_true, and_true] at hM)
    | ((with_reducible apply Sy.drawL (id := 9) 13 [] (fun hi h => h < hi)); (case hp => kernel_rfl); (case hN => exact rfl); intro base hbase hM; try simp only [List.forall_mem_cons, List.forall_mem_append, List.not_mem_nil, false_implies, implies_true, and_true] at hM)
    | ((with_reducible apply Sy.drawL (id := 12) 11 [(6, 3)] (fun hi h => h < hi)); (case hp => kernel_rfl); (case hN => exact rfl); intro base hbase hM; try simp only [List.forall_mem_cons, List.forall_mem_append, List.not_mem_nil, false_implies, implies_true, and_true] at hM)
    | ((with_reducible apply Sy.no); exact rfl)
    | (with_reducible refine Sy.dend ?_)
    | ((with_reducible apply Sy.dgo); (· first | exact wantY_none); (· intro hcls; cases hcls); exact rfl; exact rfl)
    | ((with_reducible apply Sy.dld); (· first | exact wantY_none); exact rfl; (· first | omega | exact rfl); exact rfl)
    | ((with_reducible apply Sy.ite); (case hx => exact rfl); all_goals (intro hc; try (exfalso; omega)))
    | ((with_reducible apply Sy.iteB); (case hx => exact rfl); all_goals intro hc))
        · exact .fin [.pointer none] (.inr rfl) ⟨rfl, trivial⟩ fun H' hp => ⟨(none, []), by rw [tput, if_pos hb]; exact hT.made0 .nil hc, rfl, hp.less (List.nil_sublist _)⟩
        · refine .fin [.pointer (some ⟨q9, 0, none⟩)] (.inr rfl) ⟨rfl, trivial⟩ fun H' hp => ⟨(some ⟨q9, 0, none⟩, L ++ [_]), by rw [tput, if_pos hb]; exact hT.made .nil hc rfl, rfl, ?_⟩
          dsimp only at hp
          try rw [cells0] at hp
          exact hp.less ((List.Sublist.refl L).append ((List.nil_sublist _).cons_cons _))
      · refine CallR.sy (n := 61) Tryd.func129 rfl rfl rfl ?_
        repeat' (first
    | (with_reducible refine Sy.seq ?_)
    | (with_reducible refine Sy.regionL ?_)
    | (with_reducible refine Sy.opsnil ?_)
    | (with_reducible refine Sy.go ?_)
    | (with_reducible refine Sy.nrm ?_)
    | ((with_reducible apply Sy.assign); exact rfl; exact rfl)
    | ((with_reducible apply Sy.move); exact rfl; exact rfl)
    | ((with_reducible apply Sy.bin (op := .eql) (t := 3)); exact rfl; exact rfl; exact rfl; exact b_eql)
    | ((with_reducible apply Sy.bin (op := .eql) (t := 3)); exact rfl; exact rfl; exact rfl; exact bz_eql)
    | ((with_reducible apply Sy.ldN (t := 44)); exact rfl; exact rfl; exact hasT; (· first | exact ld_hV ag44 sz44))
    | ((with_reducible apply Sy.bin (op := .eql) (t := 44)); exact rfl; exact rfl; exact rfl; exact eq44)
    | ((with_reducible apply Sy.build (t := 138)); exact rfl; exact rfl; (· exact (bv138 (by first | rfl))))
    | ((with_reducible apply Sy.build (t := 207)); exact rfl; exact rfl; (· exact (bv207 (by first | rfl))))
    | ((with_reducible apply Sy.bin (op := .neq) (t := 179)); exact rfl; exact rfl; exact rfl; exact p_ne0 kd179)
    | ((with_reducible apply Sy.bin (op := .neq) (t := 179)); exact rfl; exact rfl; exact rfl; exact p_ne1 kd179)
    | ((with_reducible apply Sy.bin (op := .neq) (t := 179)); exact rfl; exact rfl; exact rfl; exact p_ne2 kd179)
    | ((with_reducible apply Sy.fa (t := 207) (i := 1)); exact rfl; exact rfl; exact fa207_1 _ _)
    | ((with_reducible apply Sy.ldN (t := 204)); exact rfl; exact rfl; exact hasT; (· first | exact ld_agg ag204 sz204 (by first | (simp; done)) (by first | rfl)))
    | ((with_reducible apply Sy.stNa (t := 204)); exact rfl; exact rfl; exact sz204; (· first | exact hC_length _ | exact rfl | (simp; done)); (· first | exact hC_one _ | exact rfl); exact turnT; (· first | (simp; done)); (· first | exact rfl))
    | ((with_reducible apply Sy.ia (t := 204)); exact rfl; exact rfl; exact rfl; exact (ia_ar10 Tryd.underlying204 sz179 (by omega)))
    | ((with_reducible apply Sy.ia (t := 204)); exact rfl; exact rfl; exact rfl; exact (ia_ar1 Tryd.underlying204 sz179 (by omega)))
    | ((with_reducible apply Sy.ldN (t := 179)); exact rfl; exact rfl; exact hasT; (· first | exact ld_one ag179 rfl))
    | ((with_reducible apply Sy.bin (op := .add) (t := 3)); exact rfl; exact rfl; exact rfl; exact (b_add (by omega)))
    | ((with_reducible apply Sy.bin (op := .add) (t := 3)); exact rfl; exact rfl; exact rfl; exact (bz_add (by omega) (by omega)))
    | ((with_reducible apply Sy.stN1 (t := 179)); exact rfl; exact rfl; exact sz179; (· first | exact rfl | exact accV_cells); (· first | exact rfl | exact accV_oneL); exact turnT; (· first | (simp; done)); (· first | rfl))
    | ((with_reducible apply Sy.build (t := 204)); exact rfl; exact rfl; (· exact (bv204 (by first | rfl))))
    | ((with_reducible apply Sy.bin (op := .eql) (t := 204)); exact rfl; exact rfl; exact rfl; exact eq204)
    | ((with_reducible apply Sy.fa (t := 207) (i := 0)); exact rfl; exact rfl; exact fa207_0 _ _)
    | ((with_reducible apply Sy.stNa (t := 44)); exact rfl; exact rfl; exact sz44; (· first | exact hC_length _ | exact rfl | (simp; done)); (· first | exact hC_one _ | exact rfl); exact turnT; (· first | (simp; done)); (· first | exact rfl))
    | ((with_reducible apply Sy.call0 (k := 138)); exact rfl; exact rfl; exact en138; exact rfl; (intro H' hp; exact c_bit0 k _ 1 (by omega) hb H'))
    | ((with_reducible apply Sy.dcall0 (k := 138)); (first | exact wantY_none); exact rfl; (intro h hh; first | exact hh | (subst hh; omega)); exact rfl; exact rfl; exact rfl; exact en138; exact rfl; (intro H' hp; exact c_bit0 k _ 1 (by omega) hb H'))
    | ((with_reducible apply Sy.call0 (k := 116)); exact rfl; exact rfl; exact en116; exact rfl; (intro H' hp; exact c_none H'))
    | ((with_reducible apply Sy.dcall0 (k := 116)); (first | exact wantY_none); exact rfl; (intro h hh; first | exact hh | (subst hh; omega)); exact rfl; exact rfl; exact rfl; exact en116; exact rfl; (intro H' hp; exact c_none H'))
    | ((with_reducible apply Sy.dcall (k := 129)); (first | exact wantY_none); exact rfl; (intro h hh; first | exact hh | (subst hh; omega)); exact rfl; exact rfl; exact rfl; exact en129; exact rfl; (intro H' hp; exact put_at ih2 hp g hB .nil); rintro ⟨u, L⟩ hT)
    | ((with_reducible apply Sy.call0 (k := 117)); exact rfl; exact rfl; exact en117; exact rfl; (intro H' hp; exact c_hash _ _ _ H' (by first | exact TreeL.at hT hp (fun p h => by simp only [List.mem_append, List.mem_cons, h, true_or, or_true]) hB | exact TreeL.nil (B := 0))))
    | ((with_reducible apply Sy.dcall0 (k := 117)); (first | exact wantY_none); exact rfl; (intro h hh; first | exact hh | (subst hh; omega)); exact rfl; exact rfl; exact rfl; exact en117; exact rfl; (intro H' hp; exact c_hash _ _ _ H' (by first | exact TreeL.at hT hp (fun p h => by simp only [List.mem_append, List.mem_cons, h, true_or, or_true]) hB | exact TreeL.nil (B := 0))))
    | ((with_reducible apply Sy.call0 (k := 132)); exact rfl; exact rfl; exact en132; exact rfl; (intro H' hp; exact c_Above _ _ H' (g.of hp (by simp))))
    | ((with_reducible apply Sy.dcall0 (k := 132)); (first | exact wantY_none); exact rfl; (intro h hh; first | exact hh | (subst hh; omega)); exact rfl; exact rfl; exact rfl; exact en132; exact rfl; (intro H' hp; exact c_Above _ _ H' (g.of hp (by simp))))
    | ((with_reducible apply Sy.newY (o := ⟨some 5, .box 44 _, _, _, _, _⟩)); exact rfl; exact rfl; exact nbH rfl; intro q5)
    | ((with_reducible apply Sy.newY (o := ⟨some 5, .box 44 _, _, _, _, _⟩)); exact rfl; exact rfl; exact nb1 rfl rfl; intro q5)
    | ((with_reducible apply Sy.newY (o := ⟨some 5, .box 44 _, _, _, _, _⟩)); exact rfl; exact rfl; exact nbA rfl; intro q5)
    | ((with_reducible apply Sy.newY (o := ⟨some 6, .box 44 _, _, _, _, _⟩)); exact rfl; exact rfl; exact nbH rfl; intro q6)
    | ((with_reducible apply Sy.newY (o := ⟨some 6, .box 44 _, _, _, _, _⟩)); exact rfl; exact rfl; exact nb1 rfl rfl; intro q6)
    | ((with_reducible apply Sy.newY (o := ⟨some 6, .box 44 _, _, _, _, _⟩)); exact rfl; exact rfl; exact nbA rfl; intro q6)
    | ((with_reducible apply Sy.newY (o := ⟨some 9, .alloc 207, _, _, _, _⟩)); exact rfl; exact rfl; exact nwz207; intro q9)
    | (with_reducible refine Sy.skip ?_)
    | (with_reducible refine Sy.ret ?_)
    | (with_reducible refine Sy.aret ?_)
    | ((with_reducible apply Sy.drawL (id := 2) 3 [(0, 1)] (fun hi h => h < hi)); (case hp => kernel_rfl); (case hN => exact rfl); intro base hbase hM; try simp only [List.forall_mem_cons, List.forall_mem_append, List.not_mem_nil, false_implies, implies_true, and_true] at hM)
    | ((with_reducible apply Sy.drawL (id := 9) 13 [] (fun hi h => h < hi)); (case hp => kernel_rfl); (case hN => exact rfl); intro base hbase hM; try simp only [List.forall_mem_cons, List.forall_mem_append, List.not_mem_nil, false_implies, implies_true, and_true] at hM)
    | ((with_reducible apply Sy.drawL (id := 12) 11 [(6, 3)] (fun hi h => h < hi)); (case hp => kernel_rfl); (case hN => exact rfl); intro base hbase hM; try simp only [List.forall_mem_cons, List.forall_mem_append, List.not_mem_nil, false_implies, implies_true, and_true] at hM)
    | ((with_reducible apply Sy.no); exact rfl)
    | (with_reducible refine Sy.dend ?_)
    | ((with_reducible apply Sy.dgo); (· first | exact wantY_none); (· intro hcls; cases hcls); exact rfl; exact rfl)
    | ((with_reducible apply Sy.dld); (· first | exact wantY_none); exact rfl; (· first | omega | exact rfl); exact rfl)
    | ((with_reducible apply Sy.ite); (case hx => exact rfl); all_goals (intro hc; try (exfalso; omega)))
    | ((with_reducible apply Sy.iteB); (case hx => exact rfl); all_goals intro hc))
        · exact .fin [.pointer none] (.inr rfl) ⟨rfl, trivial⟩ fun H' hp => ⟨(none, []), by rw [tput, if_neg (by omega)]; exact TreeL.made0 .nil hT hc, rfl, hp.less (List.nil_sublist _)⟩
        · refine .fin [.pointer (some ⟨q9, 0, none⟩)] (.inr rfl) ⟨rfl, trivial⟩ fun H' hp => ⟨(some ⟨q9, 0, none⟩, L ++ [_]), by rw [tput, if_neg (by omega)]; exact TreeL.made .nil hT hc rfl, rfl, ?_⟩
          dsimp only at hp
          try rw [cells1] at hp
          exact hp.less ((List.Sublist.refl L).append ((List.nil_sublist _).cons_cons _))
    · rcases hb01 with hb | hb
      · refine CallR.sy (n := 61) Tryd.func129 rfl rfl rfl ?_
        repeat' (first
    | (with_reducible refine Sy.seq ?_)
    | (with_reducible refine Sy.regionL ?_)
    | (with_reducible refine Sy.opsnil ?_)
    | (with_reducible refine Sy.go ?_)
    | (with_reducible refine Sy.nrm ?_)
    | ((with_reducible apply Sy.assign); exact rfl; exact rfl)
    | ((with_reducible apply Sy.move); exact rfl; exact rfl)
    | ((with_reducible apply Sy.bin (op := .eql) (t := 3)); exact rfl; exact rfl; exact rfl; exact b_eql)
    | ((with_reducible apply Sy.bin (op := .eql) (t := 3)); exact rfl; exact rfl; exact rfl; exact bz_eql)
    | ((with_reducible apply Sy.ldN (t := 44)); exact rfl; exact rfl; exact hasT; (· first | exact ld_hV ag44 sz44))
    | ((with_reducible apply Sy.ld0 (t := 44)); exact rfl; exact rfl; (· with_reducible assumption); exact rfl; exact notM; (· first | exact ld_hV ag44 sz44 | exact ld_agg (cs' := hC _) ag44 sz44 (by simp; done) (by first | rfl | exact cut_here (by simp; done) | exact cut_all (by simp; done) | (simp [List.drop_append, List.take_append, List.getElem?_append, lay, hC_length, ints_length, ints_drop, ints_take, ints_append, List.drop_of_length_le, List.take_of_length_le, List.map_append, List.set_append, Value.cells]; done))))
    | ((with_reducible apply Sy.bin (op := .eql) (t := 44)); exact rfl; exact rfl; exact rfl; exact eq44)
    | ((with_reducible apply Sy.build (t := 138)); exact rfl; exact rfl; (· exact (bv138 (by first | rfl))))
    | ((with_reducible apply Sy.build (t := 207)); exact rfl; exact rfl; (· exact (bv207 (by first | rfl))))
    | ((with_reducible apply Sy.bin (op := .neq) (t := 179)); exact rfl; exact rfl; exact rfl; exact p_ne0 kd179)
    | ((with_reducible apply Sy.bin (op := .neq) (t := 179)); exact rfl; exact rfl; exact rfl; exact p_ne1 kd179)
    | ((with_reducible apply Sy.bin (op := .neq) (t := 179)); exact rfl; exact rfl; exact rfl; exact p_ne2 kd179)
    | ((with_reducible apply Sy.nilC); exact rfl; exact rfl; exact rfl)
    | ((with_reducible apply Sy.fa (t := 207) (i := 1)); exact rfl; exact rfl; exact fa207_1 _ _)
    | ((with_reducible apply Sy.ldN (t := 204)); exact rfl; exact rfl; exact hasT; (· first | exact ld_agg ag204 sz204 (by first | (simp; done)) (by first | rfl)))
    | ((with_reducible apply Sy.ld0 (t := 204)); exact rfl; exact rfl; (· with_reducible assumption); exact rfl; exact notM; (· first | exact ld_agg ag204 sz204 (by first | (simp; done)) (by first | with_reducible exact cut_kids)))
    | ((with_reducible apply Sy.stNa (t := 204)); exact rfl; exact rfl; exact sz204; (· first | exact hC_length _ | exact rfl | (simp; done)); (· first | exact hC_one _ | exact rfl); exact turnT; (· first | (simp; done)); (· first | with_reducible exact set191 | exact rfl))
    | ((with_reducible apply Sy.ia (t := 204)); exact rfl; exact rfl; exact rfl; exact (ia_ar10 Tryd.underlying204 sz179 (by omega)))
    | ((with_reducible apply Sy.ia (t := 204)); exact rfl; exact rfl; exact rfl; exact (ia_ar1 Tryd.underlying204 sz179 (by omega)))
    | ((with_reducible apply Sy.ldN (t := 179)); exact rfl; exact rfl; exact hasT; (· first | exact ld_one ag179 rfl))
    | ((with_reducible apply Sy.ld0 (t := 179)); exact rfl; exact rfl; (· with_reducible assumption); exact rfl; exact notM; (· first | exact ld_one ag179 rfl | with_reducible assumption | exact ld_one ag179 (by with_reducible assumption) | exact ld_one ag179 (by simp [List.drop_append, List.take_append, List.getElem?_append, lay, hC_length, ints_length, ints_drop, ints_take, ints_append, List.drop_of_length_le, List.take_of_length_le, List.map_append, List.set_append, Value.cells]; done)))
    | ((with_reducible apply Sy.bin (op := .add) (t := 3)); exact rfl; exact rfl; exact rfl; exact (b_add (by omega)))
    | ((with_reducible apply Sy.bin (op := .add) (t := 3)); exact rfl; exact rfl; exact rfl; exact (bz_add (by omega) (by omega)))
    | ((with_reducible apply Sy.stN1 (t := 179)); exact rfl; exact rfl; exact sz179; (· first | exact rfl | exact accV_cells); (· first | exact rfl | exact accV_oneL); exact turnT; (· first | (simp; done)); (· first | rfl))
    | ((with_reducible apply Sy.build (t := 204)); exact rfl; exact rfl; (· exact (bv204 (by first | rfl))))
    | ((with_reducible apply Sy.bin (op := .eql) (t := 204)); exact rfl; exact rfl; exact rfl; exact eq204)
    | ((with_reducible apply Sy.fa (t := 207) (i := 0)); exact rfl; exact rfl; exact fa207_0 _ _)
    | ((with_reducible apply Sy.stNa (t := 44)); exact rfl; exact rfl; exact sz44; (· first | exact hC_length _ | exact rfl | (simp; done)); (· first | exact hC_one _ | exact rfl); exact turnT; (· first | (simp; done)); (· first | with_reducible exact set191 | exact rfl))
    | ((with_reducible apply Sy.call0 (k := 138)); exact rfl; exact rfl; exact en138; exact rfl; (intro H' hp; exact c_bit0 k _ 0 (by omega) hb H'))
    | ((with_reducible apply Sy.dcall0 (k := 138)); (first | exact wantY_none); exact rfl; (intro h hh; first | exact hh | (subst hh; omega)); exact rfl; exact rfl; exact rfl; exact en138; exact rfl; (intro H' hp; exact c_bit0 k _ 0 (by omega) hb H'))
    | ((with_reducible apply Sy.call0 (k := 116)); exact rfl; exact rfl; exact en116; exact rfl; (intro H' hp; exact c_none H'))
    | ((with_reducible apply Sy.dcall0 (k := 116)); (first | exact wantY_none); exact rfl; (intro h hh; first | exact hh | (subst hh; omega)); exact rfl; exact rfl; exact rfl; exact en116; exact rfl; (intro H' hp; exact c_none H'))
    | ((with_reducible apply Sy.dcall (k := 129)); (first | exact wantY_none); exact rfl; (intro h hh; first | exact hh | (subst hh; omega)); exact rfl; exact rfl; exact rfl; exact en129; exact rfl; (intro H' hp; exact put_at ih2 hp g hB hl); rintro ⟨u, L⟩ hT)
    | ((with_reducible apply Sy.call0 (k := 117)); exact rfl; exact rfl; exact en117; exact rfl; (intro H' hp; exact c_hash _ _ _ H' (by first | exact TreeL.at hT hp (fun p h => by simp only [List.mem_append, List.mem_cons, h, true_or, or_true]) hB | exact TreeL.at hr hp (fun p h => by cases h) hB)))
    | ((with_reducible apply Sy.dcall0 (k := 117)); (first | exact wantY_none); exact rfl; (intro h hh; first | exact hh | (subst hh; omega)); exact rfl; exact rfl; exact rfl; exact en117; exact rfl; (intro H' hp; exact c_hash _ _ _ H' (by first | exact TreeL.at hT hp (fun p h => by simp only [List.mem_append, List.mem_cons, h, true_or, or_true]) hB | exact TreeL.at hr hp (fun p h => by cases h) hB)))
    | ((with_reducible apply Sy.call0 (k := 132)); exact rfl; exact rfl; exact en132; exact rfl; (intro H' hp; exact c_Above _ _ H' (g.of hp (by simp))))
    | ((with_reducible apply Sy.dcall0 (k := 132)); (first | exact wantY_none); exact rfl; (intro h hh; first | exact hh | (subst hh; omega)); exact rfl; exact rfl; exact rfl; exact en132; exact rfl; (intro H' hp; exact c_Above _ _ H' (g.of hp (by simp))))
    | ((with_reducible apply Sy.newY (o := ⟨some 5, .box 44 _, _, _, _, _⟩)); exact rfl; exact rfl; exact nbH rfl; intro q5)
    | ((with_reducible apply Sy.newY (o := ⟨some 5, .box 44 _, _, _, _, _⟩)); exact rfl; exact rfl; exact nb1 rfl rfl; intro q5)
    | ((with_reducible apply Sy.newY (o := ⟨some 5, .box 44 _, _, _, _, _⟩)); exact rfl; exact rfl; exact nbA rfl; intro q5)
    | ((with_reducible apply Sy.newY (o := ⟨some 6, .box 44 _, _, _, _, _⟩)); exact rfl; exact rfl; exact nbH rfl; intro q6)
    | ((with_reducible apply Sy.newY (o := ⟨some 6, .box 44 _, _, _, _, _⟩)); exact rfl; exact rfl; exact nb1 rfl rfl; intro q6)
    | ((with_reducible apply Sy.newY (o := ⟨some 6, .box 44 _, _, _, _, _⟩)); exact rfl; exact rfl; exact nbA rfl; intro q6)
    | ((with_reducible apply Sy.newY (o := ⟨some 9, .alloc 207, _, _, _, _⟩)); exact rfl; exact rfl; exact nwz207; intro q9)
    | (with_reducible refine Sy.skip ?_)
    | (with_reducible refine Sy.ret ?_)
    | (with_reducible refine Sy.aret ?_)
    | ((with_reducible apply Sy.drawL (id := 2) 3 [(0, 1)] (fun hi h => h < hi)); (case hp => kernel_rfl); (case hN => exact rfl); intro base hbase hM; try simp only [List.forall_mem_cons, List.forall_mem_append, List.not_mem_nil, false_implies, implies_true, and_true] at hM)
    | ((with_reducible apply Sy.drawL (id := 9) 13 [] (fun hi h => h < hi)); (case hp => kernel_rfl); (case hN => exact rfl); intro base hbase hM; try simp only [List.forall_mem_cons, List.forall_mem_append, List.not_mem_nil, false_implies, implies_true, and_true] at hM)
    | ((with_reducible apply Sy.drawL (id := 12) 11 [(6, 3)] (fun hi h => h < hi)); (case hp => kernel_rfl); (case hN => exact rfl); intro base hbase hM; try simp only [List.forall_mem_cons, List.forall_mem_append, List.not_mem_nil, false_implies, implies_true, and_true] at hM)
    | ((with_reducible apply Sy.yes); exact rfl)
    | (with_reducible refine Sy.dend ?_)
    | ((with_reducible apply Sy.dgo); (· first | exact wantY_none); (· intro hcls; cases hcls); exact rfl; exact rfl)
    | ((with_reducible apply Sy.dld); (· first | exact wantY_none); exact rfl; (· first | omega | exact rfl); exact rfl)
    | ((with_reducible apply Sy.ite); (case hx => exact rfl); all_goals (intro hc; try (exfalso; omega)))
    | ((with_reducible apply Sy.iteB); (case hx => exact rfl); all_goals intro hc))
        · exact .fin [.pointer none] (.inr rfl) ⟨rfl, trivial⟩ fun H' hp => ⟨(none, []), by rw [tput, if_pos hb]; exact hT.made0 (hr.less fun p h => by cases h) hc, rfl, hp.less (List.nil_sublist _)⟩
        · refine .fin [.pointer (some ⟨q9, 0, none⟩)] (.inr rfl) ⟨rfl, trivial⟩ fun H' hp => ⟨(some ⟨q9, 0, none⟩, L ++ [_]), by rw [tput, if_pos hb]; exact hT.made (hr.less fun p h => by cases h) hc rfl, rfl, ?_⟩
          dsimp only at hp
          try rw [cells0] at hp
          exact hp.less ((List.Sublist.refl L).append ((List.nil_sublist _).cons_cons _))
      · refine CallR.sy (n := 61) Tryd.func129 rfl rfl rfl ?_
        repeat' (first
    | (with_reducible refine Sy.seq ?_)
    | (with_reducible refine Sy.regionL ?_)
    | (with_reducible refine Sy.opsnil ?_)
    | (with_reducible refine Sy.go ?_)
    | (with_reducible refine Sy.nrm ?_)
    | ((with_reducible apply Sy.assign); exact rfl; exact rfl)
    | ((with_reducible apply Sy.move); exact rfl; exact rfl)
    | ((with_reducible apply Sy.bin (op := .eql) (t := 3)); exact rfl; exact rfl; exact rfl; exact b_eql)
    | ((with_reducible apply Sy.bin (op := .eql) (t := 3)); exact rfl; exact rfl; exact rfl; exact bz_eql)
    | ((with_reducible apply Sy.ldN (t := 44)); exact rfl; exact rfl; exact hasT; (· first | exact ld_hV ag44 sz44))
    | ((with_reducible apply Sy.ld0 (t := 44)); exact rfl; exact rfl; (· with_reducible assumption); exact rfl; exact notM; (· first | exact ld_hV ag44 sz44 | exact ld_agg (cs' := hC _) ag44 sz44 (by simp; done) (by first | rfl | exact cut_here (by simp; done) | exact cut_all (by simp; done) | (simp [List.drop_append, List.take_append, List.getElem?_append, lay, hC_length, ints_length, ints_drop, ints_take, ints_append, List.drop_of_length_le, List.take_of_length_le, List.map_append, List.set_append, Value.cells]; done))))
    | ((with_reducible apply Sy.bin (op := .eql) (t := 44)); exact rfl; exact rfl; exact rfl; exact eq44)
    | ((with_reducible apply Sy.build (t := 138)); exact rfl; exact rfl; (· exact (bv138 (by first | rfl))))
    | ((with_reducible apply Sy.build (t := 207)); exact rfl; exact rfl; (· exact (bv207 (by first | rfl))))
    | ((with_reducible apply Sy.bin (op := .neq) (t := 179)); exact rfl; exact rfl; exact rfl; exact p_ne0 kd179)
    | ((with_reducible apply Sy.bin (op := .neq) (t := 179)); exact rfl; exact rfl; exact rfl; exact p_ne1 kd179)
    | ((with_reducible apply Sy.bin (op := .neq) (t := 179)); exact rfl; exact rfl; exact rfl; exact p_ne2 kd179)
    | ((with_reducible apply Sy.nilC); exact rfl; exact rfl; exact rfl)
    | ((with_reducible apply Sy.fa (t := 207) (i := 1)); exact rfl; exact rfl; exact fa207_1 _ _)
    | ((with_reducible apply Sy.ldN (t := 204)); exact rfl; exact rfl; exact hasT; (· first | exact ld_agg ag204 sz204 (by first | (simp; done)) (by first | rfl)))
    | ((with_reducible apply Sy.ld0 (t := 204)); exact rfl; exact rfl; (· with_reducible assumption); exact rfl; exact notM; (· first | exact ld_agg ag204 sz204 (by first | (simp; done)) (by first | with_reducible exact cut_kids)))
    | ((with_reducible apply Sy.stNa (t := 204)); exact rfl; exact rfl; exact sz204; (· first | exact hC_length _ | exact rfl | (simp; done)); (· first | exact hC_one _ | exact rfl); exact turnT; (· first | (simp; done)); (· first | with_reducible exact set191 | exact rfl))
    | ((with_reducible apply Sy.ia (t := 204)); exact rfl; exact rfl; exact rfl; exact (ia_ar10 Tryd.underlying204 sz179 (by omega)))
    | ((with_reducible apply Sy.ia (t := 204)); exact rfl; exact rfl; exact rfl; exact (ia_ar1 Tryd.underlying204 sz179 (by omega)))
    | ((with_reducible apply Sy.ldN (t := 179)); exact rfl; exact rfl; exact hasT; (· first | exact ld_one ag179 rfl))
    | ((with_reducible apply Sy.ld0 (t := 179)); exact rfl; exact rfl; (· with_reducible assumption); exact rfl; exact notM; (· first | exact ld_one ag179 rfl | with_reducible assumption | exact ld_one ag179 (by with_reducible assumption) | exact ld_one ag179 (by simp [List.drop_append, List.take_append, List.getElem?_append, lay, hC_length, ints_length, ints_drop, ints_take, ints_append, List.drop_of_length_le, List.take_of_length_le, List.map_append, List.set_append, Value.cells]; done)))
    | ((with_reducible apply Sy.bin (op := .add) (t := 3)); exact rfl; exact rfl; exact rfl; exact (b_add (by omega)))
    | ((with_reducible apply Sy.bin (op := .add) (t := 3)); exact rfl; exact rfl; exact rfl; exact (bz_add (by omega) (by omega)))
    | ((with_reducible apply Sy.stN1 (t := 179)); exact rfl; exact rfl; exact sz179; (· first | exact rfl | exact accV_cells); (· first | exact rfl | exact accV_oneL); exact turnT; (· first | (simp; done)); (· first | rfl))
    | ((with_reducible apply Sy.build (t := 204)); exact rfl; exact rfl; (· exact (bv204 (by first | rfl))))
    | ((with_reducible apply Sy.bin (op := .eql) (t := 204)); exact rfl; exact rfl; exact rfl; exact eq204)
    | ((with_reducible apply Sy.fa (t := 207) (i := 0)); exact rfl; exact rfl; exact fa207_0 _ _)
    | ((with_reducible apply Sy.stNa (t := 44)); exact rfl; exact rfl; exact sz44; (· first | exact hC_length _ | exact rfl | (simp; done)); (· first | exact hC_one _ | exact rfl); exact turnT; (· first | (simp; done)); (· first | with_reducible exact set191 | exact rfl))
    | ((with_reducible apply Sy.call0 (k := 138)); exact rfl; exact rfl; exact en138; exact rfl; (intro H' hp; exact c_bit0 k _ 1 (by omega) hb H'))
    | ((with_reducible apply Sy.dcall0 (k := 138)); (first | exact wantY_none); exact rfl; (intro h hh; first | exact hh | (subst hh; omega)); exact rfl; exact rfl; exact rfl; exact en138; exact rfl; (intro H' hp; exact c_bit0 k _ 1 (by omega) hb H'))
    | ((with_reducible apply Sy.call0 (k := 116)); exact rfl; exact rfl; exact en116; exact rfl; (intro H' hp; exact c_none H'))
    | ((with_reducible apply Sy.dcall0 (k := 116)); (first | exact wantY_none); exact rfl; (intro h hh; first | exact hh | (subst hh; omega)); exact rfl; exact rfl; exact rfl; exact en116; exact rfl; (intro H' hp; exact c_none H'))
    | ((with_reducible apply Sy.dcall (k := 129)); (first | exact wantY_none); exact rfl; (intro h hh; first | exact hh | (subst hh; omega)); exact rfl; exact rfl; exact rfl; exact en129; exact rfl; (intro H' hp; exact put_at ih2 hp g hB hr); rintro ⟨u, L⟩ hT)
    | ((with_reducible apply Sy.call0 (k := 117)); exact rfl; exact rfl; exact en117; exact rfl; (intro H' hp; exact c_hash _ _ _ H' (by first | exact TreeL.at hT hp (fun p h => by simp only [List.mem_append, List.mem_cons, h, true_or, or_true]) hB | exact TreeL.at hl hp (fun p h => by cases h) hB)))
    | ((with_reducible apply Sy.dcall0 (k := 117)); (first | exact wantY_none); exact rfl; (intro h hh; first | exact hh | (subst hh; omega)); exact rfl; exact rfl; exact rfl; exact en117; exact rfl; (intro H' hp; exact c_hash _ _ _ H' (by first | exact TreeL.at hT hp (fun p h => by simp only [List.mem_append, List.mem_cons, h, true_or, or_true]) hB | exact TreeL.at hl hp (fun p h => by cases h) hB)))
    | ((with_reducible apply Sy.call0 (k := 132)); exact rfl; exact rfl; exact en132; exact rfl; (intro H' hp; exact c_Above _ _ H' (g.of hp (by simp))))
    | ((with_reducible apply Sy.dcall0 (k := 132)); (first | exact wantY_none); exact rfl; (intro h hh; first | exact hh | (subst hh; omega)); exact rfl; exact rfl; exact rfl; exact en132; exact rfl; (intro H' hp; exact c_Above _ _ H' (g.of hp (by simp))))
    | ((with_reducible apply Sy.newY (o := ⟨some 5, .box 44 _, _, _, _, _⟩)); exact rfl; exact rfl; exact nbH rfl; intro q5)
    | ((with_reducible apply Sy.newY (o := ⟨some 5, .box 44 _, _, _, _, _⟩)); exact rfl; exact rfl; exact nb1 rfl rfl; intro q5)
    | ((with_reducible apply Sy.newY (o := ⟨some 5, .box 44 _, _, _, _, _⟩)); exact rfl; exact rfl; exact nbA rfl; intro q5)
    | ((with_reducible apply Sy.newY (o := ⟨some 6, .box 44 _, _, _, _, _⟩)); exact rfl; exact rfl; exact nbH rfl; intro q6)
    | ((with_reducible apply Sy.newY (o := ⟨some 6, .box 44 _, _, _, _, _⟩)); exact rfl; exact rfl; exact nb1 rfl rfl; intro q6)
    | ((with_reducible apply Sy.newY (o := ⟨some 6, .box 44 _, _, _, _, _⟩)); exact rfl; exact rfl; exact nbA rfl; intro q6)
    | ((with_reducible apply Sy.newY (o := ⟨some 9, .alloc 207, _, _, _, _⟩)); exact rfl; exact rfl; exact nwz207; intro q9)
    | (with_reducible refine Sy.skip ?_)
    | (with_reducible refine Sy.ret ?_)
    | (with_reducible refine Sy.aret ?_)
    | ((with_reducible apply Sy.drawL (id := 2) 3 [(0, 1)] (fun hi h => h < hi)); (case hp => kernel_rfl); (case hN => exact rfl); intro base hbase hM; try simp only [List.forall_mem_cons, List.forall_mem_append, List.not_mem_nil, false_implies, implies_true, and_true] at hM)
    | ((with_reducible apply Sy.drawL (id := 9) 13 [] (fun hi h => h < hi)); (case hp => kernel_rfl); (case hN => exact rfl); intro base hbase hM; try simp only [List.forall_mem_cons, List.forall_mem_append, List.not_mem_nil, false_implies, implies_true, and_true] at hM)
    | ((with_reducible apply Sy.drawL (id := 12) 11 [(6, 3)] (fun hi h => h < hi)); (case hp => kernel_rfl); (case hN => exact rfl); intro base hbase hM; try simp only [List.forall_mem_cons, List.forall_mem_append, List.not_mem_nil, false_implies, implies_true, and_true] at hM)
    | ((with_reducible apply Sy.yes); exact rfl)
    | (with_reducible refine Sy.dend ?_)
    | ((with_reducible apply Sy.dgo); (· first | exact wantY_none); (· intro hcls; cases hcls); exact rfl; exact rfl)
    | ((with_reducible apply Sy.dld); (· first | exact wantY_none); exact rfl; (· first | omega | exact rfl); exact rfl)
    | ((with_reducible apply Sy.ite); (case hx => exact rfl); all_goals (intro hc; try (exfalso; omega)))
    | ((with_reducible apply Sy.iteB); (case hx => exact rfl); all_goals intro hc))
        · exact .fin [.pointer none] (.inr rfl) ⟨rfl, trivial⟩ fun H' hp => ⟨(none, []), by rw [tput, if_neg (by omega)]; exact TreeL.made0 (hl.less fun p h => by cases h) hT hc, rfl, hp.less (List.nil_sublist _)⟩
        · refine .fin [.pointer (some ⟨q9, 0, none⟩)] (.inr rfl) ⟨rfl, trivial⟩ fun H' hp => ⟨(some ⟨q9, 0, none⟩, L ++ [_]), by rw [tput, if_neg (by omega)]; exact TreeL.made (hl.less fun p h => by cases h) hT hc rfl, rfl, ?_⟩
          dsimp only at hp
          try rw [cells1] at hp
          exact hp.less ((List.Sublist.refl L).append ((List.nil_sublist _).cons_cons _))
end Go.Proofs.YtjimjolfnimimaaDoor

/- Map.none, find. -/
namespace Go.Proofs.YtjimjolfnimimaaDoor
open Go Go.Am
set_option maxRecDepth 100000
set_option linter.unusedVariables false

/-- A map's three cells. -/
def mapC (r : Option Addr) (c : Int) (b : Bool) : List Value := [.pointer r, .int .i64 c, .bool b]
theorem c_mnone {m : Nat} {c : Int} {r : Option Addr} {b w : Bool} (H : AHeap) (hm : H.get m = .cells (mapC r c b) 181 w) : CallR Tryd.prog noPrims 115 [.pointer (some ⟨m, 0, none⟩)] H (fun u H' => u = .bool (!b) ∧ Hp H 0 0 H' [] []) := by
  unfold mapC at hm
  refine CallR.sy (n := 12) Tryd.func115 rfl rfl rfl ?_
  repeat' (first
    | (with_reducible refine Sy.seq ?_)
    | (with_reducible refine Sy.regionL ?_)
    | (with_reducible refine Sy.opsnil ?_)
    | (with_reducible refine Sy.go ?_)
    | (with_reducible refine Sy.nrm ?_)
    | ((with_reducible apply Sy.assign); exact rfl; exact rfl)
    | ((with_reducible apply Sy.move); exact rfl; exact rfl)
    | ((with_reducible apply Sy.bin (op := .eql) (t := 134)); exact rfl; exact rfl; exact rfl; exact p_eq0 kd134)
    | ((with_reducible apply Sy.bin (op := .eql) (t := 134)); exact rfl; exact rfl; exact rfl; exact p_eq1 kd134)
    | ((with_reducible apply Sy.bin (op := .eql) (t := 134)); exact rfl; exact rfl; exact rfl; exact p_eq2 kd134)
    | ((with_reducible apply Sy.nilC); exact rfl; exact rfl; exact rfl)
    | ((with_reducible apply Sy.fa (t := 181) (i := 2)); exact rfl; exact rfl; exact fa181_2 _ _)
    | ((with_reducible apply Sy.ld0 (t := 4)); exact rfl; exact rfl; (· with_reducible assumption); exact rfl; exact notM; (· first | exact ld_one ag4 rfl))
    | ((with_reducible apply Sy.un (op := .not)); exact rfl; exact rfl; exact un_notT)
    | ((with_reducible apply Sy.un (op := .not)); exact rfl; exact rfl; exact un_notF)
    | ((with_reducible apply Sy.un (op := .not)); exact rfl; exact rfl; exact un_notD)
    | ((with_reducible apply Sy.un (op := .not)); exact rfl; exact rfl; exact un_not)
    | ((with_reducible apply Sy.pickF); exact rfl; exact rfl; exact rfl)
    | (with_reducible refine Sy.ret ?_)
    | ((with_reducible apply Sy.goG); exact rfl; exact rfl; exact rfl))
  exact .fin [.bool (!b)] (.inr rfl) ⟨rfl, trivial⟩ fun H' hp => ⟨rfl, hp.less (List.nil_sublist _)⟩
end Go.Proofs.YtjimjolfnimimaaDoor

/- Map.Root. -/
namespace Go.Proofs.YtjimjolfnimimaaDoor
open Go Go.Am
set_option maxRecDepth 100000
set_option linter.unusedVariables false

theorem c_root {m B : Nat} {c : Int} {r : Option Addr} {w : Bool} {t : Tree} (H : AHeap) (hm : H.get m = .cells (mapC r c true) 181 w) (ht : TreeL H B [] r t) (hB : B ≤ H.next) : CallR Tryd.prog noPrims 74 [.pointer (some ⟨m, 0, none⟩)] H (fun u H' => u = hV t.hash ∧ Hp H 0 0 H' [] []) := by
  have hm0 := hm
  unfold mapC at hm0
  refine CallR.sy (n := 11) Tryd.func74 rfl rfl rfl ?_
  repeat' (first
    | (with_reducible refine Sy.seq ?_)
    | (with_reducible refine Sy.regionL ?_)
    | (with_reducible refine Sy.opsnil ?_)
    | (with_reducible refine Sy.go ?_)
    | (with_reducible refine Sy.nrm ?_)
    | ((with_reducible apply Sy.move); exact rfl; exact rfl)
    | ((with_reducible apply Sy.stNa (t := 44)); exact rfl; exact rfl; exact sz44; (· first | exact hC_length _ | (simp; done)); (· first | exact hC_one _); exact turnT; (· first | (simp; done)); (· first | exact lay_all (by first | (simp; done))))
    | ((with_reducible apply Sy.nilC); exact rfl; exact rfl; exact rfl)
    | ((with_reducible apply Sy.fa (t := 181) (i := 0)); exact rfl; exact rfl; exact fa181_0 _ _)
    | ((with_reducible apply Sy.ld0 (t := 179)); exact rfl; exact rfl; (· with_reducible assumption); exact rfl; exact notM; (· first | exact ld_one ag179 rfl))
    | ((with_reducible apply Sy.call0 (k := 115)); exact rfl; exact rfl; exact en115; exact rfl; (intro H' hp; exact c_mnone H' (hp.get0 hm rfl (by simp))))
    | ((with_reducible apply Sy.call0 (k := 117)); exact rfl; exact rfl; exact en117; exact rfl; (intro H' hp; exact c_hash _ _ _ H' (TreeL.at ht hp (fun p h => by cases h) hB)))
    | ((with_reducible apply Sy.newY (o := ⟨some 2, .alloc 44, _, _, _, _⟩)); exact rfl; exact rfl; exact nwz44; intro q2)
    | (with_reducible refine Sy.skip ?_)
    | (with_reducible refine Sy.ret ?_)
    | ((with_reducible apply Sy.no); exact rfl))
  exact .fin [hV _] (.inr rfl) ⟨⟨q2, 0, _, rfl, (by repeat (first | exact Has.here | apply Has.there | apply Has.app)), ld_hV ag44 sz44⟩, trivial⟩ fun H1 hp => ⟨rfl, hp.less (List.nil_sublist _)⟩
end Go.Proofs.YtjimjolfnimimaaDoor

/- Map.find with a closure that does nothing; Get. -/
namespace Go.Proofs.YtjimjolfnimimaaDoor
open Go Go.Am
set_option maxRecDepth 100000
set_option linter.unusedVariables false

/-- The subtree on a key's way, i levels down. -/
def down (k : Hsh) (t : Tree) : Nat → Tree
  | 0 => t
  | i + 1 => if bitOf k i = 0 then (down k t i).kids.1 else (down k t i).kids.2

theorem down_nil {k : Hsh} {t : Tree} {i : Nat} (h : down k t i = .nil) : ∀ j, down k t (i + j) = .nil
  | 0 => h
  | j + 1 => by rw [← Nat.add_assoc, down, down_nil h j]; simp [Tree.kids]

theorem ldl {h : Hsh} {a b c : Value} {w : Bool} {o : Nat} (ho : o = 32) : aLoad Tryd.prog 179 (.cells (hC h ++ [a, b, c]) 207 w) o = some a := by subst ho; exact ld_one ag179 (by simp [List.getElem?_append])
theorem ldr {h : Hsh} {a b c : Value} {w : Bool} {o : Nat} (ho : o = 33) : aLoad Tryd.prog 179 (.cells (hC h ++ [a, b, c]) 207 w) o = some b := by subst ho; exact ld_one ag179 (by simp [List.getElem?_append])
theorem c_tell0 (i : Int) (p : Option Addr) (H : AHeap) : CallR Tryd.prog noPrims 137 [.int .i64 i, .pointer p] H (fun u H' => u = .tuple ⟨[]⟩ ∧ Hp H 0 0 H' [] []) := by
  refine CallR.sy (n := 4) Tryd.func137 rfl rfl rfl ?_
  repeat' (first
    | (with_reducible refine Sy.skip ?_))
  exact .fin [] (.inl rfl) trivial fun H' hp => ⟨rfl, hp.less (List.nil_sublist _)⟩

theorem c_find0 {m B : Nat} {c : Int} {k : Hsh} {r : Option Addr} {w : Bool} {t : Tree} (H : AHeap) (hm : H.get m = .cells (mapC r c true) 181 w) (ht : TreeL H B [] r t) (hB : B ≤ H.next) :
    CallR Tryd.prog noPrims 136 [.pointer (some ⟨m, 0, none⟩), hV k, .func (.func 137) ⟨[]⟩ ⟨[]⟩] H (fun u H' => ∃ p : Option Addr, TreeL H B [] p (down k t 256) ∧ u = .pointer p ∧ Hp H 0 0 H' [] []) := by
  have hm0 := hm
  unfold mapC at hm0
  refine CallR.sy (n := 40) Tryd.func136 rfl rfl rfl ?_
  repeat' (first
    | (with_reducible refine Sy.seq ?_)
    | (with_reducible refine Sy.regionL ?_)
    | (with_reducible refine Sy.opsnil ?_)
    | (with_reducible refine Sy.go ?_)
    | (with_reducible refine Sy.nrm ?_)
    | ((with_reducible apply Sy.assign); exact rfl; exact rfl)
    | ((with_reducible apply Sy.move); exact rfl; exact rfl)
    | ((with_reducible apply Sy.nilC); exact rfl; exact rfl; exact rfl)
    | ((with_reducible apply Sy.fa (t := 181) (i := 0)); exact rfl; exact rfl; exact fa181_0 _ _)
    | ((with_reducible apply Sy.ld0 (t := 179)); exact rfl; exact rfl; (· with_reducible assumption); exact rfl; exact notM; (· first | exact ld_one ag179 rfl))
    | ((with_reducible apply Sy.ld0 (t := 44)); exact rfl; exact rfl; (· with_reducible assumption); exact rfl; exact notM; (· first | exact ld_hV ag44 sz44 | exact ld_agg (cs' := hC _) ag44 sz44 (by simp; done) (by first | rfl | exact cut_here (by simp; done) | exact cut_all (by simp; done) | (simp [List.drop_append, List.take_append, List.getElem?_append, lay, hC_length, ints_length, ints_drop, ints_take, ints_append, List.drop_of_length_le, List.take_of_length_le, List.map_append, List.set_append, Value.cells]; done))))
    | ((with_reducible apply Sy.fa (t := 207) (i := 1)); exact rfl; exact rfl; exact fa207_1 _ _)
    | ((with_reducible apply Sy.newY (o := ⟨some 4, .box 44 _, _, _, _, _⟩)); exact rfl; exact rfl; exact nbH rfl; intro q4)
    | ((with_reducible apply Sy.newY (o := ⟨some 4, .box 44 _, _, _, _, _⟩)); exact rfl; exact rfl; exact nb1 rfl rfl; intro q4)
    | ((with_reducible apply Sy.newY (o := ⟨some 4, .box 44 _, _, _, _, _⟩)); exact rfl; exact rfl; exact nbA rfl; intro q4)
    | (with_reducible refine Sy.label ?_)
    | (with_reducible refine Sy.block ?_)
    | (with_reducible refine Sy.scope ?_))
  refine Sy.loop (ι := Nat × Option Addr) (fun i => 256 - i.1) (fun i => [(2, .func (.func 137) ⟨[]⟩ ⟨[]⟩), (4, .pointer (some ⟨q4, 0, none⟩)), (6, .pointer none), (7, .pointer i.2), (14, .int .i64 (i.1 : Nat))]) (fun _ => []) (fun i => [(q4, .cells (hC k) 44 true)]) (fun i => i.1 ≤ 256 ∧ TreeL H B [] i.2 (down k t i.1)) (0, r) ⟨by simp, ht⟩ ⟨rfl, rfl, rfl, rfl, rfl, trivial⟩ (fun H h => h) ?_
  rintro ⟨i, p⟩ ⟨hi, hT⟩
  dsimp only at hi hT ⊢
  by_cases hlt : i < 256
  · rcases hT.two with ⟨rfl, hd⟩ | ⟨a, w2, h2, pl, pr, x, rfl, hga, hl, hr⟩
    · have hz : down k t 256 = .nil := by have := down_nil hd (256 - i); rwa [show i + (256 - i) = 256 by omega] at this
      repeat' (first
    | (with_reducible refine Sy.seq ?_)
    | (with_reducible refine Sy.regionL ?_)
    | (with_reducible refine Sy.opsnil ?_)
    | (with_reducible refine Sy.go ?_)
    | (with_reducible refine Sy.nrm ?_)
    | ((with_reducible apply Sy.assign); exact rfl; exact rfl)
    | ((with_reducible apply Sy.move); exact rfl; exact rfl)
    | ((with_reducible apply Sy.bin (op := .lss) (t := 3)); exact rfl; exact rfl; exact rfl; exact b_lss)
    | ((with_reducible apply Sy.bin (op := .lss) (t := 3)); exact rfl; exact rfl; exact rfl; exact bz_lss)
    | ((with_reducible apply Sy.bin (op := .eql) (t := 179)); exact rfl; exact rfl; exact rfl; exact p_eq0 kd179)
    | ((with_reducible apply Sy.bin (op := .eql) (t := 179)); exact rfl; exact rfl; exact rfl; exact p_eq1 kd179)
    | ((with_reducible apply Sy.bin (op := .eql) (t := 179)); exact rfl; exact rfl; exact rfl; exact p_eq2 kd179)
    | (with_reducible refine Sy.skip ?_)
    | (with_reducible refine Sy.exit ?_)
    | (with_reducible refine Sy.ret ?_)
    | (with_reducible refine Sy.block ?_)
    | (with_reducible refine Sy.aex ?_)
    | ((with_reducible apply Sy.iex); exact rfl)
    | ((with_reducible apply Sy.iex2); exact rfl)
    | (with_reducible refine Sy.sret ?_)
    | (with_reducible refine Sy.rex ?_)
    | ((with_reducible apply Sy.yes); exact rfl)
    | ((with_reducible apply Sy.ite); (case hx => exact rfl); all_goals (intro hc; try (exfalso; omega))))
      exact .fin [.pointer none] (.inr rfl) ⟨rfl, trivial⟩ fun H' hp => ⟨none, by rw [hz]; exact .nil, rfl, hp.less (List.nil_sublist _)⟩
    · have hb01 : bitOf k i = 0 ∨ bitOf k i = 1 := by have := and1_lt (k.at (i / 8) >>> (7 - i % 8)); unfold bitOf; omega
      rcases hb01 with hb | hb
      · repeat' (first
    | (with_reducible refine Sy.seq ?_)
    | (with_reducible refine Sy.regionL ?_)
    | (with_reducible refine Sy.opsnil ?_)
    | (with_reducible refine Sy.go ?_)
    | (with_reducible refine Sy.nrm ?_)
    | ((with_reducible apply Sy.assign); exact rfl; exact rfl)
    | ((with_reducible apply Sy.move); exact rfl; exact rfl)
    | ((with_reducible apply Sy.nilC); exact rfl; exact rfl; exact rfl)
    | ((with_reducible apply Sy.fa (t := 181) (i := 0)); exact rfl; exact rfl; exact fa181_0 _ _)
    | ((with_reducible apply Sy.ldN (t := 179)); exact rfl; exact rfl; exact hasT; (· first | exact ld_one ag179 rfl | with_reducible assumption | exact ld_one ag179 (by with_reducible assumption) | exact ld_one ag179 (by simp [List.drop_append, List.take_append, List.getElem?_append, lay, hC_length, ints_length, ints_drop, ints_take, ints_append, List.drop_of_length_le, List.take_of_length_le, List.map_append, List.set_append, Value.cells]; done)))
    | ((with_reducible apply Sy.bin (op := .lss) (t := 3)); exact rfl; exact rfl; exact rfl; exact b_lss)
    | ((with_reducible apply Sy.bin (op := .lss) (t := 3)); exact rfl; exact rfl; exact rfl; exact bz_lss)
    | ((with_reducible apply Sy.bin (op := .eql) (t := 179)); exact rfl; exact rfl; exact rfl; exact p_eq0 kd179)
    | ((with_reducible apply Sy.bin (op := .eql) (t := 179)); exact rfl; exact rfl; exact rfl; exact p_eq1 kd179)
    | ((with_reducible apply Sy.bin (op := .eql) (t := 179)); exact rfl; exact rfl; exact rfl; exact p_eq2 kd179)
    | ((with_reducible apply Sy.ldN (t := 44)); exact rfl; exact rfl; exact hasT; (· first | exact ld_hV ag44 sz44))
    | ((with_reducible apply Sy.bin (op := .sub) (t := 3)); exact rfl; exact rfl; exact rfl; exact (b_sub (by omega) (by omega)))
    | ((with_reducible apply Sy.bin (op := .sub) (t := 3)); exact rfl; exact rfl; exact rfl; exact (bz_sub (by omega) (by omega)))
    | ((with_reducible apply Sy.fa (t := 207) (i := 1)); exact rfl; exact rfl; exact fa207_1 _ _)
    | ((with_reducible apply Sy.ia (t := 204)); exact rfl; exact rfl; exact rfl; exact (ia_ar10 Tryd.underlying204 sz179 (by omega)))
    | ((with_reducible apply Sy.ia (t := 204)); exact rfl; exact rfl; exact rfl; exact (ia_ar1 Tryd.underlying204 sz179 (by omega)))
    | ((with_reducible apply Sy.bin (op := .add) (t := 3)); exact rfl; exact rfl; exact rfl; exact (b_add (by omega)))
    | ((with_reducible apply Sy.bin (op := .add) (t := 3)); exact rfl; exact rfl; exact rfl; exact (bz_add (by omega) (by omega)))
    | ((with_reducible apply Sy.call0 (k := 138)); exact rfl; exact rfl; exact en138; exact rfl; (intro H' hp; exact c_bit0 k _ 0 hlt hb H'))
    | ((with_reducible apply Sy.call0 (k := 137)); exact rfl; exact rfl; exact en137; exact rfl; (intro H' hp; exact c_tell0 _ _ H'))
    | (with_reducible refine Sy.ld0 (t := 179) rfl rfl hga rfl (by simp only [List.forall_mem_cons, List.not_mem_nil, false_implies, implies_true, and_true, ne_eq]; first | done | omega | (repeat (first | with_reducible assumption | (refine And.intro ?_ ?_)))) (ldl rfl) ?_)
    | (with_reducible refine Sy.ld0 (t := 179) rfl rfl hga rfl (by simp only [List.forall_mem_cons, List.not_mem_nil, false_implies, implies_true, and_true, ne_eq]; first | done | omega | (repeat (first | with_reducible assumption | (refine And.intro ?_ ?_)))) (ldr rfl) ?_)
    | (with_reducible refine Sy.skip ?_)
    | (with_reducible refine Sy.block ?_)
    | (with_reducible refine Sy.inrm ?_)
    | ((with_reducible apply Sy.no); exact rfl)
    | ((with_reducible apply Sy.ite); (case hx => exact rfl); all_goals (intro hc; try (exfalso; omega))))
        exact Sy.rnrm (i + 1, pl) ⟨by dsimp only; omega, by dsimp only; rw [down, if_pos hb]; exact hl⟩ (by dsimp only; omega) ⟨rfl, rfl, rfl, rfl, rfl, trivial⟩ (fun H h => h)
      · repeat' (first
    | (with_reducible refine Sy.seq ?_)
    | (with_reducible refine Sy.regionL ?_)
    | (with_reducible refine Sy.opsnil ?_)
    | (with_reducible refine Sy.go ?_)
    | (with_reducible refine Sy.nrm ?_)
    | ((with_reducible apply Sy.assign); exact rfl; exact rfl)
    | ((with_reducible apply Sy.move); exact rfl; exact rfl)
    | ((with_reducible apply Sy.nilC); exact rfl; exact rfl; exact rfl)
    | ((with_reducible apply Sy.fa (t := 181) (i := 0)); exact rfl; exact rfl; exact fa181_0 _ _)
    | ((with_reducible apply Sy.ldN (t := 179)); exact rfl; exact rfl; exact hasT; (· first | exact ld_one ag179 rfl | with_reducible assumption | exact ld_one ag179 (by with_reducible assumption) | exact ld_one ag179 (by simp [List.drop_append, List.take_append, List.getElem?_append, lay, hC_length, ints_length, ints_drop, ints_take, ints_append, List.drop_of_length_le, List.take_of_length_le, List.map_append, List.set_append, Value.cells]; done)))
    | ((with_reducible apply Sy.bin (op := .lss) (t := 3)); exact rfl; exact rfl; exact rfl; exact b_lss)
    | ((with_reducible apply Sy.bin (op := .lss) (t := 3)); exact rfl; exact rfl; exact rfl; exact bz_lss)
    | ((with_reducible apply Sy.bin (op := .eql) (t := 179)); exact rfl; exact rfl; exact rfl; exact p_eq0 kd179)
    | ((with_reducible apply Sy.bin (op := .eql) (t := 179)); exact rfl; exact rfl; exact rfl; exact p_eq1 kd179)
    | ((with_reducible apply Sy.bin (op := .eql) (t := 179)); exact rfl; exact rfl; exact rfl; exact p_eq2 kd179)
    | ((with_reducible apply Sy.ldN (t := 44)); exact rfl; exact rfl; exact hasT; (· first | exact ld_hV ag44 sz44))
    | ((with_reducible apply Sy.bin (op := .sub) (t := 3)); exact rfl; exact rfl; exact rfl; exact (b_sub (by omega) (by omega)))
    | ((with_reducible apply Sy.bin (op := .sub) (t := 3)); exact rfl; exact rfl; exact rfl; exact (bz_sub (by omega) (by omega)))
    | ((with_reducible apply Sy.fa (t := 207) (i := 1)); exact rfl; exact rfl; exact fa207_1 _ _)
    | ((with_reducible apply Sy.ia (t := 204)); exact rfl; exact rfl; exact rfl; exact (ia_ar10 Tryd.underlying204 sz179 (by omega)))
    | ((with_reducible apply Sy.ia (t := 204)); exact rfl; exact rfl; exact rfl; exact (ia_ar1 Tryd.underlying204 sz179 (by omega)))
    | ((with_reducible apply Sy.bin (op := .add) (t := 3)); exact rfl; exact rfl; exact rfl; exact (b_add (by omega)))
    | ((with_reducible apply Sy.bin (op := .add) (t := 3)); exact rfl; exact rfl; exact rfl; exact (bz_add (by omega) (by omega)))
    | ((with_reducible apply Sy.call0 (k := 138)); exact rfl; exact rfl; exact en138; exact rfl; (intro H' hp; exact c_bit0 k _ 1 hlt hb H'))
    | ((with_reducible apply Sy.call0 (k := 137)); exact rfl; exact rfl; exact en137; exact rfl; (intro H' hp; exact c_tell0 _ _ H'))
    | (with_reducible refine Sy.ld0 (t := 179) rfl rfl hga rfl (by simp only [List.forall_mem_cons, List.not_mem_nil, false_implies, implies_true, and_true, ne_eq]; first | done | omega | (repeat (first | with_reducible assumption | (refine And.intro ?_ ?_)))) (ldl rfl) ?_)
    | (with_reducible refine Sy.ld0 (t := 179) rfl rfl hga rfl (by simp only [List.forall_mem_cons, List.not_mem_nil, false_implies, implies_true, and_true, ne_eq]; first | done | omega | (repeat (first | with_reducible assumption | (refine And.intro ?_ ?_)))) (ldr rfl) ?_)
    | (with_reducible refine Sy.skip ?_)
    | (with_reducible refine Sy.block ?_)
    | (with_reducible refine Sy.inrm ?_)
    | ((with_reducible apply Sy.no); exact rfl)
    | ((with_reducible apply Sy.ite); (case hx => exact rfl); all_goals (intro hc; try (exfalso; omega))))
        exact Sy.rnrm (i + 1, pr) ⟨by dsimp only; omega, by dsimp only; rw [down, if_neg (by omega)]; exact hr⟩ (by dsimp only; omega) ⟨rfl, rfl, rfl, rfl, rfl, trivial⟩ (fun H h => h)
  · obtain rfl : i = 256 := by omega
    repeat' (first
    | (with_reducible refine Sy.seq ?_)
    | (with_reducible refine Sy.regionL ?_)
    | (with_reducible refine Sy.opsnil ?_)
    | (with_reducible refine Sy.go ?_)
    | (with_reducible refine Sy.nrm ?_)
    | ((with_reducible apply Sy.assign); exact rfl; exact rfl)
    | ((with_reducible apply Sy.move); exact rfl; exact rfl)
    | ((with_reducible apply Sy.bin (op := .lss) (t := 3)); exact rfl; exact rfl; exact rfl; exact b_lss)
    | ((with_reducible apply Sy.bin (op := .lss) (t := 3)); exact rfl; exact rfl; exact rfl; exact bz_lss)
    | (with_reducible refine Sy.exit ?_)
    | (with_reducible refine Sy.ret ?_)
    | (with_reducible refine Sy.aex ?_)
    | ((with_reducible apply Sy.iex); exact rfl)
    | (with_reducible refine Sy.sret ?_)
    | (with_reducible refine Sy.rex ?_)
    | ((with_reducible apply Sy.no); exact rfl))
    exact .fin [.pointer p] (.inr rfl) ⟨rfl, trivial⟩ fun H' hp => ⟨p, hT, rfl, hp.less (List.nil_sublist _)⟩
end Go.Proofs.YtjimjolfnimimaaDoor

/- Map.Get. -/
namespace Go.Proofs.YtjimjolfnimimaaDoor
open Go Go.Am
set_option maxRecDepth 100000
set_option linter.unusedVariables false

/-- A tree of n levels. -/
def Lv : Nat → Tree → Prop
  | _, .nil => True
  | 0, .leaf _ _ _ => True
  | n + 1, .node _ l r => Lv n l ∧ Lv n r
  | _, _ => False
theorem Lv.kids {n : Nat} {t : Tree} (h : Lv (n + 1) t) : Lv n t.kids.1 ∧ Lv n t.kids.2 := by
  cases t with
  | nil => cases n <;> simp [Tree.kids, Lv]
  | leaf _ _ _ => simp [Lv] at h
  | node _ l r => simpa [Lv, Tree.kids] using h
theorem lv_down {k : Hsh} {t : Tree} (h : Lv 256 t) : ∀ i, i ≤ 256 → Lv (256 - i) (down k t i)
  | 0, _ => h
  | i + 1, hi => by
    have := lv_down (k := k) h i (by omega)
    rw [show 256 - i = (256 - (i + 1)) + 1 by omega] at this
    have := this.kids
    rw [down]; split
    · exact this.1
    · exact this.2
def Tree.val : Tree → Hsh
  | .leaf _ _ v => v
  | _ => zeroH
def tget (k : Hsh) (t : Tree) : Hsh := (down k t 256).val

theorem ldp {h : Hsh} {a b c : Value} {w : Bool} : aLoad Tryd.prog 205 (.cells (hC h ++ [a, b, c]) 207 w) (0 + 34) = some c := ld_one ag205 (by simp [List.getElem?_append])
theorem ldv {k v : Hsh} {w : Bool} : aLoad Tryd.prog 44 (.cells (hC k ++ hC v) 138 w) (0 + 32) = some (hV v) := ld_agg (cs' := hC v) ag44 sz44 (by simp) (by rw [show (0 + 32 : Nat) = 32 + 0 from rfl, cut_there (by simp), cut_all (by simp)])
theorem find_at {m B lo hi : Nat} {c : Int} {k : Hsh} {r : Option Addr} {w : Bool} {t : Tree} {H0 H : AHeap} {Mn : Hm} (hp : Hp H0 lo hi H [] Mn) (hm : H0.get m = .cells (mapC r c true) 181 w) (ht : TreeL H0 B [] r t) (hB : B ≤ H0.next) :
    CallR Tryd.prog noPrims 136 [.pointer (some ⟨m, 0, none⟩), hV k, .func (.func 137) ⟨[]⟩ ⟨[]⟩] H (fun u H' => ∃ p : Option Addr, TreeL H0 B [] p (down k t 256) ∧ u = .pointer p ∧ Hp H 0 0 H' [] []) := by
  have same : ∀ a, a < B → H.get a = H0.get a := fun a ha => hp.fr a (by omega) (by simp)
  refine (c_find0 H (hp.get0 hm rfl (by simp)) (ht.back fun a ha => (same a ha).symm) (Nat.le_trans hB hp.le)).mono ?_
  rintro u H' ⟨i, h1, h2, h3⟩
  exact ⟨i, h1.back same, h2, h3⟩
theorem c_get {m B : Nat} {c : Int} {k : Hsh} {r : Option Addr} {w : Bool} {t : Tree} (H : AHeap) (hm : H.get m = .cells (mapC r c true) 181 w) (ht : TreeL H B [] r t) (hB : B ≤ H.next) (hl : Lv 256 t) :
    CallR Tryd.prog noPrims 128 [.pointer (some ⟨m, 0, none⟩), hV k] H (fun u H' => u = hV (tget k t) ∧ Hp H 0 0 H' [] []) := by
  have hm0 := hm
  unfold mapC at hm0
  have hd := lv_down (k := k) hl 256 (Nat.le_refl _)
  refine CallR.sy (n := 22) Tryd.func128 rfl rfl rfl ?_
  repeat' (first
    | (with_reducible refine Sy.seq ?_)
    | (with_reducible refine Sy.regionL ?_)
    | (with_reducible refine Sy.opsnil ?_)
    | (with_reducible refine Sy.go ?_)
    | (with_reducible refine Sy.nrm ?_)
    | ((with_reducible apply Sy.move); exact rfl; exact rfl)
    | ((with_reducible apply Sy.ldN (t := 44)); exact rfl; exact rfl; exact hasT; (· first | exact ld_hV ag44 sz44))
    | ((with_reducible apply Sy.assign); exact rfl; exact rfl)
    | ((with_reducible apply Sy.ldN (t := 205)); exact rfl; exact rfl; exact hasT; (· first | exact ld_one ag205 rfl | with_reducible assumption | exact ld_one ag205 (by with_reducible assumption) | exact ld_one ag205 (by simp [List.drop_append, List.take_append, List.getElem?_append, lay, hC_length, ints_length, ints_drop, ints_take, ints_append, List.drop_of_length_le, List.take_of_length_le, List.map_append, List.set_append, Value.cells]; done)))
    | ((with_reducible apply Sy.call0 (k := 115)); exact rfl; exact rfl; exact en115; exact rfl; (intro H' hp; exact c_mnone H' (hp.get0 hm rfl (by simp))))
    | ((with_reducible apply Sy.callN (k := 136)); exact rfl; exact rfl; exact en136; exact rfl; (intro H' hp; exact find_at hp hm ht hB); rintro p hT)
    | ((with_reducible apply Sy.newY (o := ⟨some 3, .box 44 _, _, _, _, _⟩)); exact rfl; exact rfl; exact nbH rfl; intro q3)
    | ((with_reducible apply Sy.newY (o := ⟨some 3, .box 44 _, _, _, _, _⟩)); exact rfl; exact rfl; exact nb1 rfl rfl; intro q3)
    | ((with_reducible apply Sy.newY (o := ⟨some 3, .box 44 _, _, _, _, _⟩)); exact rfl; exact rfl; exact nbA rfl; intro q3)
    | ((with_reducible apply Sy.newY (o := ⟨some 4, .alloc 44, _, _, _, _⟩)); exact rfl; exact rfl; exact nwz44; intro q4)
    | (with_reducible refine Sy.skip ?_)
    | ((with_reducible apply Sy.no); exact rfl))
  unfold tget
  generalize down k t 256 = t1 at hT hd ⊢
  cases hT with
  | nil =>
    repeat' (first
    | (with_reducible refine Sy.seq ?_)
    | (with_reducible refine Sy.regionL ?_)
    | (with_reducible refine Sy.opsnil ?_)
    | (with_reducible refine Sy.go ?_)
    | (with_reducible refine Sy.nrm ?_)
    | ((with_reducible apply Sy.stNa (t := 44)); exact rfl; exact rfl; exact sz44; (· first | exact hC_length _ | (simp; done)); (· first | exact hC_one _); exact turnT; (· first | (simp; done)); (· first | exact lay_all (by first | (simp; done))))
    | ((with_reducible apply Sy.bin (op := .neq) (t := 179)); exact rfl; exact rfl; exact rfl; exact p_ne0 kd179)
    | ((with_reducible apply Sy.bin (op := .neq) (t := 179)); exact rfl; exact rfl; exact rfl; exact p_ne1 kd179)
    | ((with_reducible apply Sy.bin (op := .neq) (t := 179)); exact rfl; exact rfl; exact rfl; exact p_ne2 kd179)
    | ((with_reducible apply Sy.call0 (k := 116)); exact rfl; exact rfl; exact en116; exact rfl; (intro H' hp; exact c_none H'))
    | (with_reducible refine Sy.skip ?_)
    | (with_reducible refine Sy.ret ?_)
    | ((with_reducible apply Sy.no); exact rfl))
    exact .fin [hV _] (.inr rfl) ⟨⟨q4, 0, _, rfl, (by repeat (first | exact Has.here | apply Has.there | apply Has.app)), ld_hV ag44 sz44⟩, trivial⟩ fun H1 hp => ⟨rfl, hp.less (List.nil_sublist _)⟩
  | leaf h1 h2 =>
    rcases h1 with h1 | ⟨_, w1, h1⟩
    · simp at h1
    rcases h2 with h2 | ⟨_, w2, h2⟩
    · simp at h2
    unfold leafC at h1
    repeat' (first
    | (with_reducible refine Sy.seq ?_)
    | (with_reducible refine Sy.regionL ?_)
    | (with_reducible refine Sy.opsnil ?_)
    | (with_reducible refine Sy.go ?_)
    | (with_reducible refine Sy.nrm ?_)
    | ((with_reducible apply Sy.move); exact rfl; exact rfl)
    | ((with_reducible apply Sy.stNa (t := 44)); exact rfl; exact rfl; exact sz44; (· first | exact hC_length _ | (simp; done)); (· first | exact hC_one _); exact turnT; (· first | (simp; done)); (· first | exact lay_all (by first | (simp; done))))
    | ((with_reducible apply Sy.bin (op := .neq) (t := 179)); exact rfl; exact rfl; exact rfl; exact p_ne0 kd179)
    | ((with_reducible apply Sy.bin (op := .neq) (t := 179)); exact rfl; exact rfl; exact rfl; exact p_ne1 kd179)
    | ((with_reducible apply Sy.bin (op := .neq) (t := 179)); exact rfl; exact rfl; exact rfl; exact p_ne2 kd179)
    | ((with_reducible apply Sy.nilC); exact rfl; exact rfl; exact rfl)
    | ((with_reducible apply Sy.fa (t := 207) (i := 2)); exact rfl; exact rfl; exact fa207_2 _ _)
    | ((with_reducible apply Sy.fa (t := 138) (i := 1)); exact rfl; exact rfl; exact fa138_1 _ _)
    | (with_reducible refine Sy.ld0 (t := 205) rfl rfl h1 rfl (by simp only [List.forall_mem_cons, List.not_mem_nil, false_implies, implies_true, and_true, ne_eq]; first | done | omega | (repeat (first | with_reducible assumption | (refine And.intro ?_ ?_)))) ldp ?_)
    | (with_reducible refine Sy.ld0 (t := 44) rfl rfl h2 rfl (by simp only [List.forall_mem_cons, List.not_mem_nil, false_implies, implies_true, and_true, ne_eq]; first | done | omega | (repeat (first | with_reducible assumption | (refine And.intro ?_ ?_)))) ldv ?_)
    | (with_reducible refine Sy.ret ?_)
    | (with_reducible refine Sy.aret ?_)
    | ((with_reducible apply Sy.yes); exact rfl))
    exact .fin [hV _] (.inr rfl) ⟨⟨q4, 0, _, rfl, (by repeat (first | exact Has.here | apply Has.there | apply Has.app)), ld_hV ag44 sz44⟩, trivial⟩ fun H1 hp => ⟨rfl, hp.less (List.nil_sublist _)⟩
  | node _ _ _ => simp [Lv] at hd
end Go.Proofs.YtjimjolfnimimaaDoor

/- Map.Put. -/
namespace Go.Proofs.YtjimjolfnimimaaDoor
open Go Go.Am
set_option maxRecDepth 100000
set_option linter.unusedVariables false

theorem TreeL.move {H H1 : AHeap} {B : Nat} {L : Hm} (hs : ∀ a cs T w, a < B → (T = 207 ∨ T = 138) → H1.get a = .cells cs T w → H.get a = .cells cs T w) {v : Option Addr} {t : Tree} (h : TreeL H1 B L v t) : TreeL H B L v t := by
  have ob : ∀ {a cs T}, (T = 207 ∨ T = 138) → Ob H1 B L a cs T → Ob H B L a cs T := fun ht h => h.imp id fun ⟨h1, w, h2⟩ => ⟨h1, w, hs _ _ _ _ h1 ht h2⟩
  induction h with
  | nil => exact .nil
  | leaf h1 h2 => exact .leaf (ob (.inl rfl) h1) (ob (.inr rfl) h2)
  | node h1 _ _ ih1 ih2 => exact .node (ob (.inl rfl) h1) ih1 ih2
theorem Hp.same {H0 H : AHeap} {Mn : Hm} {m : Nat} {o : AObj} (h : Hp H0 0 0 H [] Mn) (hm : H0.get m = o) (hl : o.live = true) : Hp H0 0 0 H [(m, o)] Mn :=
  ⟨by simpa using h.get0 hm hl (by simp), h.vn, by simp, h.nn, by simpa using get_live_lt (by rw [hm]; exact hl), h.ge, h.lt, h.le, fun a ha _ => h.fr a ha (by simp), h.w1, h.w2⟩
/-- A tree of the walk's start, at a heap in which the map has turned, and back. -/
theorem TreeL.fwd {H0 H : AHeap} {B lo hi m : Nat} {Mo Mn : Hm} {cs : List Value} {w : Bool} (hp : Hp H0 lo hi H Mo Mn) (hMo : ∀ p ∈ Mo, p.1 = m) (hm : H0.get m = .cells cs 181 w) (hB : B ≤ H0.next) {v : Option Addr} {t : Tree} (ht : TreeL H0 B [] v t) : TreeL H B [] v t :=
  ht.move fun a cs' T w' ha hT hg => by
    rw [hp.fr a (by omega) fun p h e => ?_, hg]
    have hp1 := hMo p h
    rw [hp1] at e; subst e
    rw [hm] at hg; injection hg with _ h2 _
    subst h2; rcases hT with hT | hT <;> simp at hT
theorem TreeL.bwd {H0 H : AHeap} {B lo hi m : Nat} {Mo Mn L : Hm} {cs : List Value} {w : Bool} (hp : Hp H0 lo hi H Mo Mn) (hMo : ∀ p ∈ Mo, p.1 = m) (hm : H.get m = .cells cs 181 w) (hB : B ≤ H0.next) {v : Option Addr} {t : Tree} (ht : TreeL H B L v t) : TreeL H0 B L v t :=
  ht.move fun a cs' T w' ha hT hg => by
    rw [← hp.fr a (by omega) fun p h e => ?_, hg]
    have hp1 := hMo p h
    rw [hp1] at e; subst e
    rw [hm] at hg; injection hg with _ h2 _
    subst h2; rcases hT with hT | hT <;> simp at hT
/-- Put: the tree, the count, the answer. -/
def Put1 (k v : Hsh) (t : Tree) (c : Int) : Tree × Int × Nat :=
  if tget k t = v then (t, c, 0)
  else if v = zeroH then (tput k v 256 t, c - 1, 0)
  else if tget k t = zeroH then (if 4096 ≤ c then (t, c, 6) else (tput k v 256 t, c + 1, 0))
  else (tput k v 256 t, c, 0)

theorem put_atm {k v : Hsh} {B m : Nat} {H0 H : AHeap} {lo hi : Nat} {Mo Mn : Hm} {pv : Option Addr} {t : Tree} {cs cs' : List Value} {w w' : Bool}
    (hp : Hp H0 lo hi H Mo Mn) (hMo : ∀ p ∈ Mo, p.1 = m) (hm : H0.get m = .cells cs 181 w) (hm' : H.get m = .cells cs' 181 w') (h0 : m ≠ 0) (h1 : m ≠ 1) (g : Gl H0) (hB : B ≤ H0.next) (ht : TreeL H0 B [] pv t) :
    CallR Tryd.prog noPrims 129 [.pointer pv, hV k, hV v, .int .i64 ((0 : Nat) : Int)] H (fun u H' => ∃ i : Option Addr × Hm, TreeL H0 B i.2 i.1 (tput k v 256 t) ∧ u = .pointer i.1 ∧ Hp H 0 0 H' [] i.2) := by
  refine (c_put k v 256 (Nat.le_refl _) pv t B H (g.of hp fun p h => by rw [hMo p h]; exact ⟨h0, h1⟩) (Nat.le_trans hB hp.le) (ht.fwd hp hMo hm hB)).mono ?_
  rintro u H' ⟨i, h1, h2, h3⟩
  exact ⟨i, h1.bwd hp hMo hm' hB, h2, h3⟩

theorem put1_same {k v : Hsh} {t : Tree} {c : Int} (h : tget k t = v) : Put1 k v t c = (t, c, 0) := by unfold Put1; rw [if_pos h]
theorem put1_zero {k v : Hsh} {t : Tree} {c : Int} (h : ¬ tget k t = v) (h2 : v = zeroH) : Put1 k v t c = (tput k v 256 t, c - 1, 0) := by unfold Put1; rw [if_neg h, if_pos h2]
theorem put1_full {k v : Hsh} {t : Tree} {c : Int} (h : ¬ tget k t = v) (h2 : ¬ v = zeroH) (h3 : tget k t = zeroH) (h4 : c ≥ ((4096 : Nat) : Int)) : Put1 k v t c = (t, c, 6) := by unfold Put1; rw [if_neg h, if_neg h2, if_pos h3, if_pos (by omega)]
theorem put1_new {k v : Hsh} {t : Tree} {c : Int} (h : ¬ tget k t = v) (h2 : ¬ v = zeroH) (h3 : tget k t = zeroH) (h4 : ¬ c ≥ ((4096 : Nat) : Int)) : Put1 k v t c = (tput k v 256 t, c + 1, 0) := by unfold Put1; rw [if_neg h, if_neg h2, if_pos h3, if_neg (by omega)]
theorem put1_set {k v : Hsh} {t : Tree} {c : Int} (h : ¬ tget k t = v) (h2 : ¬ v = zeroH) (h3 : ¬ tget k t = zeroH) : Put1 k v t c = (tput k v 256 t, c, 0) := by unfold Put1; rw [if_neg h, if_neg h2, if_neg h3]
set_option maxHeartbeats 2000000 in
theorem c_Put {m B : Nat} {c : Int} {k v : Hsh} {r : Option Addr} {t : Tree} (H : AHeap) (g : Gl H) (h0 : m ≠ 0) (h1 : m ≠ 1) (hm : H.get m = .cells (mapC r c true) 181 true) (ht : TreeL H B [] r t) (hB : B ≤ H.next) (hl : Lv 256 t) (hc0 : -1000000 ≤ c) (hc1 : c ≤ 1000000) :
    CallR Tryd.prog noPrims 113 [.pointer (some ⟨m, 0, none⟩), hV k, hV v] H (fun u H' => ∃ i : Option Addr × Hm, TreeL H B i.2 i.1 (Put1 k v t c).1 ∧ u = .int .i64 ((Put1 k v t c).2.2 : Nat) ∧ Hp H 0 0 H' [(m, .cells (mapC i.1 (Put1 k v t c).2.1 true) 181 true)] i.2) := by
  have hm0 := hm
  unfold mapC at hm0
  refine CallR.sy (n := 60) Tryd.func113 rfl rfl rfl ?_
  repeat' (first
    | (with_reducible refine Sy.seq ?_)
    | (with_reducible refine Sy.regionL ?_)
    | (with_reducible refine Sy.opsnil ?_)
    | (with_reducible refine Sy.go ?_)
    | (with_reducible refine Sy.nrm ?_)
    | ((with_reducible apply Sy.assign); exact rfl; exact rfl)
    | ((with_reducible apply Sy.move); exact rfl; exact rfl)
    | ((with_reducible apply Sy.ldN (t := 44)); exact rfl; exact rfl; exact hasT; (· first | exact ld_hV ag44 sz44))
    | ((with_reducible apply Sy.ldO (t := 44)); exact rfl; exact rfl; exact hasT; (· first | exact ld_hV ag44 sz44 | exact ld_agg (cs' := hC _) ag44 sz44 (by simp; done) (by first | rfl | exact cut_here (by simp; done) | exact cut_all (by simp; done) | (simp [List.drop_append, List.take_append, List.getElem?_append, lay, hC_length, ints_length, ints_drop, ints_take, ints_append, List.drop_of_length_le, List.take_of_length_le, List.map_append, List.set_append, Value.cells]; done))))
    | ((with_reducible apply Sy.ld0 (t := 44)); exact rfl; exact rfl; (· with_reducible assumption); exact rfl; exact notM; (· first | exact ld_hV ag44 sz44 | exact ld_agg (cs' := hC _) ag44 sz44 (by simp; done) (by first | rfl | exact cut_here (by simp; done) | exact cut_all (by simp; done) | (simp [List.drop_append, List.take_append, List.getElem?_append, lay, hC_length, ints_length, ints_drop, ints_take, ints_append, List.drop_of_length_le, List.take_of_length_le, List.map_append, List.set_append, Value.cells]; done))))
    | ((with_reducible apply Sy.stNa (t := 44)); exact rfl; exact rfl; exact sz44; (· first | exact hC_length _ | (simp; done)); (· first | exact hC_one _); exact turnT; (· first | (simp; done)); (· first | exact lay_all (by first | (simp; done))))
    | ((with_reducible apply Sy.bin (op := .eql) (t := 44)); exact rfl; exact rfl; exact rfl; exact eq44)
    | ((with_reducible apply Sy.nilC); exact rfl; exact rfl; exact rfl)
    | ((with_reducible apply Sy.fa (t := 181) (i := 1)); exact rfl; exact rfl; exact fa181_1 _ _)
    | ((with_reducible apply Sy.ldN (t := 3)); exact rfl; exact rfl; exact hasT; (· first | ((with_reducible refine ld_hash ag3 ?_); omega) | ((with_reducible refine ld_int ag3 ?_); first | omega | (simp; done) | (simp; omega)) | exact ld_one ag3 rfl | with_reducible assumption | exact ld_one ag3 (by with_reducible assumption) | exact ld_one ag3 (by simp [List.drop_append, List.take_append, List.getElem?_append, lay, hC_length, ints_length, ints_drop, ints_take, ints_append, List.drop_of_length_le, List.take_of_length_le, List.map_append, List.set_append, Value.cells]; done)))
    | ((with_reducible apply Sy.ldO (t := 3)); exact rfl; exact rfl; exact hasT; (· first | exact ld_one ag3 rfl))
    | ((with_reducible apply Sy.ld0 (t := 3)); exact rfl; exact rfl; (· with_reducible assumption); exact rfl; exact notM; (· first | exact ld_one ag3 rfl))
    | ((with_reducible apply Sy.bin (op := .sub) (t := 3)); exact rfl; exact rfl; exact rfl; exact (b_sub (by omega) (by omega)))
    | ((with_reducible apply Sy.bin (op := .sub) (t := 3)); exact rfl; exact rfl; exact rfl; exact (bz_sub (by omega) (by omega)))
    | ((with_reducible apply Sy.stO1 (t := 3)); exact rfl; exact rfl; exact sz3; (· first | exact rfl | exact accV_cells); (· first | exact rfl | exact accV_oneL); exact turnT; (· first | (simp; done)); (· first | rfl))
    | ((with_reducible apply Sy.st01 (t := 3)); exact rfl; exact rfl; exact sz3; (· first | exact rfl | exact accV_cells); (· first | exact rfl | exact accV_oneL); (· with_reducible assumption); exact notM; (· first | (simp; done)); (· first | rfl))
    | ((with_reducible apply Sy.bin (op := .geq) (t := 3)); exact rfl; exact rfl; exact rfl; exact b_geq)
    | ((with_reducible apply Sy.bin (op := .geq) (t := 3)); exact rfl; exact rfl; exact rfl; exact bz_geq)
    | ((with_reducible apply Sy.pickT); exact rfl; exact rfl; exact rfl)
    | ((with_reducible apply Sy.pickF); exact rfl; exact rfl; exact rfl)
    | ((with_reducible apply Sy.bin (op := .add) (t := 3)); exact rfl; exact rfl; exact rfl; exact (b_add (by omega)))
    | ((with_reducible apply Sy.bin (op := .add) (t := 3)); exact rfl; exact rfl; exact rfl; exact (bz_add (by omega) (by omega)))
    | ((with_reducible apply Sy.fa (t := 181) (i := 0)); exact rfl; exact rfl; exact fa181_0 _ _)
    | ((with_reducible apply Sy.ldN (t := 179)); exact rfl; exact rfl; exact hasT; (· first | exact ld_one ag179 rfl | with_reducible assumption | exact ld_one ag179 (by with_reducible assumption) | exact ld_one ag179 (by simp [List.drop_append, List.take_append, List.getElem?_append, lay, hC_length, ints_length, ints_drop, ints_take, ints_append, List.drop_of_length_le, List.take_of_length_le, List.map_append, List.set_append, Value.cells]; done)))
    | ((with_reducible apply Sy.ldO (t := 179)); exact rfl; exact rfl; exact hasT; (· first | exact ld_one ag179 rfl))
    | ((with_reducible apply Sy.ld0 (t := 179)); exact rfl; exact rfl; (· with_reducible assumption); exact rfl; exact notM; (· first | exact ld_one ag179 rfl))
    | ((with_reducible apply Sy.stO1 (t := 179)); exact rfl; exact rfl; exact sz179; (· first | exact rfl | exact accV_cells); (· first | exact rfl | exact accV_oneL); exact turnT; (· first | (simp; done)); (· first | rfl))
    | ((with_reducible apply Sy.st01 (t := 179)); exact rfl; exact rfl; exact sz179; (· first | exact rfl | exact accV_cells); (· first | exact rfl | exact accV_oneL); (· with_reducible assumption); exact notM; (· first | (simp; done)); (· first | rfl))
    | ((with_reducible apply Sy.call0 (k := 115)); exact rfl; exact rfl; exact en115; exact rfl; (intro H' hp; exact c_mnone H' (hp.get0 hm rfl (by simp))))
    | ((with_reducible apply Sy.dcall0 (k := 115)); (first | exact wantY_none); exact rfl; (intro h hh; first | exact hh | (subst hh; omega)); exact rfl; exact rfl; exact rfl; exact en115; exact rfl; (intro H' hp; exact c_mnone H' (hp.get0 hm rfl (by simp))))
    | ((with_reducible apply Sy.call0 (k := 128)); exact rfl; exact rfl; exact en128; exact rfl; (intro H' hp; exact c_get H' (hp.get0 hm rfl (by simp)) (TreeL.at ht hp (fun p h => by cases h) hB) (Nat.le_refl _) hl))
    | ((with_reducible apply Sy.dcall0 (k := 128)); (first | exact wantY_none); exact rfl; (intro h hh; first | exact hh | (subst hh; omega)); exact rfl; exact rfl; exact rfl; exact en128; exact rfl; (intro H' hp; exact c_get H' (hp.get0 hm rfl (by simp)) (TreeL.at ht hp (fun p h => by cases h) hB) (Nat.le_refl _) hl))
    | ((with_reducible apply Sy.call0 (k := 116)); exact rfl; exact rfl; exact en116; exact rfl; (intro H' hp; exact c_none H'))
    | ((with_reducible apply Sy.dcall0 (k := 116)); (first | exact wantY_none); exact rfl; (intro h hh; first | exact hh | (subst hh; omega)); exact rfl; exact rfl; exact rfl; exact en116; exact rfl; (intro H' hp; exact c_none H'))
    | ((with_reducible apply Sy.dcall (k := 129)); (first | exact wantY_none); exact rfl; (intro h hh; first | exact hh | (subst hh; omega)); exact rfl; exact rfl; exact rfl; exact en129; exact rfl; (intro H' hp; exact (by first | exact put_atm hp (by simp) hm (hp.getO (by repeat (first | exact Has.here | apply Has.there | apply Has.app))) h0 h1 g hB ht | exact put_atm hp (by simp) hm (hp.get0 hm rfl (by simp)) h0 h1 g hB ht)); rintro ⟨u, L⟩ hT)
    | ((with_reducible apply Sy.newY (o := ⟨some 4, .box 44 _, _, _, _, _⟩)); exact rfl; exact rfl; exact nbH rfl; intro q4)
    | ((with_reducible apply Sy.newY (o := ⟨some 4, .box 44 _, _, _, _, _⟩)); exact rfl; exact rfl; exact nb1 rfl rfl; intro q4)
    | ((with_reducible apply Sy.newY (o := ⟨some 4, .box 44 _, _, _, _, _⟩)); exact rfl; exact rfl; exact nbA rfl; intro q4)
    | ((with_reducible apply Sy.newY (o := ⟨some 5, .box 44 _, _, _, _, _⟩)); exact rfl; exact rfl; exact nbH rfl; intro q5)
    | ((with_reducible apply Sy.newY (o := ⟨some 5, .box 44 _, _, _, _, _⟩)); exact rfl; exact rfl; exact nb1 rfl rfl; intro q5)
    | ((with_reducible apply Sy.newY (o := ⟨some 5, .box 44 _, _, _, _, _⟩)); exact rfl; exact rfl; exact nbA rfl; intro q5)
    | ((with_reducible apply Sy.newY (o := ⟨some 7, .alloc 44, _, _, _, _⟩)); exact rfl; exact rfl; exact nwz44; intro q7)
    | (with_reducible refine Sy.skip ?_)
    | (with_reducible refine Sy.ret ?_)
    | (with_reducible refine Sy.block ?_)
    | (with_reducible refine Sy.aret ?_)
    | (with_reducible refine Sy.inrm ?_)
    | (with_reducible refine Sy.iret ?_)
    | ((with_reducible apply Sy.drawL (id := 6) 4 [(0, 1)] (fun hi h => h < hi)); (case hp => kernel_rfl); (case hN => exact rfl); intro base hbase hM; try simp only [List.forall_mem_cons, List.forall_mem_append, List.not_mem_nil, false_implies, implies_true, and_true] at hM)
    | ((with_reducible apply Sy.drawL (id := 8) 11 [(0, 1)] (fun hi h => h < hi)); (case hp => kernel_rfl); (case hN => exact rfl); intro base hbase hM; try simp only [List.forall_mem_cons, List.forall_mem_append, List.not_mem_nil, false_implies, implies_true, and_true] at hM)
    | ((with_reducible apply Sy.drawL (id := 10) 4 [(0, 1)] (fun hi h => h < hi)); (case hp => kernel_rfl); (case hN => exact rfl); intro base hbase hM; try simp only [List.forall_mem_cons, List.forall_mem_append, List.not_mem_nil, false_implies, implies_true, and_true] at hM)
    | ((with_reducible apply Sy.drawL (id := 12) 11 [] (fun hi h => h < hi)); (case hp => kernel_rfl); (case hN => exact rfl); intro base hbase hM; try simp only [List.forall_mem_cons, List.forall_mem_append, List.not_mem_nil, false_implies, implies_true, and_true] at hM)
    | ((with_reducible apply Sy.no); exact rfl)
    | (with_reducible refine Sy.dend ?_)
    | ((with_reducible apply Sy.dgo); (· first | exact wantY_none | exact wantY_some rfl rfl rfl); (· intro hcls; cases hcls); exact rfl; exact rfl)
    | ((with_reducible apply Sy.dld); (· first | exact wantY_none); exact rfl; (· first | omega | exact rfl); exact rfl)
    | ((with_reducible apply Sy.dno); exact rfl; exact rfl; exact rfl; exact rfl; exact rfl)
    | ((with_reducible apply Sy.dcaseG); (case hj => exact rfl); (case hx => exact rfl); all_goals (intro hc; try (exfalso; omega)))
    | ((with_reducible apply Sy.ite); (case hx => exact rfl); all_goals (intro hc; try (exfalso; omega))))
  all_goals first
    | exact absurd (show tget k t = zeroH by with_reducible assumption) (show ¬ tget k t = zeroH by with_reducible assumption)
    | exact .fin [.int .i64 ((0 : Nat) : Int)] (.inr rfl) ⟨rfl, trivial⟩ fun H' hp => by
        rw [put1_same (k := k) (v := v) (t := t) (c := c) (by with_reducible assumption)]
        exact ⟨(r, []), ht, rfl, Hp.same (hp.less (List.nil_sublist _)) hm rfl⟩
    | exact .fin [.int .i64 ((6 : Nat) : Int)] (.inr rfl) ⟨rfl, trivial⟩ fun H' hp => by
        rw [put1_full (k := k) (v := v) (t := t) (c := c) (by with_reducible assumption) (by with_reducible assumption) (by with_reducible assumption) (by with_reducible assumption)]
        exact ⟨(r, []), ht, rfl, Hp.same (hp.less (List.nil_sublist _)) hm rfl⟩
    | exact .fin [.int .i64 ((0 : Nat) : Int)] (.inr rfl) ⟨rfl, trivial⟩ fun H' hp => by
        rw [put1_zero (k := k) (v := v) (t := t) (c := c) (by with_reducible assumption) (by with_reducible assumption)]
        exact ⟨(u, L), hT, rfl, hp.less (List.sublist_append_left _ _)⟩
    | exact .fin [.int .i64 ((0 : Nat) : Int)] (.inr rfl) ⟨rfl, trivial⟩ fun H' hp => by
        rw [put1_new (k := k) (v := v) (t := t) (c := c) (by with_reducible assumption) (by with_reducible assumption) (by with_reducible assumption) (by with_reducible assumption)]
        exact ⟨(u, L), hT, rfl, hp.less (List.sublist_append_left _ _)⟩
    | exact .fin [.int .i64 ((0 : Nat) : Int)] (.inr rfl) ⟨rfl, trivial⟩ fun H' hp => by
        rw [put1_set (k := k) (v := v) (t := t) (c := c) (by with_reducible assumption) (by with_reducible assumption) (by with_reducible assumption)]
        exact ⟨(u, L), hT, rfl, hp.less (List.sublist_append_left _ _)⟩
end Go.Proofs.YtjimjolfnimimaaDoor

/- New, of nothing. -/
namespace Go.Proofs.YtjimjolfnimimaaDoor
open Go Go.Am
set_option maxRecDepth 100000
set_option linter.unusedVariables false

end Go.Proofs.YtjimjolfnimimaaDoor

/- knows: what must come. -/
namespace Go.Proofs.YtjimjolfnimimaaDoor
open Go Go.Am
set_option maxRecDepth 100000
set_option linter.unusedVariables false

theorem tget_nil {k : Hsh} : tget k .nil = zeroH := by
  unfold tget
  have h : down k .nil 0 = .nil := rfl
  rw [show (256 : Nat) = 0 + 256 from rfl, down_nil h 256]; rfl
theorem lv_nil (n : Nat) : Lv n .nil := by cases n <;> simp [Lv]
def byteH (n : Nat) (h : n < 256) : Hsh := ⟨n :: List.replicate 31 0, by simp, by intro x hx; rcases List.mem_cons.1 hx with rfl | hx; exact h; rw [List.eq_of_mem_replicate hx]; decide⟩
def h1 : Hsh := byteH 1 (by decide)
def h2 : Hsh := byteH 2 (by decide)
theorem h2_ne : h2 ≠ zeroH := fun h => by have := congrArg (fun x => x.l.head?) h; simp [h2, byteH, zeroH, List.replicate] at this
theorem bvZ : buildV Tryd.prog 44 [] = some (hV zeroH) := bvz44
theorem bvB1 : buildV Tryd.prog 44 [(0, .int .u8 1)] = some (hV h1) := bv44 rfl
theorem bvB2 : buildV Tryd.prog 44 [(0, .int .u8 2)] = some (hV h2) := bv44 rfl

theorem Gl.two {H : AHeap} (g : Gl H) : 2 ≤ H.next := by
  obtain ⟨T, h⟩ := g.k
  exact get_live_lt (by rw [h]; rfl)
end Go.Proofs.YtjimjolfnimimaaDoor
