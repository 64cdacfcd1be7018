/- Walks: the map. -/
import Derived.Test.YtmlofdgamdlcgaaDoorWalkB
import Derived.Test.YtmlofdgamdlcgaaDoorSy
set_option linter.unusedSimpArgs false
set_option linter.unusedVariables false
/- The tree of layer 5 in memory; node.hash, Map.none. -/
namespace Go.Proofs.YtmlofdgamdlcgaaDoor
open Go Go.Am
set_option maxRecDepth 100000
set_option linter.unusedVariables false

inductive Tree where
  | nil
  | leaf (h k v : Hsh)
  | node (h : Hsh) (l r : Tree)
def Tree.hash : Tree → Hsh
  | .nil => zeroH
  | .leaf h _ _ => h
  | .node h _ _ => h

def leafC (h : Hsh) (q : Nat) : List Value := hC h ++ [.pointer none, .pointer none, .pointer (some ⟨q, 0, none⟩)]
def nodeC (h : Hsh) (pl pr : Option Addr) : List Value := hC h ++ [.pointer pl, .pointer pr, .pointer none]

/-- An object: a new one, or an old one below a bound. -/
def Ob (H : AHeap) (B : Nat) (L : Hm) (a : Nat) (cs : List Value) (T : TypeId) : Prop := (a, AObj.cells cs T true) ∈ L ∨ (a < B ∧ ∃ w, H.get a = .cells cs T w)
theorem Ob.less {H : AHeap} {B : Nat} {L L' : Hm} {a : Nat} {cs : List Value} {T : TypeId} (h : Ob H B L a cs T) (hs : ∀ p ∈ L, p ∈ L') : Ob H B L' a cs T := h.imp (hs _) id

inductive TreeL (H : AHeap) (B : Nat) (L : Hm) : Option Addr → Tree → Prop
  | nil : TreeL H B L none .nil
  | leaf {a q : Nat} {h k v : Hsh} : Ob H B L a (leafC h q) 81 → Ob H B L q (hC k ++ hC v) 70 → TreeL H B L (some ⟨a, 0, none⟩) (.leaf h k v)
  | node {a : Nat} {h : Hsh} {pl pr : Option Addr} {l r : Tree} : Ob H B L a (nodeC h pl pr) 81 → TreeL H B L pl l → TreeL H B L pr r → TreeL H B L (some ⟨a, 0, none⟩) (.node h l r)
theorem TreeL.less {H : AHeap} {B : Nat} {L L' : Hm} (hs : ∀ p ∈ L, p ∈ L') {v : Option Addr} {t : Tree} (h : TreeL H B L v t) : TreeL H B L' v t := by
  induction h with
  | nil => exact .nil
  | leaf h1 h2 => exact .leaf (h1.less hs) (h2.less hs)
  | node h1 _ _ ih1 ih2 => exact .node (h1.less hs) ih1 ih2
theorem TreeL.back {H H1 : AHeap} {B : Nat} {L : Hm} (hs : ∀ a, a < B → H1.get a = H.get a) {v : Option Addr} {t : Tree} (h : TreeL H1 B L v t) : TreeL H B L v t := by
  have ob : ∀ {a cs T}, Ob H1 B L a cs T → Ob H B L a cs T := fun h => h.imp id fun ⟨h1, w, h2⟩ => ⟨h1, w, by rw [← hs _ h1]; exact h2⟩
  induction h with
  | nil => exact .nil
  | leaf h1 h2 => exact .leaf (ob h1) (ob h2)
  | node h1 _ _ ih1 ih2 => exact .node (ob h1) ih1 ih2
theorem Ob.get {H0 H : AHeap} {B lo hi : Nat} {L Mn : Hm} (h : Hp H0 lo hi H [] Mn) (hL : ∀ p ∈ L, p ∈ Mn) (hB : B ≤ H0.next) {a : Nat} {cs : List Value} {T : TypeId} (o : Ob H0 B L a cs T) : ∃ w, H.get a = .cells cs T w := by
  rcases o with o | ⟨h1, w, h2⟩
  · exact ⟨true, h.vn _ (hL _ o)⟩
  · exact ⟨w, by rw [h.get0 h2 rfl (by simp)]⟩

theorem TreeL.at {H0 H : AHeap} {B lo hi : Nat} {L Mn : Hm} {v : Option Addr} {t : Tree} (ht : TreeL H0 B L v t) (h : Hp H0 lo hi H [] Mn) (hL : ∀ p ∈ L, p ∈ Mn) (hB : B ≤ H0.next) : TreeL H H.next [] v t := by
  have ob : ∀ {a cs T}, Ob H0 B L a cs T → Ob H H.next [] a cs T := fun o => .inr ⟨by
    rcases o with o | ⟨h1, _⟩
    · exact h.lt _ (hL _ o)
    · exact Nat.lt_of_lt_of_le h1 (Nat.le_trans hB h.le), o.get h hL hB⟩
  induction ht with
  | nil => exact .nil
  | leaf h1 h2 => exact .leaf (ob h1) (ob h2)
  | node h1 _ _ ih1 ih2 => exact .node (ob h1) ih1 ih2

theorem c_hash (pv : Option Addr) (t : Tree) (B : Nat) (H : AHeap) (ht : TreeL H B [] pv t) : CallR Tryd.prog noPrims 42 [.pointer pv] H (fun u H' => u = hV t.hash ∧ Hp H 0 0 H' [] []) := by
  cases ht with
  | nil =>
    refine CallR.sy (n := 10) Tryd.func42 rfl rfl rfl ?_
    repeat' (first
    | (with_reducible refine Sy.seq ?_)
    | (with_reducible refine Sy.regionL ?_)
    | (with_reducible refine Sy.opsnil ?_)
    | (with_reducible refine Sy.go ?_)
    | (with_reducible refine Sy.nrm ?_)
    | ((with_reducible apply Sy.move); (case hd => exact rfl); (case hx => exact rfl))
    | ((with_reducible apply Sy.bin (op := .eql) (t := 73)); (case hd => exact rfl); (case hx => exact rfl); (case hy => exact rfl); (case hv => exact (p_eq0 kd73)))
    | ((with_reducible apply Sy.stNa (t := 23)); (case hx => exact rfl); (case hy => exact rfl); (case hs => exact sz23); (case hl => first | exact hC_length _); (case h1 => first | exact hC_one _); (case hm => repeat (first | exact Turn.here)); (case hle => first | (simp; done)); (case hc => first | exact lay_all (by first | (simp; done))))
    | ((with_reducible apply Sy.call0 (k := 37)); (case hd => exact rfl); (case hf => exact rfl); (case hen => exact en37); (case hx => exact rfl); (case hc => intro H' hp; exact c_none H'))
    | ((with_reducible apply Sy.newY (o := ⟨some 2, .alloc 23, _, _, _, _⟩)); (case ho => exact rfl); (case hd => exact rfl); (case hc => exact (nwz23)); intro q2)
    | (with_reducible refine Sy.ret ?_)
    | (with_reducible refine Sy.aret ?_)
    | ((with_reducible apply Sy.yes); (case hx => exact rfl)))
    exact .fin [hV zeroH] (.inr rfl) ⟨⟨q2, 0, _, rfl, (by repeat (first | exact Has.here | apply Has.there | apply Has.app)), ld_hV ag23 sz23⟩, trivial⟩ fun H1 hp => ⟨rfl, hp.less (List.nil_sublist _)⟩
  | leaf h1 h2 =>
    rcases h1 with h1 | ⟨_, w, h1⟩
    · simp at h1
    unfold leafC at h1
    refine CallR.sy (n := 10) Tryd.func42 rfl rfl rfl ?_
    repeat' (first
    | (with_reducible refine Sy.seq ?_)
    | (with_reducible refine Sy.regionL ?_)
    | (with_reducible refine Sy.opsnil ?_)
    | (with_reducible refine Sy.go ?_)
    | (with_reducible refine Sy.nrm ?_)
    | ((with_reducible apply Sy.move); (case hd => exact rfl); (case hx => exact rfl))
    | ((with_reducible apply Sy.bin (op := .eql) (t := 73)); (case hd => exact rfl); (case hx => exact rfl); (case hy => exact rfl); (case hv => exact (p_eq1 kd73)))
    | ((with_reducible apply Sy.stNa (t := 23)); (case hx => exact rfl); (case hy => exact rfl); (case hs => exact sz23); (case hl => first | exact hC_length _); (case h1 => first | exact hC_one _); (case hm => repeat (first | exact Turn.here)); (case hle => first | (simp; done)); (case hc => first | exact lay_all (by first | (simp; done))))
    | ((with_reducible apply Sy.nilC); (case hd => exact rfl); (case hx => exact rfl); (case hv => exact rfl))
    | ((with_reducible apply Sy.fa (t := 81) (i := 0)); (case hd => exact rfl); (case hx => exact rfl); (case hv => exact (fa81_0 _ _)))
    | ((with_reducible apply Sy.ld0 (t := 23)); (case hd => exact rfl); (case hx => exact rfl); (case hm => with_reducible assumption); (case hl => exact rfl); (case hn => simp only [List.forall_mem_cons, List.not_mem_nil, false_implies, implies_true, and_true, ne_eq]; first | done); (case hv => first | exact ld_agg (cs' := hC _) ag23 sz23 (by simp; done) (by first | exact cut_here (by simp; done))))
    | ((with_reducible apply Sy.newY (o := ⟨some 2, .alloc 23, _, _, _, _⟩)); (case ho => exact rfl); (case hd => exact rfl); (case hc => exact (nwz23)); intro q2)
    | (with_reducible refine Sy.skip ?_)
    | (with_reducible refine Sy.ret ?_)
    | ((with_reducible apply Sy.no); (case hx => exact rfl)))
    exact .fin [hV _] (.inr rfl) ⟨⟨q2, 0, _, rfl, (by repeat (first | exact Has.here | apply Has.there | apply Has.app)), ld_hV ag23 sz23⟩, trivial⟩ fun H1 hp => ⟨rfl, hp.less (List.nil_sublist _)⟩
  | node h1 h2 h3 =>
    rcases h1 with h1 | ⟨_, w, h1⟩
    · simp at h1
    unfold nodeC at h1
    refine CallR.sy (n := 10) Tryd.func42 rfl rfl rfl ?_
    repeat' (first
    | (with_reducible refine Sy.seq ?_)
    | (with_reducible refine Sy.regionL ?_)
    | (with_reducible refine Sy.opsnil ?_)
    | (with_reducible refine Sy.go ?_)
    | (with_reducible refine Sy.nrm ?_)
    | ((with_reducible apply Sy.move); (case hd => exact rfl); (case hx => exact rfl))
    | ((with_reducible apply Sy.bin (op := .eql) (t := 73)); (case hd => exact rfl); (case hx => exact rfl); (case hy => exact rfl); (case hv => exact (p_eq1 kd73)))
    | ((with_reducible apply Sy.stNa (t := 23)); (case hx => exact rfl); (case hy => exact rfl); (case hs => exact sz23); (case hl => first | exact hC_length _); (case h1 => first | exact hC_one _); (case hm => repeat (first | exact Turn.here)); (case hle => first | (simp; done)); (case hc => first | exact lay_all (by first | (simp; done))))
    | ((with_reducible apply Sy.nilC); (case hd => exact rfl); (case hx => exact rfl); (case hv => exact rfl))
    | ((with_reducible apply Sy.fa (t := 81) (i := 0)); (case hd => exact rfl); (case hx => exact rfl); (case hv => exact (fa81_0 _ _)))
    | ((with_reducible apply Sy.ld0 (t := 23)); (case hd => exact rfl); (case hx => exact rfl); (case hm => with_reducible assumption); (case hl => exact rfl); (case hn => simp only [List.forall_mem_cons, List.not_mem_nil, false_implies, implies_true, and_true, ne_eq]; first | done); (case hv => first | exact ld_agg (cs' := hC _) ag23 sz23 (by simp; done) (by first | exact cut_here (by simp; done))))
    | ((with_reducible apply Sy.newY (o := ⟨some 2, .alloc 23, _, _, _, _⟩)); (case ho => exact rfl); (case hd => exact rfl); (case hc => exact (nwz23)); intro q2)
    | (with_reducible refine Sy.skip ?_)
    | (with_reducible refine Sy.ret ?_)
    | ((with_reducible apply Sy.no); (case hx => exact rfl)))
    exact .fin [hV _] (.inr rfl) ⟨⟨q2, 0, _, rfl, (by repeat (first | exact Has.here | apply Has.there | apply Has.app)), ld_hV ag23 sz23⟩, trivial⟩ fun H1 hp => ⟨rfl, hp.less (List.nil_sublist _)⟩
end Go.Proofs.YtmlofdgamdlcgaaDoor

/- node.put. -/
namespace Go.Proofs.YtmlofdgamdlcgaaDoor
open Go Go.Am
set_option maxRecDepth 100000
set_option linter.unusedVariables false

def Tree.kids : Tree → Tree × Tree
  | .node _ l r => (l, r)
  | _ => (.nil, .nil)
def Tree.mk (l r : Tree) : Tree := match l, r with
  | .nil, .nil => .nil
  | l, r => .node (aboveH l.hash r.hash) l r
/-- A key's value is put, n levels above the leaves. -/
def tput (k v : Hsh) : Nat → Tree → Tree
  | 0, _ => if v = zeroH then .nil else .leaf (leafH k v) k v
  | n + 1, t => if bitOf k (256 - (n + 1)) = 0 then Tree.mk (tput k v n t.kids.1) t.kids.2 else Tree.mk t.kids.1 (tput k v n t.kids.2)

theorem TreeL.two {H : AHeap} {B : Nat} {pv : Option Addr} {t : Tree} (ht : TreeL H B [] pv t) : (pv = none ∧ t = .nil) ∨ ∃ (a : Nat) (w : Bool) (h : Hsh) (pl pr x : Option Addr), pv = some ⟨a, 0, none⟩ ∧ H.get a = .cells (hC h ++ [.pointer pl, .pointer pr, .pointer x]) 81 w ∧ TreeL H B [] pl t.kids.1 ∧ TreeL H B [] pr t.kids.2 := by
  cases ht with
  | nil => exact .inl ⟨rfl, rfl⟩
  | leaf h1 h2 =>
    rcases h1 with h1 | ⟨_, w, h1⟩
    · simp at h1
    · exact .inr ⟨_, w, _, _, _, _, rfl, h1, .nil, .nil⟩
  | node h1 h2 h3 =>
    rcases h1 with h1 | ⟨_, w, h1⟩
    · simp at h1
    · exact .inr ⟨_, w, _, _, _, _, rfl, h1, h2, h3⟩

theorem ek78 : eqKs Tryd.prog 78 = some [.ptr, .ptr] := by kernel_rfl
theorem eq78 {a b : Option Addr} : binV Tryd.prog .eql 78 (.agg ⟨[.pointer a, .pointer b]⟩) (.agg ⟨[.pointer none, .pointer none]⟩) = some (.bool (a.isNone && b.isNone)) := by
  cases a <;> cases b <;> simp [binV, eqV, ek78, ag78, eqL, eqLeaf]

theorem hV_cells (h : Hsh) : (hV h).cells.toList = hC h := rfl
theorem bvP (k v : Hsh) : buildV Tryd.prog 70 [(0, hV k), (1, hV v)] = some (.agg ⟨hC k ++ hC v⟩) := bv70 (by
  simp only [fillL, plc, hV_cells]
  have e1 : lay (hC zeroH ++ hC zeroH) 0 (hC k) = hC k ++ hC zeroH := lay_here (by simp)
  have e2 : lay (hC k ++ hC zeroH) 32 (hC v) = hC k ++ hC v := by
    have := lay_there (a := hC k) (b := hC zeroH) (v := hC v) (o := 32) (k := 0) (by simp)
    rw [Nat.add_zero] at this
    rw [this, lay_all (by simp)]
  simp [e1, e2])
theorem bvL (h : Hsh) (q : Addr) : buildV Tryd.prog 81 [(0, hV h), (2, .pointer (some q))] = some (.agg ⟨hC h ++ [.pointer none, .pointer none, .pointer (some q)]⟩) := bv81 (by
  have e0 : (Value.pointer (some q)).cells.toList = [.pointer (some q)] := rfl
  simp only [fillL, plc, hV_cells, e0]
  have e1 : lay (hC zeroH ++ [Value.pointer none, .pointer none, .pointer none]) 0 (hC h) = hC h ++ [Value.pointer none, .pointer none, .pointer none] := lay_here (by simp)
  have e2 : lay (hC h ++ [Value.pointer none, .pointer none, .pointer none]) 34 [.pointer (some q)] = hC h ++ [Value.pointer none, .pointer none, .pointer (some q)] := by
    have := lay_there (a := hC h) (b := [Value.pointer none, .pointer none, .pointer none]) (v := [.pointer (some q)]) (o := 32) (k := 2) (by simp)
    rw [this]; rfl
  simp [e1, e2])
theorem c_bit0 (h : Hsh) (n b : Nat) (hn : n < 256) (hb : bitOf h n = b) (H : AHeap) :
    CallR Tryd.prog noPrims 48 [hV h, .int .i64 n] H (fun v H' => v = .int .i64 ((b : Nat) : Int) ∧ Hp H 0 0 H' [] []) := by
  subst hb; exact c_bit h n hn H

theorem TreeL.isNil {H : AHeap} {B : Nat} {L : Hm} {v : Option Addr} {t : Tree} (h : TreeL H B L v t) : v.isNone = true ↔ t = .nil := by
  cases h <;> simp
theorem Tree.mk_nil {l r : Tree} (hl : l = .nil) (hr : r = .nil) : Tree.mk l r = .nil := by subst hl; subst hr; rfl
theorem Tree.mk_node {l r : Tree} (h : ¬ (l = .nil ∧ r = .nil)) : Tree.mk l r = .node (aboveH l.hash r.hash) l r := by
  cases l <;> cases r <;> first | rfl | exact absurd ⟨rfl, rfl⟩ h
theorem cells0 {h h' : Hsh} {a b c x : Value} : lay ((hC h ++ [a, b, c]).set (0 + 32 + 0) x) 0 (hC h') = hC h' ++ [x, b, c] := by
  rw [List.set_append, if_neg (by simp)]
  simp only [hC_length]
  exact lay_here (by simp)
theorem cells1 {h h' : Hsh} {a b c x : Value} : lay ((hC h ++ [a, b, c]).set (0 + 32 + 1) x) 0 (hC h') = hC h' ++ [a, x, c] := by
  rw [List.set_append, if_neg (by simp)]
  simp only [hC_length]
  exact lay_here (by simp)
theorem cut_kids {h : Hsh} {a b c : Value} : List.take 2 (List.drop (0 + 32) (hC h ++ [a, b, c])) = [a, b] := by rw [show (0 + 32 : Nat) = 32 + 0 from rfl, cut_there (by simp)]; rfl
theorem ldKids {h : Hsh} {a b c : Value} {w : Bool} : aLoad Tryd.prog 78 (.cells (hC h ++ [a, b, c]) 81 w) (0 + 32) = some (.agg ⟨[a, b]⟩) := ld_agg ag78 sz78 (by simp) (by rw [show (0 + 32 : Nat) = 32 + 0 from rfl, cut_there (by simp)]; rfl)
theorem set191 {h : Hsh} {a b c x y : Value} : lay (hC h ++ [a, b, c]) (0 + 32) [x, y] = hC h ++ [x, y, c] := by rw [show (0 + 32 : Nat) = 32 + 0 from rfl, lay_there (by simp)]; rfl
/-- The node that is made, and its tree. -/
theorem TreeL.made {H : AHeap} {B : Nat} {L L' : Hm} {u1 u2 : Option Addr} {t1 t2 : Tree} {q : Nat} (h1 : TreeL H B L u1 t1) (h2 : TreeL H B L u2 t2) (hc : (u1.isNone && u2.isNone) = false) (hL : L' = L ++ [(q, .cells (hC (aboveH t1.hash t2.hash) ++ [.pointer u1, .pointer u2, .pointer none]) 81 true)]) : TreeL H B L' (some ⟨q, 0, none⟩) (Tree.mk t1 t2) := by
  have hn : ¬ (t1 = .nil ∧ t2 = .nil) := by
    rintro ⟨a, b⟩
    rw [h1.isNil.mpr a, h2.isNil.mpr b] at hc; simp at hc
  rw [Tree.mk_node hn]; subst hL
  exact .node (.inl (by simp [nodeC])) (h1.less fun p h => by simp [h]) (h2.less fun p h => by simp [h])
theorem TreeL.made0 {H : AHeap} {B : Nat} {L L1 : Hm} {u1 u2 : Option Addr} {t1 t2 : Tree} (h1 : TreeL H B L u1 t1) (h2 : TreeL H B L u2 t2) (hc : (u1.isNone && u2.isNone) = true) : TreeL H B L1 none (Tree.mk t1 t2) := by
  simp only [Bool.and_eq_true] at hc
  rw [Tree.mk_nil (h1.isNil.mp hc.1) (h2.isNil.mp hc.2)]; exact .nil

theorem put_at {k v : Hsh} {n B : Nat} {d : Int} {H0 H : AHeap} {lo hi : Nat} {Mn : Hm} {pv : Option Addr} {t : Tree}
    (ih : ∀ (pv : Option Addr) (t : Tree) (B : Nat) (H : AHeap), Gl H → B ≤ H.next → TreeL H B [] pv t → CallR Tryd.prog noPrims 38 [.pointer pv, hV k, hV v, .int .i64 d] H (fun u H' => ∃ i : Option Addr × Hm, TreeL H B i.2 i.1 (tput k v n t) ∧ u = .pointer i.1 ∧ Hp H 0 0 H' [] i.2))
    (hp : Hp H0 lo hi H [] Mn) (g : Gl H0) (hB : B ≤ H0.next) (ht : TreeL H0 B [] pv t) :
    CallR Tryd.prog noPrims 38 [.pointer pv, hV k, hV v, .int .i64 d] H (fun u H' => ∃ i : Option Addr × Hm, TreeL H0 B i.2 i.1 (tput k v n t) ∧ u = .pointer i.1 ∧ Hp H 0 0 H' [] i.2) := by
  have same : ∀ a, a < B → H.get a = H0.get a := fun a ha => hp.fr a (by omega) (by simp)
  refine (ih pv t B H (g.of hp (by simp)) (Nat.le_trans hB hp.le) (ht.back fun a ha => (same a ha).symm)).mono ?_
  rintro u H' ⟨i, h1, h2, h3⟩
  exact ⟨i, h1.back same, h2, h3⟩

set_option maxHeartbeats 2000000 in
theorem c_put (k v : Hsh) : ∀ (n : Nat), n ≤ 256 → ∀ (pv : Option Addr) (t : Tree) (B : Nat) (H : AHeap), Gl H → B ≤ H.next → TreeL H B [] pv t →
    CallR Tryd.prog noPrims 38 [.pointer pv, hV k, hV v, .int .i64 ((256 - n : Nat) : Int)] H (fun u H' => ∃ i : Option Addr × Hm, TreeL H B i.2 i.1 (tput k v n t) ∧ u = .pointer i.1 ∧ Hp H 0 0 H' [] i.2) := by
  intro n
  induction n with
  | zero =>
    intro _ pv t B H g hB ht
    refine CallR.sy (n := 61) Tryd.func38 rfl rfl rfl ?_
    repeat' (first
    | (with_reducible refine Sy.seq ?_)
    | (with_reducible refine Sy.regionL ?_)
    | (with_reducible refine Sy.opsnil ?_)
    | (with_reducible refine Sy.go ?_)
    | (with_reducible refine Sy.nrm ?_)
    | ((with_reducible apply Sy.assign); (case hd => exact rfl); (case hx => exact rfl))
    | ((with_reducible apply Sy.move); (case hd => exact rfl); (case hx => exact rfl))
    | ((with_reducible apply Sy.bin (op := .eql) (t := 3)); (case hd => exact rfl); (case hx => exact rfl); (case hy => exact rfl); (case hv => exact b_eql))
    | ((with_reducible apply Sy.ldN (t := 23)); (case hd => exact rfl); (case hx => exact rfl); (case hm => repeat (first | exact Has.here | apply Has.there)); (case hv => first | exact ld_hV ag23 sz23))
    | ((with_reducible apply Sy.bin (op := .eql) (t := 23)); (case hd => exact rfl); (case hx => exact rfl); (case hy => exact rfl); (case hv => exact (eq23)))
    | ((with_reducible apply Sy.dcall0 (k := 37)); (case hw => first | exact wantY_none); (case h1 => exact rfl); (case hS => intro h hh; exact hh); (case hi1 => exact rfl); (case hd => exact rfl); (case hf => exact rfl); (case hen => exact en37); (case hx => exact rfl); (case hc => intro H' hp; exact c_none H'))
    | ((with_reducible apply Sy.dcall0 (k := 28)); (case hw => first | exact wantY_none); (case h1 => exact rfl); (case hS => intro h hh; exact hh); (case hi1 => exact rfl); (case hd => exact rfl); (case hf => exact rfl); (case hen => exact en28); (case hx => exact rfl); (case hc => intro H' hp; exact c_Leaf k v H' (g.of hp (by simp))))
    | ((with_reducible apply Sy.build (t := 70)); (case hd => exact rfl); (case hx => exact rfl); (case hv => exact bvP _ _))
    | ((with_reducible apply Sy.build (t := 81)); (case hd => exact rfl); (case hx => exact rfl); (case hv => exact bvL _ _))
    | ((with_reducible apply Sy.newY (o := ⟨some 5, .box 23 _, _, _, _, _⟩)); (case ho => exact rfl); (case hd => exact rfl); (case hc => exact (nbH rfl)); intro q5)
    | ((with_reducible apply Sy.newY (o := ⟨some 6, .box 23 _, _, _, _, _⟩)); (case ho => exact rfl); (case hd => exact rfl); (case hc => exact (nbH rfl)); intro q6)
    | ((with_reducible apply Sy.dnew (o := ⟨some 22, .box 70 _, _, _, _, _⟩)); (case hw => first | exact wantY_none); (case ho => exact rfl); (case hd => exact rfl); (case hi1 => exact rfl); (case h1 => exact rfl); (case h2 => exact rfl); (case hc => exact (nbA rfl)); intro q22 hq22)
    | ((with_reducible apply Sy.dnew (o := ⟨some 24, .box 81 _, _, _, _, _⟩)); (case hw => first | exact wantY_none); (case ho => exact rfl); (case hd => exact rfl); (case hi1 => exact rfl); (case h1 => exact rfl); (case h2 => exact rfl); (case hc => exact (nbA rfl)); intro q24 hq24)
    | (with_reducible refine Sy.skip ?_)
    | (with_reducible refine Sy.ret ?_)
    | (with_reducible refine Sy.aret ?_)
    | ((with_reducible apply Sy.drawL (id := 2) 3 [(0, 1)] (fun hi h => h < hi)); (case hp => kernel_rfl); (case hN => exact rfl); intro base hbase hM; try simp only [List.forall_mem_cons, List.forall_mem_append, List.not_mem_nil, false_implies, implies_true, and_true] at hM)
    | ((with_reducible apply Sy.drawL (id := 4) 10 [(3, 2), (4, 2)] (fun hi h => h < hi)); (case hp => kernel_rfl); (case hN => exact rfl); intro base hbase hM; try simp only [List.forall_mem_cons, List.forall_mem_append, List.not_mem_nil, false_implies, implies_true, and_true] at hM)
    | ((with_reducible apply Sy.yes); (case hx => exact rfl))
    | (with_reducible refine Sy.dend ?_)
    | ((with_reducible apply Sy.dgo); (case hw => first | exact wantY_none); (case hc => intro hcls; cases hcls); (case h1 => exact rfl); (case h2 => exact rfl))
    | ((with_reducible apply Sy.dld); (case hw => first | exact wantY_none); (case hx => exact rfl); (case hb => omega); (case h2 => exact rfl))
    | ((with_reducible apply Sy.ite); (case hx => exact rfl); all_goals (intro hc; try (exfalso; omega))))
    · exact .fin [.pointer none] (.inr rfl) ⟨rfl, trivial⟩ fun H' hp => ⟨(none, []), by rw [tput, if_pos (by assumption)]; exact .nil, rfl, hp.less (List.nil_sublist _)⟩
    · exact .fin [.pointer (some ⟨q24, 0, none⟩)] (.inr rfl) ⟨rfl, trivial⟩ fun H' hp => ⟨(some ⟨q24, 0, none⟩, [_, _]), by rw [tput, if_neg (by assumption)]; exact .leaf (.inl (List.mem_cons_self ..)) (.inl (List.mem_cons_of_mem _ (List.mem_cons_self ..))), rfl, hp.less (.cons_cons _ (.cons_cons _ (List.nil_sublist _)))⟩
  | succ n ih =>
    intro hn pv t B H g hB ht
    have hb01 : bitOf k (256 - (n + 1)) = 0 ∨ bitOf k (256 - (n + 1)) = 1 := by have := and1_lt (k.at ((256 - (n + 1)) / 8) >>> (7 - (256 - (n + 1)) % 8)); unfold bitOf; omega
    have hk := ht.two
    have ih2 := ih (by omega)
    rw [show 256 - n = 256 - (n + 1) + 1 by omega] at ih2
    rcases hk with ⟨rfl, rfl⟩ | ⟨a, w, h, pl, pr, x, rfl, hga, hl, hr⟩
    · rcases hb01 with hb | hb
      · refine CallR.sy (n := 61) Tryd.func38 rfl rfl rfl ?_
        repeat' (first
    | (with_reducible refine Sy.seq ?_)
    | (with_reducible refine Sy.regionL ?_)
    | (with_reducible refine Sy.opsnil ?_)
    | (with_reducible refine Sy.go ?_)
    | (with_reducible refine Sy.nrm ?_)
    | ((with_reducible apply Sy.assign); (case hd => exact rfl); (case hx => exact rfl))
    | ((with_reducible apply Sy.move); (case hd => exact rfl); (case hx => exact rfl))
    | ((with_reducible apply Sy.bin (op := .eql) (t := 3)); (case hd => exact rfl); (case hx => exact rfl); (case hy => exact rfl); (case hv => exact b_eql))
    | ((with_reducible apply Sy.ldN (t := 23)); (case hd => exact rfl); (case hx => exact rfl); (case hm => repeat (first | exact Has.here | apply Has.there)); (case hv => first | exact ld_hV ag23 sz23))
    | ((with_reducible apply Sy.bin (op := .neq) (t := 73)); (case hd => exact rfl); (case hx => exact rfl); (case hy => exact rfl); (case hv => exact (p_ne0 kd73)))
    | ((with_reducible apply Sy.fa (t := 81) (i := 1)); (case hd => exact rfl); (case hx => exact rfl); (case hv => exact (fa81_1 _ _)))
    | ((with_reducible apply Sy.ldN (t := 78)); (case hd => exact rfl); (case hx => exact rfl); (case hm => repeat (first | exact Has.here | apply Has.app)); (case hv => first | exact ld_agg ag78 sz78 (by first | (simp; done)) (by first | rfl)))
    | ((with_reducible apply Sy.ia (t := 78)); (case hd => exact rfl); (case hx => exact rfl); (case hy => exact rfl); (case hv => exact (ia_ar1 Tryd.underlying78 sz73 (by omega))))
    | ((with_reducible apply Sy.ldN (t := 73)); (case hd => exact rfl); (case hx => exact rfl); (case hm => repeat (first | exact Has.here | apply Has.app)); (case hv => first | exact ld_one ag73 rfl))
    | ((with_reducible apply Sy.bin (op := .add) (t := 3)); (case hd => exact rfl); (case hx => exact rfl); (case hy => exact rfl); (case hv => exact (b_add (by omega))))
    | ((with_reducible apply Sy.stN1 (t := 73)); (case hx => exact rfl); (case hy => exact rfl); (case hs => exact sz73); (case hl => exact rfl); (case h1 => exact rfl); (case hm => repeat (first | exact Turn.here | apply Turn.app)); (case hle => first | (simp; done)); (case hc => first | rfl))
    | ((with_reducible apply Sy.build (t := 78)); (case hd => exact rfl); (case hx => exact rfl); (case hv => exact (bv78 (by first | rfl))))
    | ((with_reducible apply Sy.bin (op := .eql) (t := 78)); (case hd => exact rfl); (case hx => exact rfl); (case hy => exact rfl); (case hv => exact (eq78)))
    | ((with_reducible apply Sy.fa (t := 81) (i := 0)); (case hd => exact rfl); (case hx => exact rfl); (case hv => exact (fa81_0 _ _)))
    | ((with_reducible apply Sy.stNa (t := 23)); (case hx => exact rfl); (case hy => exact rfl); (case hs => exact sz23); (case hl => first | exact hC_length _); (case h1 => first | exact hC_one _); (case hm => repeat (first | exact Turn.here | apply Turn.app)); (case hle => first | (simp; done)); (case hc => first | exact rfl))
    | ((with_reducible apply Sy.call0 (k := 48)); (case hd => exact rfl); (case hf => exact rfl); (case hen => exact en48); (case hx => exact rfl); (case hc => intro H' hp; exact c_bit0 k _ 0 (by omega) hb H'))
    | ((with_reducible apply Sy.dcall (k := 38)); (case hw => first | exact wantY_none); (case h1 => exact rfl); (case hS => intro h hh; exact hh); (case hi1 => exact rfl); (case hd => exact rfl); (case hf => exact rfl); (case hen => exact en38); (case hx => exact rfl); (case hc => intro H' hp; exact put_at ih2 hp g hB .nil); rintro ⟨u, L⟩ hT)
    | ((with_reducible apply Sy.dcall0 (k := 42)); (case hw => first | exact wantY_none); (case h1 => exact rfl); (case hS => intro h hh; exact hh); (case hi1 => exact rfl); (case hd => exact rfl); (case hf => exact rfl); (case hen => exact en42); (case hx => exact rfl); (case hc => intro H' hp; exact c_hash _ _ _ H' (by first | exact TreeL.at hT hp (fun p h => by simp only [List.mem_append, List.mem_cons, h, true_or, or_true]) hB | exact TreeL.nil (B := 0))))
    | ((with_reducible apply Sy.dcall0 (k := 30)); (case hw => first | exact wantY_none); (case h1 => exact rfl); (case hS => intro h hh; exact hh); (case hi1 => exact rfl); (case hd => exact rfl); (case hf => exact rfl); (case hen => exact en30); (case hx => exact rfl); (case hc => intro H' hp; exact c_Above _ _ H' (g.of hp (by simp))))
    | ((with_reducible apply Sy.newY (o := ⟨some 5, .box 23 _, _, _, _, _⟩)); (case ho => exact rfl); (case hd => exact rfl); (case hc => exact (nbH rfl)); intro q5)
    | ((with_reducible apply Sy.newY (o := ⟨some 6, .box 23 _, _, _, _, _⟩)); (case ho => exact rfl); (case hd => exact rfl); (case hc => exact (nbH rfl)); intro q6)
    | ((with_reducible apply Sy.newY (o := ⟨some 9, .alloc 81, _, _, _, _⟩)); (case ho => exact rfl); (case hd => exact rfl); (case hc => exact (nwz81)); intro q9)
    | (with_reducible refine Sy.skip ?_)
    | (with_reducible refine Sy.ret ?_)
    | (with_reducible refine Sy.aret ?_)
    | ((with_reducible apply Sy.drawL (id := 9) 13 [] (fun hi h => h < hi)); (case hp => kernel_rfl); (case hN => exact rfl); intro base hbase hM; try simp only [List.forall_mem_cons, List.forall_mem_append, List.not_mem_nil, false_implies, implies_true, and_true] at hM)
    | ((with_reducible apply Sy.drawL (id := 12) 11 [(6, 3)] (fun hi h => h < hi)); (case hp => kernel_rfl); (case hN => exact rfl); intro base hbase hM; try simp only [List.forall_mem_cons, List.forall_mem_append, List.not_mem_nil, false_implies, implies_true, and_true] at hM)
    | ((with_reducible apply Sy.no); (case hx => exact rfl))
    | (with_reducible refine Sy.dend ?_)
    | ((with_reducible apply Sy.dgo); (case hw => first | exact wantY_none); (case hc => intro hcls; cases hcls); (case h1 => exact rfl); (case h2 => exact rfl))
    | ((with_reducible apply Sy.dld); (case hw => first | exact wantY_none); (case hx => exact rfl); (case hb => omega); (case h2 => exact rfl))
    | ((with_reducible apply Sy.ite); (case hx => exact rfl); all_goals (intro hc; try (exfalso; omega)))
    | ((with_reducible apply Sy.iteB); (case hx => exact rfl); all_goals intro hc))
        · exact .fin [.pointer none] (.inr rfl) ⟨rfl, trivial⟩ fun H' hp => ⟨(none, []), by rw [tput, if_pos hb]; exact hT.made0 .nil hc, rfl, hp.less (List.nil_sublist _)⟩
        · refine .fin [.pointer (some ⟨q9, 0, none⟩)] (.inr rfl) ⟨rfl, trivial⟩ fun H' hp => ⟨(some ⟨q9, 0, none⟩, L ++ [_]), by rw [tput, if_pos hb]; exact hT.made .nil hc rfl, rfl, ?_⟩
          dsimp only at hp
          try rw [cells0] at hp
          exact hp.less ((List.Sublist.refl L).append ((List.nil_sublist _).cons_cons _))
      · refine CallR.sy (n := 61) Tryd.func38 rfl rfl rfl ?_
        repeat' (first
    | (with_reducible refine Sy.seq ?_)
    | (with_reducible refine Sy.regionL ?_)
    | (with_reducible refine Sy.opsnil ?_)
    | (with_reducible refine Sy.go ?_)
    | (with_reducible refine Sy.nrm ?_)
    | ((with_reducible apply Sy.assign); (case hd => exact rfl); (case hx => exact rfl))
    | ((with_reducible apply Sy.move); (case hd => exact rfl); (case hx => exact rfl))
    | ((with_reducible apply Sy.bin (op := .eql) (t := 3)); (case hd => exact rfl); (case hx => exact rfl); (case hy => exact rfl); (case hv => exact b_eql))
    | ((with_reducible apply Sy.ldN (t := 23)); (case hd => exact rfl); (case hx => exact rfl); (case hm => repeat (first | exact Has.here | apply Has.there)); (case hv => first | exact ld_hV ag23 sz23))
    | ((with_reducible apply Sy.bin (op := .neq) (t := 73)); (case hd => exact rfl); (case hx => exact rfl); (case hy => exact rfl); (case hv => exact (p_ne0 kd73)))
    | ((with_reducible apply Sy.fa (t := 81) (i := 1)); (case hd => exact rfl); (case hx => exact rfl); (case hv => exact (fa81_1 _ _)))
    | ((with_reducible apply Sy.ldN (t := 78)); (case hd => exact rfl); (case hx => exact rfl); (case hm => repeat (first | exact Has.here | apply Has.app)); (case hv => first | exact ld_agg ag78 sz78 (by first | (simp; done)) (by first | rfl)))
    | ((with_reducible apply Sy.ia (t := 78)); (case hd => exact rfl); (case hx => exact rfl); (case hy => exact rfl); (case hv => exact (ia_ar1 Tryd.underlying78 sz73 (by omega))))
    | ((with_reducible apply Sy.ldN (t := 73)); (case hd => exact rfl); (case hx => exact rfl); (case hm => repeat (first | exact Has.here | apply Has.app)); (case hv => first | exact ld_one ag73 rfl))
    | ((with_reducible apply Sy.bin (op := .add) (t := 3)); (case hd => exact rfl); (case hx => exact rfl); (case hy => exact rfl); (case hv => exact (b_add (by omega))))
    | ((with_reducible apply Sy.stN1 (t := 73)); (case hx => exact rfl); (case hy => exact rfl); (case hs => exact sz73); (case hl => exact rfl); (case h1 => exact rfl); (case hm => repeat (first | exact Turn.here | apply Turn.app)); (case hle => first | (simp; done)); (case hc => first | rfl))
    | ((with_reducible apply Sy.build (t := 78)); (case hd => exact rfl); (case hx => exact rfl); (case hv => exact (bv78 (by first | rfl))))
    | ((with_reducible apply Sy.bin (op := .eql) (t := 78)); (case hd => exact rfl); (case hx => exact rfl); (case hy => exact rfl); (case hv => exact (eq78)))
    | ((with_reducible apply Sy.fa (t := 81) (i := 0)); (case hd => exact rfl); (case hx => exact rfl); (case hv => exact (fa81_0 _ _)))
    | ((with_reducible apply Sy.stNa (t := 23)); (case hx => exact rfl); (case hy => exact rfl); (case hs => exact sz23); (case hl => first | exact hC_length _); (case h1 => first | exact hC_one _); (case hm => repeat (first | exact Turn.here | apply Turn.app)); (case hle => first | (simp; done)); (case hc => first | exact rfl))
    | ((with_reducible apply Sy.call0 (k := 48)); (case hd => exact rfl); (case hf => exact rfl); (case hen => exact en48); (case hx => exact rfl); (case hc => intro H' hp; exact c_bit0 k _ 1 (by omega) hb H'))
    | ((with_reducible apply Sy.dcall (k := 38)); (case hw => first | exact wantY_none); (case h1 => exact rfl); (case hS => intro h hh; exact hh); (case hi1 => exact rfl); (case hd => exact rfl); (case hf => exact rfl); (case hen => exact en38); (case hx => exact rfl); (case hc => intro H' hp; exact put_at ih2 hp g hB .nil); rintro ⟨u, L⟩ hT)
    | ((with_reducible apply Sy.dcall0 (k := 42)); (case hw => first | exact wantY_none); (case h1 => exact rfl); (case hS => intro h hh; exact hh); (case hi1 => exact rfl); (case hd => exact rfl); (case hf => exact rfl); (case hen => exact en42); (case hx => exact rfl); (case hc => intro H' hp; exact c_hash _ _ _ H' (by first | exact TreeL.at hT hp (fun p h => by simp only [List.mem_append, List.mem_cons, h, true_or, or_true]) hB | exact TreeL.nil (B := 0))))
    | ((with_reducible apply Sy.dcall0 (k := 30)); (case hw => first | exact wantY_none); (case h1 => exact rfl); (case hS => intro h hh; exact hh); (case hi1 => exact rfl); (case hd => exact rfl); (case hf => exact rfl); (case hen => exact en30); (case hx => exact rfl); (case hc => intro H' hp; exact c_Above _ _ H' (g.of hp (by simp))))
    | ((with_reducible apply Sy.newY (o := ⟨some 5, .box 23 _, _, _, _, _⟩)); (case ho => exact rfl); (case hd => exact rfl); (case hc => exact (nbH rfl)); intro q5)
    | ((with_reducible apply Sy.newY (o := ⟨some 6, .box 23 _, _, _, _, _⟩)); (case ho => exact rfl); (case hd => exact rfl); (case hc => exact (nbH rfl)); intro q6)
    | ((with_reducible apply Sy.newY (o := ⟨some 9, .alloc 81, _, _, _, _⟩)); (case ho => exact rfl); (case hd => exact rfl); (case hc => exact (nwz81)); intro q9)
    | (with_reducible refine Sy.skip ?_)
    | (with_reducible refine Sy.ret ?_)
    | (with_reducible refine Sy.aret ?_)
    | ((with_reducible apply Sy.drawL (id := 9) 13 [] (fun hi h => h < hi)); (case hp => kernel_rfl); (case hN => exact rfl); intro base hbase hM; try simp only [List.forall_mem_cons, List.forall_mem_append, List.not_mem_nil, false_implies, implies_true, and_true] at hM)
    | ((with_reducible apply Sy.drawL (id := 12) 11 [(6, 3)] (fun hi h => h < hi)); (case hp => kernel_rfl); (case hN => exact rfl); intro base hbase hM; try simp only [List.forall_mem_cons, List.forall_mem_append, List.not_mem_nil, false_implies, implies_true, and_true] at hM)
    | ((with_reducible apply Sy.no); (case hx => exact rfl))
    | (with_reducible refine Sy.dend ?_)
    | ((with_reducible apply Sy.dgo); (case hw => first | exact wantY_none); (case hc => intro hcls; cases hcls); (case h1 => exact rfl); (case h2 => exact rfl))
    | ((with_reducible apply Sy.dld); (case hw => first | exact wantY_none); (case hx => exact rfl); (case hb => omega); (case h2 => exact rfl))
    | ((with_reducible apply Sy.ite); (case hx => exact rfl); all_goals (intro hc; try (exfalso; omega)))
    | ((with_reducible apply Sy.iteB); (case hx => exact rfl); all_goals intro hc))
        · exact .fin [.pointer none] (.inr rfl) ⟨rfl, trivial⟩ fun H' hp => ⟨(none, []), by rw [tput, if_neg (by omega)]; exact TreeL.made0 .nil hT hc, rfl, hp.less (List.nil_sublist _)⟩
        · refine .fin [.pointer (some ⟨q9, 0, none⟩)] (.inr rfl) ⟨rfl, trivial⟩ fun H' hp => ⟨(some ⟨q9, 0, none⟩, L ++ [_]), by rw [tput, if_neg (by omega)]; exact TreeL.made .nil hT hc rfl, rfl, ?_⟩
          dsimp only at hp
          try rw [cells1] at hp
          exact hp.less ((List.Sublist.refl L).append ((List.nil_sublist _).cons_cons _))
    · rcases hb01 with hb | hb
      · refine CallR.sy (n := 61) Tryd.func38 rfl rfl rfl ?_
        repeat' (first
    | (with_reducible refine Sy.seq ?_)
    | (with_reducible refine Sy.regionL ?_)
    | (with_reducible refine Sy.opsnil ?_)
    | (with_reducible refine Sy.go ?_)
    | (with_reducible refine Sy.nrm ?_)
    | ((with_reducible apply Sy.assign); (case hd => exact rfl); (case hx => exact rfl))
    | ((with_reducible apply Sy.move); (case hd => exact rfl); (case hx => exact rfl))
    | ((with_reducible apply Sy.bin (op := .eql) (t := 3)); (case hd => exact rfl); (case hx => exact rfl); (case hy => exact rfl); (case hv => exact b_eql))
    | ((with_reducible apply Sy.ldN (t := 23)); (case hd => exact rfl); (case hx => exact rfl); (case hm => repeat (first | exact Has.here | apply Has.there)); (case hv => first | exact ld_hV ag23 sz23))
    | ((with_reducible apply Sy.bin (op := .neq) (t := 73)); (case hd => exact rfl); (case hx => exact rfl); (case hy => exact rfl); (case hv => exact (p_ne1 kd73)))
    | ((with_reducible apply Sy.nilC); (case hd => exact rfl); (case hx => exact rfl); (case hv => exact rfl))
    | ((with_reducible apply Sy.fa (t := 81) (i := 1)); (case hd => exact rfl); (case hx => exact rfl); (case hv => exact (fa81_1 _ _)))
    | ((with_reducible apply Sy.ldN (t := 78)); (case hd => exact rfl); (case hx => exact rfl); (case hm => repeat (first | exact Has.here | apply Has.there | apply Has.app)); (case hv => first | exact ld_agg ag78 sz78 (by first | (simp; done)) (by first | rfl)))
    | ((with_reducible apply Sy.ld0 (t := 78)); (case hd => exact rfl); (case hx => exact rfl); (case hm => with_reducible assumption); (case hl => exact rfl); (case hn => simp only [List.forall_mem_cons, List.not_mem_nil, false_implies, implies_true, and_true, ne_eq]; first | done); (case hv => first | exact ld_agg ag78 sz78 (by first | (simp; done)) (by first | with_reducible exact cut_kids)))
    | ((with_reducible apply Sy.stNa (t := 78)); (case hx => exact rfl); (case hy => exact rfl); (case hs => exact sz78); (case hl => first | exact rfl); (case h1 => first | exact rfl); (case hm => repeat (first | exact Turn.here)); (case hle => first | (simp; done)); (case hc => first | with_reducible exact set191))
    | ((with_reducible apply Sy.ia (t := 78)); (case hd => exact rfl); (case hx => exact rfl); (case hy => exact rfl); (case hv => exact (ia_ar1 Tryd.underlying78 sz73 (by omega))))
    | ((with_reducible apply Sy.ldN (t := 73)); (case hd => exact rfl); (case hx => exact rfl); (case hm => repeat (first | exact Has.here | apply Has.app)); (case hv => first | exact ld_one ag73 rfl))
    | ((with_reducible apply Sy.bin (op := .add) (t := 3)); (case hd => exact rfl); (case hx => exact rfl); (case hy => exact rfl); (case hv => exact (b_add (by omega))))
    | ((with_reducible apply Sy.stN1 (t := 73)); (case hx => exact rfl); (case hy => exact rfl); (case hs => exact sz73); (case hl => exact rfl); (case h1 => exact rfl); (case hm => repeat (first | exact Turn.here | apply Turn.app)); (case hle => first | (simp; done)); (case hc => first | rfl))
    | ((with_reducible apply Sy.build (t := 78)); (case hd => exact rfl); (case hx => exact rfl); (case hv => exact (bv78 (by first | rfl))))
    | ((with_reducible apply Sy.bin (op := .eql) (t := 78)); (case hd => exact rfl); (case hx => exact rfl); (case hy => exact rfl); (case hv => exact (eq78)))
    | ((with_reducible apply Sy.fa (t := 81) (i := 0)); (case hd => exact rfl); (case hx => exact rfl); (case hv => exact (fa81_0 _ _)))
    | ((with_reducible apply Sy.stNa (t := 23)); (case hx => exact rfl); (case hy => exact rfl); (case hs => exact sz23); (case hl => first | exact hC_length _); (case h1 => first | exact hC_one _); (case hm => repeat (first | exact Turn.here | apply Turn.app)); (case hle => first | (simp; done)); (case hc => first | exact rfl))
    | ((with_reducible apply Sy.call0 (k := 48)); (case hd => exact rfl); (case hf => exact rfl); (case hen => exact en48); (case hx => exact rfl); (case hc => intro H' hp; exact c_bit0 k _ 0 (by omega) hb H'))
    | ((with_reducible apply Sy.dcall (k := 38)); (case hw => first | exact wantY_none); (case h1 => exact rfl); (case hS => intro h hh; exact hh); (case hi1 => exact rfl); (case hd => exact rfl); (case hf => exact rfl); (case hen => exact en38); (case hx => exact rfl); (case hc => intro H' hp; exact put_at ih2 hp g hB hl); rintro ⟨u, L⟩ hT)
    | ((with_reducible apply Sy.dcall0 (k := 42)); (case hw => first | exact wantY_none); (case h1 => exact rfl); (case hS => intro h hh; exact hh); (case hi1 => exact rfl); (case hd => exact rfl); (case hf => exact rfl); (case hen => exact en42); (case hx => exact rfl); (case hc => intro H' hp; exact c_hash _ _ _ H' (by first | exact TreeL.at hT hp (fun p h => by simp only [List.mem_append, List.mem_cons, h, true_or, or_true]) hB | exact TreeL.at hr hp (fun p h => by cases h) hB)))
    | ((with_reducible apply Sy.dcall0 (k := 30)); (case hw => first | exact wantY_none); (case h1 => exact rfl); (case hS => intro h hh; exact hh); (case hi1 => exact rfl); (case hd => exact rfl); (case hf => exact rfl); (case hen => exact en30); (case hx => exact rfl); (case hc => intro H' hp; exact c_Above _ _ H' (g.of hp (by simp))))
    | ((with_reducible apply Sy.newY (o := ⟨some 5, .box 23 _, _, _, _, _⟩)); (case ho => exact rfl); (case hd => exact rfl); (case hc => exact (nbH rfl)); intro q5)
    | ((with_reducible apply Sy.newY (o := ⟨some 6, .box 23 _, _, _, _, _⟩)); (case ho => exact rfl); (case hd => exact rfl); (case hc => exact (nbH rfl)); intro q6)
    | ((with_reducible apply Sy.newY (o := ⟨some 9, .alloc 81, _, _, _, _⟩)); (case ho => exact rfl); (case hd => exact rfl); (case hc => exact (nwz81)); intro q9)
    | (with_reducible refine Sy.skip ?_)
    | (with_reducible refine Sy.ret ?_)
    | (with_reducible refine Sy.aret ?_)
    | ((with_reducible apply Sy.drawL (id := 9) 13 [] (fun hi h => h < hi)); (case hp => kernel_rfl); (case hN => exact rfl); intro base hbase hM; try simp only [List.forall_mem_cons, List.forall_mem_append, List.not_mem_nil, false_implies, implies_true, and_true] at hM)
    | ((with_reducible apply Sy.drawL (id := 12) 11 [(6, 3)] (fun hi h => h < hi)); (case hp => kernel_rfl); (case hN => exact rfl); intro base hbase hM; try simp only [List.forall_mem_cons, List.forall_mem_append, List.not_mem_nil, false_implies, implies_true, and_true] at hM)
    | ((with_reducible apply Sy.yes); (case hx => exact rfl))
    | (with_reducible refine Sy.dend ?_)
    | ((with_reducible apply Sy.dgo); (case hw => first | exact wantY_none); (case hc => intro hcls; cases hcls); (case h1 => exact rfl); (case h2 => exact rfl))
    | ((with_reducible apply Sy.dld); (case hw => first | exact wantY_none); (case hx => exact rfl); (case hb => omega); (case h2 => exact rfl))
    | ((with_reducible apply Sy.ite); (case hx => exact rfl); all_goals (intro hc; try (exfalso; omega)))
    | ((with_reducible apply Sy.iteB); (case hx => exact rfl); all_goals intro hc))
        · exact .fin [.pointer none] (.inr rfl) ⟨rfl, trivial⟩ fun H' hp => ⟨(none, []), by rw [tput, if_pos hb]; exact hT.made0 (hr.less fun p h => by cases h) hc, rfl, hp.less (List.nil_sublist _)⟩
        · refine .fin [.pointer (some ⟨q9, 0, none⟩)] (.inr rfl) ⟨rfl, trivial⟩ fun H' hp => ⟨(some ⟨q9, 0, none⟩, L ++ [_]), by rw [tput, if_pos hb]; exact hT.made (hr.less fun p h => by cases h) hc rfl, rfl, ?_⟩
          dsimp only at hp
          try rw [cells0] at hp
          exact hp.less ((List.Sublist.refl L).append ((List.nil_sublist _).cons_cons _))
      · refine CallR.sy (n := 61) Tryd.func38 rfl rfl rfl ?_
        repeat' (first
    | (with_reducible refine Sy.seq ?_)
    | (with_reducible refine Sy.regionL ?_)
    | (with_reducible refine Sy.opsnil ?_)
    | (with_reducible refine Sy.go ?_)
    | (with_reducible refine Sy.nrm ?_)
    | ((with_reducible apply Sy.assign); (case hd => exact rfl); (case hx => exact rfl))
    | ((with_reducible apply Sy.move); (case hd => exact rfl); (case hx => exact rfl))
    | ((with_reducible apply Sy.bin (op := .eql) (t := 3)); (case hd => exact rfl); (case hx => exact rfl); (case hy => exact rfl); (case hv => exact b_eql))
    | ((with_reducible apply Sy.ldN (t := 23)); (case hd => exact rfl); (case hx => exact rfl); (case hm => repeat (first | exact Has.here | apply Has.there)); (case hv => first | exact ld_hV ag23 sz23))
    | ((with_reducible apply Sy.bin (op := .neq) (t := 73)); (case hd => exact rfl); (case hx => exact rfl); (case hy => exact rfl); (case hv => exact (p_ne1 kd73)))
    | ((with_reducible apply Sy.nilC); (case hd => exact rfl); (case hx => exact rfl); (case hv => exact rfl))
    | ((with_reducible apply Sy.fa (t := 81) (i := 1)); (case hd => exact rfl); (case hx => exact rfl); (case hv => exact (fa81_1 _ _)))
    | ((with_reducible apply Sy.ldN (t := 78)); (case hd => exact rfl); (case hx => exact rfl); (case hm => repeat (first | exact Has.here | apply Has.there | apply Has.app)); (case hv => first | exact ld_agg ag78 sz78 (by first | (simp; done)) (by first | rfl)))
    | ((with_reducible apply Sy.ld0 (t := 78)); (case hd => exact rfl); (case hx => exact rfl); (case hm => with_reducible assumption); (case hl => exact rfl); (case hn => simp only [List.forall_mem_cons, List.not_mem_nil, false_implies, implies_true, and_true, ne_eq]; first | done); (case hv => first | exact ld_agg ag78 sz78 (by first | (simp; done)) (by first | with_reducible exact cut_kids)))
    | ((with_reducible apply Sy.stNa (t := 78)); (case hx => exact rfl); (case hy => exact rfl); (case hs => exact sz78); (case hl => first | exact rfl); (case h1 => first | exact rfl); (case hm => repeat (first | exact Turn.here)); (case hle => first | (simp; done)); (case hc => first | with_reducible exact set191))
    | ((with_reducible apply Sy.ia (t := 78)); (case hd => exact rfl); (case hx => exact rfl); (case hy => exact rfl); (case hv => exact (ia_ar1 Tryd.underlying78 sz73 (by omega))))
    | ((with_reducible apply Sy.ldN (t := 73)); (case hd => exact rfl); (case hx => exact rfl); (case hm => repeat (first | exact Has.here | apply Has.app)); (case hv => first | exact ld_one ag73 rfl))
    | ((with_reducible apply Sy.bin (op := .add) (t := 3)); (case hd => exact rfl); (case hx => exact rfl); (case hy => exact rfl); (case hv => exact (b_add (by omega))))
    | ((with_reducible apply Sy.stN1 (t := 73)); (case hx => exact rfl); (case hy => exact rfl); (case hs => exact sz73); (case hl => exact rfl); (case h1 => exact rfl); (case hm => repeat (first | exact Turn.here | apply Turn.app)); (case hle => first | (simp; done)); (case hc => first | rfl))
    | ((with_reducible apply Sy.build (t := 78)); (case hd => exact rfl); (case hx => exact rfl); (case hv => exact (bv78 (by first | rfl))))
    | ((with_reducible apply Sy.bin (op := .eql) (t := 78)); (case hd => exact rfl); (case hx => exact rfl); (case hy => exact rfl); (case hv => exact (eq78)))
    | ((with_reducible apply Sy.fa (t := 81) (i := 0)); (case hd => exact rfl); (case hx => exact rfl); (case hv => exact (fa81_0 _ _)))
    | ((with_reducible apply Sy.stNa (t := 23)); (case hx => exact rfl); (case hy => exact rfl); (case hs => exact sz23); (case hl => first | exact hC_length _); (case h1 => first | exact hC_one _); (case hm => repeat (first | exact Turn.here | apply Turn.app)); (case hle => first | (simp; done)); (case hc => first | exact rfl))
    | ((with_reducible apply Sy.call0 (k := 48)); (case hd => exact rfl); (case hf => exact rfl); (case hen => exact en48); (case hx => exact rfl); (case hc => intro H' hp; exact c_bit0 k _ 1 (by omega) hb H'))
    | ((with_reducible apply Sy.dcall (k := 38)); (case hw => first | exact wantY_none); (case h1 => exact rfl); (case hS => intro h hh; exact hh); (case hi1 => exact rfl); (case hd => exact rfl); (case hf => exact rfl); (case hen => exact en38); (case hx => exact rfl); (case hc => intro H' hp; exact put_at ih2 hp g hB hr); rintro ⟨u, L⟩ hT)
    | ((with_reducible apply Sy.dcall0 (k := 42)); (case hw => first | exact wantY_none); (case h1 => exact rfl); (case hS => intro h hh; exact hh); (case hi1 => exact rfl); (case hd => exact rfl); (case hf => exact rfl); (case hen => exact en42); (case hx => exact rfl); (case hc => intro H' hp; exact c_hash _ _ _ H' (by first | exact TreeL.at hT hp (fun p h => by simp only [List.mem_append, List.mem_cons, h, true_or, or_true]) hB | exact TreeL.at hl hp (fun p h => by cases h) hB)))
    | ((with_reducible apply Sy.dcall0 (k := 30)); (case hw => first | exact wantY_none); (case h1 => exact rfl); (case hS => intro h hh; exact hh); (case hi1 => exact rfl); (case hd => exact rfl); (case hf => exact rfl); (case hen => exact en30); (case hx => exact rfl); (case hc => intro H' hp; exact c_Above _ _ H' (g.of hp (by simp))))
    | ((with_reducible apply Sy.newY (o := ⟨some 5, .box 23 _, _, _, _, _⟩)); (case ho => exact rfl); (case hd => exact rfl); (case hc => exact (nbH rfl)); intro q5)
    | ((with_reducible apply Sy.newY (o := ⟨some 6, .box 23 _, _, _, _, _⟩)); (case ho => exact rfl); (case hd => exact rfl); (case hc => exact (nbH rfl)); intro q6)
    | ((with_reducible apply Sy.newY (o := ⟨some 9, .alloc 81, _, _, _, _⟩)); (case ho => exact rfl); (case hd => exact rfl); (case hc => exact (nwz81)); intro q9)
    | (with_reducible refine Sy.skip ?_)
    | (with_reducible refine Sy.ret ?_)
    | (with_reducible refine Sy.aret ?_)
    | ((with_reducible apply Sy.drawL (id := 9) 13 [] (fun hi h => h < hi)); (case hp => kernel_rfl); (case hN => exact rfl); intro base hbase hM; try simp only [List.forall_mem_cons, List.forall_mem_append, List.not_mem_nil, false_implies, implies_true, and_true] at hM)
    | ((with_reducible apply Sy.drawL (id := 12) 11 [(6, 3)] (fun hi h => h < hi)); (case hp => kernel_rfl); (case hN => exact rfl); intro base hbase hM; try simp only [List.forall_mem_cons, List.forall_mem_append, List.not_mem_nil, false_implies, implies_true, and_true] at hM)
    | ((with_reducible apply Sy.yes); (case hx => exact rfl))
    | (with_reducible refine Sy.dend ?_)
    | ((with_reducible apply Sy.dgo); (case hw => first | exact wantY_none); (case hc => intro hcls; cases hcls); (case h1 => exact rfl); (case h2 => exact rfl))
    | ((with_reducible apply Sy.dld); (case hw => first | exact wantY_none); (case hx => exact rfl); (case hb => omega); (case h2 => exact rfl))
    | ((with_reducible apply Sy.ite); (case hx => exact rfl); all_goals (intro hc; try (exfalso; omega)))
    | ((with_reducible apply Sy.iteB); (case hx => exact rfl); all_goals intro hc))
        · exact .fin [.pointer none] (.inr rfl) ⟨rfl, trivial⟩ fun H' hp => ⟨(none, []), by rw [tput, if_neg (by omega)]; exact TreeL.made0 (hl.less fun p h => by cases h) hT hc, rfl, hp.less (List.nil_sublist _)⟩
        · refine .fin [.pointer (some ⟨q9, 0, none⟩)] (.inr rfl) ⟨rfl, trivial⟩ fun H' hp => ⟨(some ⟨q9, 0, none⟩, L ++ [_]), by rw [tput, if_neg (by omega)]; exact TreeL.made (hl.less fun p h => by cases h) hT hc rfl, rfl, ?_⟩
          dsimp only at hp
          try rw [cells1] at hp
          exact hp.less ((List.Sublist.refl L).append ((List.nil_sublist _).cons_cons _))
end Go.Proofs.YtmlofdgamdlcgaaDoor

/- Map.none, find. -/
namespace Go.Proofs.YtmlofdgamdlcgaaDoor
open Go Go.Am
set_option maxRecDepth 100000
set_option linter.unusedVariables false

theorem c_mnone0 (H : AHeap) : CallR Tryd.prog noPrims 36 [.pointer none] H (fun u H' => u = .bool true ∧ Hp H 0 0 H' [] []) := by
  refine CallR.sy (n := 12) Tryd.func36 rfl rfl rfl ?_
  repeat' (first
    | (with_reducible refine Sy.seq ?_)
    | (with_reducible refine Sy.regionL ?_)
    | (with_reducible refine Sy.opsnil ?_)
    | (with_reducible refine Sy.go ?_)
    | (with_reducible refine Sy.nrm ?_)
    | ((with_reducible apply Sy.assign); (case hd => exact rfl); (case hx => exact rfl))
    | ((with_reducible apply Sy.move); (case hd => exact rfl); (case hx => exact rfl))
    | ((with_reducible apply Sy.bin (op := .eql) (t := 45)); (case hd => exact rfl); (case hx => exact rfl); (case hy => exact rfl); (case hv => exact (p_eq0 kd45)))
    | ((with_reducible apply Sy.pickT); (case hd => exact rfl); (case hx => exact rfl); (case hy => exact rfl))
    | (with_reducible refine Sy.ret ?_)
    | ((with_reducible apply Sy.noG); (case hj => exact rfl); (case ht => exact rfl); (case hb => exact rfl); (case hc => exact rfl); (case hd => exact rfl)))
  exact .fin [.bool true] (.inr rfl) ⟨rfl, trivial⟩ fun H' hp => ⟨rfl, hp.less (List.nil_sublist _)⟩
/-- A map's three cells. -/
def mapC (r : Option Addr) (c : Int) (b : Bool) : List Value := [.pointer r, .int .i64 c, .bool b]
theorem c_mnone {m : Nat} {c : Int} {r : Option Addr} {b w : Bool} (H : AHeap) (hm : H.get m = .cells (mapC r c b) 75 w) : CallR Tryd.prog noPrims 36 [.pointer (some ⟨m, 0, none⟩)] H (fun u H' => u = .bool (!b) ∧ Hp H 0 0 H' [] []) := by
  unfold mapC at hm
  refine CallR.sy (n := 12) Tryd.func36 rfl rfl rfl ?_
  repeat' (first
    | (with_reducible refine Sy.seq ?_)
    | (with_reducible refine Sy.regionL ?_)
    | (with_reducible refine Sy.opsnil ?_)
    | (with_reducible refine Sy.go ?_)
    | (with_reducible refine Sy.nrm ?_)
    | ((with_reducible apply Sy.assign); (case hd => exact rfl); (case hx => exact rfl))
    | ((with_reducible apply Sy.move); (case hd => exact rfl); (case hx => exact rfl))
    | ((with_reducible apply Sy.bin (op := .eql) (t := 45)); (case hd => exact rfl); (case hx => exact rfl); (case hy => exact rfl); (case hv => exact (p_eq1 kd45)))
    | ((with_reducible apply Sy.nilC); (case hd => exact rfl); (case hx => exact rfl); (case hv => exact rfl))
    | ((with_reducible apply Sy.fa (t := 75) (i := 2)); (case hd => exact rfl); (case hx => exact rfl); (case hv => exact (fa75_2 _ _)))
    | ((with_reducible apply Sy.ld0 (t := 4)); (case hd => exact rfl); (case hx => exact rfl); (case hm => with_reducible assumption); (case hl => exact rfl); (case hn => simp only [List.forall_mem_cons, List.not_mem_nil, false_implies, implies_true, and_true, ne_eq]; first | done); (case hv => first | exact ld_one ag4 rfl))
    | ((with_reducible apply Sy.un (op := .not)); (case hd => exact rfl); (case hx => exact rfl); (case hv => exact un_not))
    | ((with_reducible apply Sy.pickF); (case hd => exact rfl); (case hx => exact rfl); (case hy => exact rfl))
    | (with_reducible refine Sy.ret ?_)
    | ((with_reducible apply Sy.goG); (case hj => exact rfl); (case ht => exact rfl); (case hb => exact rfl)))
  exact .fin [.bool (!b)] (.inr rfl) ⟨rfl, trivial⟩ fun H' hp => ⟨rfl, hp.less (List.nil_sublist _)⟩
end Go.Proofs.YtmlofdgamdlcgaaDoor

/- Map.Root. -/
namespace Go.Proofs.YtmlofdgamdlcgaaDoor
open Go Go.Am
set_option maxRecDepth 100000
set_option linter.unusedVariables false

theorem c_root0 (H : AHeap) : CallR Tryd.prog noPrims 23 [.pointer none] H (fun u H' => u = hV zeroH ∧ Hp H 0 0 H' [] []) := by
  refine CallR.sy (n := 11) Tryd.func23 rfl rfl rfl ?_
  repeat' (first
    | (with_reducible refine Sy.seq ?_)
    | (with_reducible refine Sy.regionL ?_)
    | (with_reducible refine Sy.opsnil ?_)
    | (with_reducible refine Sy.go ?_)
    | (with_reducible refine Sy.nrm ?_)
    | ((with_reducible apply Sy.move); (case hd => exact rfl); (case hx => exact rfl))
    | ((with_reducible apply Sy.stNa (t := 23)); (case hx => exact rfl); (case hy => exact rfl); (case hs => exact sz23); (case hl => first | exact hC_length _); (case h1 => first | exact hC_one _); (case hm => repeat (first | exact Turn.here)); (case hle => first | (simp; done)); (case hc => first | exact lay_all (by first | (simp; done))))
    | ((with_reducible apply Sy.call0 (k := 36)); (case hd => exact rfl); (case hf => exact rfl); (case hen => exact en36); (case hx => exact rfl); (case hc => intro H' hp; exact c_mnone0 H'))
    | ((with_reducible apply Sy.call0 (k := 37)); (case hd => exact rfl); (case hf => exact rfl); (case hen => exact en37); (case hx => exact rfl); (case hc => intro H' hp; exact c_none H'))
    | ((with_reducible apply Sy.newY (o := ⟨some 2, .alloc 23, _, _, _, _⟩)); (case ho => exact rfl); (case hd => exact rfl); (case hc => exact (nwz23)); intro q2)
    | (with_reducible refine Sy.ret ?_)
    | (with_reducible refine Sy.aret ?_)
    | ((with_reducible apply Sy.yes); (case hx => exact rfl)))
  exact .fin [hV zeroH] (.inr rfl) ⟨⟨q2, 0, _, rfl, (by repeat (first | exact Has.here | apply Has.there | apply Has.app)), ld_hV ag23 sz23⟩, trivial⟩ fun H1 hp => ⟨rfl, hp.less (List.nil_sublist _)⟩
theorem c_root {m B : Nat} {c : Int} {r : Option Addr} {w : Bool} {t : Tree} (H : AHeap) (hm : H.get m = .cells (mapC r c true) 75 w) (ht : TreeL H B [] r t) (hB : B ≤ H.next) : CallR Tryd.prog noPrims 23 [.pointer (some ⟨m, 0, none⟩)] H (fun u H' => u = hV t.hash ∧ Hp H 0 0 H' [] []) := by
  have hm0 := hm
  unfold mapC at hm0
  refine CallR.sy (n := 11) Tryd.func23 rfl rfl rfl ?_
  repeat' (first
    | (with_reducible refine Sy.seq ?_)
    | (with_reducible refine Sy.regionL ?_)
    | (with_reducible refine Sy.opsnil ?_)
    | (with_reducible refine Sy.go ?_)
    | (with_reducible refine Sy.nrm ?_)
    | ((with_reducible apply Sy.move); (case hd => exact rfl); (case hx => exact rfl))
    | ((with_reducible apply Sy.stNa (t := 23)); (case hx => exact rfl); (case hy => exact rfl); (case hs => exact sz23); (case hl => first | exact hC_length _); (case h1 => first | exact hC_one _); (case hm => repeat (first | exact Turn.here)); (case hle => first | (simp; done)); (case hc => first | exact lay_all (by first | (simp; done))))
    | ((with_reducible apply Sy.nilC); (case hd => exact rfl); (case hx => exact rfl); (case hv => exact rfl))
    | ((with_reducible apply Sy.fa (t := 75) (i := 0)); (case hd => exact rfl); (case hx => exact rfl); (case hv => exact (fa75_0 _ _)))
    | ((with_reducible apply Sy.ld0 (t := 73)); (case hd => exact rfl); (case hx => exact rfl); (case hm => with_reducible assumption); (case hl => exact rfl); (case hn => simp only [List.forall_mem_cons, List.not_mem_nil, false_implies, implies_true, and_true, ne_eq]; first | done); (case hv => first | exact ld_one ag73 rfl))
    | ((with_reducible apply Sy.call0 (k := 36)); (case hd => exact rfl); (case hf => exact rfl); (case hen => exact en36); (case hx => exact rfl); (case hc => intro H' hp; exact c_mnone H' (hp.get0 hm rfl (by simp))))
    | ((with_reducible apply Sy.call0 (k := 42)); (case hd => exact rfl); (case hf => exact rfl); (case hen => exact en42); (case hx => exact rfl); (case hc => intro H' hp; exact c_hash _ _ _ H' (TreeL.at ht hp (fun p h => by cases h) hB)))
    | ((with_reducible apply Sy.newY (o := ⟨some 2, .alloc 23, _, _, _, _⟩)); (case ho => exact rfl); (case hd => exact rfl); (case hc => exact (nwz23)); intro q2)
    | (with_reducible refine Sy.skip ?_)
    | (with_reducible refine Sy.ret ?_)
    | ((with_reducible apply Sy.no); (case hx => exact rfl)))
  exact .fin [hV _] (.inr rfl) ⟨⟨q2, 0, _, rfl, (by repeat (first | exact Has.here | apply Has.there | apply Has.app)), ld_hV ag23 sz23⟩, trivial⟩ fun H1 hp => ⟨rfl, hp.less (List.nil_sublist _)⟩
end Go.Proofs.YtmlofdgamdlcgaaDoor

/- Map.find with a closure that does nothing; Get. -/
namespace Go.Proofs.YtmlofdgamdlcgaaDoor
open Go Go.Am
set_option maxRecDepth 100000
set_option linter.unusedVariables false

/-- The subtree on a key's way, i levels down. -/
def down (k : Hsh) (t : Tree) : Nat → Tree
  | 0 => t
  | i + 1 => if bitOf k i = 0 then (down k t i).kids.1 else (down k t i).kids.2

theorem down_nil {k : Hsh} {t : Tree} {i : Nat} (h : down k t i = .nil) : ∀ j, down k t (i + j) = .nil
  | 0 => h
  | j + 1 => by rw [← Nat.add_assoc, down, down_nil h j]; simp [Tree.kids]

theorem ldl {h : Hsh} {a b c : Value} {w : Bool} {o : Nat} (ho : o = 32) : aLoad Tryd.prog 73 (.cells (hC h ++ [a, b, c]) 81 w) o = some a := by subst ho; exact ld_one ag73 (by simp [List.getElem?_append])
theorem ldr {h : Hsh} {a b c : Value} {w : Bool} {o : Nat} (ho : o = 33) : aLoad Tryd.prog 73 (.cells (hC h ++ [a, b, c]) 81 w) o = some b := by subst ho; exact ld_one ag73 (by simp [List.getElem?_append])
theorem c_tell0 (i : Int) (p : Option Addr) (H : AHeap) : CallR Tryd.prog noPrims 41 [.int .i64 i, .pointer p] H (fun u H' => u = .tuple ⟨[]⟩ ∧ Hp H 0 0 H' [] []) := by
  refine CallR.sy (n := 4) Tryd.func41 rfl rfl rfl ?_
  repeat' (first
    | (with_reducible refine Sy.skip ?_))
  exact .fin [] (.inl rfl) trivial fun H' hp => ⟨rfl, hp.less (List.nil_sublist _)⟩

theorem c_find0 {m B : Nat} {c : Int} {k : Hsh} {r : Option Addr} {w : Bool} {t : Tree} (H : AHeap) (hm : H.get m = .cells (mapC r c true) 75 w) (ht : TreeL H B [] r t) (hB : B ≤ H.next) :
    CallR Tryd.prog noPrims 39 [.pointer (some ⟨m, 0, none⟩), hV k, .func (.func 41) ⟨[]⟩ ⟨[]⟩] H (fun u H' => ∃ p : Option Addr, TreeL H B [] p (down k t 256) ∧ u = .pointer p ∧ Hp H 0 0 H' [] []) := by
  have hm0 := hm
  unfold mapC at hm0
  refine CallR.sy (n := 40) Tryd.func39 rfl rfl rfl ?_
  repeat' (first
    | (with_reducible refine Sy.seq ?_)
    | (with_reducible refine Sy.regionL ?_)
    | (with_reducible refine Sy.opsnil ?_)
    | (with_reducible refine Sy.go ?_)
    | (with_reducible refine Sy.nrm ?_)
    | ((with_reducible apply Sy.assign); (case hd => exact rfl); (case hx => exact rfl))
    | ((with_reducible apply Sy.move); (case hd => exact rfl); (case hx => exact rfl))
    | ((with_reducible apply Sy.nilC); (case hd => exact rfl); (case hx => exact rfl); (case hv => exact rfl))
    | ((with_reducible apply Sy.fa (t := 75) (i := 0)); (case hd => exact rfl); (case hx => exact rfl); (case hv => exact (fa75_0 _ _)))
    | ((with_reducible apply Sy.ld0 (t := 73)); (case hd => exact rfl); (case hx => exact rfl); (case hm => with_reducible assumption); (case hl => exact rfl); (case hn => simp only [List.forall_mem_cons, List.not_mem_nil, false_implies, implies_true, and_true, ne_eq]; first | done); (case hv => first | exact ld_one ag73 rfl))
    | ((with_reducible apply Sy.newY (o := ⟨some 4, .box 23 _, _, _, _, _⟩)); (case ho => exact rfl); (case hd => exact rfl); (case hc => exact (nbH rfl)); intro q4)
    | (with_reducible refine Sy.label ?_)
    | (with_reducible refine Sy.block ?_)
    | (with_reducible refine Sy.scope ?_))
  refine Sy.loop (ι := Nat × Option Addr) (fun i => 256 - i.1) (fun i => [(2, .func (.func 41) ⟨[]⟩ ⟨[]⟩), (4, .pointer (some ⟨q4, 0, none⟩)), (6, .pointer none), (7, .pointer i.2), (14, .int .i64 (i.1 : Nat))]) (fun _ => []) (fun i => [(q4, .cells (hC k) 23 true)]) (fun i => i.1 ≤ 256 ∧ TreeL H B [] i.2 (down k t i.1)) (0, r) ⟨by simp, ht⟩ ⟨rfl, rfl, rfl, rfl, rfl, trivial⟩ (fun H h => h) ?_
  rintro ⟨i, p⟩ ⟨hi, hT⟩
  dsimp only at hi hT ⊢
  by_cases hlt : i < 256
  · rcases hT.two with ⟨rfl, hd⟩ | ⟨a, w2, h2, pl, pr, x, rfl, hga, hl, hr⟩
    · have hz : down k t 256 = .nil := by have := down_nil hd (256 - i); rwa [show i + (256 - i) = 256 by omega] at this
      repeat' (first
    | (with_reducible refine Sy.seq ?_)
    | (with_reducible refine Sy.regionL ?_)
    | (with_reducible refine Sy.opsnil ?_)
    | (with_reducible refine Sy.go ?_)
    | (with_reducible refine Sy.nrm ?_)
    | ((with_reducible apply Sy.assign); (case hd => exact rfl); (case hx => exact rfl))
    | ((with_reducible apply Sy.move); (case hd => exact rfl); (case hx => exact rfl))
    | ((with_reducible apply Sy.bin (op := .lss) (t := 3)); (case hd => exact rfl); (case hx => exact rfl); (case hy => exact rfl); (case hv => exact b_lss))
    | ((with_reducible apply Sy.bin (op := .eql) (t := 73)); (case hd => exact rfl); (case hx => exact rfl); (case hy => exact rfl); (case hv => exact (p_eq0 kd73)))
    | (with_reducible refine Sy.skip ?_)
    | (with_reducible refine Sy.exit ?_)
    | (with_reducible refine Sy.ret ?_)
    | (with_reducible refine Sy.block ?_)
    | (with_reducible refine Sy.aex ?_)
    | ((with_reducible apply Sy.iex); (case hi' => exact rfl))
    | ((with_reducible apply Sy.iex2); (case hi' => exact rfl))
    | (with_reducible refine Sy.sret ?_)
    | (with_reducible refine Sy.rex ?_)
    | ((with_reducible apply Sy.yes); (case hx => exact rfl))
    | ((with_reducible apply Sy.ite); (case hx => exact rfl); all_goals (intro hc; try (exfalso; omega))))
      exact .fin [.pointer none] (.inr rfl) ⟨rfl, trivial⟩ fun H' hp => ⟨none, by rw [hz]; exact .nil, rfl, hp.less (List.nil_sublist _)⟩
    · have hb01 : bitOf k i = 0 ∨ bitOf k i = 1 := by have := and1_lt (k.at (i / 8) >>> (7 - i % 8)); unfold bitOf; omega
      rcases hb01 with hb | hb
      · repeat' (first
    | (with_reducible refine Sy.seq ?_)
    | (with_reducible refine Sy.regionL ?_)
    | (with_reducible refine Sy.opsnil ?_)
    | (with_reducible refine Sy.go ?_)
    | (with_reducible refine Sy.nrm ?_)
    | ((with_reducible apply Sy.assign); (case hd => exact rfl); (case hx => exact rfl))
    | ((with_reducible apply Sy.move); (case hd => exact rfl); (case hx => exact rfl))
    | ((with_reducible apply Sy.nilC); (case hd => exact rfl); (case hx => exact rfl); (case hv => exact rfl))
    | ((with_reducible apply Sy.bin (op := .lss) (t := 3)); (case hd => exact rfl); (case hx => exact rfl); (case hy => exact rfl); (case hv => exact b_lss))
    | ((with_reducible apply Sy.bin (op := .eql) (t := 73)); (case hd => exact rfl); (case hx => exact rfl); (case hy => exact rfl); (case hv => exact (p_eq1 kd73)))
    | ((with_reducible apply Sy.ldN (t := 23)); (case hd => exact rfl); (case hx => exact rfl); (case hm => repeat (first | exact Has.here)); (case hv => first | exact ld_hV ag23 sz23))
    | ((with_reducible apply Sy.bin (op := .sub) (t := 3)); (case hd => exact rfl); (case hx => exact rfl); (case hy => exact rfl); (case hv => exact (b_sub (by omega) (by omega))))
    | ((with_reducible apply Sy.fa (t := 81) (i := 1)); (case hd => exact rfl); (case hx => exact rfl); (case hv => exact (fa81_1 _ _)))
    | ((with_reducible apply Sy.ia (t := 78)); (case hd => exact rfl); (case hx => exact rfl); (case hy => exact rfl); (case hv => exact (ia_ar1 Tryd.underlying78 sz73 (by omega))))
    | ((with_reducible apply Sy.bin (op := .add) (t := 3)); (case hd => exact rfl); (case hx => exact rfl); (case hy => exact rfl); (case hv => exact (b_add (by omega))))
    | ((with_reducible apply Sy.call0 (k := 48)); (case hd => exact rfl); (case hf => exact rfl); (case hen => exact en48); (case hx => exact rfl); (case hc => intro H' hp; exact c_bit0 k _ 0 hlt hb H'))
    | ((with_reducible apply Sy.call0 (k := 41)); (case hd => exact rfl); (case hf => exact rfl); (case hen => exact en41); (case hx => exact rfl); (case hc => intro H' hp; exact c_tell0 _ _ H'))
    | (with_reducible refine Sy.ld0 (t := 73) rfl rfl hga rfl (by simp only [List.forall_mem_cons, List.not_mem_nil, false_implies, implies_true, and_true, ne_eq]; first | done | omega | (repeat (first | with_reducible assumption | (refine And.intro ?_ ?_)))) (ldl rfl) ?_)
    | (with_reducible refine Sy.ld0 (t := 73) rfl rfl hga rfl (by simp only [List.forall_mem_cons, List.not_mem_nil, false_implies, implies_true, and_true, ne_eq]; first | done | omega | (repeat (first | with_reducible assumption | (refine And.intro ?_ ?_)))) (ldr rfl) ?_)
    | (with_reducible refine Sy.skip ?_)
    | (with_reducible refine Sy.block ?_)
    | (with_reducible refine Sy.inrm ?_)
    | ((with_reducible apply Sy.no); (case hx => exact rfl))
    | ((with_reducible apply Sy.ite); (case hx => exact rfl); all_goals (intro hc; try (exfalso; omega))))
        exact Sy.rnrm (i + 1, pl) ⟨by dsimp only; omega, by dsimp only; rw [down, if_pos hb]; exact hl⟩ (by dsimp only; omega) ⟨rfl, rfl, rfl, rfl, rfl, trivial⟩ (fun H h => h)
      · repeat' (first
    | (with_reducible refine Sy.seq ?_)
    | (with_reducible refine Sy.regionL ?_)
    | (with_reducible refine Sy.opsnil ?_)
    | (with_reducible refine Sy.go ?_)
    | (with_reducible refine Sy.nrm ?_)
    | ((with_reducible apply Sy.assign); (case hd => exact rfl); (case hx => exact rfl))
    | ((with_reducible apply Sy.move); (case hd => exact rfl); (case hx => exact rfl))
    | ((with_reducible apply Sy.nilC); (case hd => exact rfl); (case hx => exact rfl); (case hv => exact rfl))
    | ((with_reducible apply Sy.bin (op := .lss) (t := 3)); (case hd => exact rfl); (case hx => exact rfl); (case hy => exact rfl); (case hv => exact b_lss))
    | ((with_reducible apply Sy.bin (op := .eql) (t := 73)); (case hd => exact rfl); (case hx => exact rfl); (case hy => exact rfl); (case hv => exact (p_eq1 kd73)))
    | ((with_reducible apply Sy.ldN (t := 23)); (case hd => exact rfl); (case hx => exact rfl); (case hm => repeat (first | exact Has.here)); (case hv => first | exact ld_hV ag23 sz23))
    | ((with_reducible apply Sy.bin (op := .sub) (t := 3)); (case hd => exact rfl); (case hx => exact rfl); (case hy => exact rfl); (case hv => exact (b_sub (by omega) (by omega))))
    | ((with_reducible apply Sy.fa (t := 81) (i := 1)); (case hd => exact rfl); (case hx => exact rfl); (case hv => exact (fa81_1 _ _)))
    | ((with_reducible apply Sy.ia (t := 78)); (case hd => exact rfl); (case hx => exact rfl); (case hy => exact rfl); (case hv => exact (ia_ar1 Tryd.underlying78 sz73 (by omega))))
    | ((with_reducible apply Sy.bin (op := .add) (t := 3)); (case hd => exact rfl); (case hx => exact rfl); (case hy => exact rfl); (case hv => exact (b_add (by omega))))
    | ((with_reducible apply Sy.call0 (k := 48)); (case hd => exact rfl); (case hf => exact rfl); (case hen => exact en48); (case hx => exact rfl); (case hc => intro H' hp; exact c_bit0 k _ 1 hlt hb H'))
    | ((with_reducible apply Sy.call0 (k := 41)); (case hd => exact rfl); (case hf => exact rfl); (case hen => exact en41); (case hx => exact rfl); (case hc => intro H' hp; exact c_tell0 _ _ H'))
    | (with_reducible refine Sy.ld0 (t := 73) rfl rfl hga rfl (by simp only [List.forall_mem_cons, List.not_mem_nil, false_implies, implies_true, and_true, ne_eq]; first | done | omega | (repeat (first | with_reducible assumption | (refine And.intro ?_ ?_)))) (ldl rfl) ?_)
    | (with_reducible refine Sy.ld0 (t := 73) rfl rfl hga rfl (by simp only [List.forall_mem_cons, List.not_mem_nil, false_implies, implies_true, and_true, ne_eq]; first | done | omega | (repeat (first | with_reducible assumption | (refine And.intro ?_ ?_)))) (ldr rfl) ?_)
    | (with_reducible refine Sy.skip ?_)
    | (with_reducible refine Sy.block ?_)
    | (with_reducible refine Sy.inrm ?_)
    | ((with_reducible apply Sy.no); (case hx => exact rfl))
    | ((with_reducible apply Sy.ite); (case hx => exact rfl); all_goals (intro hc; try (exfalso; omega))))
        exact Sy.rnrm (i + 1, pr) ⟨by dsimp only; omega, by dsimp only; rw [down, if_neg (by omega)]; exact hr⟩ (by dsimp only; omega) ⟨rfl, rfl, rfl, rfl, rfl, trivial⟩ (fun H h => h)
  · obtain rfl : i = 256 := by omega
    repeat' (first
    | (with_reducible refine Sy.seq ?_)
    | (with_reducible refine Sy.regionL ?_)
    | (with_reducible refine Sy.opsnil ?_)
    | (with_reducible refine Sy.go ?_)
    | (with_reducible refine Sy.nrm ?_)
    | ((with_reducible apply Sy.assign); (case hd => exact rfl); (case hx => exact rfl))
    | ((with_reducible apply Sy.move); (case hd => exact rfl); (case hx => exact rfl))
    | ((with_reducible apply Sy.bin (op := .lss) (t := 3)); (case hd => exact rfl); (case hx => exact rfl); (case hy => exact rfl); (case hv => exact b_lss))
    | (with_reducible refine Sy.exit ?_)
    | (with_reducible refine Sy.ret ?_)
    | (with_reducible refine Sy.aex ?_)
    | ((with_reducible apply Sy.iex); (case hi' => exact rfl))
    | (with_reducible refine Sy.sret ?_)
    | (with_reducible refine Sy.rex ?_)
    | ((with_reducible apply Sy.no); (case hx => exact rfl)))
    exact .fin [.pointer p] (.inr rfl) ⟨rfl, trivial⟩ fun H' hp => ⟨p, hT, rfl, hp.less (List.nil_sublist _)⟩
end Go.Proofs.YtmlofdgamdlcgaaDoor

/- Map.Get. -/
namespace Go.Proofs.YtmlofdgamdlcgaaDoor
open Go Go.Am
set_option maxRecDepth 100000
set_option linter.unusedVariables false

/-- A tree of n levels. -/
def Lv : Nat → Tree → Prop
  | _, .nil => True
  | 0, .leaf _ _ _ => True
  | n + 1, .node _ l r => Lv n l ∧ Lv n r
  | _, _ => False
theorem Lv.kids {n : Nat} {t : Tree} (h : Lv (n + 1) t) : Lv n t.kids.1 ∧ Lv n t.kids.2 := by
  cases t with
  | nil => cases n <;> simp [Tree.kids, Lv]
  | leaf _ _ _ => simp [Lv] at h
  | node _ l r => simpa [Lv, Tree.kids] using h
theorem lv_down {k : Hsh} {t : Tree} (h : Lv 256 t) : ∀ i, i ≤ 256 → Lv (256 - i) (down k t i)
  | 0, _ => h
  | i + 1, hi => by
    have := lv_down (k := k) h i (by omega)
    rw [show 256 - i = (256 - (i + 1)) + 1 by omega] at this
    have := this.kids
    rw [down]; split
    · exact this.1
    · exact this.2
def Tree.val : Tree → Hsh
  | .leaf _ _ v => v
  | _ => zeroH
def tget (k : Hsh) (t : Tree) : Hsh := (down k t 256).val

theorem ldp {h : Hsh} {a b c : Value} {w : Bool} : aLoad Tryd.prog 79 (.cells (hC h ++ [a, b, c]) 81 w) (0 + 34) = some c := ld_one ag79 (by simp [List.getElem?_append])
theorem ldv {k v : Hsh} {w : Bool} : aLoad Tryd.prog 23 (.cells (hC k ++ hC v) 70 w) (0 + 32) = some (hV v) := ld_agg (cs' := hC v) ag23 sz23 (by simp) (by rw [show (0 + 32 : Nat) = 32 + 0 from rfl, cut_there (by simp), cut_all (by simp)])
theorem find_at {m B lo hi : Nat} {c : Int} {k : Hsh} {r : Option Addr} {w : Bool} {t : Tree} {H0 H : AHeap} {Mn : Hm} (hp : Hp H0 lo hi H [] Mn) (hm : H0.get m = .cells (mapC r c true) 75 w) (ht : TreeL H0 B [] r t) (hB : B ≤ H0.next) :
    CallR Tryd.prog noPrims 39 [.pointer (some ⟨m, 0, none⟩), hV k, .func (.func 41) ⟨[]⟩ ⟨[]⟩] H (fun u H' => ∃ p : Option Addr, TreeL H0 B [] p (down k t 256) ∧ u = .pointer p ∧ Hp H 0 0 H' [] []) := by
  have same : ∀ a, a < B → H.get a = H0.get a := fun a ha => hp.fr a (by omega) (by simp)
  refine (c_find0 H (hp.get0 hm rfl (by simp)) (ht.back fun a ha => (same a ha).symm) (Nat.le_trans hB hp.le)).mono ?_
  rintro u H' ⟨i, h1, h2, h3⟩
  exact ⟨i, h1.back same, h2, h3⟩
theorem c_get {m B : Nat} {c : Int} {k : Hsh} {r : Option Addr} {w : Bool} {t : Tree} (H : AHeap) (hm : H.get m = .cells (mapC r c true) 75 w) (ht : TreeL H B [] r t) (hB : B ≤ H.next) (hl : Lv 256 t) :
    CallR Tryd.prog noPrims 22 [.pointer (some ⟨m, 0, none⟩), hV k] H (fun u H' => u = hV (tget k t) ∧ Hp H 0 0 H' [] []) := by
  have hm0 := hm
  unfold mapC at hm0
  have hd := lv_down (k := k) hl 256 (Nat.le_refl _)
  refine CallR.sy (n := 22) Tryd.func22 rfl rfl rfl ?_
  repeat' (first
    | (with_reducible refine Sy.seq ?_)
    | (with_reducible refine Sy.regionL ?_)
    | (with_reducible refine Sy.opsnil ?_)
    | (with_reducible refine Sy.go ?_)
    | (with_reducible refine Sy.nrm ?_)
    | ((with_reducible apply Sy.move); (case hd => exact rfl); (case hx => exact rfl))
    | ((with_reducible apply Sy.ldN (t := 23)); (case hd => exact rfl); (case hx => exact rfl); (case hm => repeat (first | exact Has.here | apply Has.there)); (case hv => first | exact ld_hV ag23 sz23))
    | ((with_reducible apply Sy.assign); (case hd => exact rfl); (case hx => exact rfl))
    | ((with_reducible apply Sy.call0 (k := 36)); (case hd => exact rfl); (case hf => exact rfl); (case hen => exact en36); (case hx => exact rfl); (case hc => intro H' hp; exact c_mnone H' (hp.get0 hm rfl (by simp))))
    | ((with_reducible apply Sy.callN (k := 39)); (case hd => exact rfl); (case hf => exact rfl); (case hen => exact en39); (case hx => exact rfl); (case hc => intro H' hp; exact find_at hp hm ht hB); rintro p hT)
    | ((with_reducible apply Sy.newY (o := ⟨some 3, .box 23 _, _, _, _, _⟩)); (case ho => exact rfl); (case hd => exact rfl); (case hc => exact (nbH rfl)); intro q3)
    | ((with_reducible apply Sy.newY (o := ⟨some 4, .alloc 23, _, _, _, _⟩)); (case ho => exact rfl); (case hd => exact rfl); (case hc => exact (nwz23)); intro q4)
    | (with_reducible refine Sy.skip ?_)
    | ((with_reducible apply Sy.no); (case hx => exact rfl)))
  unfold tget
  generalize down k t 256 = t1 at hT hd ⊢
  cases hT with
  | nil =>
    repeat' (first
    | (with_reducible refine Sy.seq ?_)
    | (with_reducible refine Sy.regionL ?_)
    | (with_reducible refine Sy.opsnil ?_)
    | (with_reducible refine Sy.go ?_)
    | (with_reducible refine Sy.nrm ?_)
    | ((with_reducible apply Sy.stNa (t := 23)); (case hx => exact rfl); (case hy => exact rfl); (case hs => exact sz23); (case hl => first | exact hC_length _); (case h1 => first | exact hC_one _); (case hm => repeat (first | exact Turn.here)); (case hle => first | (simp; done)); (case hc => first | exact lay_all (by first | (simp; done))))
    | ((with_reducible apply Sy.bin (op := .neq) (t := 73)); (case hd => exact rfl); (case hx => exact rfl); (case hy => exact rfl); (case hv => exact (p_ne0 kd73)))
    | ((with_reducible apply Sy.call0 (k := 37)); (case hd => exact rfl); (case hf => exact rfl); (case hen => exact en37); (case hx => exact rfl); (case hc => intro H' hp; exact c_none H'))
    | (with_reducible refine Sy.skip ?_)
    | (with_reducible refine Sy.ret ?_)
    | ((with_reducible apply Sy.no); (case hx => exact rfl)))
    exact .fin [hV _] (.inr rfl) ⟨⟨q4, 0, _, rfl, (by repeat (first | exact Has.here | apply Has.there | apply Has.app)), ld_hV ag23 sz23⟩, trivial⟩ fun H1 hp => ⟨rfl, hp.less (List.nil_sublist _)⟩
  | leaf h1 h2 =>
    rcases h1 with h1 | ⟨_, w1, h1⟩
    · simp at h1
    rcases h2 with h2 | ⟨_, w2, h2⟩
    · simp at h2
    unfold leafC at h1
    repeat' (first
    | (with_reducible refine Sy.seq ?_)
    | (with_reducible refine Sy.regionL ?_)
    | (with_reducible refine Sy.opsnil ?_)
    | (with_reducible refine Sy.go ?_)
    | (with_reducible refine Sy.nrm ?_)
    | ((with_reducible apply Sy.move); (case hd => exact rfl); (case hx => exact rfl))
    | ((with_reducible apply Sy.stNa (t := 23)); (case hx => exact rfl); (case hy => exact rfl); (case hs => exact sz23); (case hl => first | exact hC_length _); (case h1 => first | exact hC_one _); (case hm => repeat (first | exact Turn.here)); (case hle => first | (simp; done)); (case hc => first | exact lay_all (by first | (simp; done))))
    | ((with_reducible apply Sy.bin (op := .neq) (t := 73)); (case hd => exact rfl); (case hx => exact rfl); (case hy => exact rfl); (case hv => exact (p_ne1 kd73)))
    | ((with_reducible apply Sy.nilC); (case hd => exact rfl); (case hx => exact rfl); (case hv => exact rfl))
    | ((with_reducible apply Sy.fa (t := 81) (i := 2)); (case hd => exact rfl); (case hx => exact rfl); (case hv => exact (fa81_2 _ _)))
    | ((with_reducible apply Sy.fa (t := 70) (i := 1)); (case hd => exact rfl); (case hx => exact rfl); (case hv => exact (fa70_1 _ _)))
    | (with_reducible refine Sy.ld0 (t := 79) rfl rfl h1 rfl (by simp only [List.forall_mem_cons, List.not_mem_nil, false_implies, implies_true, and_true, ne_eq]; first | done | omega | (repeat (first | with_reducible assumption | (refine And.intro ?_ ?_)))) ldp ?_)
    | (with_reducible refine Sy.ld0 (t := 23) rfl rfl h2 rfl (by simp only [List.forall_mem_cons, List.not_mem_nil, false_implies, implies_true, and_true, ne_eq]; first | done | omega | (repeat (first | with_reducible assumption | (refine And.intro ?_ ?_)))) ldv ?_)
    | (with_reducible refine Sy.ret ?_)
    | (with_reducible refine Sy.aret ?_)
    | ((with_reducible apply Sy.yes); (case hx => exact rfl)))
    exact .fin [hV _] (.inr rfl) ⟨⟨q4, 0, _, rfl, (by repeat (first | exact Has.here | apply Has.there | apply Has.app)), ld_hV ag23 sz23⟩, trivial⟩ fun H1 hp => ⟨rfl, hp.less (List.nil_sublist _)⟩
  | node _ _ _ => simp [Lv] at hd
end Go.Proofs.YtmlofdgamdlcgaaDoor

/- Map.Put. -/
namespace Go.Proofs.YtmlofdgamdlcgaaDoor
open Go Go.Am
set_option maxRecDepth 100000
set_option linter.unusedVariables false

theorem TreeL.move {H H1 : AHeap} {B : Nat} {L : Hm} (hs : ∀ a cs T w, a < B → (T = 81 ∨ T = 70) → H1.get a = .cells cs T w → H.get a = .cells cs T w) {v : Option Addr} {t : Tree} (h : TreeL H1 B L v t) : TreeL H B L v t := by
  have ob : ∀ {a cs T}, (T = 81 ∨ T = 70) → Ob H1 B L a cs T → Ob H B L a cs T := fun ht h => h.imp id fun ⟨h1, w, h2⟩ => ⟨h1, w, hs _ _ _ _ h1 ht h2⟩
  induction h with
  | nil => exact .nil
  | leaf h1 h2 => exact .leaf (ob (.inl rfl) h1) (ob (.inr rfl) h2)
  | node h1 _ _ ih1 ih2 => exact .node (ob (.inl rfl) h1) ih1 ih2
theorem Hp.same {H0 H : AHeap} {Mn : Hm} {m : Nat} {o : AObj} (h : Hp H0 0 0 H [] Mn) (hm : H0.get m = o) (hl : o.live = true) : Hp H0 0 0 H [(m, o)] Mn :=
  ⟨by simpa using h.get0 hm hl (by simp), h.vn, by simp, h.nn, by simpa using get_live_lt (by rw [hm]; exact hl), h.ge, h.lt, h.le, fun a ha _ => h.fr a ha (by simp), h.w1, h.w2⟩
/-- A tree of the walk's start, at a heap in which the map has turned, and back. -/
theorem TreeL.fwd {H0 H : AHeap} {B lo hi m : Nat} {Mo Mn : Hm} {cs : List Value} {w : Bool} (hp : Hp H0 lo hi H Mo Mn) (hMo : ∀ p ∈ Mo, p.1 = m) (hm : H0.get m = .cells cs 75 w) (hB : B ≤ H0.next) {v : Option Addr} {t : Tree} (ht : TreeL H0 B [] v t) : TreeL H B [] v t :=
  ht.move fun a cs' T w' ha hT hg => by
    rw [hp.fr a (by omega) fun p h e => ?_, hg]
    have hp1 := hMo p h
    rw [hp1] at e; subst e
    rw [hm] at hg; injection hg with _ h2 _
    subst h2; rcases hT with hT | hT <;> simp at hT
theorem TreeL.bwd {H0 H : AHeap} {B lo hi m : Nat} {Mo Mn L : Hm} {cs : List Value} {w : Bool} (hp : Hp H0 lo hi H Mo Mn) (hMo : ∀ p ∈ Mo, p.1 = m) (hm : H.get m = .cells cs 75 w) (hB : B ≤ H0.next) {v : Option Addr} {t : Tree} (ht : TreeL H B L v t) : TreeL H0 B L v t :=
  ht.move fun a cs' T w' ha hT hg => by
    rw [← hp.fr a (by omega) fun p h e => ?_, hg]
    have hp1 := hMo p h
    rw [hp1] at e; subst e
    rw [hm] at hg; injection hg with _ h2 _
    subst h2; rcases hT with hT | hT <;> simp at hT
/-- Put: the tree, the count, the answer. -/
def Put1 (k v : Hsh) (t : Tree) (c : Int) : Tree × Int × Nat :=
  if tget k t = v then (t, c, 0)
  else if v = zeroH then (tput k v 256 t, c - 1, 0)
  else if tget k t = zeroH then (if 4096 ≤ c then (t, c, 6) else (tput k v 256 t, c + 1, 0))
  else (tput k v 256 t, c, 0)

theorem put_atm {k v : Hsh} {B m : Nat} {H0 H : AHeap} {lo hi : Nat} {Mo Mn : Hm} {pv : Option Addr} {t : Tree} {cs cs' : List Value} {w w' : Bool}
    (hp : Hp H0 lo hi H Mo Mn) (hMo : ∀ p ∈ Mo, p.1 = m) (hm : H0.get m = .cells cs 75 w) (hm' : H.get m = .cells cs' 75 w') (h0 : m ≠ 0) (h1 : m ≠ 1) (g : Gl H0) (hB : B ≤ H0.next) (ht : TreeL H0 B [] pv t) :
    CallR Tryd.prog noPrims 38 [.pointer pv, hV k, hV v, .int .i64 ((0 : Nat) : Int)] H (fun u H' => ∃ i : Option Addr × Hm, TreeL H0 B i.2 i.1 (tput k v 256 t) ∧ u = .pointer i.1 ∧ Hp H 0 0 H' [] i.2) := by
  refine (c_put k v 256 (Nat.le_refl _) pv t B H (g.of hp fun p h => by rw [hMo p h]; exact ⟨h0, h1⟩) (Nat.le_trans hB hp.le) (ht.fwd hp hMo hm hB)).mono ?_
  rintro u H' ⟨i, h1, h2, h3⟩
  exact ⟨i, h1.bwd hp hMo hm' hB, h2, h3⟩

theorem put1_same {k v : Hsh} {t : Tree} {c : Int} (h : tget k t = v) : Put1 k v t c = (t, c, 0) := by unfold Put1; rw [if_pos h]
theorem put1_zero {k v : Hsh} {t : Tree} {c : Int} (h : ¬ tget k t = v) (h2 : v = zeroH) : Put1 k v t c = (tput k v 256 t, c - 1, 0) := by unfold Put1; rw [if_neg h, if_pos h2]
theorem put1_full {k v : Hsh} {t : Tree} {c : Int} (h : ¬ tget k t = v) (h2 : ¬ v = zeroH) (h3 : tget k t = zeroH) (h4 : c ≥ ((4096 : Nat) : Int)) : Put1 k v t c = (t, c, 6) := by unfold Put1; rw [if_neg h, if_neg h2, if_pos h3, if_pos (by omega)]
theorem put1_new {k v : Hsh} {t : Tree} {c : Int} (h : ¬ tget k t = v) (h2 : ¬ v = zeroH) (h3 : tget k t = zeroH) (h4 : ¬ c ≥ ((4096 : Nat) : Int)) : Put1 k v t c = (tput k v 256 t, c + 1, 0) := by unfold Put1; rw [if_neg h, if_neg h2, if_pos h3, if_neg (by omega)]
theorem put1_set {k v : Hsh} {t : Tree} {c : Int} (h : ¬ tget k t = v) (h2 : ¬ v = zeroH) (h3 : ¬ tget k t = zeroH) : Put1 k v t c = (tput k v 256 t, c, 0) := by unfold Put1; rw [if_neg h, if_neg h2, if_neg h3]
set_option maxHeartbeats 2000000 in
theorem c_Put {m B : Nat} {c : Int} {k v : Hsh} {r : Option Addr} {t : Tree} (H : AHeap) (g : Gl H) (h0 : m ≠ 0) (h1 : m ≠ 1) (hm : H.get m = .cells (mapC r c true) 75 true) (ht : TreeL H B [] r t) (hB : B ≤ H.next) (hl : Lv 256 t) (hc0 : -1000000 ≤ c) (hc1 : c ≤ 1000000) :
    CallR Tryd.prog noPrims 20 [.pointer (some ⟨m, 0, none⟩), hV k, hV v] H (fun u H' => ∃ i : Option Addr × Hm, TreeL H B i.2 i.1 (Put1 k v t c).1 ∧ u = .int .i64 ((Put1 k v t c).2.2 : Nat) ∧ Hp H 0 0 H' [(m, .cells (mapC i.1 (Put1 k v t c).2.1 true) 75 true)] i.2) := by
  have hm0 := hm
  unfold mapC at hm0
  refine CallR.sy (n := 60) Tryd.func20 rfl rfl rfl ?_
  repeat' (first
    | (with_reducible refine Sy.seq ?_)
    | (with_reducible refine Sy.regionL ?_)
    | (with_reducible refine Sy.opsnil ?_)
    | (with_reducible refine Sy.go ?_)
    | (with_reducible refine Sy.nrm ?_)
    | ((with_reducible apply Sy.assign); (case hd => exact rfl); (case hx => exact rfl))
    | ((with_reducible apply Sy.move); (case hd => exact rfl); (case hx => exact rfl))
    | ((with_reducible apply Sy.ldN (t := 23)); (case hd => exact rfl); (case hx => exact rfl); (case hm => repeat (first | exact Has.here | apply Has.there)); (case hv => first | exact ld_hV ag23 sz23))
    | ((with_reducible apply Sy.stNa (t := 23)); (case hx => exact rfl); (case hy => exact rfl); (case hs => exact sz23); (case hl => first | exact hC_length _); (case h1 => first | exact hC_one _); (case hm => repeat (first | exact Turn.here)); (case hle => first | (simp; done)); (case hc => first | exact lay_all (by first | (simp; done))))
    | ((with_reducible apply Sy.bin (op := .eql) (t := 23)); (case hd => exact rfl); (case hx => exact rfl); (case hy => exact rfl); (case hv => exact (eq23)))
    | ((with_reducible apply Sy.nilC); (case hd => exact rfl); (case hx => exact rfl); (case hv => exact rfl))
    | ((with_reducible apply Sy.fa (t := 75) (i := 1)); (case hd => exact rfl); (case hx => exact rfl); (case hv => exact (fa75_1 _ _)))
    | ((with_reducible apply Sy.ld0 (t := 3)); (case hd => exact rfl); (case hx => exact rfl); (case hm => with_reducible assumption); (case hl => exact rfl); (case hn => simp only [List.forall_mem_cons, List.not_mem_nil, false_implies, implies_true, and_true, ne_eq]; first | done); (case hv => first | exact ld_one ag3 rfl))
    | ((with_reducible apply Sy.bin (op := .sub) (t := 3)); (case hd => exact rfl); (case hx => exact rfl); (case hy => exact rfl); (case hv => exact (bz_sub (by omega) (by omega))))
    | ((with_reducible apply Sy.st01 (t := 3)); (case hx => exact rfl); (case hy => exact rfl); (case hs => exact sz3); (case hl => exact rfl); (case h1 => exact rfl); (case hm => with_reducible assumption); (case hn => simp only [List.forall_mem_cons, List.not_mem_nil, false_implies, implies_true, and_true, ne_eq]; first | done); (case hle => first | (simp; done)); (case hc => first | rfl))
    | ((with_reducible apply Sy.bin (op := .geq) (t := 3)); (case hd => exact rfl); (case hx => exact rfl); (case hy => exact rfl); (case hv => exact bz_geq))
    | ((with_reducible apply Sy.pickT); (case hd => exact rfl); (case hx => exact rfl); (case hy => exact rfl))
    | ((with_reducible apply Sy.pickF); (case hd => exact rfl); (case hx => exact rfl); (case hy => exact rfl))
    | ((with_reducible apply Sy.bin (op := .add) (t := 3)); (case hd => exact rfl); (case hx => exact rfl); (case hy => exact rfl); (case hv => exact (bz_add (by omega) (by omega))))
    | ((with_reducible apply Sy.fa (t := 75) (i := 0)); (case hd => exact rfl); (case hx => exact rfl); (case hv => exact (fa75_0 _ _)))
    | ((with_reducible apply Sy.ldO (t := 73)); (case hd => exact rfl); (case hx => exact rfl); (case hm => repeat (first | exact Has.here)); (case hv => first | exact ld_one ag73 rfl))
    | ((with_reducible apply Sy.ld0 (t := 73)); (case hd => exact rfl); (case hx => exact rfl); (case hm => with_reducible assumption); (case hl => exact rfl); (case hn => simp only [List.forall_mem_cons, List.not_mem_nil, false_implies, implies_true, and_true, ne_eq]; first | done); (case hv => first | exact ld_one ag73 rfl))
    | ((with_reducible apply Sy.stO1 (t := 73)); (case hx => exact rfl); (case hy => exact rfl); (case hs => exact sz73); (case hl => exact rfl); (case h1 => exact rfl); (case hm => repeat (first | exact Turn.here)); (case hle => first | (simp; done)); (case hc => first | rfl))
    | ((with_reducible apply Sy.st01 (t := 73)); (case hx => exact rfl); (case hy => exact rfl); (case hs => exact sz73); (case hl => exact rfl); (case h1 => exact rfl); (case hm => with_reducible assumption); (case hn => simp only [List.forall_mem_cons, List.not_mem_nil, false_implies, implies_true, and_true, ne_eq]; first | done); (case hle => first | (simp; done)); (case hc => first | rfl))
    | ((with_reducible apply Sy.call0 (k := 36)); (case hd => exact rfl); (case hf => exact rfl); (case hen => exact en36); (case hx => exact rfl); (case hc => intro H' hp; exact c_mnone H' (hp.get0 hm rfl (by simp))))
    | ((with_reducible apply Sy.call0 (k := 22)); (case hd => exact rfl); (case hf => exact rfl); (case hen => exact en22); (case hx => exact rfl); (case hc => intro H' hp; exact c_get H' (hp.get0 hm rfl (by simp)) (TreeL.at ht hp (fun p h => by cases h) hB) (Nat.le_refl _) hl))
    | ((with_reducible apply Sy.dcall0 (k := 37)); (case hw => first | exact wantY_none); (case h1 => exact rfl); (case hS => intro h hh; exact hh); (case hi1 => exact rfl); (case hd => exact rfl); (case hf => exact rfl); (case hen => exact en37); (case hx => exact rfl); (case hc => intro H' hp; exact c_none H'))
    | ((with_reducible apply Sy.dcall (k := 38)); (case hw => first | exact wantY_none); (case h1 => exact rfl); (case hS => intro h hh; exact hh); (case hi1 => exact rfl); (case hd => exact rfl); (case hf => exact rfl); (case hen => exact en38); (case hx => exact rfl); (case hc => intro H' hp; exact (by first | exact put_atm hp (by simp) hm (hp.getO (by repeat (first | exact Has.here | apply Has.there | apply Has.app))) h0 h1 g hB ht | exact put_atm hp (by simp) hm (hp.get0 hm rfl (by simp)) h0 h1 g hB ht)); rintro ⟨u, L⟩ hT)
    | ((with_reducible apply Sy.newY (o := ⟨some 4, .box 23 _, _, _, _, _⟩)); (case ho => exact rfl); (case hd => exact rfl); (case hc => exact (nbH rfl)); intro q4)
    | ((with_reducible apply Sy.newY (o := ⟨some 5, .box 23 _, _, _, _, _⟩)); (case ho => exact rfl); (case hd => exact rfl); (case hc => exact (nbH rfl)); intro q5)
    | ((with_reducible apply Sy.newY (o := ⟨some 7, .alloc 23, _, _, _, _⟩)); (case ho => exact rfl); (case hd => exact rfl); (case hc => exact (nwz23)); intro q7)
    | (with_reducible refine Sy.skip ?_)
    | (with_reducible refine Sy.ret ?_)
    | (with_reducible refine Sy.block ?_)
    | (with_reducible refine Sy.aret ?_)
    | (with_reducible refine Sy.inrm ?_)
    | (with_reducible refine Sy.iret ?_)
    | ((with_reducible apply Sy.drawL (id := 6) 4 [(0, 1)] (fun hi h => h < hi)); (case hp => kernel_rfl); (case hN => exact rfl); intro base hbase hM; try simp only [List.forall_mem_cons, List.forall_mem_append, List.not_mem_nil, false_implies, implies_true, and_true] at hM)
    | ((with_reducible apply Sy.drawL (id := 8) 11 [(0, 1)] (fun hi h => h < hi)); (case hp => kernel_rfl); (case hN => exact rfl); intro base hbase hM; try simp only [List.forall_mem_cons, List.forall_mem_append, List.not_mem_nil, false_implies, implies_true, and_true] at hM)
    | ((with_reducible apply Sy.drawL (id := 10) 4 [(0, 1)] (fun hi h => h < hi)); (case hp => kernel_rfl); (case hN => exact rfl); intro base hbase hM; try simp only [List.forall_mem_cons, List.forall_mem_append, List.not_mem_nil, false_implies, implies_true, and_true] at hM)
    | ((with_reducible apply Sy.drawL (id := 12) 11 [] (fun hi h => h < hi)); (case hp => kernel_rfl); (case hN => exact rfl); intro base hbase hM; try simp only [List.forall_mem_cons, List.forall_mem_append, List.not_mem_nil, false_implies, implies_true, and_true] at hM)
    | ((with_reducible apply Sy.no); (case hx => exact rfl))
    | (with_reducible refine Sy.dend ?_)
    | ((with_reducible apply Sy.dgo); (case hw => first | exact wantY_none | exact wantY_some rfl rfl rfl); (case hc => intro hcls; cases hcls); (case h1 => exact rfl); (case h2 => exact rfl))
    | ((with_reducible apply Sy.dld); (case hw => first | exact wantY_none); (case hx => exact rfl); (case hb => omega); (case h2 => exact rfl))
    | ((with_reducible apply Sy.dno); (case hj => exact rfl); (case ht => exact rfl); (case hb => exact rfl); (case hc => exact rfl); (case hd => exact rfl))
    | ((with_reducible apply Sy.dcaseG); (case hj => exact rfl); (case hx => exact rfl); all_goals (intro hc; try (exfalso; omega)))
    | ((with_reducible apply Sy.ite); (case hx => exact rfl); all_goals (intro hc; try (exfalso; omega))))
  all_goals first
    | exact absurd (show tget k t = zeroH by with_reducible assumption) (show ¬ tget k t = zeroH by with_reducible assumption)
    | exact .fin [.int .i64 ((0 : Nat) : Int)] (.inr rfl) ⟨rfl, trivial⟩ fun H' hp => by
        rw [put1_same (k := k) (v := v) (t := t) (c := c) (by with_reducible assumption)]
        exact ⟨(r, []), ht, rfl, Hp.same (hp.less (List.nil_sublist _)) hm rfl⟩
    | exact .fin [.int .i64 ((6 : Nat) : Int)] (.inr rfl) ⟨rfl, trivial⟩ fun H' hp => by
        rw [put1_full (k := k) (v := v) (t := t) (c := c) (by with_reducible assumption) (by with_reducible assumption) (by with_reducible assumption) (by with_reducible assumption)]
        exact ⟨(r, []), ht, rfl, Hp.same (hp.less (List.nil_sublist _)) hm rfl⟩
    | exact .fin [.int .i64 ((0 : Nat) : Int)] (.inr rfl) ⟨rfl, trivial⟩ fun H' hp => by
        rw [put1_zero (k := k) (v := v) (t := t) (c := c) (by with_reducible assumption) (by with_reducible assumption)]
        exact ⟨(u, L), hT, rfl, hp.less (List.sublist_append_left _ _)⟩
    | exact .fin [.int .i64 ((0 : Nat) : Int)] (.inr rfl) ⟨rfl, trivial⟩ fun H' hp => by
        rw [put1_new (k := k) (v := v) (t := t) (c := c) (by with_reducible assumption) (by with_reducible assumption) (by with_reducible assumption) (by with_reducible assumption)]
        exact ⟨(u, L), hT, rfl, hp.less (List.sublist_append_left _ _)⟩
    | exact .fin [.int .i64 ((0 : Nat) : Int)] (.inr rfl) ⟨rfl, trivial⟩ fun H' hp => by
        rw [put1_set (k := k) (v := v) (t := t) (c := c) (by with_reducible assumption) (by with_reducible assumption) (by with_reducible assumption)]
        exact ⟨(u, L), hT, rfl, hp.less (List.sublist_append_left _ _)⟩
theorem c_Put0 (k v : Hsh) (H : AHeap) : CallR Tryd.prog noPrims 20 [.pointer none, hV k, hV v] H (fun u H' => u = .int .i64 ((1 : Nat) : Int) ∧ Hp H 0 0 H' [] []) := by
  refine CallR.sy (n := 60) Tryd.func20 rfl rfl rfl ?_
  repeat' (first
    | (with_reducible refine Sy.seq ?_)
    | (with_reducible refine Sy.regionL ?_)
    | (with_reducible refine Sy.opsnil ?_)
    | (with_reducible refine Sy.go ?_)
    | (with_reducible refine Sy.nrm ?_)
    | ((with_reducible apply Sy.assign); (case hd => exact rfl); (case hx => exact rfl))
    | ((with_reducible apply Sy.move); (case hd => exact rfl); (case hx => exact rfl))
    | ((with_reducible apply Sy.call0 (k := 36)); (case hd => exact rfl); (case hf => exact rfl); (case hen => exact en36); (case hx => exact rfl); (case hc => intro H' hp; exact c_mnone0 H'))
    | ((with_reducible apply Sy.newY (o := ⟨some 4, .box 23 _, _, _, _, _⟩)); (case ho => exact rfl); (case hd => exact rfl); (case hc => exact (nbH rfl)); intro q4)
    | ((with_reducible apply Sy.newY (o := ⟨some 5, .box 23 _, _, _, _, _⟩)); (case ho => exact rfl); (case hd => exact rfl); (case hc => exact (nbH rfl)); intro q5)
    | (with_reducible refine Sy.ret ?_)
    | (with_reducible refine Sy.aret ?_)
    | ((with_reducible apply Sy.yes); (case hx => exact rfl)))
  exact .fin [.int .i64 ((1 : Nat) : Int)] (.inr rfl) ⟨rfl, trivial⟩ fun H' hp => ⟨rfl, hp.less (List.nil_sublist _)⟩
end Go.Proofs.YtmlofdgamdlcgaaDoor

/- New, of nothing. -/
namespace Go.Proofs.YtmlofdgamdlcgaaDoor
open Go Go.Am
set_option maxRecDepth 100000
set_option linter.unusedVariables false

theorem bvM : buildV Tryd.prog 75 [(2, .bool true)] = some (.agg ⟨mapC none ((0 : Nat) : Int) true⟩) := bv75 (by rfl)
theorem c_New0 (H : AHeap) : CallR Tryd.prog noPrims 19 [.slice none 0 0] H (fun u H' => ∃ m : Nat, True ∧ u = .tuple ⟨[.pointer (some ⟨m, 0, none⟩), .int .i64 ((0 : Nat) : Int)]⟩ ∧ Hp H 0 0 H' [] [(m, .cells (mapC none ((0 : Nat) : Int) true) 75 true)]) := by
  refine CallR.sy (n := 53) Tryd.func19 rfl rfl rfl ?_
  repeat' (first
    | (with_reducible refine Sy.seq ?_)
    | (with_reducible refine Sy.regionL ?_)
    | (with_reducible refine Sy.opsnil ?_)
    | (with_reducible refine Sy.go ?_)
    | (with_reducible refine Sy.nrm ?_)
    | ((with_reducible apply Sy.assign); (case hd => exact rfl); (case hx => exact rfl))
    | ((with_reducible apply Sy.move); (case hd => exact rfl); (case hx => exact rfl))
    | ((with_reducible apply Sy.lenS); (case hd => exact rfl); (case ht => exact Tryd.underlying71); (case hx => exact rfl))
    | ((with_reducible apply Sy.bin (op := .gtr) (t := 3)); (case hd => exact rfl); (case hx => exact rfl); (case hy => exact rfl); (case hv => exact b_gtr))
    | ((with_reducible apply Sy.build (t := 75)); (case hd => exact rfl); (case hx => exact rfl); (case hv => exact (bv75 (by first | rfl))))
    | ((with_reducible apply Sy.newY (o := ⟨some 14, .makeMap 72 _, _, _, _, _⟩)); (case ho => exact rfl); (case hd => exact rfl); (case hc => exact newY_map); intro q14)
    | ((with_reducible apply Sy.newY (o := ⟨some 16, .box 75 _, _, _, _, _⟩)); (case ho => exact rfl); (case hd => exact rfl); (case hc => exact (nbA rfl)); intro q16)
    | (with_reducible refine Sy.skip ?_)
    | (with_reducible refine Sy.block ?_)
    | ((with_reducible apply Sy.no); (case hx => exact rfl)))
  refine Sy.loop (ι := Unit) (fun _ => 0) (fun _ => [(0, .slice none 0 0), (4, .map (some q14)), (5, .pointer (some ⟨q16, 0, none⟩)), (18, .int .i64 ((0 : Nat) : Int)), (19, .int .i64 ((0 : Nat) : Int))]) (fun _ => []) (fun _ => [(q16, .cells (mapC none ((0 : Nat) : Int) true) 75 true), (q14, .map [] 0)]) (fun _ => True) () trivial ⟨rfl, rfl, rfl, rfl, rfl, trivial⟩ (fun H h => h) ?_
  intro _ _
  repeat' (first
    | (with_reducible refine Sy.seq ?_)
    | (with_reducible refine Sy.regionL ?_)
    | (with_reducible refine Sy.opsnil ?_)
    | (with_reducible refine Sy.go ?_)
    | (with_reducible refine Sy.nrm ?_)
    | ((with_reducible apply Sy.move); (case hd => exact rfl); (case hx => exact rfl))
    | ((with_reducible apply Sy.bin (op := .lss) (t := 3)); (case hd => exact rfl); (case hx => exact rfl); (case hy => exact rfl); (case hv => exact b_lss))
    | ((with_reducible refine Sy.rangeM (t := 72) rfl Tryd.underlying72 rfl (by repeat (first | exact Has.here | apply Has.there | apply Has.app)) ?_); intro q32)
    | (with_reducible refine Sy.exit ?_)
    | (with_reducible refine Sy.block ?_)
    | (with_reducible refine Sy.aex ?_)
    | ((with_reducible apply Sy.iex); (case hi' => exact rfl))
    | (with_reducible refine Sy.rex ?_)
    | ((with_reducible apply Sy.no); (case hx => exact rfl)))
  refine Sy.loop (ι := Unit) (fun _ => 0) (fun _ => [(0, .slice none 0 0), (4, .map (some q14)), (5, .pointer (some ⟨q16, 0, none⟩)), (32, .pointer (some ⟨q32, 0, none⟩))]) (fun _ => []) (fun _ => [(q32, .miter (some q14) 0 [] 0), (q16, .cells (mapC none ((0 : Nat) : Int) true) 75 true), (q14, .map [] 0)]) (fun _ => True) () trivial ⟨rfl, rfl, rfl, rfl, trivial⟩ (fun H h => h) ?_
  intro _ _
  repeat' (first
    | (with_reducible refine Sy.seq ?_)
    | (with_reducible refine Sy.regionL ?_)
    | (with_reducible refine Sy.opsnil ?_)
    | (with_reducible refine Sy.go ?_)
    | (with_reducible refine Sy.nrm ?_)
    | ((with_reducible apply Sy.move); (case hd => exact rfl); (case hx => exact rfl))
    | ((with_reducible apply Sy.lenS); (case hd => exact rfl); (case ht => exact Tryd.underlying71); (case hx => exact rfl))
    | ((with_reducible apply Sy.ext); (case hd => exact rfl); (case hx => exact rfl); (case hv => exact rfl))
    | (with_reducible refine Sy.nextE rfl rfl (by repeat (first | exact Has.here | apply Has.there | apply Has.app)) (by repeat (first | exact Has.here | apply Has.there | apply Has.app)) ?_)
    | (with_reducible refine Sy.exit ?_)
    | (with_reducible refine Sy.block ?_)
    | (with_reducible refine Sy.aex ?_)
    | ((with_reducible apply Sy.iex); (case hi' => exact rfl))
    | (with_reducible refine Sy.rex ?_)
    | ((with_reducible apply Sy.no); (case hx => exact rfl)))
  refine Sy.loop (ι := Unit) (fun _ => 0) (fun _ => [(5, .pointer (some ⟨q16, 0, none⟩)), (40, .int .i64 ((0 : Nat) : Int)), (41, .int .i64 ((0 : Nat) : Int))]) (fun _ => []) (fun _ => [(q32, .miter (some q14) 0 [] 0), (q16, .cells (mapC none ((0 : Nat) : Int) true) 75 true), (q14, .map [] 0)]) (fun _ => True) () trivial ⟨rfl, rfl, rfl, trivial⟩ (fun H h => h) ?_
  intro _ _
  repeat' (first
    | (with_reducible refine Sy.seq ?_)
    | (with_reducible refine Sy.regionL ?_)
    | (with_reducible refine Sy.opsnil ?_)
    | (with_reducible refine Sy.go ?_)
    | (with_reducible refine Sy.nrm ?_)
    | ((with_reducible apply Sy.assign); (case hd => exact rfl); (case hx => exact rfl))
    | ((with_reducible apply Sy.move); (case hd => exact rfl); (case hx => exact rfl))
    | ((with_reducible apply Sy.bin (op := .lss) (t := 3)); (case hd => exact rfl); (case hx => exact rfl); (case hy => exact rfl); (case hv => exact b_lss))
    | (with_reducible refine Sy.exit ?_)
    | (with_reducible refine Sy.ret ?_)
    | (with_reducible refine Sy.aex ?_)
    | ((with_reducible apply Sy.iex); (case hi' => exact rfl))
    | (with_reducible refine Sy.rex ?_)
    | ((with_reducible apply Sy.no); (case hx => exact rfl)))
  exact .fin [.pointer (some ⟨q16, 0, none⟩), .int .i64 ((0 : Nat) : Int)] (.inr rfl) ⟨rfl, rfl, trivial⟩ fun H' hp => ⟨q16, trivial, rfl, hp.less ((List.nil_sublist _).cons_cons _ |>.cons _)⟩
end Go.Proofs.YtmlofdgamdlcgaaDoor

/- knows: what must come. -/
namespace Go.Proofs.YtmlofdgamdlcgaaDoor
open Go Go.Am
set_option maxRecDepth 100000
set_option linter.unusedVariables false

theorem Tree.mk_kids (l r : Tree) : (Tree.mk l r).kids = (l, r) := by cases l <;> cases r <;> rfl
theorem down_tput {k v : Hsh} {t : Tree} : ∀ i, i ≤ 256 → down k (tput k v 256 t) i = tput k v (256 - i) (down k t i)
  | 0, _ => by rw [down, down, Nat.sub_zero]
  | i + 1, hi => by
    rw [down, down_tput i (by omega), show 256 - i = (256 - (i + 1)) + 1 by omega, tput, show 256 - (256 - (i + 1) + 1) = i by omega, down]
    by_cases hb : bitOf k i = 0
    · simp only [hb, if_true, Tree.mk_kids]
    · simp only [hb, if_false, Tree.mk_kids]
theorem tget_tput {k v : Hsh} {t : Tree} : tget k (tput k v 256 t) = v := by
  unfold tget
  rw [down_tput 256 (Nat.le_refl _), Nat.sub_self, tput]
  split
  · rename_i h; rw [h]; rfl
  · rfl
theorem tget_nil {k : Hsh} : tget k .nil = zeroH := by
  unfold tget
  have h : down k .nil 0 = .nil := rfl
  rw [show (256 : Nat) = 0 + 256 from rfl, down_nil h 256]; rfl
theorem tput_zero_nil {k : Hsh} : ∀ n, tput k zeroH n .nil = .nil
  | 0 => by rw [tput, if_pos rfl]
  | n + 1 => by
    rw [tput]
    split
    · show Tree.mk (tput k zeroH n .nil) .nil = .nil; rw [tput_zero_nil n]; rfl
    · show Tree.mk .nil (tput k zeroH n .nil) = .nil; rw [tput_zero_nil n]; rfl
theorem tput_tput {k u v : Hsh} : ∀ n t, tput k u n (tput k v n t) = tput k u n t
  | 0, t => by simp only [tput]
  | n + 1, t => by
    rw [tput, tput, tput]
    by_cases hb : bitOf k (256 - (n + 1)) = 0
    · simp only [hb, if_true, Tree.mk_kids, tput_tput n]
    · simp only [hb, if_false, Tree.mk_kids, tput_tput n]
theorem lv_nil (n : Nat) : Lv n .nil := by cases n <;> simp [Lv]
theorem lv_mk {n : Nat} {l r : Tree} (hl : Lv n l) (hr : Lv n r) : Lv (n + 1) (Tree.mk l r) := by
  by_cases h : l = .nil ∧ r = .nil
  · rw [Tree.mk_nil h.1 h.2]; exact lv_nil _
  · rw [Tree.mk_node h]; exact ⟨hl, hr⟩
theorem lv_tput {k v : Hsh} : ∀ n t, Lv n t → Lv n (tput k v n t)
  | 0, t, _ => by rw [tput]; split <;> simp [Lv]
  | n + 1, t, h => by
    have hk := h.kids
    rw [tput]
    split
    · exact lv_mk (lv_tput n _ hk.1) hk.2
    · exact lv_mk hk.1 (lv_tput n _ hk.2)

def byteH (n : Nat) (h : n < 256) : Hsh := ⟨n :: List.replicate 31 0, by simp, by intro x hx; rcases List.mem_cons.1 hx with rfl | hx; exact h; rw [List.eq_of_mem_replicate hx]; decide⟩
def h1 : Hsh := byteH 1 (by decide)
def h2 : Hsh := byteH 2 (by decide)
theorem h1_ne : h1 ≠ zeroH := fun h => by have := congrArg (fun x => x.l.head?) h; simp [h1, byteH, zeroH, List.replicate] at this
theorem h2_ne : h2 ≠ zeroH := fun h => by have := congrArg (fun x => x.l.head?) h; simp [h2, byteH, zeroH, List.replicate] at this
theorem bvZ : buildV Tryd.prog 23 [] = some (hV zeroH) := bvz23
theorem bvB1 : buildV Tryd.prog 23 [(0, .int .u8 1)] = some (hV h1) := bv23 rfl
theorem bvB2 : buildV Tryd.prog 23 [(0, .int .u8 2)] = some (hV h2) := bv23 rfl

theorem c_Put_first {m : Nat} (t : Tree) (e : t = tput h1 h2 256 .nil) (H : AHeap) (g : Gl H) (hm0 : m ≠ 0) (hm1 : m ≠ 1) (hm : H.get m = .cells (mapC none ((0 : Nat) : Int) true) 75 true) :
    CallR Tryd.prog noPrims 20 [.pointer (some ⟨m, 0, none⟩), hV h1, hV h2] H (fun u H' => ∃ i : Option Addr × Hm, (∀ H1, TreeL H1 0 i.2 i.1 t) ∧ u = .int .i64 ((0 : Nat) : Int) ∧ Hp H 0 0 H' [(m, .cells (mapC i.1 ((1 : Nat) : Int) true) 75 true)] i.2) := by
  subst e
  refine (c_Put (B := 0) (t := .nil) (k := h1) (v := h2) H g hm0 hm1 hm .nil (Nat.zero_le _) (lv_nil _) (by omega) (by omega)).mono ?_
  rintro u H' ⟨i, hT, hu, hp⟩
  have e : Put1 h1 h2 .nil ((0 : Nat) : Int) = (tput h1 h2 256 .nil, ((0 : Nat) : Int) + 1, 0) := put1_new (by rw [tget_nil]; exact Ne.symm h2_ne) h2_ne tget_nil (by omega)
  rw [e] at hT hu hp
  exact ⟨i, fun H1 => hT.move fun a _ _ _ ha => absurd ha (Nat.not_lt_zero a), hu, hp⟩
theorem c_rootN {m : Nat} {c : Int} {w : Bool} (H : AHeap) (hm : H.get m = .cells (mapC none c true) 75 w) : CallR Tryd.prog noPrims 23 [.pointer (some ⟨m, 0, none⟩)] H (fun u H' => u = hV zeroH ∧ Hp H 0 0 H' [] []) := c_root (B := 0) (t := .nil) H hm .nil (Nat.zero_le _)
theorem c_Put_zero {m B : Nat} {c : Int} {k : Hsh} {r : Option Addr} {t : Tree} (H : AHeap) (g : Gl H) (hm0 : m ≠ 0) (hm1 : m ≠ 1) (hm : H.get m = .cells (mapC r c true) 75 true) (ht : TreeL H B [] r t) (hB : B ≤ H.next) (hl : Lv 256 t) (hc0 : -1000000 ≤ c) (hc1 : c ≤ 1000000)
    (hg : tget k t ≠ zeroH) (hn : tput k zeroH 256 t = .nil) :
    CallR Tryd.prog noPrims 20 [.pointer (some ⟨m, 0, none⟩), hV k, hV zeroH] H (fun u H' => u = .int .i64 ((0 : Nat) : Int) ∧ Hp H 0 0 H' [(m, .cells (mapC none (c - 1) true) 75 true)] []) := by
  refine (c_Put (k := k) (v := zeroH) H g hm0 hm1 hm ht hB hl hc0 hc1).mono ?_
  rintro u H' ⟨⟨r1, L⟩, hT, hu, hp⟩
  rw [put1_zero (k := k) (v := zeroH) (t := t) (c := c) hg rfl] at hT hu hp
  simp only [hn] at hT
  cases hT
  exact ⟨hu, hp.less (List.nil_sublist _)⟩

theorem Gl.two {H : AHeap} (g : Gl H) : 2 ≤ H.next := by
  obtain ⟨T, h⟩ := g.k
  exact get_live_lt (by rw [h]; rfl)
end Go.Proofs.YtmlofdgamdlcgaaDoor
