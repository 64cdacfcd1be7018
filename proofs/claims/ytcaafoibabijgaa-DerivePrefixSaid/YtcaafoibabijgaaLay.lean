/- What arguments hold, laid out. -/
import Derived.Test.YtcaafoibabijgaaAmC
import Derived.OpenShut
import Derived.ChangeArms
import GoSem.ClaimDataLaid
import GoSem.ClaimJoined
import Derived.ChangeShapes
import Derived.SizedLaws
import Derived.Carry
import Derived.Test.YtcaafoibabijgaaSy
set_option linter.unusedSimpArgs false
set_option linter.unusedVariables false
/- What a law's arguments hold, laid out as objects that are only read: by the types alone. -/
namespace Go.Am
open Go

def RowP (p : List Value → Prop) : Nat → List Value → Prop
  | 0, cs => cs = []
  | n + 1, cs => ∃ a b, cs = a ++ b ∧ RowP p n a ∧ p b
def EachP (p : TypeId → List Value → Prop) : List TypeId → List Value → Prop
  | [], cs => cs = []
  | t :: ts, cs => ∃ a b, cs = a ++ b ∧ p t a ∧ EachP p ts b
theorem RowP.mono {p q : List Value → Prop} (h : ∀ a, p a → q a) : ∀ {n : Nat} {cs : List Value}, RowP p n cs → RowP q n cs
  | 0, _, e => e
  | _ + 1, _, ⟨a, b, e, r, k⟩ => ⟨a, b, e, r.mono h, h b k⟩
theorem EachP.mono {p q : TypeId → List Value → Prop} (h : ∀ t a, p t a → q t a) : ∀ {ts : List TypeId} {cs : List Value}, EachP p ts cs → EachP q ts cs
  | [], _, e => e
  | t :: _, _, ⟨a, b, e, k, r⟩ => ⟨a, b, e, h t a k, r.mono h⟩
/-- A row of things of one kind, as a list. -/
theorem RowP.list {α : Type} {p : List Value → Prop} {enc : α → List Value} {Q : α → Prop} (h : ∀ a, p a → ∃ x, a = enc x ∧ Q x) : ∀ {n : Nat} {cs : List Value}, RowP p n cs → ∃ l : List α, l.length = n ∧ cs = (l.map enc).flatten ∧ ∀ x ∈ l, Q x
  | 0, _, e => ⟨[], rfl, e, by simp⟩
  | _ + 1, _, ⟨a, b, e, r, k⟩ => by
    obtain ⟨l, h1, h2, h3⟩ := r.list h
    obtain ⟨x, h4, h5⟩ := h b k
    refine ⟨l ++ [x], by simp [h1], by rw [e, h2, h4]; simp, fun y hy => ?_⟩
    rcases List.mem_append.1 hy with hy | hy
    · exact h3 y hy
    · rw [List.mem_singleton.1 hy]; exact h5

/-- Types whose things are laid out: numbers, strings, rows and records of them. -/
def dataT (P : Program) : Nat → TypeId → Bool
  | 0, _ => false
  | m + 1, t => isVar P t && rowFine P t && match P.underlying t with
    | some .bool | some (.int _) | some .string => true
    | some (.slice e) => decide (0 < P.cellsOf e) && dataT P m e
    | some (.struct fs) => fs.toList.all fun f => dataT P m f.type
    | some (.array _ e) => dataT P m e
    | _ => false
/-- What cells of a type hold, in the abstract heap. -/
def Sh (P : Program) (H : AHeap) : Nat → TypeId → List Value → Prop
  | 0, _, _ => False
  | m + 1, t, cs => match P.underlying t with
    | some .bool => ∃ b, cs = [.bool b]
    | some (.int k) => ∃ n, cs = [.int k n] ∧ (Lit.int k n).wf = true
    | some .string => ∃ s : ByteArray, cs = [.string s] ∧ s.size ≤ reachBytes
    | some (.slice e) => ∃ n, n * P.bytesOf e ≤ reachBytes ∧ ((cs = [.slice none 0 0] ∧ n = 0) ∨ ∃ h ocs, cs = [.slice (some ⟨h, 0, none⟩) n (n + 1)] ∧ H.get h = .cells ocs e false ∧ RowP (Sh P H m e) n ocs)
    | some (.struct fs) => EachP (Sh P H m) (fs.toList.map (·.type)) cs
    | some (.array n e) => RowP (Sh P H m e) n cs
    | _ => False
/-- A later heap. -/
def Ext (H H' : AHeap) : Prop := H.next ≤ H'.next ∧ ∀ h, h < H.next → H'.get h = H.get h
theorem Ext.refl (H : AHeap) : Ext H H := ⟨Nat.le_refl _, fun _ _ => rfl⟩
theorem Ext.trans {a b c : AHeap} (h : Ext a b) (k : Ext b c) : Ext a c := ⟨Nat.le_trans h.1 k.1, fun x hx => (k.2 x (Nat.lt_of_lt_of_le hx h.1)).trans (h.2 x hx)⟩
theorem Ext.get {H H' : AHeap} (k : Ext H H') {h : Nat} {o : AObj} (e : H.get h = o) (hl : o.live = true) : H'.get h = o := by
  rw [k.2 h (get_live_lt (by rw [e]; exact hl)), e]
theorem Sh.mono {P : Program} {H H' : AHeap} (k : Ext H H') : ∀ {m : Nat} {t : TypeId} {cs : List Value}, Sh P H m t cs → Sh P H' m t cs
  | 0, _, _, h => h
  | m + 1, t, cs, h => by
    unfold Sh at h ⊢
    split at h
    · exact h
    · exact h
    · exact h
    · obtain ⟨n, h0, h1 | ⟨b, ocs, h1, h2, h3⟩⟩ := h
      · exact ⟨n, h0, .inl h1⟩
      · exact ⟨n, h0, .inr ⟨b, ocs, h1, k.get h2 rfl, h3.mono fun _ => Sh.mono k⟩⟩
    · exact h.mono fun _ _ => Sh.mono k
    · exact h.mono fun _ => Sh.mono k
    · exact h

/-- Objects that are only read, beside what stands in memory. -/
structure Lying (P : Program) (W : World) (β : Inj) (H : AHeap) : Prop where
  rel : HRel P W.heap.size β H W
  ro : ∀ h, (H.get h).wlive = false
def Lays (P : Program) (W : World) (β : Inj) (H : AHeap) (Q : Inj → AHeap → Prop) : Prop := ∃ β' H', Inj.Sub β β' ∧ Ext H H' ∧ Lying P W β' H' ∧ Q β' H'
theorem Lays.pure {P : Program} {W : World} {β : Inj} {H : AHeap} {Q : Inj → AHeap → Prop} (l : Lying P W β H) (h : Q β H) : Lays P W β H Q := ⟨β, H, Inj.Sub.refl β, .refl H, l, h⟩
theorem Lays.bind {P : Program} {W : World} {β : Inj} {H : AHeap} {Q R : Inj → AHeap → Prop} (h : Lays P W β H Q) (k : ∀ β' H', Inj.Sub β β' → Ext H H' → Lying P W β' H' → Q β' H' → Lays P W β' H' R) : Lays P W β H R := by
  obtain ⟨β1, H1, s1, e1, l1, q1⟩ := h
  obtain ⟨β2, H2, s2, e2, l2, q2⟩ := k β1 H1 s1 e1 l1 q1
  exact ⟨β2, H2, s1.trans s2, e1.trans e2, l2, q2⟩

theorem Lying.push {P : Program} {W : World} {β : Inj} {H : AHeap} (l : Lying P W β H) {cs : List Value} {e : TypeId} {p : Loc} (hb : p.blk < W.heap.size) (hc : ∀ i v, cs[i]? = some v → ∃ v', W.cell? ⟨p.blk, p.base + i, none⟩ = some v' ∧ VRel β v v') :
    Lays P W β H fun β' H' => ∃ h, β' h = some p ∧ H'.get h = .cells cs e false := by
  have dom := l.rel.dom
  have sub : Inj.Sub β fun h => if h = H.next then some p else β h := fun h q hq => by
    have := dom h q hq
    simp only [if_neg (show h ≠ H.next by omega)]; exact hq
  have ext : Ext H (H.push (.cells cs e false)) := ⟨by simp, fun h hh => get_push_lt _ _ _ hh⟩
  have ro : ∀ h, ((H.push (.cells cs e false)).get h).wlive = false := fun h => by
    by_cases hh : h = H.next
    · subst hh; rw [get_push_new]; rfl
    · rw [get_push_ne _ _ _ hh]; exact l.ro h
  refine ⟨_, _, sub, ext, ⟨⟨?_, ?_, ?_, ?_, ?_, ?_, l.rel.base⟩, ro⟩, H.next, by simp, get_push_new _ _⟩
  · intro h q hq
    by_cases hh : h = H.next
    · subst hh
      simp only [if_true, Option.some.injEq] at hq
      subst hq
      rw [get_push_new]
      exact ⟨fun i v hv => by obtain ⟨v', a, b⟩ := hc i v hv; exact ⟨v', a, b.mono sub⟩, fun h => by cases h⟩
    · simp only [if_neg hh] at hq
      rw [get_push_ne _ _ _ hh]
      have := l.rel.obj h q hq
      have hr := l.ro h
      cases e1 : H.get h with
      | dead => trivial
      | cells c T w =>
        rw [e1] at this hr
        cases hr
        exact ⟨fun i v hv => by obtain ⟨v', a, b⟩ := this.1 i v hv; exact ⟨v', a, b.mono sub⟩, fun h => by cases h⟩
      | map es clock => rw [e1] at hr; cases hr
      | siter s pos => rw [e1] at hr; cases hr
      | miter m since seen st => rw [e1] at hr; cases hr
  · intro h q hq
    by_cases hh : h = H.next
    · subst hh
      simp only [if_true, Option.some.injEq] at hq
      subst hq; exact hb
    · simp only [if_neg hh] at hq; exact l.rel.blk h q hq
  · intro h h' q q' _ _ hw; rw [ro] at hw; cases hw
  · intro h q _ hw; rw [ro] at hw; cases hw
  · intro h q hq
    rw [next_push]
    by_cases hh : h = H.next
    · omega
    · simp only [if_neg hh] at hq; have := dom h q hq; omega
  · intro g hg
    obtain ⟨n, hn⟩ := l.rel.glob g hg
    exact ⟨n, sub _ _ hn⟩

section
variable {P : Program} {HH : Type} {enc : TypeId × Value → HH} {W : World} {base : Nat} {held : Bool}

theorem weights_all {e : TypeId} {d : DataW HH} {n : Nat} : ∀ {l : List (DataW HH)}, d ∈ l → n ∈ d.weights P e → n ∈ DataW.weightsAll P e l
  | [], h, _ => by simp at h
  | a :: l, h, k => by
    rw [DataW.weightsAll, List.mem_append]
    rcases List.mem_cons.1 h with rfl | h
    · exact .inl k
    · exact .inr (weights_all h k)
theorem weights_each {t : TypeId} {d : DataW HH} {n : Nat} : ∀ {ts : List TypeId} {l : List (DataW HH)} {i : Nat}, ts[i]? = some t → l[i]? = some d → n ∈ d.weights P t → n ∈ DataW.weightsEach P ts l
  | [], _, _, h, _, _ => by simp at h
  | _ :: _, [], _, _, h, _ => by simp at h
  | a :: ts, b :: l, 0, h, h2, k => by
    simp only [List.getElem?_cons_zero, Option.some.injEq] at h h2
    subst h; subst h2
    rw [DataW.weightsEach, List.mem_append]; exact .inl k
  | a :: ts, b :: l, i + 1, h, h2, k => by
    simp only [List.getElem?_cons_succ] at h h2
    rw [DataW.weightsEach, List.mem_append]; exact .inr (weights_each h h2 k)

/-- What is read, in one type, may be laid out. -/
def CanLay (P : Program) (enc : TypeId × Value → HH) (W : World) (base : Nat) (held : Bool) (m : Nat) : Prop :=
  ∀ (t : TypeId) (cs : List Value) (fuel : Nat) (x : DataW HH × List MemPlace), dataT P m t = true → DataW.trod enc P W base (fun _ => true) held fuel t cs = some x → (∀ n ∈ x.1.weights P t, n ≤ reachBytes) →
    ∀ (β : Inj) (H : AHeap), Lying P W β H → Lays P W β H fun β' H' => ∃ as, LRel β' as cs ∧ Sh P H' m t as

theorem spot_ok {a : Addr} {n k fuel : Nat} {e : TypeId} {y : DataW HH × List MemPlace} (hn : 0 < n) (hk : k = 0) (h : (W.cells? base (a.add k) n).bind (DataW.trod enc P W base (fun _ => true) held fuel e) = some y) : a.spot = none ∧ a.block < W.heap.size := by
  subst hk
  rw [Option.bind_eq_some_iff] at h
  obtain ⟨cs, hcs, _⟩ := h
  obtain ⟨_, hl, hc⟩ := World.cells?_some hcs
  have h0 := hc 0 hn
  rw [List.getElem?_eq_getElem (by omega)] at h0
  obtain ⟨b, o, s⟩ := a
  have e0 : ((⟨b, o, s⟩ : Addr).add 0).add 0 = ⟨b, o, s⟩ := rfl
  rw [e0] at h0
  unfold World.cell? at h0
  dsimp only at h0 ⊢
  split at h0
  · rename_i hb
    refine ⟨?_, (Array.getElem?_eq_some_iff.1 hb).1⟩
    cases s with
    | none => rfl
    | some _ => simp at h0
  · cases h0
theorem add_none' {a : Addr} (h : a.spot = none) (n : Nat) : a.add n = ⟨a.block, a.off + n, none⟩ := by
  obtain ⟨b, o, s⟩ := a
  simp only at h
  subst h
  unfold Addr.add
  split
  · rename_i e; subst e; rfl
  · rfl

theorem Sh.len {H : AHeap} : ∀ {m : Nat} {t : TypeId} {as cs : List Value} {β : Inj}, LRel β as cs → as.length = cs.length := fun h => h.length

/-- Cells of a record. -/
theorem layw_each {m fuel : Nat} (ih : CanLay P enc W base held m) (cs : List Value) (xs : List (DataW HH × List MemPlace)) : ∀ (fs : List Field) (k off : Nat), (∀ (i : Nat) (f : Field), fs[i]? = some f → dataT P m f.type = true ∧ f.offset = off + ((fs.take i).map fun f => P.cellsOf f.type).sum ∧ DataW.trod enc P W base (fun _ => true) held fuel f.type ((cs.drop f.offset).take (P.cellsOf f.type)) = xs[k + i]? ∧ ∃ x, xs[k + i]? = some x ∧ ∀ n ∈ x.1.weights P f.type, n ≤ reachBytes) →
    ∀ (β : Inj) (H : AHeap), Lying P W β H → Lays P W β H fun β' H' => ∃ as, LRel β' as ((cs.drop off).take (fs.map fun f => P.cellsOf f.type).sum) ∧ EachP (Sh P H' m) (fs.map (·.type)) as
  | [], k, off, _, β, H, l => .pure l ⟨[], by simp; exact .nil, rfl⟩
  | f :: fs, k, off, h, β, H, l => by
    obtain ⟨h1, h2, h3, x, h4, h5⟩ := h 0 f rfl
    simp only [List.take_zero, List.map_nil, List.sum_nil, Nat.add_zero] at h2 h3 h4
    rw [h4] at h3
    refine (ih _ _ _ _ h1 h3 h5 β H l).bind fun β1 H1 s1 e1 l1 ⟨as, a1, a2⟩ => ?_
    refine (layw_each (fuel := fuel) ih cs xs fs (k + 1) (off + P.cellsOf f.type) (fun i g hg => ?_) β1 H1 l1).bind fun β2 H2 s2 e2 l2 ⟨bs, b1, b2⟩ => ?_
    · obtain ⟨g1, g2, g3, g4⟩ := h (i + 1) g (by simpa using hg)
      refine ⟨g1, ?_, ?_, ?_⟩
      · rw [g2]; simp; omega
      · rw [g3]; congr 1; omega
      · rw [show k + 1 + i = k + (i + 1) by omega]; exact g4
    · refine .pure l2 ⟨as ++ bs, ?_, as, bs, rfl, a2.mono e2, b2⟩
      rw [List.map_cons, List.sum_cons, List.take_add, List.drop_drop]
      rw [h2] at a1
      exact (a1.mono s2).append b1

/-- Cells of a row that lies within. -/
theorem layw_arr {m fuel : Nat} (ih : CanLay P enc W base held m) (e : TypeId) (he : dataT P m e = true) (cs : List Value) (xs : List (DataW HH × List MemPlace)) : ∀ (n : Nat), (∀ i, i < n → DataW.trod enc P W base (fun _ => true) held fuel e ((cs.drop (i * P.cellsOf e)).take (P.cellsOf e)) = xs[i]? ∧ ∃ x, xs[i]? = some x ∧ ∀ k ∈ x.1.weights P e, k ≤ reachBytes) →
    ∀ (β : Inj) (H : AHeap), Lying P W β H → Lays P W β H fun β' H' => ∃ as, LRel β' as (cs.take (n * P.cellsOf e)) ∧ RowP (Sh P H' m e) n as
  | 0, _, β, H, l => .pure l ⟨[], by simp; exact .nil, rfl⟩
  | n + 1, h, β, H, l => by
    refine (layw_arr (fuel := fuel) ih e he cs xs n (fun i hi => h i (by omega)) β H l).bind fun β1 H1 s1 e1 l1 ⟨as, a1, a2⟩ => ?_
    obtain ⟨h3, x, h4, h5⟩ := h n (by omega)
    rw [h4] at h3
    refine (ih _ _ _ _ he h3 h5 β1 H1 l1).bind fun β2 H2 s2 e2 l2 ⟨bs, b1, b2⟩ => ?_
    refine .pure l2 ⟨as ++ bs, ?_, as, bs, rfl, a2.mono fun _ => Sh.mono e2, b2⟩
    rw [Nat.succ_mul, List.take_add]
    exact (a1.mono s2).append b1

/-- Cells of a row in memory. -/
theorem layw_row {m fuel : Nat} (ih : CanLay P enc W base held m) (e : TypeId) (he : dataT P m e = true) (a : Addr) (hs : a.spot = none) (xs : List (DataW HH × List MemPlace)) : ∀ (n : Nat), (∀ i, i < n → (W.cells? base (a.add (i * P.cellsOf e)) (P.cellsOf e)).bind (DataW.trod enc P W base (fun _ => true) held fuel e) = xs[i]? ∧ ∃ x, xs[i]? = some x ∧ ∀ k ∈ x.1.weights P e, k ≤ reachBytes) →
    ∀ (β : Inj) (H : AHeap), Lying P W β H → Lays P W β H fun β' H' => ∃ as, as.length = n * P.cellsOf e ∧ (∀ i v, as[i]? = some v → ∃ v', W.cell? ⟨a.block, a.off + i, none⟩ = some v' ∧ VRel β' v v') ∧ RowP (Sh P H' m e) n as
  | 0, _, β, H, l => .pure l ⟨[], by simp, by simp, rfl⟩
  | n + 1, h, β, H, l => by
    refine (layw_row (fuel := fuel) ih e he a hs xs n (fun i hi => h i (by omega)) β H l).bind fun β1 H1 s1 e1 l1 ⟨as, a0, a1, a2⟩ => ?_
    obtain ⟨h3, x, h4, h5⟩ := h n (by omega)
    rw [h4, Option.bind_eq_some_iff] at h3
    obtain ⟨cs, hcs, ht⟩ := h3
    obtain ⟨_, hcl, hc⟩ := World.cells?_some hcs
    refine (ih _ _ _ _ he ht h5 β1 H1 l1).bind fun β2 H2 s2 e2 l2 ⟨bs, b1, b2⟩ => ?_
    have hbl := b1.length
    refine .pure l2 ⟨as ++ bs, by rw [List.length_append, a0, hbl, hcl, Nat.succ_mul], fun i v hv => ?_, as, bs, rfl, a2.mono fun _ => Sh.mono e2, b2⟩
    rw [List.getElem?_append] at hv
    split at hv
    · obtain ⟨v', q1, q2⟩ := a1 i v hv
      exact ⟨v', q1, q2.mono s2⟩
    · rename_i hi
      obtain ⟨v', q1, q2⟩ := b1.get _ v hv
      have hlt : i - as.length < P.cellsOf e := by have := (List.getElem?_eq_some_iff.1 hv).1; omega
      refine ⟨v', ?_, q2⟩
      rw [← q1, ← hc _ hlt, add_none' hs, add_none' rfl]
      dsimp only
      congr 2; omega

theorem layw_all (h0 : 0 < W.heap.size) : ∀ m, CanLay P enc W base held m
  | 0 => fun t cs fuel x hd => by simp [dataT] at hd
  | m + 1 => by
    intro t cs fuel x hd ht hw β H l
    have ih := layw_all h0 m
    unfold dataT at hd
    simp only [Bool.and_eq_true] at hd
    obtain ⟨⟨hv, hr⟩, hd⟩ := hd
    unfold rowFine at hr
    rw [hv] at hr
    simp only [Bool.not_true, Bool.false_or] at hr
    unfold Sh
    cases e : P.underlying t with
    | none => rw [e] at hd; simp at hd
    | some u =>
      rw [e] at hd hr
      cases u with
      | bool =>
        obtain ⟨b, rfl, _⟩ := DataW.trod_bool e ht
        exact .pure l ⟨_, .cons (.bool b) .nil, b, rfl⟩
      | int k =>
        obtain ⟨n, rfl, _, hn⟩ := DataW.trod_int e ht
        exact .pure l ⟨_, .cons (.int k n) .nil, n, rfl, hn⟩
      | string =>
        obtain ⟨s, rfl, rfl, _⟩ := DataW.trod_string e ht
        refine .pure l ⟨_, .cons (.string s) .nil, s, rfl, ?_⟩
        have := hw s.data.toList.length (by simp [DataW.weights])
        simpa using this
      | slice u =>
        simp only [Bool.and_eq_true, decide_eq_true_eq] at hd
        rcases DataW.trod_slice e ht with ⟨rfl, _⟩ | ⟨a, len, cap, elems, rest, n, _, rfl, rfl, hb, hl, _, hlen, hel, hsp, _⟩
        · exact .pure l ⟨_, .cons .snil .nil, 0, by simp, .inl ⟨rfl, rfl⟩⟩
        · obtain ⟨hrl, hrest⟩ := hsp rfl
          have hwt : (elems.length + rest.length) * P.bytesOf u ≤ reachBytes := hw _ (by simp [DataW.weights, e])
          have hwl : len * P.bytesOf u ≤ reachBytes := Nat.le_trans (Nat.mul_le_mul_right _ (by omega)) hwt
          rcases cap with _ | c
          · obtain rfl : len = 0 := by omega
            refine (l.push (cs := []) (e := u) (p := ⟨0, 0, 0⟩) h0 (by simp)).bind fun β1 H1 s1 e1 l1 ⟨h, p1, p2⟩ => ?_
            exact .pure l1 ⟨[.slice (some ⟨h, 0, none⟩) 0 1], .cons (.sliceE p1 (by omega)) .nil, 0, hwl, .inr ⟨h, [], rfl, p2, rfl⟩⟩
          · have hs : a.spot = none ∧ a.block < W.heap.size := by
              rcases len with _ | len
              · have := hrest 0 (by omega)
                rw [List.getElem?_eq_getElem (by omega)] at this
                exact spot_ok hd.1 (by simp) this
              · have := hel 0 (by omega)
                rw [List.getElem?_eq_getElem (by omega)] at this
                exact spot_ok hd.1 (by simp) this
            refine (layw_row (fuel := n) ih u hd.2 a hs.1 elems len (fun i hi => ⟨hel i hi, _, List.getElem?_eq_getElem (by omega), fun k hk => hw k ?_⟩) β H l).bind fun β1 H1 s1 e1 l1 ⟨as, a0, a1, a2⟩ => ?_
            · simp only [DataW.weights, e, List.mem_cons, List.mem_append]
              exact .inr (.inl (weights_all (List.mem_map_of_mem (List.getElem_mem _)) hk))
            · refine (l1.push (cs := as) (e := u) (p := ⟨a.block, a.off, 0⟩) hs.2 a1).bind fun β2 H2 s2 e2 l2 ⟨h, p1, p2⟩ => ?_
              refine .pure l2 ⟨[.slice (some ⟨h, 0, none⟩) len (len + 1)], .cons ?_ .nil, len, hwl, .inr ⟨h, as, rfl, p2, a2.mono fun _ => Sh.mono e2⟩⟩
              obtain ⟨b, o, s⟩ := a
              obtain ⟨rfl, _⟩ := hs
              exact .slice (l := ⟨b, o, 0⟩) p1 hl (Nat.le_succ _) (fun h => by omega) (fun sz k _ h => by omega)
      | struct fs =>
        obtain ⟨xs, n, _, rfl, hcl, hxl, hfx⟩ := DataW.trod_struct e ht
        simp only [Bool.and_eq_true, beq_iff_eq, List.all_eq_true] at hr hd
        obtain ⟨⟨_, hsum⟩, hoff⟩ := hr
        refine (layw_each (fuel := n) ih cs xs fs.toList 0 0 (fun i f hf => ?_) β H l).bind fun β1 H1 s1 e1 l1 ⟨as, a1, a2⟩ => ?_
        · have hfi : fs[i]? = some f := by simpa using hf
          have hi : i < fs.size := (Array.getElem?_eq_some_iff.1 hfi).1
          rw [Nat.zero_add, Nat.zero_add]
          refine ⟨hd f (List.mem_of_getElem? hf), ?_, hfx i f hfi, xs[i]'(by omega), List.getElem?_eq_getElem (by omega), fun k hk => hw k ?_⟩
          · have := hoff i (by simp; omega)
            rw [hf] at this
            simpa using this
          · simp only [DataW.weights, e]
            refine weights_each (i := i) (t := f.type) (d := (xs[i]'(by omega)).1) ?_ ?_ hk
            · rw [List.getElem?_map, hf]; rfl
            · rw [List.getElem?_map, List.getElem?_eq_getElem (by omega)]; rfl
        · refine .pure l1 ⟨as, ?_, a2⟩
          rw [List.drop_zero, ← hsum, ← hcl, List.take_length] at a1
          exact a1
      | array n u =>
        obtain ⟨xs, k, _, rfl, hcl, hxl, hel⟩ := DataW.trod_array e ht
        simp only [Bool.and_eq_true, beq_iff_eq] at hr
        refine (layw_arr (fuel := k) ih u hd cs xs n (fun i hi => ⟨hel i hi, _, List.getElem?_eq_getElem (by omega), fun k hk => hw k ?_⟩) β H l).bind fun β1 H1 s1 e1 l1 ⟨as, a1, a2⟩ => ?_
        · simp only [DataW.weights, e]
          exact weights_all (List.mem_map_of_mem (List.getElem_mem _)) hk
        · refine .pure l1 ⟨as, ?_, a2⟩
          rw [← hr.2, ← hcl, List.take_length] at a1
          exact a1
      | _ => simp at hd
end
end Go.Am

/- A law's arguments, laid out; and what stands behind its call. -/
namespace Go.Am
open Go Go.RowKit

/-- What a value of a type is, in the abstract heap. -/
def ShV (P : Program) (H : AHeap) (m : Nat) (t : TypeId) (v : Value) : Prop := match P.underlying t with
  | some (.struct _) | some (.array _ _) => ∃ cs, v = .agg ⟨cs⟩ ∧ Sh P H m t cs
  | _ => Sh P H m t [v]
theorem ShV.mono {P : Program} {H H' : AHeap} (k : Ext H H') {m : Nat} {t : TypeId} {v : Value} (h : ShV P H m t v) : ShV P H' m t v := by
  unfold ShV at h ⊢
  split at h
  · obtain ⟨cs, e, h⟩ := h; exact ⟨cs, e, h.mono k⟩
  · obtain ⟨cs, e, h⟩ := h; exact ⟨cs, e, h.mono k⟩
  · exact h.mono k
def EachV (p : TypeId → Value → Prop) : List TypeId → List Value → Prop
  | [], vs => vs = []
  | t :: ts, vs => ∃ v us, vs = v :: us ∧ p t v ∧ EachV p ts us

theorem okWide_agg {P : Program} {W : World} {r : Reach} {b : Nat} {t : TypeId} {v : Value} (h : Value.okWide P W r b t v) : (∃ cs, v = .agg cs ∧ ((∃ fs, P.underlying t = some (.struct fs)) ∨ ∃ n e, P.underlying t = some (.array n e))) ∨
    (v.cells = #[v] ∧ (∀ fs, P.underlying t ≠ some (.struct fs)) ∧ ∀ n e, P.underlying t ≠ some (.array n e)) := by
  unfold Value.okWide at h
  split at h
  · rename_i fs e; obtain ⟨cs, rfl, _⟩ := h; exact .inl ⟨cs, rfl, .inl ⟨fs, e⟩⟩
  · rename_i n u e; obtain ⟨cs, rfl, _⟩ := h; exact .inl ⟨cs, rfl, .inr ⟨n, u, e⟩⟩
  · rename_i h1 h2
    refine .inr ⟨?_, fun fs e => h1 fs e, fun n u e => h2 n u e⟩
    cases v <;> try rfl
    exfalso
    unfold Cell.okWide at h
    split at h <;> try contradiction
    unfold Cell.ok at h
    split at h <;> first | contradiction | exact h

section
variable {P : Program} {HH : Type} {enc : TypeId × Value → HH} {W : World} {base : Nat} {held : Bool}
theorem layw_val (h0 : 0 < W.heap.size) (m : Nat) {t : TypeId} {v : Value} {d : DataW HH} {ps : List MemPlace} {r : Reach} {b : Nat} {W0 : World} (ht : DataW.Trod enc P W base (fun _ => true) held t v d ps) (hd : dataT P m t = true) (hv : Value.okWide P W0 r b t v) (hw : ∀ n ∈ d.weights P t, n ≤ reachBytes)
    (β : Inj) (H : AHeap) (l : Lying P W β H) : Lays P W β H fun β' H' => ∃ a, VRel β' a v ∧ ShV P H' m t a := by
  obtain ⟨fuel, hf⟩ := ht
  refine (layw_all h0 m _ _ _ _ hd hf hw β H l).bind fun β1 H1 s1 e1 l1 ⟨as, a1, a2⟩ => ?_
  rcases okWide_agg hv with ⟨⟨cs⟩, rfl, hk⟩ | ⟨hc, hk1, hk2⟩
  · refine .pure l1 ⟨.agg ⟨as⟩, .agg a1, ?_⟩
    unfold ShV
    rcases hk with ⟨fs, e⟩ | ⟨n, u, e⟩
    · rw [e]; exact ⟨as, rfl, a2⟩
    · rw [e]; exact ⟨as, rfl, a2⟩
  · rw [hc] at a1
    match as, a1 with
    | [a], .cons hv .nil =>
      refine .pure l1 ⟨a, hv, ?_⟩
      unfold ShV
      split
      · rename_i fs e; exact absurd e (hk1 fs)
      · rename_i n u e; exact absurd e (hk2 n u)
      · exact a2
theorem layw_args (h0 : 0 < W.heap.size) (m : Nat) {W0 : World} {r : Reach} {b : Nat} : ∀ (ts : List TypeId) (vs : List Value) (ds : List (DataW HH)) (ps : List MemPlace), DataW.TrodAll enc P W base (fun _ => true) held ts vs ds ps → (ts.all (dataT P m)) = true →
    (∀ (j : Nat) t v, ts[j]? = some t → vs[j]? = some v → Value.okWide P W0 r b t v) → (∀ n ∈ DataW.weightsEach P ts ds, n ≤ reachBytes) → ∀ (β : Inj) (H : AHeap), Lying P W β H → Lays P W β H fun β' H' => ∃ as, LRel β' as vs ∧ EachV (ShV P H' m) ts as
  | [], [], [], _, _, _, _, _, β, H, l => .pure l ⟨[], .nil, rfl⟩
  | t :: ts, v :: vs, d :: ds, _, ⟨p, q, h1, h2, _⟩, hd, hv, hw, β, H, l => by
    simp only [List.all_cons, Bool.and_eq_true] at hd
    refine (layw_val h0 m h1 hd.1 (hv 0 t v rfl rfl) (fun n hn => hw n ?_) β H l).bind fun β1 H1 s1 e1 l1 ⟨a, a1, a2⟩ => ?_
    · rw [DataW.weightsEach, List.mem_append]; exact .inl hn
    refine (layw_args h0 m ts vs ds q h2 hd.2 (fun j t' v' ht hv' => hv (j + 1) t' v' ht hv') (fun n hn => hw n ?_) β1 H1 l1).bind fun β2 H2 s2 e2 l2 ⟨as, b1, b2⟩ => ?_
    · rw [DataW.weightsEach, List.mem_append]; exact .inr hn
    exact .pure l2 ⟨a :: as, .cons (a1.mono s2) b1, a, as, rfl, a2.mono e2, b2⟩

theorem sh_int {H : AHeap} {m : Nat} {t : TypeId} {k : IntKind} {cs : List Value} (e : P.underlying t = some (.int k)) (h : Sh P H (m + 1) t cs) : ∃ n, cs = [.int k n] ∧ (Lit.int k n).wf = true := by unfold Sh at h; rw [e] at h; exact h
theorem sh_slice {H : AHeap} {m : Nat} {t e : TypeId} {cs : List Value} (u : P.underlying t = some (.slice e)) (h : Sh P H (m + 1) t cs) : ∃ n, n * P.bytesOf e ≤ reachBytes ∧ ((cs = [.slice none 0 0] ∧ n = 0) ∨ ∃ h ocs, cs = [.slice (some ⟨h, 0, none⟩) n (n + 1)] ∧ H.get h = .cells ocs e false ∧ RowP (Sh P H m e) n ocs) := by unfold Sh at h; rw [u] at h; exact h
theorem sh_struct {H : AHeap} {m : Nat} {t : TypeId} {fs : Array Field} {cs : List Value} (u : P.underlying t = some (.struct fs)) (h : Sh P H (m + 1) t cs) : EachP (Sh P H m) (fs.toList.map (·.type)) cs := by unfold Sh at h; rw [u] at h; exact h
theorem sh_array {H : AHeap} {m n : Nat} {t e : TypeId} {cs : List Value} (u : P.underlying t = some (.array n e)) (h : Sh P H (m + 1) t cs) : RowP (Sh P H m e) n cs := by unfold Sh at h; rw [u] at h; exact h
theorem shv_one {H : AHeap} {m : Nat} {t : TypeId} {v : Value} (u : (match P.underlying t with | some (.struct _) | some (.array _ _) => false | _ => true) = true) (h : ShV P H m t v) : Sh P H m t [v] := by
  unfold ShV at h
  split at h
  · rename_i e; rw [e] at u; cases u
  · rename_i e; rw [e] at u; cases u
  · exact h
theorem wf_uint {k : IntKind} {n : Int} (hk : k = .u8 ∨ k = .u16 ∨ k = .u32 ∨ k = .u64) (h : (Lit.int k n).wf = true) : ∃ x : Nat, n = (x : Int) ∧ x < 2 ^ k.bits := by
  simp only [Lit.wf, Bool.and_eq_true, decide_eq_true_eq] at h
  rcases hk with rfl | rfl | rfl | rfl
  · have e1 : IntKind.u8.min = 0 := by decide
    have e2 : IntKind.u8.max = 255 := by decide
    rw [e1, e2] at h; exact ⟨n.toNat, by omega, by show n.toNat < 2 ^ 8; omega⟩
  · have e1 : IntKind.u16.min = 0 := by decide
    have e2 : IntKind.u16.max = 65535 := by decide
    rw [e1, e2] at h; exact ⟨n.toNat, by omega, by show n.toNat < 2 ^ 16; omega⟩
  · have e1 : IntKind.u32.min = 0 := by decide
    have e2 : IntKind.u32.max = 4294967295 := by decide
    rw [e1, e2] at h; exact ⟨n.toNat, by omega, by show n.toNat < 2 ^ 32; omega⟩
  · have e1 : IntKind.u64.min = 0 := by decide
    have e2 : IntKind.u64.max = 18446744073709551615 := by decide
    rw [e1, e2] at h; exact ⟨n.toNat, by omega, by show n.toNat < 2 ^ 64; omega⟩
theorem flatten_ints (k : IntKind) (l : List Nat) : (l.map fun x : Nat => [Value.int k (x : Int)]).flatten = ints k l := by
  induction l with
  | nil => rfl
  | cons a l ih => simp only [List.map_cons, List.flatten_cons, ih, ints]; rfl
/-- A row of unsigned numbers. -/
theorem row_ints {H : AHeap} {m n : Nat} {e : TypeId} {k : IntKind} {cs : List Value} (u : P.underlying e = some (.int k)) (hk : k = .u8 ∨ k = .u16 ∨ k = .u32 ∨ k = .u64) (h : RowP (Sh P H (m + 1) e) n cs) : ∃ l : List Nat, l.length = n ∧ cs = ints k l ∧ ∀ x ∈ l, x < 2 ^ k.bits := by
  obtain ⟨l, h1, h2, h3⟩ := h.list (enc := fun x : Nat => [.int k (x : Int)]) (Q := fun x => x < 2 ^ k.bits) fun a ha => by
    obtain ⟨z, e1, e2⟩ := sh_int u ha
    obtain ⟨x, rfl, hx⟩ := wf_uint hk e2
    exact ⟨x, e1, hx⟩
  exact ⟨l, h1, by rw [h2, flatten_ints], h3⟩

/-- What was read may be read again behind a call that leaves it. -/
theorem trod_below (hl : laidOutB P = true) {W' : World} (hb : Below W.heap.size W W') : ∀ (ts : List TypeId) (vs : List Value) (ds : List (DataW HH)) (ps : List MemPlace), DataW.TrodAll enc P W 0 (fun _ => true) true ts vs ds ps → (ts.all fun t => P.readableRec t && decide (t < P.types.size)) = true → (∀ x ∈ ps, x.block < W.heap.size) →
    DataW.TrodAll enc P W' 0 (fun b => decide (b < W.heap.size)) true ts vs ds ps
  | [], [], [], _, h, _, _ => h
  | t :: ts, v :: vs, d :: ds, _, ⟨p, q, h1, h2, e⟩, hr, hlt => by
    subst e
    simp only [List.all_cons, Bool.and_eq_true, decide_eq_true_eq] at hr
    exact ⟨p, q, Below.trod hl hr.1.1 hr.1.2 h1 hb (fun x hx => hlt x (List.mem_append_left _ hx)), trod_below hl hb ts vs ds q h2 hr.2 (fun x hx => hlt x (List.mem_append_right _ hx)), rfl⟩
end
end Go.Am
