/- The abstract machine: drawn regions, runs, rules. -/
import Derived.Test.YtcaafoibabijgaaAmB
import Derived.Carry
import Derived.IntWalk
set_option linter.unusedSimpArgs false
set_option linter.unusedVariables false
/- A region in any order is sound. -/
namespace Go.Am
open Go

section
variable {P : Program} {B : Nat} {call : CallF} {ops : Array Oper} {ps : List (Nat × Nat)} {T : Nat → AS} {β₀ : Inj} {H₀ : AHeap} {w₀ : World} {a₀ : Act} {S : Nat → Bool} {i j : Nat} {o : Oper} {β : Inj} {a : Act} {w : World}

/-- What a reading operation meets. -/
theorem DI.meets (d : DI P B ops T β₀ H₀ w₀ a₀ S j β a w) (t : Tr P call ops H₀.next T) (r : Rdy P ops ps S i o) (hr : isR P o = true) {h : Nat} {l : Loc} (hb : β h = some l)
    (hread : ∀ c, c < ops.size → (i, c) ∈ ps → (T (c + 1)).H.get h = (T c).H.get h) : ORel β l w ((T i).H.get h) := by
  have ho := d.st.rel.obj h l hb
  rw [viewH_get (d.rng t)] at ho
  have hin := r.lt
  have hjl := d.jle
  have hcs : ∀ c, Chn P ops c → (S c = true ↔ c < i) ∨ (T (c + 1)).H.get h = (T c).H.get h := fun c hch => by
    have hci : c ≠ i := fun e => by
      subst e
      obtain ⟨oc, ho', hw⟩ := hch
      rw [r.at', Option.some.injEq] at ho'
      subst ho'
      simp only [isR, isW, beq_iff_eq, Bool.or_eq_true] at hr hw
      rw [hr] at hw
      simp at hw
    rcases r.readOrder hr hch hci with h1 | h1
    · exact .inl h1
    · obtain ⟨oc, ho', _⟩ := hch
      exact .inr (hread c (Array.getElem?_eq_some_iff.1 ho').1 h1)
  by_cases hh : H₀.next ≤ h ∧ h < H₀.next + ops.size
  · obtain ⟨k, rfl⟩ : ∃ k, h = H₀.next + k := ⟨h - H₀.next, by omega⟩
    have hk : k < ops.size := by omega
    have hs : S k = true := by
      cases hs : S k with
      | true => rfl
      | false => rw [d.slots k hk hs] at hb; simp at hb
    rw [view_slot hk, if_pos hs] at ho
    rcases Nat.lt_or_ge k i with hlt | hge
    · rw [t.heap2 (a := i) (b := max j (k + 1)) (by omega) (by omega) (fun c hch => ?_) (fun k' e => by omega)]
      · exact ho
      · -- a chain's operation ahead of k's own place leaves the slot as it was
        rcases hcs c hch with h1 | h1
        · have h2 := d.chain c hch
          have e : c < i ↔ c < j := by rw [← h1, h2]
          by_cases hck : c < max j (k + 1)
          · by_cases hcj : c < j
            · exact .inl (by omega)
            · -- j ≤ c ≤ k, so c < i, so c < j
              exact absurd (e.1 (by omega)) hcj
          · exact .inl (by omega)
        · exact .inr h1
    · rw [t.late hk i hge]; trivial
  · rw [view_free hh] at ho
    rw [t.heap2 (a := i) (b := j) (by omega) hjl (fun c hch => ?_) (fun k e => by omega)]
    · exact ho
    · rcases hcs c hch with h1 | h1
      · left; rw [← h1, d.chain c hch]
      · exact .inr h1

theorem DI.op (hP : GoodP P) (hcall : CallSim P B call) (d : DI P B ops T β₀ H₀ w₀ a₀ S j β a w) (t : Tr P call ops H₀.next T) (r : Rdy P ops ps S i o) (hg : goodO P o = true)
    (hread : ∀ h, readAt P ops i (T i) = some h → ∀ c, c < ops.size → (i, c) ∈ ps → (T (c + 1)).H.get h = (T c).H.get h) {Q : Exit → Act → World → Prop} {K : Act → World → Prop}
    (hK : ∀ j' β' a' w', DI P B ops T β₀ H₀ w₀ a₀ (plus S i) j' β' a' w' → K a' w') : wpOp P ops Q i K a w := by
  have hs := t.step i r.lt
  have hρ := d.opers t r hg
  have hw := d.wanted t r
  unfold wpOp
  unfold dAt at hs
  simp only [r.at'] at hs ⊢
  rw [hw] at hs
  split at hs
  · rename_i hwant
    simp only [hwant, if_true]
    left
    unfold Oper.wp
    unfold dStep at hs
    split at hs
    · rename_i hcls
      simp only [Option.map_eq_some_iff] at hs
      obtain ⟨⟨obj, f⟩, hq, hT⟩ := hs
      obtain ⟨w', v', o', lim, hr, hgr, hnew⟩ := nop_sim w hP.zero hq hρ
      obtain ⟨h1, h2⟩ := hnew _ (H₀.next + i) (Inj.put_sub (d.slots i r.lt r.un)) (Inj.put_same _ _ _)
      rw [hr]
      exact hK _ _ _ _ (d.new t r (by simp [isW, hcls]) hgr h1 h2 hT.symm)
    · rename_i hcls
      unfold opStep at hs
      split at hs
      · rename_i hc
        simp only [Option.map_eq_some_iff] at hs
        obtain ⟨v, hv, hT⟩ := hs
        obtain ⟨v', hr, hvr⟩ := pop_sim hP.zero hv hρ w
        rw [hr]
        exact hK _ _ _ _ (d.free t r (by simp [isW, hc]) hvr hT.symm)
      · rename_i hc
        simp only [Option.bind_eq_some_iff, Option.map_eq_some_iff] at hs
        obtain ⟨⟨hd, f⟩, hq, v, hv, hT⟩ := hs
        obtain ⟨v', hr, hvr⟩ := rop_sim (w := w) (β := β) hP.zero hq hv hρ (fun h hh l hl => by
          subst hh
          refine d.meets t r (by simp [isR, hc]) hl (hread h ?_)
          simp only [readAt, r.at', hw, hwant, if_true, hq, Option.bind_some])
        rw [hr]
        exact hK _ _ _ _ (d.free t r (by simp [isW, hc]) hvr hT.symm)
      · rename_i hc; exact absurd hc hcls
      · rename_i hc
        have hcw : isW P o = true := by simp [isW, hc]
        have hrel := d.relAt t r hcw
        simp only [Option.map_eq_some_iff] at hs
        obtain ⟨⟨v, H'⟩, hq, hT⟩ := hs
        obtain ⟨β', w', n, v', hr, hnx, hst, hv⟩ := wop_sim hrel hq hρ
        have eH : (T (i + 1)).H = H' := by rw [← hT]
        have etm : (T (i + 1)).tm = putT (T i).tm o.dst v := by rw [← hT]
        rw [← eH] at hst
        rw [hr]
        cases hnx with
        | value => exact hK _ _ _ _ (d.chn t r hcw hst hv etm)
        | skip => exact hK _ _ _ _ (d.chn t r hcw hst hv etm)
      · rename_i hc
        have hcw : isW P o = true := by simp [isW, hc]
        have hrel := d.relAt t r hcw
        simp only [Option.bind_eq_some_iff, Option.map_eq_some_iff] at hs
        obtain ⟨⟨g, args⟩, hq, ⟨v, H'⟩, hcl, hT⟩ := hs
        obtain ⟨args', hr, ha⟩ := cop_sim hq hρ w
        have eH : (T (i + 1)).H = H' := by rw [← hT]
        have etm : (T (i + 1)).tm = putT (T i).tm o.dst v := by rw [← hT]
        rw [hr]
        rw [Oper.upon_enter]
        refine (hcall g args _ v H' hcl β w args' hrel ha).mono ?_
        rintro e w' ⟨v', β', rfl, hst, hv⟩
        rw [← eH] at hst
        exact hK _ _ _ _ (d.chn t r hcw hst hv etm)
  · rename_i hwant
    simp only [hwant, if_false, Bool.false_eq_true]
    simp only [Option.some.injEq] at hs
    by_cases hcw : isW P o = true
    · have hrel := d.relAt t r hcw
      have eH : (T (i + 1)).H = (T i).H := by rw [← hs]
      have hst : Step P B β (T i).H w β (T (i + 1)).H w := by rw [eH]; exact .refl hrel
      exact hK _ _ _ _ (d.chn t r hcw hst (v := undef) (.tuple .nil) (by rw [← hs]))
    · exact hK _ _ _ _ (d.free t r (by simpa using hcw) (v := undef) (.tuple .nil) hs.symm)

/-- Where all is done. -/
theorem DI.done (d : DI P B ops T β₀ H₀ w₀ a₀ S j β a w) (t : Tr P call ops H₀.next T) (hall : ∀ k, k < ops.size → S k = true) : Stands P B β₀ H₀ w₀ a₀ (T ops.size) a w := by
  have hjl := d.jle
  have hno : ∀ c, j ≤ c → c < ops.size → ¬ Chn P ops c := fun c h1 h2 hch => by have := (d.chain c hch).1 (hall c h2); omega
  refine ⟨⟨β, d.st.same (t.sameNext hjl (Nat.le_refl _) hno |>.trans (viewH_next _ _ _ _ _).symm) fun x => ?_, ?_⟩, d.defers⟩
  · rw [viewH_get (d.rng t)]
    by_cases hh : H₀.next ≤ x ∧ x < H₀.next + ops.size
    · obtain ⟨k, rfl⟩ : ∃ k, x = H₀.next + k := ⟨x - H₀.next, by omega⟩
      have hk : k < ops.size := by omega
      rw [view_slot hk, if_pos (hall k hk)]
      exact t.heap (by omega) (Nat.le_refl _) (fun c h1 h2 hch => absurd hch (hno c (by omega) h2)) (fun k' e hb => by omega)
    · rw [view_free hh]
      exact t.heap hjl (Nat.le_refl _) (fun c h1 h2 hch => absurd hch (hno c h1 h2)) (fun k e hb => by omega)
  · refine .of_get (by rw [d.len]; exact ((t.next ops.size (Nat.le_refl _)).2).symm) fun x v hv => ?_
    obtain ⟨jt, hjt, hc, hvr⟩ := d.tm x
    have hlt : x < (T ops.size).tm.length := (List.getElem?_eq_some_iff.1 hv).1
    have hlt' : x < a.tmps.toList.length := by rw [d.len, (t.next ops.size (Nat.le_refl _)).2]; exact hlt
    rw [t.tm2 (a := jt) (b := ops.size) hjt (Nat.le_refl _) (fun c hd => by
      have hcn : c < ops.size := by obtain ⟨oc, ho, _⟩ := hd; exact (Array.getElem?_eq_some_iff.1 ho).1
      have := (hc c hd).1 (hall c hcn)
      omega)] at hvr
    refine ⟨_, List.getElem?_eq_getElem hlt', ?_⟩
    simp only [List.getD, hv, Option.getD_some, List.getElem?_eq_getElem hlt'] at hvr
    exact hvr

theorem any_sim (hP : GoodP P) (hcall : CallSim P B call) (st : DStatic P ops ps) (t : Tr P call ops H₀.next T) (hg : ops.toList.all (goodO P) = true)
    (hread : ∀ i h, i < ops.size → readAt P ops i (T i) = some h → ∀ c, c < ops.size → (i, c) ∈ ps → (T (c + 1)).H.get h = (T c).H.get h) {Q : Exit → Act → World → Prop} (hQ : ∀ a' w', Stands P B β₀ H₀ w₀ a₀ (T ops.size) a' w' → Q .normal a' w') :
    ∀ (fuel : Nat) (listed : Array Bool) (j : Nat) (β : Inj) (a : Act) (w : World), listed.size = ops.size → listed.toList.count false ≤ fuel → DI P B ops T β₀ H₀ w₀ a₀ (fun k => listed.getD k false) j β a w → wpAny P .any ops Q fuel listed a w := by
  have full : ∀ (listed : Array Bool) (j : Nat) (β : Inj) (a : Act) (w : World), listed.size = ops.size → Region.ready .any ops listed = [] → DI P B ops T β₀ H₀ w₀ a₀ (fun k => listed.getD k false) j β a w → Q .normal a w := by
    intro listed j β a w hsz hr d
    refine hQ a w (d.done t ?_)
    intro k
    induction k using Nat.strongRecOn with
    | _ k ih =>
      intro hk
      cases hs : listed.getD k false with
      | true => rfl
      | false =>
        exfalso
        have hk' : k < listed.size := by omega
        have : k ∈ Region.ready .any ops listed := by
          rw [mem_ready]
          refine ⟨?_, ops[k], by simp [hk], fun e he hb => ?_⟩
          · simp [Array.getD, hk'] at hs ⊢; exact hs
          · have hacc := st.acyc k ops[k] (by simp [hk]) e (by simpa using he) hb
            exact ih e.on hacc (by omega)
        rw [hr] at this
        simp at this
  intro fuel
  induction fuel with
  | zero =>
    intro listed j β a w hsz hcnt d
    have hall : ∀ k, k < listed.size → listed.getD k false = true := by
      intro k hk
      have hmem : false ∉ listed.toList := List.count_eq_zero.1 (by omega)
      cases hs : listed.getD k false with
      | true => rfl
      | false =>
        exfalso
        apply hmem
        simp [Array.getD, hk] at hs
        rw [← hs]
        simp
    have hnil : Region.ready .any ops listed = [] := by
      rw [List.eq_nil_iff_forall_not_mem]
      intro k hk
      obtain ⟨h1, o, ho, _⟩ := mem_ready.1 hk
      have hlt : k < listed.size := by rw [hsz]; exact (Array.getElem?_eq_some_iff.1 ho).1
      have := hall k hlt
      simp [Array.getD, hlt] at this h1
      rw [this] at h1
      simp at h1
    exact ⟨hnil, full listed j β a w hsz hnil d⟩
  | succ fuel ih =>
    intro listed j β a w hsz hcnt d
    refine ⟨fun hnil => full listed j β a w hsz hnil d, fun i hi => ?_⟩
    obtain ⟨h1, o, ho, hall⟩ := mem_ready.1 hi
    have hin : i < ops.size := (Array.getElem?_eq_some_iff.1 ho).1
    have hil : i < listed.size := by omega
    have hun : listed.getD i false = false := by simp [Array.getD, hil] at h1 ⊢; exact h1
    have r : Rdy P ops ps (fun k => listed.getD k false) i o := ⟨ho, hun, fun e he hb => hall e (by simpa using he) hb, d.closed, st⟩
    refine d.op hP hcall t r (List.all_eq_true.1 hg o (by rw [← Array.getElem?_toList] at ho; exact List.mem_of_getElem? ho)) (fun h hh => hread i h hin hh) fun j' β' a' w' d' => ?_
    refine ih (listed.setIfInBounds i true) j' β' a' w' (by simp [hsz]) ?_ ?_
    · have hli : listed.toList[i]'(by simpa using hil) = false := by simp [Array.getD, hil] at hun; simpa using hun
      rw [Array.toList_setIfInBounds, List.count_set (by simpa using hil)]
      simp [hli]
      have : 0 < listed.toList.count false := List.count_pos_iff.2 (by rw [← hli]; exact List.getElem_mem _)
      have h2 : listed.toList.count false ≤ fuel + 1 := hcnt
      simp at this h2
      omega
    · have e : (fun k => (listed.setIfInBounds i true).getD k false) = plus (fun k => listed.getD k false) i := by
        funext k
        by_cases hk : k = i
        · subst hk; simp [plus, Array.getD, hil]
        · rw [plus_ne hk, getD_set_ne false (Ne.symm hk)]
      rw [e]
      exact d'
end

theorem reserve_fresh {P : Program} {B : Nat} {β : Inj} {H : AHeap} {w : World} (r : HRel P B β H w) (n : Nat) : Step P B β H w β (reserve H n) w where
  sub := .refl β
  rel := r.less (by rw [reserve_next]; omega) fun x l _ => .inl (reserve_get H n x)
  size := Nat.le_refl _
  os := rfl
  output := rfl
  tape := rfl
  frame := fun _ _ _ => rfl
  own := fun h l e hw _ => ⟨h, l, e, by rwa [reserve_get] at hw, rfl⟩
  next := by rw [reserve_next]; omega
  keep := fun h _ e => ⟨reserve_get H n h, e⟩

theorem aDraw_tr {P : Program} {call : CallF} {ops : Array Oper} {s s' : AS} (hk : CallKeep call) (h : aDraw P call ops s = some s') :
    ∃ ps T, DStatic P ops ps ∧ Tr P call ops s.H.next T ∧ T 0 = ⟨s.tm, reserve s.H ops.size⟩ ∧ T ops.size = s' ∧
      (∀ i h, i < ops.size → readAt P ops i (T i) = some h → ∀ c, c < ops.size → (i, c) ∈ ps → (T (c + 1)).H.get h = (T c).H.get h) := by
  simp only [aDraw, Option.bind_eq_some_iff, Option.ite_none_right_eq_some, Option.some.injEq] at h
  obtain ⟨ps, hps, acc, hgo, hok, rfl⟩ := h
  obtain ⟨T, t0, tn, ts, tr, tw, _, _⟩ := dGo_trace _ _ _ _ hgo
  rw [Nat.zero_add] at tn
  refine ⟨ps, T, drawPairs_static hps, ⟨fun j hj => ts j (Nat.zero_le _) (by omega), by rw [t0]; simp [reserve_next], fun k hk => ?_, hk⟩, t0, tn, ?_⟩
  · rw [t0]
    simp only
    rw [reserve_get, get_ge _ _ (by omega)]
  · intro i h hi hr c hc hp
    have h1 : ps.any (fun p => p.1 == i) = true := List.any_eq_true.2 ⟨(i, c), hp, by simp⟩
    have h2 : ps.any (fun p => p.2 == c) = true := List.any_eq_true.2 ⟨(i, c), hp, by simp⟩
    exact (hok (i, c) hp (i, h) (tr i h (Nat.zero_le _) (by omega) h1 hr) rfl _ (tw c (Nat.zero_le _) (by omega) h2) rfl).symm

theorem aDraw_sim {P : Program} {B : Nat} {call : CallF} (hm : P.follows .mixedOrders = true) (hP : GoodP P) (hcall : CallSim P B call) (hk : CallKeep call) : DrawSim P B (aDraw P call) := by
  intro ops id s s' h hg β w a r ht Q hQ
  obtain ⟨ps, T, st, t, t0, tn, hread⟩ := aDraw_tr hk h
  refine wp_region_any hm ?_
  have hfalse : ∀ k, (Array.replicate ops.size false).getD k false = false := fun k => by simp [Array.getD]
  have hrep : (Array.replicate ops.size false).toList.count false ≤ ops.size := by simp
  refine any_sim (P := P) (B := B) (H₀ := s.H) (β₀ := β) (w₀ := w) (a₀ := a) (T := T) hP hcall st t hg hread (fun a' w' hs => hQ a' w' (by rw [← tn]; exact hs)) ops.size _ 0 β a _ (by simp) hrep ?_
  refine ⟨?_, Nat.zero_le _, fun k hk' _ => r.none_of_ge (by omega), fun c hc => ?_, fun k _ _ h0 => by omega, ?_, fun x => ⟨0, Nat.zero_le _, fun c hd => ?_, ?_⟩, ?_, rfl⟩
  · have h1 : Step P B β s.H w β (reserve s.H ops.size) w.drew := (reserve_fresh r ops.size).trans (.drew (reserve_fresh r ops.size).rel)
    have hrng : s.H.next + ops.size ≤ (T 0).H.next := t.start
    refine h1.same (by rw [viewH_next, t0]) fun x => ?_
    rw [viewH_get hrng]
    by_cases hh : s.H.next ≤ x ∧ x < s.H.next + ops.size
    · obtain ⟨k, rfl⟩ : ∃ k, x = s.H.next + k := ⟨x - s.H.next, by omega⟩
      rw [view_slot (by omega), reserve_get, if_neg (by rw [hfalse]; simp), get_ge s.H _ (by omega)]
    · rw [view_free hh, t0]
  · show (Array.replicate ops.size false).getD c false = true ↔ c < 0
    rw [hfalse]; simp
  · rw [t0]; exact ht.length.symm
  · show (Array.replicate ops.size false).getD c false = true ↔ c < 0
    rw [hfalse]; simp
  · have := ht.getD x (d := undef) (d' := undef) (.tuple .nil)
    rw [t0]; exact this
  · intro k o _ hs
    simp only [hfalse] at hs
    simp at hs

theorem aDraw_keep {P : Program} {call : CallF} (hk : CallKeep call) : DrawKeep (aDraw P call) := by
  intro ops s s' h
  obtain ⟨ps, T, st, t, t0, tn, hread⟩ := aDraw_tr hk h
  have key : ∀ i, i ≤ ops.size → AKeep s.H (T i).H := by
    intro i
    induction i with
    | zero =>
      intro _
      rw [t0]
      exact ⟨by simp only [reserve_next]; omega, fun h _ hd => by simp only [reserve_get]; exact hd, fun h _ => .inr (reserve_get _ _ _), fun h _ _ => reserve_get _ _ _⟩
    | succ i ih =>
      intro hi
      have k := ih (by omega)
      have hs := t.step i (by omega)
      by_cases hc : Chn P ops i
      · exact k.trans (dAt_keep hk hc hs)
      · rcases dAt_heap hc hs with e | ⟨obj, hw, e⟩ <;> rw [e]
        · exact k
        · have hlate := t.late (k := i) (by omega) i (Nat.le_refl _)
          refine ⟨by rw [next_set]; exact k.next, fun x hx hd => ?_, fun x hl => ?_, fun x h1 h2 => ?_⟩
          · rw [get_set_ne _ _ _ _ (by omega)]; exact k.dead x hx hd
          · by_cases hx : x = s.H.next + i
            · subst hx
              left
              rw [get_set_same _ _ _ (by have := (t.next i (by omega)).1; omega)]
              exact hw
            · rw [get_set_ne _ _ _ _ (Ne.symm hx)] at hl ⊢
              exact k.fresh x hl
          · by_cases hx : x = s.H.next + i
            · subst hx
              rw [get_ge _ _ (by omega)] at h1; simp [AObj.live] at h1
            · rw [get_set_ne _ _ _ _ (Ne.symm hx)]
              exact k.ro x h1 h2
  rw [← tn]
  exact key ops.size (Nat.le_refl _)
end Go.Am

/- The abstract machine, whole. -/
namespace Go.Am
open Go

/-- A call of the abstract machine, so deep. -/
noncomputable def call (P : Program) (pr : Prims) (n : Nat) : CallF := aCall P pr (aDraw P) n

theorem call_keep {P : Program} {pr : Prims} (hp : PrimKeep pr) (n : Nat) : CallKeep (call P pr n) := aCall_keep (fun _ h => aDraw_keep h) hp n

theorem call_sim {P : Program} {B : Nat} {pr : Prims} (hm : P.follows .mixedOrders = true) (hP : GoodP P) (hk : PrimKeep pr) (hp : PrimSim P B pr) (n : Nat) : CallSim P B (call P pr n) :=
  aCall_sim (Kp := CallKeep) (fun n => aCall_keep (fun _ h => aDraw_keep h) hk n) hP (fun _ hc hkc => aDraw_sim hm hP hc hkc) hp n

/-- No pieces that are told by themselves. -/
def noPrims : Prims := ⟨fun _ _ => none, fun _ => none, fun _ _ => none⟩

theorem noPrims_keep : PrimKeep noPrims := ⟨fun _ _ _ h => by simp [noPrims] at h, fun _ _ h => by simp [noPrims] at h⟩
theorem noPrims_sim (P : Program) (B : Nat) : PrimSim P B noPrims := ⟨fun _ _ _ h => by simp [noPrims] at h, fun _ _ h => by simp [noPrims] at h⟩
end Go.Am

/- The abstract machine, to be run by the kernel: objects are compared by program. -/
namespace Go.Am
open Go

def sameFn : Fn → Fn → Bool
  | .func a, .func b => a == b
  | _, _ => false

theorem sameFn_eq {a b : Fn} (h : sameFn a b = true) : a = b := by
  cases a <;> cases b <;> simp [sameFn] at h
  rw [h]

def sameB (a b : ByteArray) : Bool := a.data.toList == b.data.toList

theorem sameB_eq {a b : ByteArray} (h : sameB a b = true) : a = b := by
  obtain ⟨⟨a⟩⟩ := a
  obtain ⟨⟨b⟩⟩ := b
  simp only [sameB, beq_iff_eq] at h
  rw [h]

def sameO : Option Addr → Option Addr → Bool
  | none, none => true
  | some ⟨a, b, none⟩, some ⟨c, d, none⟩ => a == c && b == d
  | _, _ => false

theorem sameO_eq {a b : Option Addr} (h : sameO a b = true) : a = b := by
  unfold sameO at h
  split at h
  · rfl
  · simp only [Bool.and_eq_true, beq_iff_eq] at h
    rw [h.1, h.2]
  · simp at h

mutual
def sameV : Value → Value → Bool
  | .bool a, .bool b => a == b
  | .int k a, .int l b => k == l && a == b
  | .string a, .string b => sameB a b
  | .pointer a, .pointer b => sameO a b
  | .slice a n c, .slice b m d => sameO a b && n == m && c == d
  | .map a, .map b => a == b
  | .func f ⟨a⟩ ⟨b⟩, .func g ⟨c⟩ ⟨d⟩ => sameFn f g && sameL a c && sameL b d
  | .nilFunc, .nilFunc => true
  | .iface t a, .iface u b => t == u && sameV a b
  | .nilIface, .nilIface => true
  | .agg ⟨a⟩, .agg ⟨b⟩ => sameL a b
  | .tuple ⟨a⟩, .tuple ⟨b⟩ => sameL a b
  | _, _ => false
def sameL : List Value → List Value → Bool
  | [], [] => true
  | a :: as, b :: bs => sameV a b && sameL as bs
  | _, _ => false
end

mutual
theorem sameV_eq : ∀ {a b : Value}, sameV a b = true → a = b
  | .bool a, b, h => by cases b <;> simp [sameV] at h; rw [h]
  | .int k a, b, h => by cases b <;> simp [sameV] at h; rw [h.1, h.2]
  | .float .., b, h => by simp [sameV] at h
  | .complex .., b, h => by simp [sameV] at h
  | .string a, b, h => by cases b <;> simp [sameV] at h; rw [sameB_eq h]
  | .pointer a, b, h => by cases b <;> simp [sameV] at h; rw [sameO_eq h]
  | .slice a n c, b, h => by cases b <;> simp [sameV] at h; rw [sameO_eq h.1.1, h.1.2, h.2]
  | .map a, b, h => by cases b <;> simp [sameV] at h; rw [h]
  | .chan a, b, h => by simp [sameV] at h
  | .func f ⟨a⟩ ⟨b⟩, v, h => by
    cases v <;> simp [sameV] at h
    rename_i g c d
    obtain ⟨c⟩ := c
    obtain ⟨d⟩ := d
    simp only [sameV, Bool.and_eq_true] at h
    rw [sameFn_eq h.1.1, sameL_eq h.1.2, sameL_eq h.2]
  | .nilFunc, b, h => by cases b <;> simp [sameV] at h; rfl
  | .iface t a, b, h => by cases b <;> simp [sameV] at h; rw [h.1, sameV_eq h.2]
  | .nilIface, b, h => by cases b <;> simp [sameV] at h; rfl
  | .agg ⟨a⟩, v, h => by
    cases v <;> simp [sameV] at h
    rename_i c
    obtain ⟨c⟩ := c
    simp only [sameV] at h
    rw [sameL_eq h]
  | .tuple ⟨a⟩, v, h => by
    cases v <;> simp [sameV] at h
    rename_i c
    obtain ⟨c⟩ := c
    simp only [sameV] at h
    rw [sameL_eq h]
theorem sameL_eq : ∀ {a b : List Value}, sameL a b = true → a = b
  | [], [], _ => rfl
  | [], _ :: _, h => by simp [sameL] at h
  | _ :: _, [], h => by simp [sameL] at h
  | a :: as, b :: bs, h => by simp only [sameL, Bool.and_eq_true] at h; rw [sameV_eq h.1, sameL_eq h.2]
end

end Go.Am

/- From the abstract machine's answer to the machine's call, for a row: the law returns true, and nothing that was there turns. -/
namespace Go.Am
open Go Go.RowKit

theorem Step.below {P : Program} {β β' : Inj} {H H' : AHeap} {W W' : World} (st : Step P W.heap.size β H W β' H' W') (hro : ∀ h, (H.get h).wlive = false) : Below W.heap.size W W' :=
  ⟨st.os, st.tape, st.output, st.size, fun k hk => st.frame k hk fun h l _ hw => by rw [hro h] at hw; simp at hw⟩

theorem sim_true {P : Program} {cf : CallF} {f : FuncId} {W : World} {xs : List Value} {args : Array Value} {β : Inj} {H H' : AHeap} (hs : CallSim P W.heap.size cf) (hrun : cf f xs H = some (.bool true, H')) (r : HRel P W.heap.size β H W)
    (hro : ∀ h, (H.get h).wlive = false) (ha : LRel β xs args.toList) : Calls P f args W fun e W' => e = .returned (.bool true) ∧ Below W.heap.size W W' := by
  have := hs f xs H _ H' hrun β W args.toList r ha
  refine this.mono ?_
  rintro e W' ⟨v', β', rfl, st, hv⟩
  cases hv
  exact ⟨rfl, st.below hro⟩
end Go.Am

/- More fuel, the same answer. -/
namespace Go.Am
open Go

def Le (c d : CallF) : Prop := ∀ g args H r, c g args H = some r → d g args H = some r

theorem Le.refl (c : CallF) : Le c c := fun _ _ _ _ h => h

theorem opStep_mono {P : Program} {c d : CallF} (hl : Le c d) {o : Oper} {s s' : AS} (h : opStep P c o s = some s') : opStep P d o s = some s' := by
  unfold opStep at h ⊢
  split at h
  · exact h
  · exact h
  · exact h
  · exact h
  · simp only [Option.bind_eq_some_iff, Option.map_eq_some_iff] at h ⊢
    obtain ⟨q, hq, u, hu, rfl⟩ := h
    exact ⟨q, hq, u, hl _ _ _ _ hu, rfl⟩

theorem runOps_mono {P : Program} {c d : CallF} (hl : Le c d) {ops : Array Oper} : ∀ (l : List Nat) {s s' : AS}, runOps P c ops l s = some s' → runOps P d ops l s = some s'
  | [], _, _, h => h
  | i :: l, s, s', h => by
    simp only [runOps] at h ⊢
    cases ho : ops[i]? with
    | none => simp only [ho] at h ⊢; exact runOps_mono hl l h
    | some o =>
      simp only [ho] at h ⊢
      split
      · rename_i hw
        simp only [hw, if_true, Option.bind_eq_some_iff] at h ⊢
        obtain ⟨s1, h1, h2⟩ := h
        exact ⟨s1, opStep_mono hl h1, runOps_mono hl l h2⟩
      · rename_i hw
        simp only [hw, if_false, Bool.false_eq_true] at h
        exact runOps_mono hl l h

theorem dAt_mono {P : Program} {c d : CallF} (hl : Le c d) {ops : Array Oper} {base i : Nat} {s s' : AS} (h : dAt P c ops base i s = some s') : dAt P d ops base i s = some s' := by
  unfold dAt at h ⊢
  split at h
  · exact h
  · split at h
    · rename_i hw
      simp only [hw, if_true]
      unfold dStep at h ⊢
      split at h
      · exact h
      · exact opStep_mono hl h
    · rename_i hw
      simp only [hw, if_false, Bool.false_eq_true]
      exact h

theorem dGo_mono {P : Program} {c d : CallF} (hl : Le c d) {ops : Array Oper} {ps : List (Nat × Nat)} {base : Nat} : ∀ (k i : Nat) {a a' : DAcc}, dGo P c ops ps base k i a = some a' → dGo P d ops ps base k i a = some a'
  | 0, _, _, _, h => h
  | k + 1, i, a, a', h => by
    simp only [dGo, Option.bind_eq_some_iff] at h ⊢
    obtain ⟨s1, h1, h2⟩ := h
    exact ⟨s1, dAt_mono hl h1, dGo_mono hl k (i + 1) h2⟩

theorem aDraw_mono {P : Program} {c d : CallF} (hl : Le c d) {ops : Array Oper} {s s' : AS} (h : aDraw P c ops s = some s') : aDraw P d ops s = some s' := by
  simp only [aDraw, Option.bind_eq_some_iff] at h ⊢
  obtain ⟨ps, hp, a, ha, h⟩ := h
  exact ⟨ps, hp, a, dGo_mono hl _ _ ha, h⟩

theorem aLoop_mono {f g : AS → Option (AEx × AS)} (hfg : ∀ s r, f s = some r → g s = some r) : ∀ (n m : Nat), n ≤ m → ∀ {s : AS} {r : AEx × AS}, aLoop f n s = some r → aLoop g m s = some r
  | 0, _, _, _, _, h => by simp [aLoop] at h
  | n + 1, 0, hnm, _, _, _ => by omega
  | n + 1, m + 1, hnm, s, r, h => by
    simp only [aLoop, Option.bind_eq_some_iff] at h ⊢
    obtain ⟨⟨e, s1⟩, h1, h2⟩ := h
    refine ⟨_, hfg _ _ h1, ?_⟩
    cases e with
    | normal => exact aLoop_mono hfg n m (by omega) h2
    | exit id => exact h2
    | goto l => exact h2
    | ret => exact h2

theorem aCode_mono {P : Program} {pr : Prims} {c d : CallF} {dr dr' : Array Oper → AS → Option AS} (hl : Le c d) (hd : ∀ ops s s', dr ops s = some s' → dr' ops s = some s') {f : FuncId} {n m : Nat} (hnm : n ≤ m) :
    ∀ (x : Code) {s : AS} {r : AEx × AS}, aCode P pr c dr f n x s = some r → aCode P pr d dr' f m x s = some r
  | .skip, s, r, h => h
  | .region _ ops false, s, r, h => by
    simp only [aCode, Option.map_eq_some_iff] at h ⊢
    obtain ⟨s1, h1, rfl⟩ := h
    exact ⟨s1, runOps_mono hl _ h1, rfl⟩
  | .region _ ops true, s, r, h => by
    simp only [aCode, Option.map_eq_some_iff] at h ⊢
    obtain ⟨s1, h1, rfl⟩ := h
    exact ⟨s1, hd _ _ _ h1, rfl⟩
  | .seq x y, s, r, h => by
    simp only [aCode, Option.bind_eq_some_iff] at h ⊢
    obtain ⟨⟨e, s1⟩, h1, h2⟩ := h
    refine ⟨_, aCode_mono hl hd hnm x h1, ?_⟩
    cases e with
    | normal => exact aCode_mono hl hd hnm y h2
    | exit id => exact h2
    | goto l => exact h2
    | ret => exact h2
  | .cond x y z, s, r, h => by
    simp only [aCode] at h ⊢
    split at h
    · exact aCode_mono hl hd hnm y h
    · exact aCode_mono hl hd hnm z h
    · simp at h
  | .block id b, s, r, h => by
    simp only [aCode] at h ⊢
    split at h
    · exact h
    · simp only [Option.map_eq_some_iff] at h ⊢
      obtain ⟨q, hq, rfl⟩ := h
      exact ⟨q, aCode_mono hl hd hnm b hq, rfl⟩
  | .loop b, s, r, h => by
    simp only [aCode] at h ⊢
    exact aLoop_mono (fun s r h => aCode_mono hl hd hnm b h) n m hnm h
  | .exit id, s, r, h => h
  | .ret, s, r, h => h
  | .label _, s, r, h => h
  | .goto l, s, r, h => h
  | .scope b, s, r, h => by
    simp only [aCode, Option.bind_eq_some_iff] at h ⊢
    obtain ⟨q, hq, h2⟩ := h
    exact ⟨q, aCode_mono hl hd hnm b hq, h2⟩
  | .rangeFunc .., s, r, h => by simp [aCode] at h
  | .refuse _, s, r, h => by simp [aCode] at h

theorem aCall_mono {P : Program} {pr : Prims} {drawn : CallF → Array Oper → AS → Option AS} (hd : ∀ c d, Le c d → ∀ ops s s', drawn c ops s = some s' → drawn d ops s = some s') : ∀ (n m : Nat), n ≤ m → Le (aCall P pr drawn n) (aCall P pr drawn m)
  | 0, _, _ => fun g args H r h => by simp [aCall] at h
  | n + 1, 0, h => by omega
  | n + 1, m + 1, h => fun g args H r hr => by
    have ih := aCall_mono (P := P) (pr := pr) hd n m (by omega)
    simp only [aCall] at hr ⊢
    split at hr
    · exact hr
    · simp only [Option.bind_eq_some_iff] at hr ⊢
      obtain ⟨fn, hfn, c, hc, q, hq, hr⟩ := hr
      exact ⟨fn, hfn, c, hc, q, aCode_mono ih (hd _ _ ih) (by omega) c hq, hr⟩

theorem call_mono {P : Program} {pr : Prims} {n m : Nat} (h : n ≤ m) : Le (call P pr n) (call P pr m) := aCall_mono (drawn := aDraw P) (fun _ _ hl _ _ _ h => aDraw_mono hl h) n m h

end Go.Am

/- How code of the abstract machine is walked. -/
namespace Go.Am
open Go

section
variable {P : Program} {pr : Prims}

def CallR (P : Program) (pr : Prims) (g : FuncId) (args : List Value) (H : AHeap) (Q : Value → AHeap → Prop) : Prop :=
  ∃ n v H', call P pr n g args H = some (v, H') ∧ Q v H'

def CodeR (P : Program) (pr : Prims) (f : FuncId) (c : Code) (s : AS) (Q : AEx → AS → Prop) : Prop :=
  ∃ n e s', aCode P pr (call P pr n) (aDraw P (call P pr n)) f n c s = some (e, s') ∧ Q e s'

def OpsR (P : Program) (pr : Prims) (ops : Array Oper) (l : List Oper) (s : AS) (Q : AS → Prop) : Prop :=
  ∃ n s', (l.foldlM (fun s o => if Region.wanted o (ayield ops s.tm) then opStep P (call P pr n) o s else some ⟨putT s.tm o.dst undef, s.H⟩) s : Option AS) = some s' ∧ Q s'

def DrawR (P : Program) (pr : Prims) (ops : Array Oper) (ps : List (Nat × Nat)) (base k i : Nat) (a : DAcc) (Q : DAcc → Prop) : Prop :=
  ∃ n a', dGo P (call P pr n) ops ps base k i a = some a' ∧ Q a'

theorem runOps_list {P : Program} {c : CallF} {ops : Array Oper} : ∀ (k i : Nat) (s : AS), i + k = ops.size →
    runOps P c ops (List.range' i k) s = ((ops.toList.drop i).foldlM (fun s o => if Region.wanted o (ayield ops s.tm) then opStep P c o s else some ⟨putT s.tm o.dst undef, s.H⟩) s : Option AS)
  | 0, i, s, h => by
    rw [List.drop_eq_nil_of_le (by simp; omega)]
    rfl
  | k + 1, i, s, h => by
    have hi : i < ops.toList.length := by simp; omega
    rw [List.drop_eq_getElem_cons hi]
    simp only [List.range'_succ, runOps, List.foldlM_cons]
    have ho : ops[i]? = some ops.toList[i] := by rw [← Array.getElem?_toList]; exact List.getElem?_eq_getElem hi
    simp only [ho]
    split
    · congr 1
      funext s1
      exact runOps_list k (i + 1) s1 (by omega)
    · exact runOps_list k (i + 1) _ (by omega)

theorem CodeR.region {f id : Nat} {ops : Array Oper} {s : AS} {Q : AEx → AS → Prop} (h : OpsR P pr ops ops.toList s (Q .normal)) : CodeR P pr f (.region id ops false) s Q := by
  obtain ⟨n, s', h1, h2⟩ := h
  refine ⟨n, .normal, s', ?_, h2⟩
  simp only [aCode]
  rw [List.range_eq_range', runOps_list ops.size 0 s (by omega)]
  simp only [List.drop_zero]
  rw [h1]
  rfl

theorem CodeR.draw {f id : Nat} {ops : Array Oper} {s : AS} {Q : AEx → AS → Prop} {ps : List (Nat × Nat)} (hp : drawPairs P ops = some ps)
    (h : DrawR P pr ops ps s.H.next ops.size 0 ⟨⟨s.tm, reserve s.H ops.size⟩, [], []⟩ (fun a => drawOK ps a ∧ Q .normal a.s)) : CodeR P pr f (.region id ops true) s Q := by
  obtain ⟨n, a, h1, h2, h3⟩ := h
  refine ⟨n, .normal, a.s, ?_, h3⟩
  simp only [aCode, Option.map_eq_some_iff, Prod.mk.injEq, true_and, exists_eq_right]
  simp only [aDraw, hp, Option.bind_some, h1, if_pos h2]

theorem CodeR.seq {f : Nat} {a b : Code} {s : AS} {Q : AEx → AS → Prop} (h : CodeR P pr f a s (fun e s' => match e with | .normal => CodeR P pr f b s' Q | e => Q e s')) : CodeR P pr f (.seq a b) s Q := by
  obtain ⟨n, e, s1, h1, h2⟩ := h
  have up : ∀ {m k : Nat} (c : Code) {s : AS} {r : AEx × AS}, m ≤ k → aCode P pr (call P pr m) (aDraw P (call P pr m)) f m c s = some r → aCode P pr (call P pr k) (aDraw P (call P pr k)) f k c s = some r :=
    fun c _ _ hmk h => aCode_mono (call_mono hmk) (fun _ _ _ h => aDraw_mono (call_mono hmk) h) hmk c h
  cases e with
  | normal =>
    obtain ⟨m, e2, s2, h3, h4⟩ := h2
    refine ⟨max n m, e2, s2, ?_, h4⟩
    simp only [aCode, up a (Nat.le_max_left n m) h1, Option.bind_some]
    exact up b (Nat.le_max_right n m) h3
  | exit id => exact ⟨n, _, _, by simp only [aCode, h1, Option.bind_some], h2⟩
  | goto l => exact ⟨n, _, _, by simp only [aCode, h1, Option.bind_some], h2⟩
  | ret => exact ⟨n, _, _, by simp only [aCode, h1, Option.bind_some], h2⟩

theorem CodeR.skip {f : Nat} {s : AS} {Q : AEx → AS → Prop} (h : Q .normal s) : CodeR P pr f .skip s Q := ⟨0, _, _, rfl, h⟩
theorem CodeR.exit {f id : Nat} {s : AS} {Q : AEx → AS → Prop} (h : Q (.exit id) s) : CodeR P pr f (.exit id) s Q := ⟨0, _, _, rfl, h⟩
theorem CodeR.ret {f : Nat} {s : AS} {Q : AEx → AS → Prop} (h : Q .ret s) : CodeR P pr f .ret s Q := ⟨0, _, _, rfl, h⟩
theorem CodeR.label {f l : Nat} {s : AS} {Q : AEx → AS → Prop} (h : Q .normal s) : CodeR P pr f (.label l) s Q := ⟨0, _, _, rfl, h⟩

theorem CodeR.cond {f : Nat} {x : Operand} {a b : Code} {s : AS} {Q : AEx → AS → Prop} {t : Bool} (hx : aval s.tm x = .bool t) (h : CodeR P pr f (if t then a else b) s Q) : CodeR P pr f (.cond x a b) s Q := by
  obtain ⟨n, e, s1, h1, h2⟩ := h
  refine ⟨n, e, s1, ?_, h2⟩
  simp only [aCode, hx]
  cases t <;> exact h1

theorem CodeR.block {f id : Nat} {b : Code} {s : AS} {Q : AEx → AS → Prop} (hp : pr.code f id = none) (h : CodeR P pr f b s (fun e s' => Q (if e = .exit id then .normal else e) s')) : CodeR P pr f (.block id b) s Q := by
  obtain ⟨n, e, s1, h1, h2⟩ := h
  refine ⟨n, _, s1, ?_, h2⟩
  simp only [aCode, hp, h1, Option.map_some]

theorem CodeR.loop {f : Nat} {b : Code} {s : AS} {Q : AEx → AS → Prop} (h : CodeR P pr f b s (fun e s' => match e with | .normal => CodeR P pr f (.loop b) s' Q | e => Q e s')) : CodeR P pr f (.loop b) s Q := by
  obtain ⟨n, e, s1, h1, h2⟩ := h
  have up : ∀ {m k : Nat} (c : Code) {s : AS} {r : AEx × AS}, m ≤ k → aCode P pr (call P pr m) (aDraw P (call P pr m)) f m c s = some r → aCode P pr (call P pr k) (aDraw P (call P pr k)) f k c s = some r :=
    fun c _ _ hmk h => aCode_mono (call_mono hmk) (fun _ _ _ h => aDraw_mono (call_mono hmk) h) hmk c h
  cases e with
  | normal =>
    obtain ⟨m, e2, s2, h3, h4⟩ := h2
    simp only [aCode] at h3
    refine ⟨max n m + 1, e2, s2, ?_, h4⟩
    simp only [aCode, aLoop]
    rw [up b (by omega : n ≤ max n m + 1) h1]
    simp only [Option.bind_some]
    exact aLoop_mono (fun s r h => up b (by omega) h) m (max n m) (by omega) h3
  | exit id => exact ⟨n + 1, _, _, by simp only [aCode, aLoop]; rw [up b (by omega : n ≤ n + 1) h1]; rfl, h2⟩
  | goto l => exact ⟨n + 1, _, _, by simp only [aCode, aLoop]; rw [up b (by omega : n ≤ n + 1) h1]; rfl, h2⟩
  | ret => exact ⟨n + 1, _, _, by simp only [aCode, aLoop]; rw [up b (by omega : n ≤ n + 1) h1]; rfl, h2⟩

theorem CodeR.scope {f : Nat} {b : Code} {s : AS} {Q : AEx → AS → Prop} (h : CodeR P pr f b s (fun e s' => match e with | .goto _ => False | e => Q e s')) : CodeR P pr f (.scope b) s Q := by
  obtain ⟨n, e, s1, h1, h2⟩ := h
  refine ⟨n, e, s1, ?_, ?_⟩
  · simp only [aCode, h1, Option.bind_some]
    cases e with
    | goto l => exact absurd h2 id
    | _ => rfl
  · cases e with
    | goto l => exact absurd h2 id
    | _ => exact h2

theorem CodeR.mono {f : Nat} {c : Code} {s : AS} {Q Q' : AEx → AS → Prop} (h : CodeR P pr f c s Q) (hq : ∀ e s', Q e s' → Q' e s') : CodeR P pr f c s Q' := by
  obtain ⟨n, e, s1, h1, h2⟩ := h
  exact ⟨n, e, s1, h1, hq _ _ h2⟩

theorem CallR.mono {g : FuncId} {args : List Value} {H : AHeap} {Q Q' : Value → AHeap → Prop} (h : CallR P pr g args H Q) (hq : ∀ v H', Q v H' → Q' v H') : CallR P pr g args H Q' := by
  obtain ⟨n, v, H', h1, h2⟩ := h
  exact ⟨n, v, H', h1, hq _ _ h2⟩

theorem OpsR.nil {ops : Array Oper} {s : AS} {Q : AS → Prop} (h : Q s) : OpsR P pr ops [] s Q := ⟨0, s, rfl, h⟩

theorem fold_mono {c d : CallF} (hl : Le c d) {ops : Array Oper} : ∀ (l : List Oper) {s s' : AS}, (l.foldlM (fun s o => if Region.wanted o (ayield ops s.tm) then opStep P c o s else some ⟨putT s.tm o.dst undef, s.H⟩) s : Option AS) = some s' →
    (l.foldlM (fun s o => if Region.wanted o (ayield ops s.tm) then opStep P d o s else some ⟨putT s.tm o.dst undef, s.H⟩) s : Option AS) = some s'
  | [], _, _, h => h
  | o :: l, s, s', h => by
    simp only [List.foldlM_cons, Option.bind_eq_bind, Option.bind_eq_some_iff] at h ⊢
    obtain ⟨s1, h1, h2⟩ := h
    refine ⟨s1, ?_, fold_mono hl l h2⟩
    split
    · rename_i hw
      simp only [hw, if_true] at h1
      exact opStep_mono hl h1
    · rename_i hw
      simp only [hw, if_false, Bool.false_eq_true] at h1
      exact h1

/-- An operation that calls nothing. -/
theorem OpsR.step {ops : Array Oper} {o : Oper} {l : List Oper} {s s1 : AS} {Q : AS → Prop} (hw : Region.wanted o (ayield ops s.tm) = true) (h1 : opStep P (fun _ _ _ => none) o s = some s1) (h : OpsR P pr ops l s1 Q) : OpsR P pr ops (o :: l) s Q := by
  obtain ⟨n, s', h2, h3⟩ := h
  refine ⟨n, s', ?_, h3⟩
  simp only [List.foldlM_cons, Option.bind_eq_bind, Option.bind_eq_some_iff, hw, if_true]
  exact ⟨s1, opStep_mono (fun _ _ _ _ h => by simp at h) h1, h2⟩

theorem OpsR.skip {ops : Array Oper} {o : Oper} {l : List Oper} {s : AS} {Q : AS → Prop} (hw : Region.wanted o (ayield ops s.tm) = false) (h : OpsR P pr ops l ⟨putT s.tm o.dst undef, s.H⟩ Q) : OpsR P pr ops (o :: l) s Q := by
  obtain ⟨n, s', h2, h3⟩ := h
  refine ⟨n, s', ?_, h3⟩
  simp only [List.foldlM_cons, Option.bind_eq_bind, Option.bind_eq_some_iff, hw, if_false, Bool.false_eq_true]
  exact ⟨_, rfl, h2⟩

/-- Operations one behind the other, that call nothing. -/
theorem OpsR.run {ops : Array Oper} {l l' : List Oper} {s s1 : AS} {Q : AS → Prop}
    (h1 : (l.foldlM (fun s o => if Region.wanted o (ayield ops s.tm) then opStep P (fun _ _ _ => none) o s else some ⟨putT s.tm o.dst undef, s.H⟩) s : Option AS) = some s1) (h : OpsR P pr ops l' s1 Q) : OpsR P pr ops (l ++ l') s Q := by
  obtain ⟨n, s', h2, h3⟩ := h
  refine ⟨n, s', ?_, h3⟩
  rw [List.foldlM_append, fold_mono (fun _ _ _ _ h => by simp at h) l h1]
  exact h2

theorem OpsR.call {ops : Array Oper} {o : Oper} {l : List Oper} {s : AS} {g : FuncId} {args : List Value} {Q : AS → Prop} (hw : Region.wanted o (ayield ops s.tm) = true) (hc : cls P o = .c) (hq : cop P (aval s.tm) o = some (g, args))
    (h : CallR P pr g args s.H (fun v H' => OpsR P pr ops l ⟨putT s.tm o.dst v, H'⟩ Q)) : OpsR P pr ops (o :: l) s Q := by
  obtain ⟨n, v, H', h1, m, s', h2, h3⟩ := h
  refine ⟨max n m, s', ?_, h3⟩
  simp only [List.foldlM_cons, Option.bind_eq_bind, Option.bind_eq_some_iff, hw, if_true]
  refine ⟨⟨putT s.tm o.dst v, H'⟩, ?_, fold_mono (call_mono (Nat.le_max_right n m)) l h2⟩
  unfold opStep
  rw [hc]
  simp only [hq, Option.bind_some, call_mono (Nat.le_max_left n m) _ _ _ _ h1, Option.map_some]

theorem DrawR.nil {ops : Array Oper} {ps : List (Nat × Nat)} {base i : Nat} {a : DAcc} {Q : DAcc → Prop} (h : Q a) : DrawR P pr ops ps base 0 i a Q := ⟨0, a, rfl, h⟩

def dNote (P : Program) (ops : Array Oper) (ps : List (Nat × Nat)) (i : Nat) (a : DAcc) (s1 : AS) : DAcc :=
  ⟨s1, if ps.any (fun p => p.1 == i) then (match readAt P ops i a.s with | some h => (i, h) :: a.reads | none => a.reads) else a.reads, if ps.any (fun p => p.2 == i) then (i, a.s.H, s1.H) :: a.writes else a.writes⟩

theorem DrawR.step {ops : Array Oper} {ps : List (Nat × Nat)} {base k i : Nat} {a : DAcc} {s1 : AS} {Q : DAcc → Prop} (h1 : dAt P (fun _ _ _ => none) ops base i a.s = some s1) (h : DrawR P pr ops ps base k (i + 1) (dNote P ops ps i a s1) Q) : DrawR P pr ops ps base (k + 1) i a Q := by
  obtain ⟨n, a', h2, h3⟩ := h
  refine ⟨n, a', ?_, h3⟩
  have hl : Le (fun _ _ _ => none) (Am.call P pr n) := fun _ _ _ _ h => by simp at h
  simp only [dGo, dAt_mono hl h1, Option.bind_some]
  exact h2

theorem DrawR.call {ops : Array Oper} {ps : List (Nat × Nat)} {base k i : Nat} {a : DAcc} {o : Oper} {g : FuncId} {args : List Value} {Q : DAcc → Prop} (ho : ops[i]? = some o) (hw : Region.wanted o (ayield ops a.s.tm) = true) (hc : cls P o = .c)
    (hq : cop P (aval a.s.tm) o = some (g, args)) (h : CallR P pr g args a.s.H (fun v H' => DrawR P pr ops ps base k (i + 1) (dNote P ops ps i a ⟨putT a.s.tm o.dst v, H'⟩) Q)) : DrawR P pr ops ps base (k + 1) i a Q := by
  obtain ⟨n, v, H', h1, m, a', h2, h3⟩ := h
  refine ⟨max n m, a', ?_, h3⟩
  have hd : dAt P (Am.call P pr (max n m)) ops base i a.s = some ⟨putT a.s.tm o.dst v, H'⟩ := by
    simp only [dAt, ho, hw, if_true, dStep, hc]
    unfold opStep
    rw [hc]
    simp only [hq, Option.bind_some, call_mono (Nat.le_max_left n m) _ _ _ _ h1, Option.map_some]
  simp only [dGo, hd, Option.bind_some]
  exact dGo_mono (call_mono (Nat.le_max_right n m)) _ _ h2

theorem CallR.prim {g : FuncId} {args : List Value} {H H' : AHeap} {v : Value} {f : List Value → AHeap → Option (Value × AHeap)} {Q : Value → AHeap → Prop} (hp : pr.call g = some f) (hf : f args H = some (v, H')) (h : Q v H') : CallR P pr g args H Q :=
  ⟨1, v, H', by simp only [Am.call, aCall, hp, hf], h⟩

theorem CallR.enter {g : FuncId} {args : List Value} {H : AHeap} {fn : Func} {c : Code} {Q : Value → AHeap → Prop} (hp : pr.call g = none) (hfn : P.funcs[g]? = some fn) (hb : fn.body = some c)
    (h : CodeR P pr g c ⟨args ++ List.replicate (fn.ntmps - args.length) undef, H⟩ (fun e s' => (e = .normal ∨ e = .ret) ∧ ∃ v, aResults P fn s' = some v ∧ Q v s'.H)) : CallR P pr g args H Q := by
  obtain ⟨n, e, s', h1, he, v, h2, h3⟩ := h
  refine ⟨n + 1, v, s'.H, ?_, h3⟩
  have h1' : aCode P pr (aCall P pr (aDraw P) n) (aDraw P (aCall P pr (aDraw P) n)) g n c ⟨args ++ List.replicate (fn.ntmps - args.length) undef, H⟩ = some (e, s') := h1
  simp only [Am.call, aCall, hp, hfn, hb, Option.bind_some, h1']
  rcases he with rfl | rfl <;> simp only [h2, Option.map_some]

end
end Go.Am

/- Rules by which 'simp' walks operations. -/
namespace Go.Am
open Go

theorem wanted_none (d : Option Tmp) (op : Op) (t : TypeId) (p : String) (a : Array Edge) (y : Nat → Option Bool) : Region.wanted ⟨d, op, t, p, a, none⟩ y = true := rfl

def loadA (P : Program) (t : TypeId) (v : Value) (H : AHeap) : Option Value :=
  match v with
  | .pointer (some ⟨b, o, none⟩) => aLoad P t (H.get b) o
  | _ => none

section
variable {P : Program} {c : CallF} {d : Option Tmp} {ty : TypeId} {p : String} {a : Array Edge} {g : Option (Nat × Bool)} {s : AS}

theorem st_move (x : Operand) : opStep P c ⟨d, .move x, ty, p, a, g⟩ s = some ⟨putT s.tm d (aval s.tm x), s.H⟩ := rfl
theorem st_assign (x : Operand) : opStep P c ⟨d, .assign x, ty, p, a, g⟩ s = some ⟨putT s.tm d (aval s.tm x), s.H⟩ := rfl
theorem st_binOp (op : BinOp) (t t' : TypeId) (x y : Operand) : opStep P c ⟨d, .binOp op t x y t', ty, p, a, g⟩ s = (binV P op t (aval s.tm x) (aval s.tm y)).map fun v => ⟨putT s.tm d v, s.H⟩ := rfl
theorem st_unOp (op : UnOp) (t : TypeId) (x : Operand) : opStep P c ⟨d, .unOp op t x, ty, p, a, g⟩ s = (unV P op (aval s.tm x)).map fun v => ⟨putT s.tm d v, s.H⟩ := rfl
theorem st_fieldAddr (t : TypeId) (x : Operand) (f : Nat) : opStep P c ⟨d, .fieldAddr t x f, ty, p, a, g⟩ s = (fieldAddrV P t (aval s.tm x) f).map fun v => ⟨putT s.tm d v, s.H⟩ := rfl
theorem st_indexAddr (t : TypeId) (x i : Operand) : opStep P c ⟨d, .indexAddr t x i, ty, p, a, g⟩ s = (indexAddrV P t (aval s.tm x) (aval s.tm i)).map fun v => ⟨putT s.tm d v, s.H⟩ := rfl
theorem st_slice (t : TypeId) (x : Operand) (l h m : Option Operand) : opStep P c ⟨d, .slice t x l h m, ty, p, a, g⟩ s = (sliceV P t (aval s.tm x) (l.map (aval s.tm)) (h.map (aval s.tm)) (m.map (aval s.tm))).map fun v => ⟨putT s.tm d v, s.H⟩ := rfl
theorem st_build (t : TypeId) (ps : Array (Nat × Operand)) : opStep P c ⟨d, .build t ps, ty, p, a, g⟩ s = (buildV P t (ps.toList.map fun q => (q.1, aval s.tm q.2))).map fun v => ⟨putT s.tm d v, s.H⟩ := rfl
theorem st_load (t : TypeId) (x : Operand) : opStep P c ⟨d, .load t x, ty, p, a, g⟩ s = (loadA P t (aval s.tm x) s.H).map fun v => ⟨putT s.tm d v, s.H⟩ := by
  show (rop P (aval s.tm) ⟨d, .load t x, ty, p, a, g⟩).bind _ = _
  simp only [rop, loadA]
  generalize aval s.tm x = v
  cases v <;> try rfl
  rename_i q
  rcases q with _ | ⟨b, o, _ | _⟩ <;> rfl
theorem st_store (t : TypeId) (x y : Operand) : opStep P c ⟨d, .store t x y, ty, p, a, g⟩ s = (storeW P t (aval s.tm x) (aval s.tm y) s.H).map fun H => ⟨putT s.tm d undef, H⟩ := by
  show (wop P (aval s.tm) ⟨d, .store t x y, ty, p, a, g⟩ s.H).map _ = _
  simp only [wop]
  cases storeW P t (aval s.tm x) (aval s.tm y) s.H <;> rfl
end

theorem bin_shr {P : Program} {t : TypeId} {k k' : IntKind} {x y : Int} (h : ¬ y < 0) : binV P .shr t (.int k x) (.int k' y) = some (.int k (x.fdiv (2 ^ (min y.toNat k.bits)))) := by simp [binV, intShift, h]
theorem bin_shl {P : Program} {t : TypeId} {k k' : IntKind} {x y : Int} (h : ¬ y < 0) : binV P .shl t (.int k x) (.int k' y) = some (.int k (k.wrap (x * 2 ^ (min y.toNat k.bits)))) := by simp [binV, intShift, h]
theorem bin_eq {P : Program} {t : TypeId} {k : IntKind} {x y : Int} : binV P .eql t (.int k x) (.int k y) = some (.bool (x == y)) := by simp [binV, eqV]
theorem bin_ne {P : Program} {t : TypeId} {k : IntKind} {x y : Int} : binV P .neq t (.int k x) (.int k y) = some (.bool (x != y)) := by simp [binV, eqV, bne]
end Go.Am

/- The walk as rewriting: what must hold ahead of a piece of code. -/
namespace Go.Am
open Go

section
variable {P : Program} {pr : Prims}

def StepR (P : Program) (pr : Prims) (o : Oper) (s : AS) (Q : AS → Prop) : Prop := ∃ n s', opStep P (call P pr n) o s = some s' ∧ Q s'

/-- What goes on behind a normal end. -/
def andThen (k : AS → Prop) (Q : AEx → AS → Prop) : AEx → AS → Prop
  | .normal => k
  | e => Q e

@[simp] theorem andThen_normal (k : AS → Prop) (Q : AEx → AS → Prop) : andThen k Q .normal = k := rfl
@[simp] theorem andThen_exit (k : AS → Prop) (Q : AEx → AS → Prop) (id : Nat) : andThen k Q (.exit id) = Q (.exit id) := rfl
@[simp] theorem andThen_ret (k : AS → Prop) (Q : AEx → AS → Prop) : andThen k Q .ret = Q .ret := rfl
@[simp] theorem andThen_goto (k : AS → Prop) (Q : AEx → AS → Prop) (l : Nat) : andThen k Q (.goto l) = Q (.goto l) := rfl

theorem wp_seq' {f : Nat} {a b : Code} {s : AS} {Q : AEx → AS → Prop} : CodeR P pr f (.seq a b) s Q ↔ CodeR P pr f a s (andThen (fun s' => CodeR P pr f b s' Q) Q) := by
  refine ⟨fun ⟨n, e, s', h1, h2⟩ => ?_, fun h => CodeR.seq (h.mono fun e s' he => by cases e <;> exact he)⟩
  simp only [aCode, Option.bind_eq_some_iff] at h1
  obtain ⟨⟨e1, s1⟩, h3, h4⟩ := h1
  refine ⟨n, e1, s1, h3, ?_⟩
  cases e1 with
  | normal => exact ⟨n, e, s', h4, h2⟩
  | exit id => simp only [Option.some.injEq, Prod.mk.injEq] at h4; obtain ⟨rfl, rfl⟩ := h4; exact h2
  | goto l => simp only [Option.some.injEq, Prod.mk.injEq] at h4; obtain ⟨rfl, rfl⟩ := h4; exact h2
  | ret => simp only [Option.some.injEq, Prod.mk.injEq] at h4; obtain ⟨rfl, rfl⟩ := h4; exact h2

/-- What goes on behind a block. -/
def inBlock (id : Nat) (Q : AEx → AS → Prop) : AEx → AS → Prop
  | .exit i => if i = id then Q .normal else Q (.exit i)
  | e => Q e

@[simp] theorem inBlock_normal (id : Nat) (Q : AEx → AS → Prop) : inBlock id Q .normal = Q .normal := rfl
@[simp] theorem inBlock_exit (id i : Nat) (Q : AEx → AS → Prop) : inBlock id Q (.exit i) = if i = id then Q .normal else Q (.exit i) := rfl
@[simp] theorem inBlock_ret (id : Nat) (Q : AEx → AS → Prop) : inBlock id Q .ret = Q .ret := rfl
@[simp] theorem inBlock_goto (id l : Nat) (Q : AEx → AS → Prop) : inBlock id Q (.goto l) = Q (.goto l) := rfl

theorem wp_block' {f id : Nat} {b : Code} {s : AS} {Q : AEx → AS → Prop} (hp : pr.code f id = none) : CodeR P pr f (.block id b) s Q ↔ CodeR P pr f b s (inBlock id Q) := by
  have key : ∀ e s', inBlock id Q e s' ↔ Q (if e = .exit id then .normal else e) s' := fun e s' => by
    cases e with
    | exit i => by_cases h : i = id <;> simp [inBlock, h]
    | _ => simp [inBlock]
  refine ⟨fun ⟨n, e, s', h1, h2⟩ => ?_, fun h => CodeR.block hp (h.mono fun e s' he => (key e s').1 he)⟩
  simp only [aCode, hp, Option.map_eq_some_iff, Prod.mk.injEq] at h1
  obtain ⟨⟨e1, s1⟩, h3, rfl, rfl⟩ := h1
  exact ⟨n, e1, s1, h3, (key e1 s1).2 h2⟩

theorem wp_cons' {ops : Array Oper} {o : Oper} {l : List Oper} {s : AS} {Q : AS → Prop} :
    OpsR P pr ops (o :: l) s Q ↔ if Region.wanted o (ayield ops s.tm) = true then StepR P pr o s (fun s1 => OpsR P pr ops l s1 Q) else OpsR P pr ops l ⟨putT s.tm o.dst undef, s.H⟩ Q := by
  split
  · rename_i hw
    constructor
    · rintro ⟨n, s', h1, h2⟩
      simp only [List.foldlM_cons, Option.bind_eq_bind, Option.bind_eq_some_iff, hw, if_true] at h1
      obtain ⟨s1, h3, h4⟩ := h1
      exact ⟨n, s1, h3, n, s', h4, h2⟩
    · rintro ⟨n, s1, h1, m, s', h2, h3⟩
      refine ⟨max n m, s', ?_, h3⟩
      simp only [List.foldlM_cons, Option.bind_eq_bind, Option.bind_eq_some_iff, hw, if_true]
      exact ⟨s1, opStep_mono (call_mono (Nat.le_max_left n m)) h1, fold_mono (call_mono (Nat.le_max_right n m)) l h2⟩
  · rename_i hw
    constructor
    · rintro ⟨n, s', h1, h2⟩
      simp only [List.foldlM_cons, Option.bind_eq_bind, Option.bind_some, hw, if_false] at h1
      exact ⟨n, s', h1, h2⟩
    · rintro ⟨n, s', h1, h2⟩
      refine ⟨n, s', ?_, h2⟩
      simp only [List.foldlM_cons, Option.bind_eq_bind, Option.bind_some, hw, if_false]
      exact h1

/-- An operation whose answer hangs on no call. -/
theorem StepR.of {o : Oper} {s : AS} {Q : AS → Prop} {r : Option AS} (h : ∀ c, opStep P c o s = r) : StepR P pr o s Q ↔ ∃ s', r = some s' ∧ Q s' :=
  ⟨fun ⟨n, s', h1, h2⟩ => ⟨s', by rw [h] at h1; exact h1, h2⟩, fun ⟨s', h1, h2⟩ => ⟨0, s', by rw [h]; exact h1, h2⟩⟩

theorem exists_map {α γ : Type} {r : Option α} {f : α → γ} {Q : γ → Prop} : (∃ s', r.map f = some s' ∧ Q s') ↔ ∃ v, r = some v ∧ Q (f v) := by
  cases r <;> simp

def pickV (x y z : Value) : Option Value := match x with | .bool t => some (if t then y else z) | _ => none
def nilV (x : Value) : Option Value := match x with
  | .pointer (some a) => some (.pointer (some a))
  | .func (.func f) a b => some (.func (.func f) a b)
  | .iface t v => some (.iface t v)
  | _ => none
def extractV (x : Value) (i : Nat) : Option Value := match x with | .tuple ⟨vs⟩ => vs[i]? | _ => none
section
variable {d : Option Tmp} {ty : TypeId} {p : String} {a : Array Edge} {g : Option (Nat × Bool)} {s : AS} {Q : AS → Prop}

theorem wp_move (x : Operand) : StepR P pr ⟨d, .move x, ty, p, a, g⟩ s Q ↔ Q ⟨putT s.tm d (aval s.tm x), s.H⟩ := by rw [StepR.of fun _ => st_move x]; simp
theorem wp_assign (x : Operand) : StepR P pr ⟨d, .assign x, ty, p, a, g⟩ s Q ↔ Q ⟨putT s.tm d (aval s.tm x), s.H⟩ := by rw [StepR.of fun _ => st_assign x]; simp
theorem wp_binOp (op : BinOp) (t t' : TypeId) (x y : Operand) : StepR P pr ⟨d, .binOp op t x y t', ty, p, a, g⟩ s Q ↔ ∃ v, binV P op t (aval s.tm x) (aval s.tm y) = some v ∧ Q ⟨putT s.tm d v, s.H⟩ := by rw [StepR.of fun _ => st_binOp op t t' x y, exists_map]
theorem wp_unOp (op : UnOp) (t : TypeId) (x : Operand) : StepR P pr ⟨d, .unOp op t x, ty, p, a, g⟩ s Q ↔ ∃ v, unV P op (aval s.tm x) = some v ∧ Q ⟨putT s.tm d v, s.H⟩ := by rw [StepR.of fun _ => st_unOp op t x, exists_map]
theorem wp_fieldAddr (t : TypeId) (x : Operand) (f : Nat) : StepR P pr ⟨d, .fieldAddr t x f, ty, p, a, g⟩ s Q ↔ ∃ v, fieldAddrV P t (aval s.tm x) f = some v ∧ Q ⟨putT s.tm d v, s.H⟩ := by rw [StepR.of fun _ => st_fieldAddr t x f, exists_map]
theorem wp_indexAddr (t : TypeId) (x i : Operand) : StepR P pr ⟨d, .indexAddr t x i, ty, p, a, g⟩ s Q ↔ ∃ v, indexAddrV P t (aval s.tm x) (aval s.tm i) = some v ∧ Q ⟨putT s.tm d v, s.H⟩ := by rw [StepR.of fun _ => st_indexAddr t x i, exists_map]
theorem wp_slice (t : TypeId) (x : Operand) (l h m : Option Operand) : StepR P pr ⟨d, .slice t x l h m, ty, p, a, g⟩ s Q ↔ ∃ v, sliceV P t (aval s.tm x) (l.map (aval s.tm)) (h.map (aval s.tm)) (m.map (aval s.tm)) = some v ∧ Q ⟨putT s.tm d v, s.H⟩ := by rw [StepR.of fun _ => st_slice t x l h m, exists_map]
theorem wp_build (t : TypeId) (ps : Array (Nat × Operand)) : StepR P pr ⟨d, .build t ps, ty, p, a, g⟩ s Q ↔ ∃ v, buildV P t (ps.toList.map fun q => (q.1, aval s.tm q.2)) = some v ∧ Q ⟨putT s.tm d v, s.H⟩ := by rw [StepR.of fun _ => st_build t ps, exists_map]
theorem wp_load (t : TypeId) (x : Operand) : StepR P pr ⟨d, .load t x, ty, p, a, g⟩ s Q ↔ ∃ v, loadA P t (aval s.tm x) s.H = some v ∧ Q ⟨putT s.tm d v, s.H⟩ := by rw [StepR.of fun _ => st_load t x, exists_map]
theorem wp_store (t : TypeId) (x y : Operand) : StepR P pr ⟨d, .store t x y, ty, p, a, g⟩ s Q ↔ ∃ H, storeW P t (aval s.tm x) (aval s.tm y) s.H = some H ∧ Q ⟨putT s.tm d undef, H⟩ := by rw [StepR.of fun _ => st_store t x y, exists_map]

theorem wp_pick (x y z : Operand) : StepR P pr ⟨d, .pick x y z, ty, p, a, g⟩ s Q ↔ ∃ v, pickV (aval s.tm x) (aval s.tm y) (aval s.tm z) = some v ∧ Q ⟨putT s.tm d v, s.H⟩ := by rw [StepR.of (r := (pickV (aval s.tm x) (aval s.tm y) (aval s.tm z)).map fun v => ⟨putT s.tm d v, s.H⟩) fun _ => rfl, exists_map]
theorem wp_nilCheck (x : Operand) : StepR P pr ⟨d, .nilCheck x, ty, p, a, g⟩ s Q ↔ ∃ v, nilV (aval s.tm x) = some v ∧ Q ⟨putT s.tm d v, s.H⟩ := by rw [StepR.of (r := (nilV (aval s.tm x)).map fun v => ⟨putT s.tm d v, s.H⟩) fun _ => rfl, exists_map]
theorem wp_extract (x : Operand) (i : Nat) : StepR P pr ⟨d, .extract x i, ty, p, a, g⟩ s Q ↔ ∃ v, extractV (aval s.tm x) i = some v ∧ Q ⟨putT s.tm d v, s.H⟩ := by rw [StepR.of (r := (extractV (aval s.tm x) i).map fun v => ⟨putT s.tm d v, s.H⟩) fun _ => rfl, exists_map]
theorem wp_iface (t : TypeId) (x : Operand) : StepR P pr ⟨d, .makeInterface t x, ty, p, a, g⟩ s Q ↔ (kindT P t ≠ 7 ∧ (P.underlying t).isSome = true) ∧ Q ⟨putT s.tm d (.iface t (aval s.tm x)), s.H⟩ := by
  rw [StepR.of (r := (if kindT P t ≠ 7 ∧ (P.underlying t).isSome = true then some (.iface t (aval s.tm x)) else none : Option Value).map fun v => ⟨putT s.tm d v, s.H⟩) fun _ => rfl, exists_map]
  by_cases h : kindT P t ≠ 7 ∧ (P.underlying t).isSome = true <;> simp [h]
/-- New objects. -/
theorem wp_new {o : Oper} (hc : cls P o = .n) : StepR P pr o s Q ↔ ∃ q, nop P (aval s.tm) o = some q ∧ Q ⟨putT s.tm o.dst (q.2 s.H.next), s.H.push q.1⟩ := by
  rw [StepR.of (r := (nop P (aval s.tm) o).map fun q => ⟨putT s.tm o.dst (q.2 s.H.next), s.H.push q.1⟩) fun _ => by unfold opStep; rw [hc], exists_map]
/-- What reads. -/
theorem wp_read {o : Oper} (hc : cls P o = .r) : StepR P pr o s Q ↔ ∃ q, rop P (aval s.tm) o = some q ∧ ∃ v, q.2 (match q.1 with | some h => s.H.get h | none => .dead) = some v ∧ Q ⟨putT s.tm o.dst v, s.H⟩ := by
  rw [StepR.of (r := (rop P (aval s.tm) o).bind fun q => (q.2 (match q.1 with | some h => s.H.get h | none => .dead)).map fun v => ⟨putT s.tm o.dst v, s.H⟩) fun _ => by unfold opStep; rw [hc]; rfl]
  cases rop P (aval s.tm) o with
  | none => simp
  | some q => simp only [Option.bind_some, exists_map, Option.some.injEq, exists_eq_left']
theorem wp_pure {o : Oper} (hc : cls P o = .p) : StepR P pr o s Q ↔ ∃ v, pop P (aval s.tm) o = some v ∧ Q ⟨putT s.tm o.dst v, s.H⟩ := by
  rw [StepR.of (r := (pop P (aval s.tm) o).map fun v => ⟨putT s.tm o.dst v, s.H⟩) fun _ => by unfold opStep; rw [hc], exists_map]
theorem wp_write {o : Oper} (hc : cls P o = .w) : StepR P pr o s Q ↔ ∃ q, wop P (aval s.tm) o s.H = some q ∧ Q ⟨putT s.tm o.dst q.1, q.2⟩ := by
  rw [StepR.of (r := (wop P (aval s.tm) o s.H).map fun q => ⟨putT s.tm o.dst q.1, q.2⟩) fun _ => by unfold opStep; rw [hc], exists_map]
/-- A call of a function. -/
theorem wp_callF {o : Oper} (hc : cls P o = .c) : StepR P pr o s Q ↔ ∃ q, cop P (aval s.tm) o = some q ∧ CallR P pr q.1 q.2 s.H (fun v H' => Q ⟨putT s.tm o.dst v, H'⟩) := by
  constructor
  · rintro ⟨n, s', h1, h2⟩
    unfold opStep at h1
    rw [hc] at h1
    simp only [Option.bind_eq_some_iff, Option.map_eq_some_iff] at h1
    obtain ⟨q, hq, u, hu, rfl⟩ := h1
    exact ⟨q, hq, n, u.1, u.2, hu, h2⟩
  · rintro ⟨q, hq, n, v, H', h1, h2⟩
    refine ⟨n, _, ?_, h2⟩
    unfold opStep
    rw [hc]
    simp only [hq, Option.bind_some, h1, Option.map_some]
end

/-- What an operation reads. -/
def readO (P : Program) (ops : Array Oper) (o : Oper) (s : AS) : Option Nat := if Region.wanted o (ayield ops s.tm) then (rop P (aval s.tm) o).bind (·.1) else none

def note (P : Program) (ops : Array Oper) (ps : List (Nat × Nat)) (o : Oper) (i : Nat) (a : DAcc) (s1 : AS) : DAcc :=
  ⟨s1, if ps.any (fun p => p.1 == i) then (match readO P ops o a.s with | some h => (i, h) :: a.reads | none => a.reads) else a.reads, if ps.any (fun p => p.2 == i) then (i, a.s.H, s1.H) :: a.writes else a.writes⟩

/-- A region in any order, in the text's order: operation by operation. -/
def dGoL (P : Program) (c : CallF) (ops : Array Oper) (ps : List (Nat × Nat)) (base : Nat) : List Oper → Nat → DAcc → Option DAcc
  | [], _, a => some a
  | o :: l, i, a => (if Region.wanted o (ayield ops a.s.tm) then dStep P c (base + i) o a.s else some ⟨putT a.s.tm o.dst undef, a.s.H⟩).bind fun s1 => dGoL P c ops ps base l (i + 1) (note P ops ps o i a s1)

theorem dGo_list {P : Program} {c : CallF} {ops : Array Oper} {ps : List (Nat × Nat)} {base : Nat} : ∀ (k i : Nat) (a : DAcc), i + k = ops.size → dGo P c ops ps base k i a = dGoL P c ops ps base (ops.toList.drop i) i a
  | 0, i, a, h => by rw [List.drop_eq_nil_of_le (by simp; omega)]; rfl
  | k + 1, i, a, h => by
    have hi : i < ops.toList.length := by simp; omega
    rw [List.drop_eq_getElem_cons hi]
    have ho : ops[i]? = some ops.toList[i] := by rw [← Array.getElem?_toList]; exact List.getElem?_eq_getElem hi
    simp only [dGo, dGoL, dAt, readAt, note, readO, ho]
    congr 1
    funext s1
    exact dGo_list k (i + 1) _ (by omega)

theorem dStep_mono {c d : CallF} (hl : Le c d) {h : Nat} {o : Oper} {s s' : AS} (h1 : dStep P c h o s = some s') : dStep P d h o s = some s' := by
  unfold dStep at h1 ⊢
  split at h1
  · exact h1
  · exact opStep_mono hl h1

theorem dGoL_mono {c d : CallF} (hl : Le c d) {ops : Array Oper} {ps : List (Nat × Nat)} {base : Nat} : ∀ (l : List Oper) {i : Nat} {a a' : DAcc}, dGoL P c ops ps base l i a = some a' → dGoL P d ops ps base l i a = some a'
  | [], _, _, _, h => h
  | o :: l, i, a, a', h => by
    simp only [dGoL, Option.bind_eq_some_iff] at h ⊢
    obtain ⟨s1, h1, h2⟩ := h
    refine ⟨s1, ?_, dGoL_mono hl l h2⟩
    split
    · rename_i hw; simp only [hw, if_true] at h1; exact dStep_mono hl h1
    · rename_i hw; simp only [hw, if_false] at h1; exact h1

def DrawL (P : Program) (pr : Prims) (ops : Array Oper) (ps : List (Nat × Nat)) (base : Nat) (l : List Oper) (i : Nat) (a : DAcc) (Q : DAcc → Prop) : Prop :=
  ∃ n a', dGoL P (call P pr n) ops ps base l i a = some a' ∧ Q a'

/-- One operation of it. -/
def DStepR (P : Program) (pr : Prims) (h : Nat) (o : Oper) (s : AS) (Q : AS → Prop) : Prop := ∃ n s', dStep P (call P pr n) h o s = some s' ∧ Q s'

theorem wp_draw {f id : Nat} {ops : Array Oper} {s : AS} {Q : AEx → AS → Prop} {ps : List (Nat × Nat)} (hp : drawPairs P ops = some ps) :
    CodeR P pr f (.region id ops true) s Q ↔ DrawL P pr ops ps s.H.next ops.toList 0 ⟨⟨s.tm, reserve s.H ops.size⟩, [], []⟩ (fun a => drawOK ps a ∧ Q .normal a.s) := by
  constructor
  · rintro ⟨n, e, s', h1, h2⟩
    simp only [aCode, Option.map_eq_some_iff, Prod.mk.injEq] at h1
    obtain ⟨s1, h1, rfl, rfl⟩ := h1
    simp only [aDraw, hp, Option.bind_some, Option.bind_eq_some_iff, Option.ite_none_right_eq_some, Option.some.injEq] at h1
    obtain ⟨acc, h1, hok, rfl⟩ := h1
    rw [dGo_list _ _ _ (by omega)] at h1
    exact ⟨n, acc, by simpa using h1, hok, h2⟩
  · rintro ⟨n, acc, h1, hok, h2⟩
    exact CodeR.draw hp ⟨n, acc, by rw [dGo_list _ _ _ (by omega)]; simpa using h1, hok, h2⟩

theorem wp_dnil {ops : Array Oper} {ps : List (Nat × Nat)} {base i : Nat} {a : DAcc} {Q : DAcc → Prop} : DrawL P pr ops ps base [] i a Q ↔ Q a := by
  constructor
  · rintro ⟨n, a', h1, h2⟩
    simp only [dGoL, Option.some.injEq] at h1
    subst h1; exact h2
  · intro h
    exact ⟨0, a, rfl, h⟩

theorem wp_dcons {ops : Array Oper} {ps : List (Nat × Nat)} {base : Nat} {o : Oper} {l : List Oper} {i : Nat} {a : DAcc} {Q : DAcc → Prop} : DrawL P pr ops ps base (o :: l) i a Q ↔
    if Region.wanted o (ayield ops a.s.tm) = true then DStepR P pr (base + i) o a.s (fun s1 => DrawL P pr ops ps base l (i + 1) (note P ops ps o i a s1) Q)
      else DrawL P pr ops ps base l (i + 1) (note P ops ps o i a ⟨putT a.s.tm o.dst undef, a.s.H⟩) Q := by
  split
  · rename_i hw
    constructor
    · rintro ⟨n, a', h1, h2⟩
      simp only [dGoL, hw, if_true, Option.bind_eq_some_iff] at h1
      obtain ⟨s1, h3, h4⟩ := h1
      exact ⟨n, s1, h3, n, a', h4, h2⟩
    · rintro ⟨n, s1, h1, m, a', h2, h3⟩
      refine ⟨max n m, a', ?_, h3⟩
      simp only [dGoL, hw, if_true, dStep_mono (call_mono (Nat.le_max_left n m)) h1, Option.bind_some]
      exact dGoL_mono (call_mono (Nat.le_max_right n m)) l h2
  · rename_i hw
    constructor
    · rintro ⟨n, a', h1, h2⟩
      simp only [dGoL, hw, if_false, Option.bind_some] at h1
      exact ⟨n, a', h1, h2⟩
    · rintro ⟨n, a', h1, h2⟩
      refine ⟨n, a', ?_, h2⟩
      simp only [dGoL, hw, if_false, Option.bind_some]
      exact h1

theorem wp_dstep {o : Oper} {h : Nat} {s : AS} {Q : AS → Prop} (hc : cls P o ≠ .n) : DStepR P pr h o s Q ↔ StepR P pr o s Q := by
  unfold DStepR StepR dStep
  constructor <;> rintro ⟨n, s', h1, h2⟩ <;> refine ⟨n, s', ?_, h2⟩
  · split at h1
    · rename_i hn; exact absurd hn hc
    · exact h1
  · split
    · rename_i hn; exact absurd hn hc
    · exact h1

section
variable {d : Option Tmp} {ty : TypeId} {p : String} {a : Array Edge} {g : Option (Nat × Bool)} {s : AS} {Q : AS → Prop} {h : Nat}
end
end
end Go.Am

/- A function whose answer is known becomes a word of the abstract machine: what it leaves behind is forgotten. -/
namespace Go.Am
open Go

mutual
def belowV (N : Nat) : Value → Bool
  | .pointer (some ⟨b, _, _⟩) => decide (b < N)
  | .slice (some ⟨b, _, _⟩) _ _ => decide (b < N)
  | .map (some b) => decide (b < N)
  | .chan (some b) => decide (b < N)
  | .func _ ⟨xs⟩ ⟨cs⟩ => belowL N xs && belowL N cs
  | .iface _ v => belowV N v
  | .agg ⟨xs⟩ => belowL N xs
  | .tuple ⟨xs⟩ => belowL N xs
  | _ => true
def belowL (N : Nat) : List Value → Bool
  | [] => true
  | v :: vs => belowV N v && belowL N vs
end

def belowO (N : Nat) : AObj → Bool
  | .cells c _ _ => belowL N c
  | .map es _ => es.all fun e => belowV N e.key && belowV N e.val
  | .miter (some m) _ _ _ => decide (m < N)
  | _ => true

mutual
theorem VRel.under {β : Inj} {N : Nat} (hN : ∀ h l, β h = some l → h < N) {v v' : Value} : VRel β v v' → belowV N v = true
  | .bool _ => rfl
  | .int _ _ => rfl
  | .float _ _ => rfl
  | .complex _ _ _ => rfl
  | .string _ => rfl
  | .pnil => rfl
  | .ptr h => by simp [belowV, hN _ _ h]
  | .snil => rfl
  | .slice h _ _ _ _ => by simp [belowV, hN _ _ h]
  | .sliceE h _ => by simp [belowV, hN _ _ h]
  | .mnil => rfl
  | .map h => by simp [belowV, hN _ _ h]
  | .cnil => rfl
  | .chan h => by simp [belowV, hN _ _ h]
  | .func h k => by simp only [belowV, LRel.under hN h, LRel.under hN k, Bool.and_self]
  | .nilFunc => rfl
  | .iface h => by simp only [belowV, VRel.under hN h]
  | .nilIface => rfl
  | .agg h => by simp only [belowV, LRel.under hN h]
  | .tuple h => by simp only [belowV, LRel.under hN h]
theorem LRel.under {β : Inj} {N : Nat} (hN : ∀ h l, β h = some l → h < N) {v v' : List Value} : LRel β v v' → belowL N v = true
  | .nil => rfl
  | .cons h k => by simp only [belowL, VRel.under hN h, LRel.under hN k, Bool.and_self]
end

mutual
theorem VRel.cut {β β' : Inj} {N : Nat} (hN : ∀ h, h < N → β' h = β h) {v v' : Value} : VRel β' v v' → belowV N v = true → VRel β v v'
  | .bool b, _ => .bool b
  | .int k n, _ => .int k n
  | .float k n, _ => .float k n
  | .complex k n m, _ => .complex k n m
  | .string s, _ => .string s
  | .pnil, _ => .pnil
  | .ptr h, hb => .ptr (by rw [← hN _ (by simpa [belowV] using hb)]; exact h)
  | .snil, _ => .snil
  | .slice h a b c d, hb => .slice (by rw [← hN _ (by simpa [belowV] using hb)]; exact h) a b c d
  | .sliceE h k, hb => .sliceE (by rw [← hN _ (by simpa [belowV] using hb)]; exact h) k
  | .mnil, _ => .mnil
  | .map h, hb => .map (by rw [← hN _ (by simpa [belowV] using hb)]; exact h)
  | .cnil, _ => .cnil
  | .chan h, hb => .chan (by rw [← hN _ (by simpa [belowV] using hb)]; exact h)
  | .func h k, hb => by simp only [belowV, Bool.and_eq_true] at hb; exact .func (LRel.cut hN h hb.1) (LRel.cut hN k hb.2)
  | .nilFunc, _ => .nilFunc
  | .iface h, hb => by simp only [belowV] at hb; exact .iface (VRel.cut hN h hb)
  | .nilIface, _ => .nilIface
  | .agg h, hb => by simp only [belowV] at hb; exact .agg (LRel.cut hN h hb)
  | .tuple h, hb => by simp only [belowV] at hb; exact .tuple (LRel.cut hN h hb)
theorem LRel.cut {β β' : Inj} {N : Nat} (hN : ∀ h, h < N → β' h = β h) {v v' : List Value} : LRel β' v v' → belowL N v = true → LRel β v v'
  | .nil, _ => .nil
  | .cons h k, hb => by simp only [belowL, Bool.and_eq_true] at hb; exact .cons (VRel.cut hN h hb.1) (LRel.cut hN k hb.2)
end

theorem belowL_get {N : Nat} : ∀ {l : List Value} {i : Nat} {v : Value}, belowL N l = true → l[i]? = some v → belowV N v = true
  | [], _, _, _, h => by simp at h
  | x :: xs, 0, v, hb, h => by simp only [belowL, Bool.and_eq_true] at hb; simp at h; subst h; exact hb.1
  | x :: xs, i + 1, v, hb, h => by simp only [belowL, Bool.and_eq_true] at hb; exact belowL_get hb.2 (by simpa using h)

theorem ERel.cut {β β' : Inj} {N : Nat} (hN : ∀ h, h < N → β' h = β h) {es es' : List MapEntry} (h : ERel β' es es') : (es.all fun e => belowV N e.key && belowV N e.val) = true → ERel β es es' := by
  induction h with
  | nil => intro _; exact .nil
  | cons a b c _ ih =>
    intro hb
    simp only [List.all_cons, Bool.and_eq_true] at hb
    exact .cons (a.cut hN hb.1.1) (b.cut hN hb.1.2) c (ih (by simpa using hb.2))

theorem ORel.cut {β β' : Inj} {N : Nat} (hN : ∀ h, h < N → β' h = β h) {l : Loc} {w : World} {o : AObj} (h : ORel β' l w o) (hb : belowO N o = true) : ORel β l w o := by
  cases o with
  | dead => trivial
  | cells c T wr =>
    refine ⟨fun i v hv => ?_, h.2⟩
    obtain ⟨v', h1, h2⟩ := h.1 i v hv
    exact ⟨v', h1, h2.cut hN (belowL_get hb hv)⟩
  | map es clock =>
    obtain ⟨es', h1, h2⟩ := h
    exact ⟨es', h1, h2.cut hN hb⟩
  | siter s pos => exact h
  | miter m since seen st =>
    cases m with
    | none => exact h
    | some m => exact ⟨h.1, h.2.choose, by rw [← hN m (by simpa [belowO] using hb)]; exact h.2.choose_spec.1, h.2.choose_spec.2⟩

theorem ORel.under {β : Inj} {N : Nat} (hN : ∀ h l, β h = some l → h < N) {l : Loc} {w : World} {o : AObj} (h : ORel β l w o) : belowO N o = true := by
  cases o with
  | dead => rfl
  | cells c T wr =>
    have : ∀ (c : List Value), (∀ (i : Nat) (v : Value), c[i]? = some v → ∃ v', VRel β v v') → belowL N c = true := by
      intro c
      induction c with
      | nil => intro _; rfl
      | cons x xs ih =>
        intro hx
        simp only [belowL, Bool.and_eq_true]
        obtain ⟨v', hv⟩ := hx 0 x rfl
        exact ⟨hv.under hN, ih fun i v hi => hx (i + 1) v (by simpa using hi)⟩
    exact this c fun i v hv => (h.1 i v hv).imp fun _ hh => hh.2
  | map es clock =>
    obtain ⟨es', h1, h2⟩ := h
    clear h1
    show (es.all fun e => belowV N e.key && belowV N e.val) = true
    induction h2 with
    | nil => rfl
    | cons a b c _ ih => simp only [List.all_cons, a.under hN, b.under hN, Bool.and_self, Bool.true_and]; exact ih
  | siter s pos => rfl
  | miter m since seen st =>
    cases m with
    | none => rfl
    | some m => simpa [belowO] using hN _ _ h.2.choose_spec.1

/-- H'' holds H' and, behind it, what may be forgotten. -/
structure Left (H H' H'' : AHeap) : Prop where
  next : H'.next = H.next
  same : ∀ h, h < H.next → H''.get h = H'.get h
  below : ∀ h, h < H.next → H'.get h = H.get h ∨ belowO H.next (H'.get h) = true

theorem Left.keep {H H' H'' : AHeap} (l : Left H H' H'') (k : AKeep H H'') : AKeep H H' where
  next := by rw [l.next]; exact Nat.le_refl _
  dead := fun h hh hd => by rw [← l.same h hh]; exact k.dead h hh hd
  fresh := fun h hl => by
    have hh : h < H.next := by
      rcases Nat.lt_or_ge h H.next with h1 | h1
      · exact h1
      · rw [get_ge H' h (by rw [l.next]; exact h1)] at hl; simp [AObj.live] at hl
    rw [← l.same h hh] at hl ⊢
    exact k.fresh h hl
  ro := fun h h1 h2 => by
    have hh : h < H.next := by
      rcases Nat.lt_or_ge h H.next with h3 | h3
      · exact h3
      · rw [get_ge H h h3] at h1; simp [AObj.live] at h1
    rw [← l.same h hh]
    exact k.ro h h1 h2

theorem Left.step {P : Program} {B : Nat} {β β' : Inj} {H H' H'' : AHeap} {w w' : World} (l : Left H H' H'') (r : HRel P B β H w) (st : Step P B β H w β' H'' w') : Step P B β H w β H' w' := by
  have agree : ∀ h, h < H.next → β' h = β h := fun h hh => by
    cases e : β h with
    | none => exact (st.keep h hh e).2
    | some x => exact st.sub h x e
  exact
    { sub := .refl β
      rel :=
        { obj := fun h x e => by
            have hh := r.dom h x e
            have ho := st.rel.obj h x (st.sub h x e)
            rw [l.same h hh] at ho
            refine ho.cut agree ?_
            rcases l.below h hh with hb | hb
            · rw [hb]; exact (r.obj h x e).under r.dom
            · exact hb
          blk := fun h x e => st.rel.blk h x (st.sub h x e)
          excl := fun h k x y ex ey hw hl hne => st.rel.excl h k x y (st.sub h x ex) (st.sub k y ey) (by rw [l.same h (r.dom h x ex)]; exact hw) (by rw [l.same k (r.dom k y ey)]; exact hl) hne
          low := fun h x e hw => st.rel.low h x (st.sub h x e) (by rw [l.same h (r.dom h x e)]; exact hw)
          dom := fun h x e => by rw [l.next]; exact r.dom h x e
          glob := r.glob
          base := st.rel.base }
      size := st.size
      os := st.os
      output := st.output
      tape := st.tape
      frame := st.frame
      own := fun h x e hw hlt => st.own h x (st.sub h x e) (by rw [l.same h (r.dom h x e)]; exact hw) hlt
      next := by rw [l.next]; exact Nat.le_refl _
      keep := fun h hh e => ⟨by rw [← l.same h hh]; exact (st.keep h hh e).1, e⟩ }

/-- One word more. -/
def Prims.add (pr : Prims) (g : FuncId) (f : List Value → AHeap → Option (Value × AHeap)) : Prims := ⟨pr.code, fun k => if k = g then some f else pr.call k, pr.draw⟩

/-- What is asked of a word. -/
def Word (P : Program) (pr : Prims) (g : FuncId) (f : List Value → AHeap → Option (Value × AHeap)) : Prop :=
  ∀ args H v H', f args H = some (v, H') → CallR P pr g args H (fun v' H'' => v' = v ∧ belowV H.next v = true ∧ Left H H' H'')

theorem Word.keep {P : Program} {pr : Prims} {g : FuncId} {f : List Value → AHeap → Option (Value × AHeap)} (hw : Word P pr g f) (hk : PrimKeep pr) : PrimKeep (pr.add g f) where
  code := hk.code
  call := fun k f' hf args H v H' h => by
    simp only [Prims.add] at hf
    split at hf
    · rename_i hkg
      subst hkg
      simp only [Option.some.injEq] at hf
      subst hf
      obtain ⟨n, v1, H1, h1, rfl, hb, hl⟩ := hw args H v H' h
      exact hl.keep (call_keep hk n k args H v1 H1 h1)
    · exact hk.call k f' hf args H v H' h

/-- What temporaries hold at first. -/
def Args (tm : List Value) (n : Nat) : Nat → List Value → Prop
  | i, [] => tm.length = n
  | i, v :: vs => tm.getD i undef = v ∧ Args tm n (i + 1) vs

theorem args_start {n : Nat} : ∀ (pre args : List Value), pre.length + args.length ≤ n → Args (pre ++ args ++ List.replicate (n - (pre ++ args).length) undef) n pre.length args
  | pre, [], h => by simp [Args]; simp at h; omega
  | pre, v :: vs, h => by
    refine ⟨by simp [List.getD], ?_⟩
    have := args_start (n := n) (pre ++ [v]) vs (by simp at h ⊢; omega)
    simpa using this

theorem CallR.go {P : Program} {pr : Prims} {g : FuncId} {args : List Value} {H : AHeap} {fn : Func} {c : Code} {Q : Value → AHeap → Prop} (hp : pr.call g = none) (hfn : P.funcs[g]? = some fn) (hb : fn.body = some c) (n : Nat) (hn : fn.ntmps = n) (hle : args.length ≤ n)
    (h : ∀ tm, Args tm n 0 args → CodeR P pr g c ⟨tm, H⟩ (fun e s' => (e = .normal ∨ e = .ret) ∧ ∃ v, aResults P fn s' = some v ∧ Q v s'.H)) : CallR P pr g args H Q := by
  subst hn
  refine CallR.enter hp hfn hb (h _ ?_)
  have := args_start (n := fn.ntmps) [] args (by simpa using hle)
  simpa using this

theorem CodeR.then {P : Program} {pr : Prims} {f : Nat} {a b : Code} {s : AS} {Q : AEx → AS → Prop} (h : CodeR P pr f a s (andThen (fun s' => CodeR P pr f b s' Q) Q)) : CodeR P pr f (.seq a b) s Q := wp_seq'.2 h
theorem CodeR.ops {P : Program} {pr : Prims} {f id : Nat} {ops : Array Oper} {s : AS} {Q : AEx → AS → Prop} (h : OpsR P pr ops ops.toList s (Q .normal)) : CodeR P pr f (.region id ops false) s Q := .region h
theorem OpsR.done {P : Program} {pr : Prims} {ops : Array Oper} {s : AS} {Q : AEx → AS → Prop} {k : AS → Prop} (h : k s) : OpsR P pr ops [] s (andThen k Q .normal) := .nil h

/-- A drawn region, begun. -/
theorem CodeR.drawn {P : Program} {pr : Prims} {f id : Nat} {ops : Array Oper} {s : AS} {Q : AEx → AS → Prop} (ps : List (Nat × Nat)) (hp : drawPairs P ops = some ps)
    (h : DrawL P pr ops ps s.H.next ops.toList 0 ⟨⟨s.tm, reserve s.H ops.size⟩, [], []⟩ (fun a => drawOK ps a ∧ Q .normal a.s)) : CodeR P pr f (.region id ops true) s Q := (wp_draw hp).2 h
theorem DrawL.go {P : Program} {pr : Prims} {ops : Array Oper} {ps : List (Nat × Nat)} {base : Nat} {o : Oper} {l : List Oper} {i : Nat} {a : DAcc} {s1 : AS} {Q : DAcc → Prop} (hw : Region.wanted o (ayield ops a.s.tm) = true) (h1 : dStep P (fun _ _ _ => none) (base + i) o a.s = some s1)
    (h : DrawL P pr ops ps base l (i + 1) (note P ops ps o i a s1) Q) : DrawL P pr ops ps base (o :: l) i a Q :=
  wp_dcons.2 (by rw [if_pos hw]; exact ⟨0, s1, dStep_mono (fun _ _ _ _ h => by simp at h) h1, h⟩)
theorem dStep_op {P : Program} {c : CallF} {h : Nat} {o : Oper} {s : AS} (hc : cls P o ≠ .n) : dStep P c h o s = opStep P c o s := by
  unfold dStep
  split
  · rename_i hn; exact absurd hn hc
  · rfl
end Go.Am

/- Whole numbers that are not below nought, as natural numbers. -/
namespace Go.Am
open Go

theorem wrap_u (k : IntKind) (hs : k.signed = false) (n : Nat) : k.wrap (n : Int) = ((n % 2 ^ k.bits : Nat) : Int) := by
  unfold IntKind.wrap
  simp only [hs, Bool.false_and, Bool.false_eq_true, if_false]
  norm_cast

theorem wrap_u8 (n : Nat) : IntKind.u8.wrap (n : Int) = ((n % 256 : Nat) : Int) := wrap_u .u8 rfl n
theorem wrap_u64 (n : Nat) : IntKind.u64.wrap (n : Int) = ((n % 18446744073709551616 : Nat) : Int) := wrap_u .u64 rfl n
theorem wrap_i64 {n : Nat} (h : n < 9223372036854775808) : IntKind.i64.wrap (n : Int) = (n : Int) := IntWalk.i64_in _ (by omega)

theorem bv_or (k : IntKind) (a b : Nat) : ((BitVec.ofInt k.bits (a : Int) ||| BitVec.ofInt k.bits (b : Int)).toNat : Int) = (((a % 2 ^ k.bits) ||| (b % 2 ^ k.bits) : Nat) : Int) := by
  rw [BitVec.toNat_or, BitVec.ofInt_natCast, BitVec.ofInt_natCast, BitVec.toNat_ofNat, BitVec.toNat_ofNat]
theorem u_or {k : IntKind} (hs : k.signed = false) {a b : Nat} (ha : a < 2 ^ k.bits) (hb : b < 2 ^ k.bits) : intBin .or k (a : Int) (b : Int) = some (.int k ((a ||| b : Nat) : Int)) := by
  simp only [intBin, bv_or, wrap_u k hs, Nat.mod_eq_of_lt ha, Nat.mod_eq_of_lt hb]
  rw [Nat.mod_eq_of_lt (Nat.or_lt_two_pow ha hb)]
theorem cast_fdiv (a b : Nat) : (a : Int).fdiv (b : Int) = ((a / b : Nat) : Int) := by rw [Int.fdiv_eq_ediv_of_nonneg _ (by omega)]; norm_cast
theorem cast_tdiv (a b : Nat) : (a : Int).tdiv (b : Int) = ((a / b : Nat) : Int) := by rw [Int.tdiv_eq_ediv_of_nonneg (by omega)]; norm_cast
theorem cast_tmod (a b : Nat) : (a : Int).tmod (b : Int) = ((a % b : Nat) : Int) := by rw [Int.tmod_eq_emod_of_nonneg (by omega)]; norm_cast
theorem pow_cast (n : Nat) : ((2 : Int) ^ n) = ((2 ^ n : Nat) : Int) := by norm_cast

theorem n_shr {P : Program} {t : TypeId} {k k' : IntKind} {a b : Nat} (hb : b ≤ k.bits) : binV P .shr t (.int k (a : Int)) (.int k' (b : Int)) = some (.int k ((a >>> b : Nat) : Int)) := by
  rw [bin_shr (by omega), Int.toNat_natCast, Nat.min_eq_left hb, pow_cast, cast_fdiv, Nat.shiftRight_eq_div_pow]
theorem u_shl {P : Program} {t : TypeId} {k k' : IntKind} {a b : Nat} (hs : k.signed = false) (hb : b ≤ k.bits) : binV P .shl t (.int k (a : Int)) (.int k' (b : Int)) = some (.int k (((a <<< b) % 2 ^ k.bits : Nat) : Int)) := by
  rw [bin_shl (by omega), Int.toNat_natCast, Nat.min_eq_left hb, pow_cast, ← Int.natCast_mul, wrap_u k hs, Nat.shiftLeft_eq]

/-- i64. -/
theorem i_add {a b : Nat} (h : a + b < 9223372036854775808) : intBin .add .i64 (a : Int) (b : Int) = some (.int .i64 ((a + b : Nat) : Int)) := by
  simp only [intBin, ← Int.natCast_add, wrap_i64 h]
theorem i_sub {a b : Nat} (h : b ≤ a) (h2 : a < 9223372036854775808) : intBin .sub .i64 (a : Int) (b : Int) = some (.int .i64 ((a - b : Nat) : Int)) := by
  simp only [intBin, ← Int.ofNat_sub h, wrap_i64 (show a - b < 9223372036854775808 by omega)]
theorem i_mul {a b : Nat} (h : a * b < 9223372036854775808) : intBin .mul .i64 (a : Int) (b : Int) = some (.int .i64 ((a * b : Nat) : Int)) := by
  simp only [intBin, ← Int.natCast_mul, wrap_i64 h]
theorem i_quo {a b : Nat} (hb : b ≠ 0) (h : a < 9223372036854775808) : intBin .quo .i64 (a : Int) (b : Int) = some (.int .i64 ((a / b : Nat) : Int)) := by
  have hb' : (b : Int) ≠ 0 := by omega
  simp only [intBin, hb', if_false, cast_tdiv, wrap_i64 (show a / b < 9223372036854775808 from Nat.lt_of_le_of_lt (Nat.div_le_self _ _) h)]
theorem i_rem {k : IntKind} {a b : Nat} (hb : b ≠ 0) : intBin .rem k (a : Int) (b : Int) = some (.int k ((a % b : Nat) : Int)) := by
  have hb' : (b : Int) ≠ 0 := by omega
  simp only [intBin, hb', if_false, cast_tmod]
theorem i_lss {k : IntKind} {a b : Nat} : intBin .lss k (a : Int) (b : Int) = some (.bool (decide (a < b))) := by simp only [intBin, Int.ofNat_lt]
theorem i_leq {k : IntKind} {a b : Nat} : intBin .leq k (a : Int) (b : Int) = some (.bool (decide (a ≤ b))) := by simp only [intBin, Int.ofNat_le]
theorem i_gtr {k : IntKind} {a b : Nat} : intBin .gtr k (a : Int) (b : Int) = some (.bool (decide (b < a))) := by simp only [intBin, gt_iff_lt, Int.ofNat_lt]
theorem i_geq {k : IntKind} {a b : Nat} : intBin .geq k (a : Int) (b : Int) = some (.bool (decide (b ≤ a))) := by simp only [intBin, ge_iff_le, Int.ofNat_le]
theorem bin_i {P : Program} {op : BinOp} {t : TypeId} {k : IntKind} {x y : Int} (h : (match op with | .eql | .neq | .shl | .shr => false | _ => true) = true) : binV P op t (.int k x) (.int k y) = intBin op k x y := by
  cases op <;> simp_all [binV]
theorem ia_slice {P : Program} {t e : TypeId} {b o n c i sz : Nat} {k : IntKind} (h : P.underlying t = some (.slice e)) (hs : szT P e = some sz) (hi : i < n) : indexAddrV P t (.slice (some ⟨b, o, none⟩) n c) (.int k (i : Int)) = some (.pointer (some ⟨b, o + i * sz, none⟩)) := by
  have : (0 : Int) ≤ (i : Int) ∧ (i : Int) < (n : Int) := by omega
  simp only [indexAddrV, h, hs, Option.bind_some, this, and_self, if_true, Int.toNat_natCast]
theorem ia_array {P : Program} {t e : TypeId} {b o n i sz : Nat} {k : IntKind} (h : P.underlying t = some (.array n e)) (hs : szT P e = some sz) (hi : i < n) : indexAddrV P t (.pointer (some ⟨b, o, none⟩)) (.int k (i : Int)) = some (.pointer (some ⟨b, o + i * sz, none⟩)) := by
  have : (0 : Int) ≤ (i : Int) ∧ (i : Int) < (n : Int) := by omega
  simp only [indexAddrV, h, hs, Option.bind_some, this, and_self, if_true, Int.toNat_natCast]
theorem load_ptr {P : Program} {t : TypeId} {b o : Nat} {H : AHeap} : loadA P t (.pointer (some ⟨b, o, none⟩)) H = aLoad P t (H.get b) o := rfl
theorem load_cell {P : Program} {t T : TypeId} {o : Nat} {c : List Value} {w : Bool} (h : aggT P t = some false) : aLoad P t (.cells c T w) o = c[o]? := by simp only [aLoad, h]
theorem load_agg {P : Program} {t T : TypeId} {o n : Nat} {c : List Value} {w : Bool} (h : aggT P t = some true) (hs : szT P t = some n) : aLoad P t (.cells c T w) o = if o + n ≤ c.length then some (.agg ⟨(c.drop o).take n⟩) else none := by simp only [aLoad, h, hs, Option.bind_some]
theorem conv_int {P : Program} {s d : TypeId} {D : TypeDesc} {k k' : IntKind} {x : Int} (hs : P.underlying s = some D) (hd : P.underlying d = some (.int k)) : convV P s d (.int k' x) = some (.int k (k.wrap x)) := by
  simp only [convV, hs, hd]
theorem st_conv_int {P : Program} {c : CallF} {d : Option Tmp} {ty : TypeId} {p : String} {a : Array Edge} {g : Option (Nat × Bool)} {s : AS} {t u : TypeId} {x : Operand} {k k' : IntKind} (hs : P.underlying t = some (.int k')) (hd : P.underlying u = some (.int k)) :
    opStep P c ⟨d, .convert t u x, ty, p, a, g⟩ s = (convV P t u (aval s.tm x)).map fun v => ⟨putT s.tm d v, s.H⟩ := by
  have hc : cls P ⟨d, .convert t u x, ty, p, a, g⟩ = .p := by simp only [cls, hs, hd]
  unfold opStep
  rw [hc]
  rfl

theorem CodeR.blk {P : Program} {pr : Prims} {f id : Nat} {b : Code} {s : AS} {Q : AEx → AS → Prop} (hp : pr.code f id = none) (h : CodeR P pr f b s (inBlock id Q)) : CodeR P pr f (.block id b) s Q := (wp_block' hp).2 h
theorem CodeR.yes {P : Program} {pr : Prims} {f : Nat} {x : Operand} {a b : Code} {s : AS} {Q : AEx → AS → Prop} (hx : aval s.tm x = .bool true) (h : CodeR P pr f a s Q) : CodeR P pr f (.cond x a b) s Q := CodeR.cond hx h
theorem CodeR.no {P : Program} {pr : Prims} {f : Nat} {x : Operand} {a b : Code} {s : AS} {Q : AEx → AS → Prop} (hx : aval s.tm x = .bool false) (h : CodeR P pr f b s Q) : CodeR P pr f (.cond x a b) s Q := CodeR.cond hx h
theorem lay_one {c : List Value} {o : Nat} {v : Value} (h : o < c.length) : lay c o [v] = c.set o v := by
  simp only [lay, List.length_singleton]
  rw [List.set_eq_take_append_cons_drop, if_pos h]
  simp

section
variable {P : Program} {c : CallF} {d : Option Tmp} {ty : TypeId} {p : String} {a : Array Edge} {g : Option (Nat × Bool)} {s : AS}
end
section
variable {P : Program} {pr : Prims} {ops : Array Oper}

/-- A word, called. -/
theorem OpsR.word {o : Oper} {l : List Oper} {s : AS} {g : FuncId} {args : List Value} {f : List Value → AHeap → Option (Value × AHeap)} {v : Value} {H' : AHeap} {Q : AS → Prop} (hw : Region.wanted o (ayield ops s.tm) = true) (hc : cls P o = .c) (hq : cop P (aval s.tm) o = some (g, args))
    (hp : pr.call g = some f) (hf : f args s.H = some (v, H')) (h : OpsR P pr ops l ⟨putT s.tm o.dst v, H'⟩ Q) : OpsR P pr ops (o :: l) s Q := OpsR.call hw hc hq (CallR.prim hp hf h)

/-- A drawn region, where what is watched is not turned. -/
def DrawK (P : Program) (pr : Prims) (ops : Array Oper) (ps : List (Nat × Nat)) (base : Nat) (l : List Oper) (i : Nat) (s : AS) (Q : AS → Prop) : Prop :=
  ∀ a : DAcc, a.s = s → (∀ x ∈ a.writes, x.2.1 = x.2.2) → DrawL P pr ops ps base l i a (fun a => drawOK ps a ∧ Q a.s)

theorem DrawK.end {ps : List (Nat × Nat)} {base i : Nat} {s : AS} {Q : AS → Prop} (h : Q s) : DrawK P pr ops ps base [] i s Q := by
  intro a ha hw
  refine wp_dnil.2 ⟨fun p _ r _ _ x hx _ => by rw [hw x hx], ?_⟩
  rw [ha]; exact h

theorem DrawK.note {ps : List (Nat × Nat)} {base i : Nat} {o : Oper} {l : List Oper} {s s1 : AS} {Q : AS → Prop} {a : DAcc} (ha : a.s = s) (hw : ∀ x ∈ a.writes, x.2.1 = x.2.2) (hn : ps.any (fun p => p.2 == i) = true → s1.H = s.H) (h : DrawK P pr ops ps base l (i + 1) s1 Q) :
    DrawL P pr ops ps base l (i + 1) (Am.note P ops ps o i a s1) (fun a => drawOK ps a ∧ Q a.s) := by
  refine h _ rfl ?_
  intro x hx
  simp only [Am.note] at hx
  split at hx
  · rename_i hp
    rcases List.mem_cons.1 hx with rfl | hx
    · simp only [ha]; exact (hn hp).symm
    · exact hw x hx
  · exact hw x hx

theorem DrawK.step {ps : List (Nat × Nat)} {base i : Nat} {o : Oper} {l : List Oper} {s s1 : AS} {Q : AS → Prop} (hw : Region.wanted o (ayield ops s.tm) = true) (hn : ps.any (fun p => p.2 == i) = false) (h1 : dStep P (fun _ _ _ => none) (base + i) o s = some s1) (h : DrawK P pr ops ps base l (i + 1) s1 Q) :
    DrawK P pr ops ps base (o :: l) i s Q := by
  intro a ha hwr
  subst ha
  exact DrawL.go hw h1 (DrawK.note rfl hwr (fun hp => by rw [hn] at hp; simp at hp) h)

theorem DrawK.word {ps : List (Nat × Nat)} {base i : Nat} {o : Oper} {l : List Oper} {s : AS} {Q : AS → Prop} {g : FuncId} {args : List Value} {f : List Value → AHeap → Option (Value × AHeap)} {v : Value} (hw : Region.wanted o (ayield ops s.tm) = true) (hc : cls P o = .c) (hq : cop P (aval s.tm) o = some (g, args))
    (hp : pr.call g = some f) (hf : f args s.H = some (v, s.H)) (h : DrawK P pr ops ps base l (i + 1) ⟨putT s.tm o.dst v, s.H⟩ Q) : DrawK P pr ops ps base (o :: l) i s Q := by
  intro a ha hwr
  subst ha
  refine wp_dcons.2 ?_
  rw [if_pos hw]
  refine (wp_dstep (by rw [hc]; simp)).2 ((wp_callF hc).2 ⟨(g, args), hq, CallR.prim hp hf ?_⟩)
  exact DrawK.note rfl hwr (fun _ => rfl) h
end

theorem w_lt_mod (a : Nat) : a % 4294967296 < 4294967296 := Nat.mod_lt _ (by decide)
theorem w_lt_or {a b : Nat} (ha : a < 4294967296) (hb : b < 4294967296) : a ||| b < 4294967296 := Nat.or_lt_two_pow (n := 32) ha hb
theorem get_live_lt {H : AHeap} {h : Nat} (hl : (H.get h).live = true) : h < H.next := by
  rcases Nat.lt_or_ge h H.next with h1 | h1
  · exact h1
  · rw [get_ge H h h1] at hl; simp [AObj.live] at hl

/-- A whole row, read. -/
theorem load_all {P : Program} {t T : TypeId} {n : Nat} {c : List Value} {w : Bool} (h : aggT P t = some true) (hs : szT P t = some n) (hl : c.length = n) : aLoad P t (.cells c T w) 0 = some (.agg ⟨c⟩) := by
  subst hl
  simp [aLoad, h, hs]
end Go.Am
