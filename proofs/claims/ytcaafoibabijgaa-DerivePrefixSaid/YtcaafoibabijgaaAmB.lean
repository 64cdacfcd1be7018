/- The abstract machine: writes, code, the simulation. -/
import Derived.Test.YtcaafoibabijgaaAmA
import Derived.Lib.IndexBytes
import Derived.IntWalk
import Derived.Scope
import Derived.LoopN
import Derived.Orders
set_option linter.unusedSimpArgs false
set_option linter.unusedVariables false
/- The operations that write: store, copy, append, maps. -/
namespace Go.Am
open Go

structure Wrote (w w' : World) (b : Nat) (o : Obj) : Prop where
  size : w'.heap.size = w.heap.size
  at_ : w'.heap[b]? = some o
  old : ∀ k, k ≠ b → w'.heap[k]? = w.heap[k]?
  os : w'.os = w.os
  output : w'.output = w.output
  tape : w'.tape = w.tape

theorem lay_cons {cs : List Value} {off : Nat} {v : Value} {vs : List Value} (h : off + 1 + vs.length ≤ cs.length) : lay (cs.set off v) (off + 1) vs = lay cs off (v :: vs) := by
  apply List.ext_getElem?
  intro i
  rw [getElem?_lay (by simp; omega), getElem?_lay (by simp; omega)]
  simp only [List.length_cons, List.getElem?_set]
  by_cases h1 : off + 1 ≤ i ∧ i < off + 1 + vs.length
  · rw [if_pos h1, if_pos (by omega), show i - off = (i - (off + 1)) + 1 by omega, List.getElem?_cons_succ]
  · rw [if_neg h1]
    by_cases h2 : off = i
    · subst h2
      rw [if_pos rfl, if_pos (by omega), if_pos (by omega)]
      simp
    · rw [if_neg h2, if_neg (by omega)]

theorem run_storeCells_lay {P : Program} {b o : Nat} {T : TypeId} {fr : Nat × Nat} : ∀ (vs : List Value) (i : Nat) (cur : Array Value) (w : World), w.heap[b]? = some (.cells cur T fr) → o + i + vs.length ≤ cur.size →
    (∀ j, j < cur.size → ¬ (fr.1 ≤ j ∧ j < fr.2)) → (∀ v ∈ vs, v.oneCell' = true) →
    ∃ w', (storeCells ⟨b, o, none⟩ vs i).run P w = .ok () w' ∧ Wrote w w' b (.cells ⟨lay cur.toList (o + i) vs⟩ T fr)
  | [], i, cur, w, h, hl, _, _ => ⟨w, rfl, rfl, by rw [h]; simp [lay], fun _ _ => rfl, rfl, rfl, rfl⟩
  | v :: vs, i, cur, w, h, hl, hfr, hv => by
    simp only [List.length_cons] at hl
    have hlt : o + i < cur.size := by omega
    have hc : w.cell? ⟨b, o + i, none⟩ = some cur[o + i] := by simp [World.cell?, h, hlt]
    have hf : w.frozen? ⟨b, o + i, none⟩ = false := by
      have := hfr (o + i) hlt
      simp only [World.frozen?, h]
      simp only [Bool.and_eq_false_iff, decide_eq_false_iff_not]
      omega
    have hb : (w.setCell ⟨b, o + i, none⟩ v).heap[b]? = some (.cells (cur.setIfInBounds (o + i) v) T fr) := by
      simp [World.setCell, Array.getElem?_modify, h]
    obtain ⟨w', hr, hw⟩ := run_storeCells_lay (P := P) (o := o) vs (i + 1) (cur.setIfInBounds (o + i) v) (w.setCell ⟨b, o + i, none⟩ v) hb (by simp; omega) (fun j hj => hfr j (by simpa using hj)) (fun u hu => hv u (by simp [hu]))
    refine ⟨w', ?_, ?_⟩
    · simp only [storeCells, Sem.run_bind, Addr.add_mk]
      rw [run_store P w _ v .plain (hv v (by simp))]
      simp only [hc, hf, Bool.false_eq_true, if_false, Result.andThen_ok]
      exact hr
    · refine ⟨by rw [hw.size]; simp, ?_, fun k hk => by rw [hw.old k hk]; simp [World.setCell, Array.getElem?_modify, Ne.symm hk], hw.os, hw.output, hw.tape⟩
      rw [hw.at_, Array.toList_setIfInBounds, ← Nat.add_assoc, lay_cons (by simp; omega)]

def oneL (vs : List Value) : Bool := vs.all Value.oneCell'

theorem VRel.oneCell {β : Inj} {v v' : Value} (h : VRel β v v') (h1 : v.oneCell' = true) : v'.oneCell' = true := by
  cases h <;> first | rfl | simp [Value.oneCell'] at h1

theorem LRel.oneL {β : Inj} : ∀ {xs ys : List Value}, LRel β xs ys → Am.oneL xs = true → ∀ v ∈ ys, v.oneCell' = true
  | _, _, .nil, _ => fun v h => by simp at h
  | x :: xs, y :: ys, .cons h k, h1 => fun v hv => by
    simp only [Am.oneL, List.all_cons, Bool.and_eq_true] at h1
    rcases List.mem_cons.1 hv with rfl | hv
    · exact h.oneCell h1.1
    · exact k.oneL h1.2 v hv

/-- Values laid into an object that may be written: the machine's stores. -/
theorem write_cells {P : Program} {B : Nat} {β : Inj} {H : AHeap} {w : World} {b off : Nat} {l : Loc} {c : List Value} {T : TypeId} {vs vs' : List Value} (r : HRel P B β H w) (hb : β b = some l) (hg : H.get b = .cells c T true)
    (hl : off + vs.length ≤ c.length) (hv : LRel β vs vs') (h1 : oneL vs = true) :
    ∃ w', (storeCells ⟨l.blk, l.base + off, none⟩ vs').run P w = .ok () w' ∧ Step P B β H w β (H.set b (.cells (lay c off vs) T true)) w' := by
  have ho := r.obj b l hb
  rw [hg] at ho
  obtain ⟨hc, hw⟩ := ho
  obtain ⟨hlim, arr, T', fr, hblk, hsz, hfr⟩ := hw rfl
  have hvl := hv.length
  obtain ⟨w', hr, hwr⟩ := run_storeCells_lay (P := P) (o := l.base + off) vs' 0 arr w hblk (by omega) (fun j hj => hfr j (by omega)) (hv.oneL h1)
  refine ⟨w', hr, .write r hb (by rw [hg]; rfl) hwr.size hwr.old hwr.os hwr.output hwr.tape ⟨fun i v hi => ?_, fun _ => ⟨?_, ⟨lay arr.toList (l.base + off + 0) vs'⟩, T', fr, hwr.at_, ?_, hfr⟩⟩⟩
  · have hi' : i < c.length := by
      have := (List.getElem?_eq_some_iff.1 hi).1
      rwa [lay_length hl] at this
    have hcell : w'.cell? ⟨l.blk, l.base + i, none⟩ = (lay arr.toList (l.base + off) vs')[l.base + i]? := by
      simp [World.cell?, hwr.at_]
    rw [hcell, getElem?_lay (by simp; omega)]
    rw [getElem?_lay hl] at hi
    by_cases h2 : off ≤ i ∧ i < off + vs.length
    · rw [if_pos h2] at hi
      rw [if_pos (by omega), show l.base + i - (l.base + off) = i - off by omega]
      exact hv.get _ _ hi
    · rw [if_neg h2] at hi
      rw [if_neg (by omega)]
      obtain ⟨v', hv1, hv2⟩ := hc i v hi
      refine ⟨v', ?_, hv2⟩
      simp only [World.cell?, hblk] at hv1
      rw [← hv1]
      simp
  · rw [lay_length hl]; exact hlim
  · simp only [List.size_toArray]
    rw [lay_length (by simp; omega)]
    simpa using hsz

/-- What an operation that goes on gives. -/
inductive NextIs : Next → Value → Prop
  | value (v : Value) : NextIs (.value v) v
  | skip : NextIs .skip undef

def storeW (P : Program) (t : TypeId) (a x : Value) (H : AHeap) : Option AHeap :=
  match a with
  | .pointer (some ⟨b, off, none⟩) =>
    match H.get b with
    | .cells c T true => (szT P t).bind fun n => if x.cells.toList.length = n ∧ off + n ≤ c.length ∧ oneL x.cells.toList = true then some (H.set b (.cells (lay c off x.cells.toList) T true)) else none
    | _ => none
  | _ => none

theorem storeW_sim {P : Program} {B : Nat} {β : Inj} {H H' : AHeap} {w : World} {t : TypeId} {a x a' x' : Value} (r : HRel P B β H w) (h : storeW P t a x H = some H') (ha : VRel β a a') (hx : VRel β x x') :
    ∃ w', (Instr.storeAt t a' x').run P w = .ok () w' ∧ Step P B β H w β H' w' := by
  unfold storeW at h
  split at h
  · rename_i b off
    split at h
    · rename_i c T hg
      simp only [Option.bind_eq_some_iff, Option.ite_none_right_eq_some, Option.some.injEq] at h
      obtain ⟨n, hn, ⟨hxl, hle, h1⟩, rfl⟩ := h
      cases ha with
      | ptr hb =>
        obtain ⟨w', hr, hs⟩ := write_cells r hb hg (by rw [hxl]; exact hle) hx.cells h1
        refine ⟨w', ?_, hs⟩
        have hxl' : x'.cells.size = n := by rw [← hxl, hx.cells.length]; simp
        simp only [Instr.storeAt, Instr.sureAddr, storeVar, Sem.run_bind, Sem.run_pure, Result.andThen_ok, run_sizeOf' w hn, hxl', ne_eq, not_true_eq_false, if_false]
        exact hr
    · simp at h
  · simp at h

/-- Elements that a slice or a string holds, as cells. -/
def srcCells (sz : Nat) (x : Value) (H : AHeap) : Option (Nat × List Value) :=
  match x with
  | .slice none 0 0 => some (0, [])
  | .slice (some ⟨b, o, none⟩) n _ => if n = 0 then some (0, []) else match H.get b with
    | .cells c _ _ => if o + n * sz ≤ c.length then some (n, (c.drop o).take (n * sz)) else none
    | _ => none
  | .string s => if sz = 1 then some (s.size, s.data.toList.map fun c => .int .u8 c.toNat) else none
  | _ => none

theorem bytes_rel {β : Inj} (l : List UInt8) : LRel β (l.map fun c => (.int .u8 c.toNat : Value)) (l.map fun c => (.int .u8 c.toNat : Value)) := by
  induction l with
  | nil => exact .nil
  | cons c l ih => exact .cons (.int _ _) ih

theorem firstCells_zero {P : Program} {sz : Nat} {a : Option Addr} {n c : Nat} (w : World) : (Builtin.firstCells sz 0 (.slice a n c)).run P w = .ok #[] w := by
  cases a <;> simp [Builtin.firstCells, loadCells, loadCellsFrom]

theorem srcCells_sim {P : Program} {B : Nat} {β : Inj} {H : AHeap} {w : World} {sz n : Nat} {x x' : Value} {cs : List Value} (r : HRel P B β H w) (h : srcCells sz x H = some (n, cs)) (hx : VRel β x x') (m : Nat) (hm : m ≤ n) :
    (Builtin.lenOf x').run P w = .ok n w ∧ ∃ cs', (∀ w' : World, w'.heap = w.heap → (Builtin.firstCells sz m x').run P w' = .ok ⟨cs'⟩ w') ∧ LRel β (cs.take (m * sz)) cs' := by
  unfold srcCells at h
  split at h
  · simp only [Option.some.injEq, Prod.mk.injEq] at h
    obtain ⟨rfl, rfl⟩ := h
    cases hx
    have : m = 0 := by omega
    subst this
    exact ⟨rfl, [], fun w' _ => firstCells_zero w', by simp; exact .nil⟩
  · rename_i b o k c
    split at h
    · rename_i hk0
      subst hk0
      simp only [Option.some.injEq, Prod.mk.injEq] at h
      obtain ⟨rfl, rfl⟩ := h
      have : m = 0 := by omega
      subst this
      cases hx with
      | slice hb h1 h2 h3 h4 => exact ⟨rfl, [], fun w' _ => firstCells_zero w', by simp; exact .nil⟩
      | sliceE hb hk0 => exact ⟨rfl, [], fun w' _ => firstCells_zero w', by simp; exact .nil⟩
    split at h
    · rename_i cc T wr hg
      simp only [Option.ite_none_right_eq_some, Option.some.injEq, Prod.mk.injEq] at h
      obtain ⟨hle, rfl, rfl⟩ := h
      cases hx with
      | slice hb h1 h2 h3 h4 =>
        have ho := r.obj _ _ hb
        rw [hg] at ho
        have hmk : m * sz ≤ k * sz := Nat.mul_le_mul_right _ hm
        obtain ⟨s', hs, hr⟩ := load_segs (P := P) ho.1 (off := o) (n := m * sz) (by omega)
        refine ⟨rfl, s', hs, ?_⟩
        rw [List.take_take, Nat.min_eq_left hmk]
        exact hr
      | sliceE hb hk0 =>
        have : m = 0 := by omega
        subst this
        exact ⟨rfl, [], fun w' _ => firstCells_zero w', by simp; exact .nil⟩
    · simp at h
  · rename_i s
    simp only [Option.ite_none_right_eq_some, Option.some.injEq, Prod.mk.injEq] at h
    obtain ⟨rfl, rfl, rfl⟩ := h
    cases hx
    refine ⟨rfl, (s.data.toList.map fun c => (.int .u8 c.toNat : Value)).take m, ?_, ?_⟩
    · intro w' _
      simp only [Builtin.firstCells, Sem.run_pure]
      congr 1
      apply Array.ext'
      simp only [Array.toList_map]
      rw [← List.map_take, Lib.extract_data]
      simp
    · rw [Nat.mul_one, ← List.map_take]
      exact bytes_rel _
  · simp at h
end Go.Am

/- append and copy. -/
namespace Go.Am
open Go

/-- May it be appended: a slice or a string? -/
def notInt (P : Program) (t : TypeId) : Bool :=
  match P.underlying t with
  | some (.slice _) => true
  | some .string => true
  | _ => false

def appendW (P : Program) (t xt : TypeId) (s x : Value) (H : AHeap) : Option (Value × AHeap) :=
  match P.underlying t with
  | some (.slice e) => (szT P e).bind fun sz => (bytesT P e).bind fun bs => (zeroT P e).bind fun z => (srcCells sz x H).bind fun nx =>
    if notInt P xt = true ∧ sz ≠ 0 ∧ bs ≠ 0 ∧ z.cells.toList.length = sz ∧ oneL nx.2 = true ∧ sz < 1000000000000 then
      match s with
      | .slice none 0 0 => if nx.1 = 0 then some (s, H) else
          if nx.1 * bs ≤ 140737488355328 then some (.slice (some ⟨H.next, 0, none⟩) nx.1 (nx.1 + 2 + sz), H.push (.cells nx.2 e true)) else none
      | .slice (some ⟨b, o, none⟩) m c => if nx.1 = 0 then some (s, H) else
          match H.get b with
          | .cells cc _ wr =>
            if o + m * sz ≤ cc.length ∧ (m + nx.1) * bs ≤ 140737488355328 then
              if c = m then some (.slice (some ⟨H.next, 0, none⟩) (m + nx.1) (m + nx.1 + 2 + sz), H.push (.cells ((cc.drop o).take (m * sz) ++ nx.2) e true))
              else if (m + 2 ≤ c ∧ (c - m - 2) % 1000000000000 = sz) ∧ wr = true then some (.slice (some ⟨H.next, 0, none⟩) (m + nx.1) (m + nx.1 + 2 + sz), (H.set b .dead).push (.cells ((cc.drop o).take (m * sz) ++ nx.2) e true))
              else none
            else none
          | _ => none
      | _ => none
    else none
  | _ => none

theorem notInt_und {P : Program} {t : TypeId} (h : notInt P t = true) : (∃ e, P.underlying t = some (.slice e)) ∨ P.underlying t = some .string := by
  unfold notInt at h
  split at h
  · exact .inl ⟨_, by assumption⟩
  · exact .inr (by assumption)
  · simp at h

theorem src_length {sz n : Nat} {x : Value} {H : AHeap} {cs : List Value} (h : srcCells sz x H = some (n, cs)) : cs.length = n * sz := by
  unfold srcCells at h
  split at h
  · simp only [Option.some.injEq, Prod.mk.injEq] at h; obtain ⟨rfl, rfl⟩ := h; simp
  · split at h
    · simp only [Option.some.injEq, Prod.mk.injEq] at h; obtain ⟨rfl, rfl⟩ := h; simp
    split at h
    · simp only [Option.ite_none_right_eq_some, Option.some.injEq, Prod.mk.injEq] at h
      obtain ⟨hle, rfl, rfl⟩ := h
      simp; omega
    · simp at h
  · simp only [Option.ite_none_right_eq_some, Option.some.injEq, Prod.mk.injEq] at h
    obtain ⟨rfl, rfl, rfl⟩ := h
    simp
  · simp at h

section
variable {P : Program} {t xt e ty : TypeId} {w : World} {i : TypeInfo}

theorem append_none_run {s : Option Addr} {x' : Value} {m c : Nat} (hu : P.underlying t = some (.slice e)) (hi : P.info? e = some i) (hx : notInt P xt = true) (hlen : (Builtin.lenOf x').run P w = .ok 0 w)
    (hfc : (Builtin.firstCells i.size 0 x').run P w = .ok #[] w) (hm : m ≤ c) : (Builtin.append_ #[t, xt] ty #[.slice s m c, x']).run P w = .ok (.slice s m c) w := by
  have hm' : m + 0 ≤ c := by omega
  rcases notInt_und hx with ⟨e', hD⟩ | hD
  all_goals
    simp only [Builtin.append_, List.getElem?_toArray, List.getElem?_cons_zero, List.getElem?_cons_succ, Sem.run_bind, run_underlying hu, Result.andThen_ok, sizeOf, typeInfo, run_program, hi, Sem.run_pure, run_underlying hD,
      Bool.false_eq_true, if_false, hlen, Bool.not_false, if_true, hm', hfc]
    cases s <;> simp [storeCells]

theorem append_grow_run {s : Option Addr} {x' : Value} {m n c : Nat} {old new : List Value} {z : Value} (hu : P.underlying t = some (.slice e)) (hi : P.info? e = some i) (hx : notInt P xt = true) (hb : i.bytes ≠ 0) (hz : ∀ w : World, (zeroValue e).run P w = .ok z w)
    (hlen : (Builtin.lenOf x').run P w = .ok n w) (hold : ∀ w' : World, w'.heap = w.heap → (Builtin.firstCells i.size m (.slice s m c)).run P w' = .ok ⟨old⟩ w') (hnew : ∀ w' : World, w'.heap = w.heap → (Builtin.firstCells i.size n x').run P w' = .ok ⟨new⟩ w')
    (hg : c < m + n) (hle : (m + n) * i.bytes ≤ 140737488355328) :
    (Builtin.append_ #[t, xt] ty #[.slice s m c, x']).run P w =
      .ok (.slice (some ⟨w.heap.size, 0, none⟩) (m + n) (grownCap w (m + n) c e)) (w.drew.alloc (.cells (⟨old⟩ ++ ⟨new⟩ ++ Builtin.zeroCells z.cells (grownCap w (m + n) c e - (m + n))) e)) := by
  have hcap := growslice_fits hg hle
  have hpick : ¬ (Builtin.nextslicecap (m + n) c * i.bytes > 2 ^ 48) := by omega
  have hb2 : ¬ ((((m + n : Nat) : Int) > IntKind.i64.max) ∧ i.bytes = 0) := by simp [hb]
  have hgn : ¬ (m + n ≤ c) := by omega
  have ec : Question.cut (.appendCap (m + n) c e) (w.tape w.drawn (.appendCap (m + n) c e)) = grownCap w (m + n) c e := rfl
  rcases notInt_und hx with ⟨e', hD⟩ | hD
  all_goals
    simp only [Builtin.append_, List.getElem?_toArray, List.getElem?_cons_zero, List.getElem?_cons_succ, Sem.run_bind, run_underlying hu, Result.andThen_ok, sizeOf, typeInfo, run_program, hi, Sem.run_pure, run_underlying hD,
      Bool.false_eq_true, if_false, hlen, Bool.not_false, if_true, false_or, hgn, hb2, hpick, run_choose, Question.forced, run_askRoom, ec, World.drew_eq, hold w.drew rfl, hnew w.drew rfl, hz w.drew, newRow, run_newObj, World.alloc_eq, World.size_drew]

theorem append_room_run {a : Addr} {x' : Value} {m n c : Nat} {new : List Value} {w' : World} (hu : P.underlying t = some (.slice e)) (hi : P.info? e = some i) (hx : notInt P xt = true)
    (hlen : (Builtin.lenOf x').run P w = .ok n w) (hnew : (Builtin.firstCells i.size n x').run P w = .ok ⟨new⟩ w) (hst : (storeCells (a.add (m * i.size)) new).run P w = .ok () w') (hg : m + n ≤ c) :
    (Builtin.append_ #[t, xt] ty #[.slice (some a) m c, x']).run P w = .ok (.slice (some a) (m + n) c) w' := by
  rcases notInt_und hx with ⟨e', hD⟩ | hD
  all_goals
    simp only [Builtin.append_, List.getElem?_toArray, List.getElem?_cons_zero, List.getElem?_cons_succ, Sem.run_bind, run_underlying hu, Result.andThen_ok, sizeOf, typeInfo, run_program, hi, Sem.run_pure, run_underlying hD,
      Bool.false_eq_true, if_false, hlen, hg, if_true, Bool.not_false, hnew, hst]
end

/-- A row that has grown. -/
theorem append_grown {P : Program} {B : Nat} {β : Inj} {H : AHeap} {w : World} {t xt ty e : TypeId} {i : TypeInfo} {z x' : Value} {n : Nat} {cs cs' : List Value} (r : HRel P B β H w) (hu : P.underlying t = some (.slice e)) (hi : P.info? e = some i)
    (hzz : zeroT P e = some z) (hzl : z.cells.toList.length = i.size) (hnI : notInt P xt = true) (hb0 : i.bytes ≠ 0) (hszR : i.size < 1000000000000) (hlen : (Builtin.lenOf x').run P w = .ok n w) (hcs' : cs'.length = n * i.size) (hcr' : LRel β cs cs')
    (hfc : ∀ w' : World, w'.heap = w.heap → (Builtin.firstCells i.size n x').run P w' = .ok ⟨cs'⟩ w') (so : Option Addr) (m c : Nat) (old old' : List Value) (hg : c < m + n) (hle : (m + n) * i.bytes ≤ 140737488355328)
    (hol : old.length = m * i.size) (hor : LRel β old old') (hrun : ∀ w' : World, w'.heap = w.heap → (Builtin.firstCells i.size m (.slice so m c)).run P w' = .ok ⟨old'⟩ w') :
    ∃ β' w' v', (Builtin.append_ #[t, xt] ty #[.slice so m c, x']).run P w = .ok v' w' ∧ Step P B β H w β' (H.push (.cells (old ++ cs) e true)) w' ∧ VRel β' (.slice (some ⟨H.next, 0, none⟩) (m + n) (m + n + 2 + i.size)) v' := by
  have hge := grownCap_ge w (m + n) c e
  have hr := append_grow_run (ty := ty) (z := z) hu hi hnI hb0 (fun w => run_zeroValue' w hzz) hlen hrun hfc hg hle
  have hsize : ((⟨old'⟩ : Array Value) ++ ⟨cs'⟩ ++ Builtin.zeroCells z.cells (grownCap w (m + n) c e - (m + n))).size = grownCap w (m + n) c e * i.size := by
    have hzs : z.cells.size = i.size := by rw [← hzl]; simp
    simp only [Array.size_append, size_zeroCells, hzs, List.size_toArray, ← hor.length, hol, hcs', ← Nat.add_mul]
    congr 1
    omega
  refine ⟨_, _, _, hr, .push (lim := grownCap w (m + n) c e * i.size) r (Grow.drew (Grow.alloc w.drew _)) ?_, ?_⟩
  · rw [← hsize]
    exact .newCells (c' := old' ++ cs') (rest := (Builtin.zeroCells z.cells (grownCap w (m + n) c e - (m + n))).toList) (Grow.alloc w.drew _).new (by simp) ((hor.append hcr').mono (Inj.put_sub (r.none_of_ge (Nat.le_refl _)))) (fun j _ => by simp)
  · have hlast : ∀ k j, k < 1000000000000 → m + n + 2 + i.size = m + n + 2 + k + 1000000000000 * j → 0 + 0 + grownCap w (m + n) c e * k ≤ grownCap w (m + n) c e * i.size ∧ m + n + j ≤ grownCap w (m + n) c e := by
      intro k j hkR hk
      have hkj : k = i.size ∧ j = 0 := by omega
      obtain ⟨rfl, rfl⟩ := hkj
      exact ⟨by simp, by omega⟩
    have := VRel.slice (β := Inj.put β H.next ⟨w.heap.size, 0, grownCap w (m + n) c e * i.size⟩) (b := H.next) (o := 0) (n := m + n) (c := m + n + 2 + i.size) (c' := grownCap w (m + n) c e) (l := ⟨w.heap.size, 0, grownCap w (m + n) c e * i.size⟩)
      (Inj.put_same _ _ _) hge (by omega) (by omega) hlast
    exact this

theorem appendW_sim {P : Program} {B : Nat} {β : Inj} {H H' : AHeap} {w : World} {t xt ty : TypeId} {s x s' x' v : Value} (r : HRel P B β H w) (h : appendW P t xt s x H = some (v, H')) (hs : VRel β s s') (hx : VRel β x x') :
    ∃ β' w' v', (Builtin.append_ #[t, xt] ty #[s', x']).run P w = .ok v' w' ∧ Step P B β H w β' H' w' ∧ VRel β' v v' := by
  unfold appendW at h
  split at h
  · rename_i e hu
    simp only [Option.bind_eq_some_iff] at h
    obtain ⟨sz, hsz, bs, hbs, z, hzz, ⟨n, cs⟩, hsrc, h⟩ := h
    split at h
    · rename_i hc
      obtain ⟨hnI, hs0, hb0, hzl, h1L, hszR⟩ := hc
      obtain ⟨i, hi, rfl⟩ := run_bytes' hbs
      have hisz : i.size = sz := by simp only [szT, hi, Option.map_some, Option.some.injEq] at hsz; exact hsz
      subst hisz
      have hcl := src_length hsrc
      obtain ⟨hlen, cs', hfc, hcr⟩ := srcCells_sim r hsrc hx n (Nat.le_refl n)
      have hcs' : cs'.length = n * i.size := by rw [← hcr.length]; simp; omega
      have hcr' : LRel β cs cs' := by rwa [List.take_of_length_le (by omega)] at hcr
      split at h
      · split at h
        · rename_i hn0
          subst hn0
          simp only [Option.some.injEq, Prod.mk.injEq] at h
          obtain ⟨rfl, rfl⟩ := h
          cases hs
          have : cs' = [] := List.eq_nil_of_length_eq_zero (by omega)
          subst this
          exact ⟨β, w, _, append_none_run hu hi hnI hlen (hfc w rfl) (Nat.le_refl _), .refl r, .snil⟩
        · rename_i hn0
          simp only [Option.ite_none_right_eq_some, Option.some.injEq, Prod.mk.injEq] at h
          obtain ⟨hle, rfl, rfl⟩ := h
          cases hs
          have := append_grown (ty := ty) r hu hi hzz hzl hnI hb0 hszR hlen hcs' hcr' hfc none 0 0 [] [] (by omega) (by simpa using hle) (by simp) .nil (fun w' _ => rfl)
          simpa using this
      · rename_i b o m c
        split at h
        · rename_i hn0
          subst hn0
          simp only [Option.some.injEq, Prod.mk.injEq] at h
          obtain ⟨rfl, rfl⟩ := h
          have : cs' = [] := List.eq_nil_of_length_eq_zero (by omega)
          subst this
          cases hs with
          | slice hb2 h1 h2 h3 h4 => exact ⟨β, w, _, append_none_run hu hi hnI hlen (hfc w rfl) h1, .refl r, .slice hb2 h1 h2 h3 h4⟩
          | sliceE hb2 hk0 => exact ⟨β, w, _, append_none_run hu hi hnI hlen (hfc w rfl) (Nat.le_refl _), .refl r, .sliceE hb2 hk0⟩
        · rename_i hn0
          split at h
          · rename_i cc T wr hg
            split at h
            · rename_i hle
              obtain ⟨hle1, hle2⟩ := hle
              have hoc : ((cc.drop o).take (m * i.size)).length = m * i.size := by simp; omega
              cases hs with
              | slice hb2 h1 h2 h3 h4 =>
                rename_i c' l
                have ho := r.obj b l hb2
                rw [hg] at ho
                obtain ⟨old', hold, hor⟩ := load_segs (P := P) ho.1 hle1
                have hfc0 : ∀ w' : World, w'.heap = w.heap → (Builtin.firstCells i.size m (.slice (some ⟨l.blk, l.base + o, none⟩) m c')).run P w' = .ok ⟨old'⟩ w' := by
                  intro w' hw'
                  simp only [Builtin.firstCells]
                  exact hold w' hw'
                split at h
                · rename_i hcm
                  simp only [Option.some.injEq, Prod.mk.injEq] at h
                  obtain ⟨rfl, rfl⟩ := h
                  have := h3 hcm
                  exact append_grown r hu hi hzz hzl hnI hb0 hszR hlen hcs' hcr' hfc _ m c' _ old' (by omega) hle2 hoc hor hfc0
                · split at h
                  · rename_i hcw
                    obtain ⟨hcm, rfl⟩ := hcw
                    simp only [Option.some.injEq, Prod.mk.injEq] at h
                    obtain ⟨rfl, rfl⟩ := h
                    have hlim := (h4 i.size ((c - m - 2) / 1000000000000) hszR (by omega)).1
                    by_cases hroom : m + n ≤ c'
                    · -- in place
                      obtain ⟨hcl2, arr, T', fr, hblk, harr, hfr⟩ := ho.2 rfl
                      have hmn : l.base + o + (m * i.size + n * i.size) ≤ l.lim := by
                        have : (m + n) * i.size ≤ c' * i.size := Nat.mul_le_mul_right _ hroom
                        rw [Nat.add_mul] at this
                        omega
                      obtain ⟨w', hst, hwr⟩ := run_storeCells_lay (P := P) (b := l.blk) (o := l.base + o + m * i.size) cs' 0 arr w hblk (by omega) (fun j hj => hfr j (by omega)) (hcr'.oneL h1L)
                      have hrun := append_room_run (ty := ty) (w := w) hu hi hnI hlen (hfc w rfl) (a := ⟨l.blk, l.base + o, none⟩) (by rw [Addr.add_mk]; exact hst) hroom
                      have hsub : Inj.Sub β (Inj.put β H.next ⟨l.blk, l.base + o, l.lim⟩) := Inj.put_sub (r.none_of_ge (Nat.le_refl _))
                      refine ⟨Inj.put β H.next ⟨l.blk, l.base + o, l.lim⟩, w', _, hrun, .moved r hb2 (by rw [hg]; rfl) rfl hwr.size hwr.old hwr.os hwr.output hwr.tape ?_, ?_⟩
                      · refine ⟨fun j v hj => ?_, fun _ => ⟨by simp only [List.length_append, hoc, hcl]; omega, _, T', fr, hwr.at_, ?_, hfr⟩⟩
                        · have hcell : w'.cell? ⟨l.blk, l.base + o + j, none⟩ = (lay arr.toList (l.base + o + m * i.size) cs')[l.base + o + j]? := by
                            simp [World.cell?, hwr.at_]
                          simp only [hcell]
                          rw [getElem?_lay (by simp; omega)]
                          rw [List.getElem?_append, hoc] at hj
                          split at hj
                          · rename_i hjm
                            rw [if_neg (by omega)]
                            rw [List.getElem?_take, if_pos hjm, List.getElem?_drop] at hj
                            obtain ⟨v', hv1, hv2⟩ := ho.1 (o + j) v hj
                            refine ⟨v', ?_, hv2.mono hsub⟩
                            simp only [World.cell?, hblk] at hv1
                            rw [← hv1, Nat.add_assoc]
                            simp
                          · rename_i hjm
                            have hjc : j - m * i.size < cs.length := (List.getElem?_eq_some_iff.1 hj).1
                            rw [if_pos (by omega), show l.base + o + j - (l.base + o + m * i.size) = j - m * i.size by omega]
                            obtain ⟨v', hv1, hv2⟩ := hcr'.get _ _ hj
                            exact ⟨v', hv1, hv2.mono hsub⟩
                        · simp only [List.size_toArray]
                          rw [lay_length (by simp; omega)]
                          simpa using harr
                      · have hlast : ∀ k j, k < 1000000000000 → m + n + 2 + i.size = m + n + 2 + k + 1000000000000 * j → l.base + o + 0 + c' * k ≤ l.lim ∧ m + n + j ≤ c' := by
                          intro k j hkR hk
                          have hkj : k = i.size ∧ j = 0 := by omega
                          obtain ⟨rfl, rfl⟩ := hkj
                          exact ⟨by omega, by omega⟩
                        have := VRel.slice (β := Inj.put β H.next ⟨l.blk, l.base + o, l.lim⟩) (b := H.next) (o := 0) (n := m + n) (c := m + n + 2 + i.size) (c' := c') (l := ⟨l.blk, l.base + o, l.lim⟩) (Inj.put_same _ _ _) hroom (by omega) (by omega) hlast
                        exact this
                    · have hk := Step.kill r hb2 (by rw [hg]; rfl)
                      obtain ⟨β', w', v', h1', h2', h3'⟩ := append_grown (ty := ty) hk.rel hu hi hzz hzl hnI hb0 hszR hlen hcs' hcr' hfc _ m c' _ old' (by omega) hle2 hoc hor hfc0
                      rw [next_set] at h3'
                      exact ⟨β', w', v', h1', hk.trans h2', h3'⟩
                  · simp at h
              | sliceE hb2 hk0 =>
                rename_i l a'
                have hoc0 : ((cc.drop o).take (0 * i.size)) = [] := by simp
                split at h
                · simp only [Option.some.injEq, Prod.mk.injEq] at h
                  obtain ⟨rfl, rfl⟩ := h
                  rw [hoc0]
                  exact append_grown r hu hi hzz hzl hnI hb0 hszR hlen hcs' hcr' hfc _ 0 0 [] [] (by omega) hle2 (by simp) .nil (fun w' _ => firstCells_zero w')
                · split at h
                  · rename_i hcw
                    obtain ⟨hcm, rfl⟩ := hcw
                    simp only [Option.some.injEq, Prod.mk.injEq] at h
                    obtain ⟨rfl, rfl⟩ := h
                    rw [hoc0]
                    have hk := Step.kill r hb2 (by rw [hg]; rfl)
                    obtain ⟨β', w', v', h1', h2', h3'⟩ := append_grown (ty := ty) hk.rel hu hi hzz hzl hnI hb0 hszR hlen hcs' hcr' hfc (some a') 0 0 [] [] (by omega) hle2 (by simp) .nil (fun w' _ => firstCells_zero w')
                    rw [next_set] at h3'
                    exact ⟨β', w', v', h1', hk.trans h2', h3'⟩
                  · simp at h
            · simp at h
          · simp at h
      · simp at h
    · simp at h
  · simp at h
end Go.Am

/- append of noughts to nothing. -/
namespace Go.Am
open Go

/-- 'append(nothing, make([]T, n)...)'. -/
def appendI (P : Program) (t xt : TypeId) (s x : Value) (H : AHeap) : Option (Value × AHeap) :=
  match P.underlying t, P.underlying xt, s, x with
  | some (.slice e), some (.int _), .slice none 0 0, .int .i64 k => (szT P e).bind fun sz => (bytesT P e).bind fun bs => (zeroT P e).bind fun z =>
    match z.cells.toList with
    | [z0] => if sz = 1 ∧ bs ≠ 0 ∧ plainV z0 = true ∧ 0 < k ∧ k.toNat * bs ≤ 140737488355328 then some (.slice (some ⟨H.next, 0, none⟩) k.toNat (k.toNat + 2 + 1), H.push (.cells (List.replicate k.toNat z0) e true)) else none
    | _ => none
  | _, _, _, _ => none
def appendZ (P : Program) (t xt : TypeId) (s x : Value) (H : AHeap) : Option (Value × AHeap) :=
  match appendW P t xt s x H with
  | some r => some r
  | none => appendI P t xt s x H

theorem zeroCells_one {z : Value} {z0 : Value} (hz : z.cells.toList = [z0]) (n : Nat) : (Builtin.zeroCells z.cells n).toList = List.replicate n z0 := by
  have hs : z.cells = #[z0] := Array.ext' hz
  rw [hs]
  apply List.ext_getElem?
  intro i
  simp only [Builtin.zeroCells, List.size_toArray, List.length_singleton, Nat.mul_one, Nat.mod_one, Array.toList_map, Array.toList_range, List.getElem?_map, List.getElem?_replicate]
  by_cases h : i < n
  · rw [if_pos h, List.getElem?_eq_getElem (by simpa using h)]; rfl
  · rw [if_neg h, List.getElem?_eq_none (by simpa using h)]; rfl

theorem append_zero_run {P : Program} {t xt e ty : TypeId} {w : World} {i : TypeInfo} {q : IntKind} {n : Nat} {k : Int} {z : Value} (hu : P.underlying t = some (.slice e)) (hi : P.info? e = some i) (hx : P.underlying xt = some (.int q)) (hb : i.bytes ≠ 0) (h1 : i.size = 1) (hz : ∀ w : World, (zeroValue e).run P w = .ok z w)
    (hk : k = (n : Int)) (hn : 0 < n) (hle : n * i.bytes ≤ 140737488355328) :
    (Builtin.append_ #[t, xt] ty #[.slice none 0 0, .int .i64 k]).run P w =
      .ok (.slice (some ⟨w.heap.size, 0, none⟩) (0 + n) (grownCap w (0 + n) 0 e)) (w.drew.alloc (.cells (#[] ++ Builtin.zeroCells z.cells n ++ Builtin.zeroCells z.cells (grownCap w (0 + n) 0 e - (0 + n))) e)) := by
  subst hk
  have hg : 0 < 0 + n := by omega
  have hcap := growslice_fits (old := 0) (need := 0 + n) (bytes := i.bytes) hg (by simpa using hle)
  have hpick : ¬ (Builtin.nextslicecap (0 + n) 0 * i.bytes > 2 ^ 48) := by omega
  have hnb : n ≤ n * i.bytes := Nat.le_mul_of_pos_right _ (Nat.pos_of_ne_zero hb)
  have hw : IntKind.i64.wrap ((n : Nat) : Int) = (n : Int) := IntWalk.i64_in _ (by omega)
  have hneg : ¬ (((n : Nat) : Int) < 0) := by omega
  have hbig : ¬ (((n : Nat) : Int) * (i.bytes : Int) > 2 ^ 48) := by
    have h : ((n : Nat) : Int) * (i.bytes : Int) = ((n * i.bytes : Nat) : Int) := (Int.natCast_mul n i.bytes).symm
    rw [h]
    generalize n * i.bytes = m at hle
    omega
  have hb2 : ¬ ((((0 + n : Nat) : Int) > IntKind.i64.max) ∧ (True ∨ i.bytes = 0)) := by
    have : IntKind.i64.max = 9223372036854775807 := by decide
    rw [this]; omega
  have hgn : ¬ (0 + n ≤ 0) := by omega
  have hns : ¬ (n * i.size = 0) := by rw [h1]; omega
  have ec : Question.cut (.appendCap (0 + n) 0 e) (w.tape w.drawn (.appendCap (0 + n) 0 e)) = grownCap w (0 + n) 0 e := rfl
  have hint : ∀ w' : World, (asInt (.int .i64 ((n : Nat) : Int)) : Sem Int).run P w' = .ok ((n : Nat) : Int) w' := fun w' => rfl
  have hlt0 : (IntKind.i64.wrap ((n : Nat) : Int) < 0) = False := by rw [hw]; simp
  have hz0 : ∀ w' : World, (zeroValue e).run P w' = .ok z w' := hz
  have hf : ∀ w' : World, (Builtin.firstCells i.size 0 (.slice none 0 0)).run P w' = .ok #[] w' := fun w' => rfl
  simp only [Builtin.append_, List.getElem?_toArray, List.getElem?_cons_zero, List.getElem?_cons_succ, Sem.run_bind, run_underlying hu, Result.andThen_ok, sizeOf, typeInfo, run_program, hi, Sem.run_pure, run_underlying hx,
    if_true, hint, hw, hneg, hbig, if_false, Int.toNat_natCast, hgn, hb2, hpick, Bool.not_true, Bool.false_eq_true, hns, run_choose, Question.forced, run_askRoom, ec, World.drew_eq, hf, hz0, newRow, run_newObj, World.alloc_eq, World.size_drew]

theorem appendI_sim {P : Program} {B : Nat} {β : Inj} {H H' : AHeap} {w : World} {t xt ty : TypeId} {s x s' x' v : Value} (r : HRel P B β H w) (h : appendI P t xt s x H = some (v, H')) (hs : VRel β s s') (hx : VRel β x x') :
    ∃ β' w' v', (Builtin.append_ #[t, xt] ty #[s', x']).run P w = .ok v' w' ∧ Step P B β H w β' H' w' ∧ VRel β' v v' := by
  unfold appendI at h
  split at h
  · rename_i e q k hu hxt
    simp only [Option.bind_eq_some_iff] at h
    obtain ⟨sz, hsz, bs, hbs, z, hzz, h⟩ := h
    split at h
    · rename_i z0 hz0
      split at h
      · rename_i hc
        obtain ⟨rfl, hb0, hpl, hk0, hle⟩ := hc
        simp only [Option.some.injEq, Prod.mk.injEq] at h
        obtain ⟨rfl, rfl⟩ := h
        obtain ⟨i, hi, rfl⟩ := run_bytes' hbs
        have hisz : i.size = 1 := by simp only [szT, hi, Option.map_some, Option.some.injEq] at hsz; exact hsz
        cases hs
        cases hx
        obtain ⟨n, rfl⟩ : ∃ n : Nat, k = (n : Int) := ⟨k.toNat, by omega⟩
        simp only [Int.toNat_natCast] at hle ⊢
        have hn : 0 < n := by omega
        have hr := append_zero_run (ty := ty) (w := w) hu hi hxt hb0 hisz (fun w => run_zeroValue' w hzz) rfl hn hle
        have hge := grownCap_ge w (0 + n) 0 e
        have hzs : z.cells.size = 1 := by rw [← Array.length_toList, hz0]; rfl
        have hsize : ((#[] : Array Value) ++ Builtin.zeroCells z.cells n ++ Builtin.zeroCells z.cells (grownCap w (0 + n) 0 e - (0 + n))).size = grownCap w (0 + n) 0 e := by
          simp only [Array.size_append, size_zeroCells, hzs, List.size_toArray, List.length_nil]
          omega
        have hplain : ∀ (β : Inj) (m : Nat), LRel β (List.replicate m z0) (List.replicate m z0) := fun β m => .of_plain (by
          induction m with
          | zero => rfl
          | succ m ih => simp [List.replicate_succ, plainL, hpl, ih])
        generalize hlim : ((#[] : Array Value) ++ Builtin.zeroCells z.cells n ++ Builtin.zeroCells z.cells (grownCap w (0 + n) 0 e - (0 + n))) = arr at hr hsize
        refine ⟨_, _, _, hr, .push (lim := arr.size) r (Grow.drew (Grow.alloc w.drew _)) ?_, ?_⟩
        · subst hlim
          exact .newCells (c' := List.replicate n z0) (rest := (Builtin.zeroCells z.cells (grownCap w (0 + n) 0 e - (0 + n))).toList) (Grow.alloc w.drew _).new (by simp [zeroCells_one hz0]) (hplain _ n) (fun j _ => by simp)
        · have hlast : ∀ k j, k < 1000000000000 → 0 + n + 2 + 1 = 0 + n + 2 + k + 1000000000000 * j → 0 + 0 + grownCap w (0 + n) 0 e * k ≤ arr.size ∧ 0 + n + j ≤ grownCap w (0 + n) 0 e := by
            intro k j hkR hk
            have hkj : k = 1 ∧ j = 0 := by omega
            obtain ⟨rfl, rfl⟩ := hkj
            exact ⟨by rw [hsize]; simp, by omega⟩
          have := VRel.slice (β := Inj.put β H.next ⟨w.heap.size, 0, arr.size⟩) (b := H.next) (o := 0) (n := 0 + n) (c := 0 + n + 2 + 1) (c' := grownCap w (0 + n) 0 e) (l := ⟨w.heap.size, 0, arr.size⟩)
            (Inj.put_same _ _ _) hge (by omega) (by omega) hlast
          simpa using this
      · simp at h
    · simp at h
  · simp at h
theorem appendZ_sim {P : Program} {B : Nat} {β : Inj} {H H' : AHeap} {w : World} {t xt ty : TypeId} {s x s' x' v : Value} (r : HRel P B β H w) (h : appendZ P t xt s x H = some (v, H')) (hs : VRel β s s') (hx : VRel β x x') :
    ∃ β' w' v', (Builtin.append_ #[t, xt] ty #[s', x']).run P w = .ok v' w' ∧ Step P B β H w β' H' w' ∧ VRel β' v v' := by
  unfold appendZ at h
  split at h
  · rename_i q hq
    obtain rfl := Option.some.inj h
    exact appendW_sim r hq hs hx
  · exact appendI_sim r h hs hx
end Go.Am

/- copy, and maps that are written. -/
namespace Go.Am
open Go

def copyW (P : Program) (dt : TypeId) (d x : Value) (H : AHeap) : Option (Value × AHeap) :=
  match P.underlying dt with
  | some (.slice e) => (szT P e).bind fun sz => (srcCells sz x H).bind fun nx =>
    match d with
    | .slice none 0 0 => some (.int .i64 0, H)
    | .slice (some ⟨b, o, none⟩) n _ =>
      if Nat.min nx.1 n = 0 then some (.int .i64 0, H) else
      match H.get b with
      | .cells c T true =>
        if o + (Nat.min nx.1 n) * sz ≤ c.length ∧ oneL (nx.2.take ((Nat.min nx.1 n) * sz)) = true then some (.int .i64 (Nat.min nx.1 n : Nat), H.set b (.cells (lay c o (nx.2.take ((Nat.min nx.1 n) * sz))) T true)) else none
      | _ => none
    | _ => none
  | _ => none

theorem copyW_sim {P : Program} {B : Nat} {β : Inj} {H H' : AHeap} {w : World} {t ty : TypeId} {ts : Array TypeId} {d x d' x' v : Value} (r : HRel P B β H w) (h : copyW P t d x H = some (v, H')) (ht : ts[0]? = some t) (hd : VRel β d d') (hx : VRel β x x') :
    ∃ w', (Builtin.copy_ ts ty #[d', x']).run P w = .ok v w' ∧ Step P B β H w β H' w' ∧ VRel β v v := by
  unfold copyW at h
  split at h
  · rename_i e hu
    simp only [Option.bind_eq_some_iff] at h
    obtain ⟨sz, hsz, ⟨n, cs⟩, hsrc, h⟩ := h
    have hcl := src_length hsrc
    split at h
    · simp only [Option.some.injEq, Prod.mk.injEq] at h
      obtain ⟨rfl, rfl⟩ := h
      cases hd
      obtain ⟨hlen, cs', hfc, hcr⟩ := srcCells_sim r hsrc hx 0 (Nat.zero_le _)
      refine ⟨w, ?_, .refl r, .int _ _⟩
      have hmin : Nat.min n 0 = 0 := Nat.min_zero n
      simp only [Builtin.copy_, ht, List.getElem?_toArray, List.getElem?_cons_zero, List.getElem?_cons_succ, Sem.run_bind, run_underlying hu, Result.andThen_ok, hlen, hmin, run_sizeOf' w hsz, hfc w rfl, Sem.run_pure, goInt]
      rfl
    · rename_i b o m c
      split at h
      · rename_i h0
        simp only [Option.some.injEq, Prod.mk.injEq] at h
        obtain ⟨rfl, rfl⟩ := h
        obtain ⟨hlen, cs', hfc, hcr⟩ := srcCells_sim r hsrc hx 0 (Nat.zero_le _)
        have hnil : cs' = [] := List.eq_nil_of_length_eq_zero (by rw [← hcr.length]; simp)
        subst hnil
        have fin : ∀ (a : Addr) (c' : Nat), (Builtin.copy_ ts ty #[.slice (some a) m c', x']).run P w = .ok (.int .i64 0) w := by
          intro a c'
          simp only [Builtin.copy_, ht, List.getElem?_toArray, List.getElem?_cons_zero, List.getElem?_cons_succ, Sem.run_bind, run_underlying hu, Result.andThen_ok, hlen, h0, run_sizeOf' w hsz, hfc w rfl, Sem.run_pure, goInt, storeCells]
          rfl
        cases hd with
        | slice hb h1 h2 h3 h4 => exact ⟨w, fin _ _, .refl r, .int _ _⟩
        | sliceE hb hk0 => exact ⟨w, fin _ _, .refl r, .int _ _⟩
      · rename_i h0
        split at h
        · rename_i cc T hg
          simp only [Option.ite_none_right_eq_some, Option.some.injEq, Prod.mk.injEq] at h
          obtain ⟨⟨hle, h1L⟩, rfl, rfl⟩ := h
          obtain ⟨hlen, cs', hfc, hcr⟩ := srcCells_sim r hsrc hx (Nat.min n m) (Nat.min_le_left _ _)
          have hmn : Nat.min n m * sz ≤ n * sz := Nat.mul_le_mul_right _ (Nat.min_le_left _ _)
          cases hd with
          | slice hb h1 h2 h3 h4 =>
            rename_i c' l
            obtain ⟨w', hst, hstep⟩ := write_cells (P := P) r hb hg (off := o) (by simp only [List.length_take]; omega) hcr h1L
            refine ⟨w', ?_, hstep, .int _ _⟩
            simp only [Builtin.copy_, ht, List.getElem?_toArray, List.getElem?_cons_zero, List.getElem?_cons_succ, Sem.run_bind, run_underlying hu, Result.andThen_ok, hlen, run_sizeOf' w hsz, hfc w rfl, Sem.run_pure, goInt, hst]
          | sliceE hb hk0 => exact absurd (Nat.min_zero n) h0
        · simp at h
    · simp at h
  · simp at h

theorem run_setObj_map' {P : Program} {w : World} {b : Nat} {es : Array MapEntry} {clock : Nat} (o : Obj) (h : w.heap[b]? = some (.map es clock)) : (setObj b o).run P w = .ok () { w with heap := w.heap.setIfInBounds b o } := by
  simp [setObj, Sem.run, h]

theorem Wrote.setObj {w : World} {b : Nat} {o o' : Obj} (h : w.heap[b]? = some o') : Wrote w { w with heap := w.heap.setIfInBounds b o } b o where
  size := by simp
  at_ := by
    have : b < w.heap.size := by
      rcases Nat.lt_or_ge b w.heap.size with h1 | h1
      · exact h1
      · simp [Array.getElem?_eq_none h1] at h
    simp [this]
  old := fun k hk => by simp [Array.getElem?_setIfInBounds, Ne.symm hk]
  os := rfl
  output := rfl
  tape := rfl

theorem Step.wrote {P : Program} {B : Nat} {β : Inj} {H : AHeap} {w w' : World} {obj : AObj} {h : Nat} {l : Loc} {o : Obj} (r : HRel P B β H w) (hb : β h = some l) (hw : (H.get h).wlive = true) (k : Wrote w w' l.blk o) (ho : ORel β l w' obj) : Step P B β H w β (H.set h obj) w' :=
  .write r hb hw k.size k.old k.os k.output k.tape ho

theorem eqLeaf_true {k : LK} {x y : Value} (h : eqLeaf k x y = some true) (hy : plainV y = true) : y = x := by
  unfold eqLeaf at h
  split at h
  · simp only [Option.ite_none_right_eq_some, Option.some.injEq, beq_iff_eq] at h; rw [h.1, h.2]
  · simp only [Option.some.injEq, beq_iff_eq] at h; rw [h]
  · rename_i a b
    simp only [Option.some.injEq] at h
    rw [beq_toListBytes, ByteArray.toList_eq, ByteArray.toList_eq] at h
    obtain ⟨⟨a⟩⟩ := a
    obtain ⟨⟨b⟩⟩ := b
    simp_all
  · rename_i b
    cases b with
    | none => rfl
    | some a => simp at h
  · simp at h
  · simp at h

theorem eqL_true : ∀ {ks : List LK} {xs ys : List Value}, eqL ks xs ys = some true → plainL ys = true → ys = xs
  | [], [], [], _, _ => rfl
  | k :: ks, x :: xs, y :: ys, h, hp => by
    simp only [eqL, Option.bind_eq_some_iff, Option.map_eq_some_iff, Bool.and_eq_true] at h
    obtain ⟨b0, h0, r, hr, hb0, hr1⟩ := h
    subst hb0 hr1
    simp only [plainL, Bool.and_eq_true] at hp
    rw [eqLeaf_true h0 hp.1, eqL_true hr hp.2]
  | [], [], _ :: _, h, _ => by simp [eqL] at h
  | [], _ :: _, _, h, _ => by simp [eqL] at h
  | _ :: _, [], _, h, _ => by simp [eqL] at h
  | _ :: _, _ :: _, [], h, _ => by simp [eqL] at h

theorem eqV_true {P : Program} {t : TypeId} {x y : Value} (h : eqV P t x y = some true) (hk : keyOK P t x = true) (hy : plainV y = true) : y = x := by
  cases x <;> simp only [keyOK, Bool.false_eq_true] at hk
  case bool b => cases y <;> simp_all [eqV]
  case int k n =>
    cases y <;> simp only [eqV, reduceCtorEq] at h
    simp only [Option.ite_none_right_eq_some, Option.some.injEq, beq_iff_eq] at h
    rw [h.1, h.2]
  case string s =>
    cases y <;> simp only [eqV, reduceCtorEq] at h
    simp only [Option.some.injEq, beq_iff_eq] at h
    rename_i s'
    congr 1
    rw [ByteArray.toList_eq, ByteArray.toList_eq] at h
    obtain ⟨⟨a⟩⟩ := s
    obtain ⟨⟨b⟩⟩ := s'
    simp_all
  case agg xs =>
    obtain ⟨xs⟩ := xs
    cases y <;> simp only [eqV, reduceCtorEq] at h
    rename_i ys
    obtain ⟨ys⟩ := ys
    simp only [eqV, Option.bind_eq_some_iff, Option.ite_none_right_eq_some] at h
    obtain ⟨ks, hks, ha, h⟩ := h
    rw [eqL_true h (by simpa [plainV] using hy)]

theorem findE_at {P : Program} {t : TypeId} {k : Value} (hk : keyOK P t k = true) : ∀ {es : List MapEntry} {j i : Nat} {v : Value}, findE P t k es j = some (some (i, v)) → keysPlain es = true → ∃ e : MapEntry, j ≤ i ∧ es[i - j]? = some e ∧ e.key = k
  | [], j, i, v, h, _ => by simp [findE] at h
  | e :: es, j, i, v, h, hp => by
    simp only [findE, Option.bind_eq_some_iff] at h
    obtain ⟨b, hb, h⟩ := h
    simp only [keysPlain, List.all_cons, Bool.and_eq_true] at hp
    cases b with
    | true =>
      simp only [if_true, Option.some.injEq, Prod.mk.injEq] at h
      obtain ⟨rfl, rfl⟩ := h
      exact ⟨e, Nat.le_refl _, by simp, eqV_true hb hk hp.1⟩
    | false =>
      simp only [Bool.false_eq_true, if_false] at h
      obtain ⟨e', h1, h2, h3⟩ := findE_at hk h hp.2
      exact ⟨e', by omega, by rw [show i - j = (i - (j + 1)) + 1 by omega]; simpa using h2, h3⟩

theorem run_keyThatStays' {P : Program} {w : World} (k : Value) : ∃ w', (Instr.keyThatStays k k).run P w = .ok k w' ∧ (w' = w ∨ w' = w.drew) := by
  unfold Instr.keyThatStays
  split
  · exact ⟨w, rfl, .inl rfl⟩
  · refine ⟨w.drew, ?_, .inr rfl⟩
    simp [Question.forced]

theorem ERel.push {β : Inj} {a b : List MapEntry} (h : ERel β a b) {k v k' v' : Value} {n : Nat} (hk : VRel β k k') (hv : VRel β v v') : ERel β (a ++ [⟨k, v, n⟩]) (b ++ [⟨k', v', n⟩]) := by
  induction h with
  | nil => exact .cons hk hv rfl .nil
  | cons a b c _ ih => exact .cons a b c ih

theorem ERel.modify {β : Inj} {a b : List MapEntry} (h : ERel β a b) {v v' k : Value} (hv : VRel β v v') : ∀ (i : Nat), (∀ e, b[i]? = some e → e.key = k) → ERel β (a.modify i fun e => { e with val := v }) (b.modify i fun e => { e with key := k, val := v' }) := by
  induction h with
  | nil => intro i _; simp; exact .nil
  | cons h1 h2 h3 h4 ih =>
    intro i hi
    cases i with
    | zero =>
      have := hi _ rfl
      simp only [List.modify_zero_cons]
      exact .cons (by rw [← this]; exact h1) hv h3 h4
    | succ i =>
      simp only [List.modify_succ_cons]
      exact .cons h1 h2 h3 (ih i fun e he => hi e (by simpa using he))

theorem ERel.erase {β : Inj} {a b : List MapEntry} (h : ERel β a b) : ∀ (i : Nat), ERel β (a.eraseIdx i) (b.eraseIdx i) := by
  induction h with
  | nil => intro i; simp; exact .nil
  | cons h1 h2 h3 h4 ih =>
    intro i
    cases i with
    | zero => simpa using h4
    | succ i => simp only [List.eraseIdx_cons_succ]; exact .cons h1 h2 h3 (ih i)

theorem ERel.keys {β : Inj} {a b : List MapEntry} (h : ERel β a b) (hp : keysPlain a = true) : ∀ (i : Nat) (e : MapEntry), a[i]? = some e → ∃ e', b[i]? = some e' ∧ e'.key = e.key := by
  induction h with
  | nil => intro i e h; simp at h
  | cons h1 h2 h3 h4 ih =>
    simp only [keysPlain, List.all_cons, Bool.and_eq_true] at hp
    intro i e he
    cases i with
    | zero => simp at he; subst he; exact ⟨_, rfl, h1.plain hp.1⟩
    | succ i => simp at he; obtain ⟨e', h5, h6⟩ := ih hp.2 i e he; exact ⟨e', by simpa using h5, h6⟩

def mapUpdateW (P : Program) (t : TypeId) (m k v : Value) (H : AHeap) : Option AHeap :=
  match P.underlying t, m with
  | some (.map kt _), .map (some h) =>
    match H.get h with
    | .map es clock =>
      if keyOK P kt k = true ∧ keysPlain es = true then
        (findE P kt k es 0).map fun r => match r with
          | some (i, _) => H.set h (.map (es.modify i fun e => { e with val := v }) clock)
          | none => H.set h (.map (es ++ [⟨k, v, clock⟩]) (clock + 1))
      else none
    | _ => none
  | _, _ => none

theorem mapUpdateW_sim {P : Program} {B : Nat} {β : Inj} {H H' : AHeap} {w : World} {t : TypeId} {m k v m' k' v' : Value} (r : HRel P B β H w) (h : mapUpdateW P t m k v H = some H') (hm : VRel β m m') (hk : VRel β k k') (hv : VRel β v v') :
    ∃ w', (Instr.mapUpdate t m' k' v').run P w = .ok () w' ∧ Step P B β H w β H' w' := by
  unfold mapUpdateW at h
  split at h
  · rename_i kt et b hu
    split at h
    · rename_i es clock hg
      simp only [Option.ite_none_right_eq_some, Option.map_eq_some_iff] at h
      obtain ⟨⟨hko, hkp⟩, q, hq, h⟩ := h
      have hkk := hk.plain (keyOK_plain hko)
      subst hkk
      cases hm with
      | map hb =>
        rename_i l
        have ho := r.obj b l hb
        rw [hg] at ho
        obtain ⟨es', hblk, her⟩ := ho
        obtain ⟨q', hq', hfr⟩ := findKey_run hko hq (fun e he => List.all_eq_true.1 hkp e he) her w
        cases hfr with
        | no =>
          subst h
          have hw := Wrote.setObj (o := .map ⟨es' ++ [⟨k', v', clock⟩]⟩ (clock + 1)) hblk
          refine ⟨_, ?_, .wrote r hb (by rw [hg]; rfl) hw ⟨_, hw.at_, her.push hk hv⟩⟩
          simp only [Instr.mapUpdate, Sem.run_bind, run_underlying hu, Result.andThen_ok, run_getObj_map' hblk, keyOK_run hko, hq', run_setObj_map' _ hblk]
          simp
        | yes hvv =>
          rename_i i u u'
          simp only at h
          subst h
          obtain ⟨e, hle, he, hek⟩ := findE_at hko hq hkp
          simp only [Nat.sub_zero] at he
          obtain ⟨e', he', hek'⟩ := her.keys hkp i e he
          obtain ⟨w1, hks, hw1⟩ := run_keyThatStays' (P := P) (w := w) k'
          have hst1 : Step P B β H w β H w1 := by rcases hw1 with rfl | rfl; exact .refl r; exact .drew r
          have hblk1 : w1.heap[l.blk]? = some (.map ⟨es'⟩ clock) := by rcases hw1 with rfl | rfl <;> exact hblk
          have hw := Wrote.setObj (o := .map ⟨es'.modify i fun e => { e with key := k', val := v' }⟩ clock) hblk1
          have her1 := her.modify hv i (k := k') (fun e2 he2 => by rw [he'] at he2; simp only [Option.some.injEq] at he2; subst he2; rw [hek', hek])
          refine ⟨_, ?_, hst1.trans (.wrote hst1.rel hb (by rw [hg]; rfl) hw ⟨_, hw.at_, her1⟩)⟩
          have hold : (((⟨es'⟩ : Array MapEntry)[i]?).map (·.key)).getD k' = k' := by
            simp [he', hek', hek]
          simp only [Instr.mapUpdate, Sem.run_bind, run_underlying hu, Result.andThen_ok, run_getObj_map' hblk, keyOK_run hko, hq', hold, hks, run_setObj_map' _ hblk1]
          have hmod : (⟨es'⟩ : Array MapEntry).modify i (fun e => { e with key := k', val := v' }) = ⟨es'.modify i fun e => { e with key := k', val := v' }⟩ := by apply Array.ext'; simp
          rw [hmod]
    · simp at h
  · simp at h

def deleteW (P : Program) (t : TypeId) (m k : Value) (H : AHeap) : Option AHeap :=
  match P.underlying t, m with
  | some (.map kt _), .map (some h) =>
    match H.get h with
    | .map es clock =>
      if keyOK P kt k = true ∧ keysPlain es = true then
        (findE P kt k es 0).map fun r => match r with
          | some (i, _) => H.set h (.map (es.eraseIdx i) clock)
          | none => H.set h (.map es clock)
      else none
    | _ => none
  | _, _ => none

theorem deleteW_sim {P : Program} {B : Nat} {β : Inj} {H H' : AHeap} {w : World} {t ty : TypeId} {ts : Array TypeId} {m k m' k' : Value} (r : HRel P B β H w) (h : deleteW P t m k H = some H') (ht : ts[0]? = some t) (hm : VRel β m m') (hk : VRel β k k') :
    ∃ w', (Builtin.delete_ ts ty #[m', k']).run P w = .ok (.tuple #[]) w' ∧ Step P B β H w β H' w' := by
  unfold deleteW at h
  split at h
  · rename_i kt et b hu
    split at h
    · rename_i es clock hg
      simp only [Option.ite_none_right_eq_some, Option.map_eq_some_iff] at h
      obtain ⟨⟨hko, hkp⟩, q, hq, h⟩ := h
      have hkk := hk.plain (keyOK_plain hko)
      subst hkk
      cases hm with
      | map hb =>
        rename_i l
        have ho := r.obj b l hb
        rw [hg] at ho
        obtain ⟨es', hblk, her⟩ := ho
        obtain ⟨q', hq', hfr⟩ := findKey_run hko hq (fun e he => List.all_eq_true.1 hkp e he) her w
        cases hfr with
        | no =>
          subst h
          have hw := Wrote.setObj (o := .map ⟨es'⟩ clock) hblk
          refine ⟨_, ?_, .wrote r hb (by rw [hg]; rfl) hw ⟨_, hw.at_, her⟩⟩
          simp only [Builtin.delete_, ht, List.getElem?_toArray, List.getElem?_cons_zero, List.getElem?_cons_succ, Sem.run_bind, run_underlying hu, Result.andThen_ok, run_getObj_map' hblk, keyOK_run hko, hq', run_setObj_map' _ hblk, Sem.run_pure]
        | yes hvv =>
          rename_i i u u'
          simp only at h
          subst h
          have hw := Wrote.setObj (o := .map ⟨es'.eraseIdx i⟩ clock) hblk
          refine ⟨_, ?_, .wrote r hb (by rw [hg]; rfl) hw ⟨_, hw.at_, her.erase i⟩⟩
          simp only [Builtin.delete_, ht, List.getElem?_toArray, List.getElem?_cons_zero, List.getElem?_cons_succ, Sem.run_bind, run_underlying hu, Result.andThen_ok, run_getObj_map' hblk, keyOK_run hko, hq', run_setObj_map' _ hblk, Sem.run_pure]
          have her2 : (⟨es'⟩ : Array MapEntry).eraseIdxIfInBounds i = ⟨es'.eraseIdx i⟩ := by
            apply Array.ext'
            simp only [Array.eraseIdxIfInBounds]
            split
            · simp
            · rename_i hh
              simp only [List.size_toArray] at hh
              rw [List.eraseIdx_of_length_le (by omega)]
          rw [her2]
    · simp at h
  · simp at h
/-- An iterator over a map. -/
def rangeW (P : Program) (t : TypeId) (x : Value) (H : AHeap) : Option (Value × AHeap) :=
  match P.underlying t, x with
  | some (.map _ _), .map none => some (.pointer (some ⟨H.next, 0, none⟩), H.push (.miter none 0 [] 0))
  | some (.map _ _), .map (some m) => match H.get m with
    | .map _ clock => some (.pointer (some ⟨H.next, 0, none⟩), H.push (.miter (some m) clock [] clock))
    | _ => none
  | _, _ => none

theorem rangeW_sim {P : Program} {B : Nat} {β : Inj} {H H' : AHeap} {w : World} {t : TypeId} {x x' v : Value} (r : HRel P B β H w) (h : rangeW P t x H = some (v, H')) (hx : VRel β x x') :
    ∃ β' w' v', (Instr.range t x').run P w = .ok v' w' ∧ Step P B β H w β' H' w' ∧ VRel β' v v' := by
  unfold rangeW at h
  split at h
  · rename_i hu
    simp only [Option.some.injEq, Prod.mk.injEq] at h
    obtain ⟨rfl, rfl⟩ := h
    cases hx
    refine ⟨_, w.alloc (.mapIter none 0 #[] 0), .pointer (some ⟨w.heap.size, 0, none⟩), ?_, .push (lim := 0) r (.alloc w _) ⟨rfl, (Grow.alloc w _).new⟩, .ptr (Inj.put_same _ _ _)⟩
    simp [Instr.range, run_underlying hu]
  · rename_i kt et m hu
    split at h
    · rename_i es clock hg
      simp only [Option.some.injEq, Prod.mk.injEq] at h
      obtain ⟨rfl, rfl⟩ := h
      cases hx with
      | map hb =>
        rename_i l
        have ho := r.obj m l hb
        rw [hg] at ho
        obtain ⟨es', hblk, her⟩ := ho
        refine ⟨_, w.alloc (.mapIter (some l.blk) clock #[] clock), .pointer (some ⟨w.heap.size, 0, none⟩), ?_, .push (lim := 0) r (.alloc w _) ⟨rfl, l, ?_, (Grow.alloc w _).new⟩, .ptr (Inj.put_same _ _ _)⟩
        · simp [Instr.range, run_underlying hu, run_getObj_map' hblk]
        · rw [Inj.put_ne (by have := r.dom m l hb; omega)]; exact hb
    · simp at h
  · simp at h

/-- A step of an iterator: where nothing is left, or one entry that nobody has met. -/
def nextW (it : Value) (H : AHeap) : Option (Value × AHeap) :=
  match it with
  | .pointer (some ⟨r, 0, none⟩) => match H.get r with
    | .miter none _ _ _ => some (.tuple ⟨[.bool false]⟩, H)
    | .miter (some m) since seen _ => match H.get m with
      | .map [] _ => some (.tuple ⟨[.bool false]⟩, H)
      | .map [e] clock => if seen = [] ∧ e.born < since then some (.tuple ⟨[.bool true, e.key, e.val]⟩, H.set r (.miter (some m) since [e.born] clock)) else none
      | _ => none
    | _ => none
  | _ => none

theorem nextW_sim {P : Program} {B : Nat} {β : Inj} {H H' : AHeap} {w : World} {ty : TypeId} {x x' v : Value} (r : HRel P B β H w) (h : nextW x H = some (v, H')) (hx : VRel β x x') :
    ∃ w' v', (Instr.next x' false ty).run P w = .ok v' w' ∧ Step P B β H w β H' w' ∧ VRel β v v' := by
  unfold nextW at h
  split at h
  · rename_i it
    cases hx with
    | ptr hb =>
    rename_i l
    have ho := r.obj it l hb
    split at h
    · rename_i a b c hg
      simp only [Option.some.injEq, Prod.mk.injEq] at h
      obtain ⟨rfl, rfl⟩ := h
      rw [hg] at ho
      refine ⟨w, .tuple ⟨[.bool false]⟩, ?_, .refl r, .tuple (.cons (.bool _) .nil)⟩
      rw [ho.1]
      simp only [Instr.next, getObj, Sem.run_bind, Sem.run, ho.2, Result.andThen]
      rfl
    · rename_i m since seen c hg
      rw [hg] at ho
      obtain ⟨h0, k, hk, hblk⟩ := ho
      split at h
      · rename_i clock hg2
        simp only [Option.some.injEq, Prod.mk.injEq] at h
        obtain ⟨rfl, rfl⟩ := h
        have ho2 := r.obj m k hk
        rw [hg2] at ho2
        obtain ⟨es', hblk2, her⟩ := ho2
        cases her
        refine ⟨w, .tuple ⟨[.bool false]⟩, ?_, .refl r, .tuple (.cons (.bool _) .nil)⟩
        rw [h0]
        simp [Instr.next, getObj, Sem.run_bind, Sem.run, hblk, hblk2, Result.andThen, choose, Question.forced]
      · rename_i e clock hg2
        simp only [Option.ite_none_right_eq_some, Option.some.injEq, Prod.mk.injEq] at h
        obtain ⟨⟨rfl, hlt⟩, rfl, rfl⟩ := h
        have ho2 := r.obj m k hk
        rw [hg2] at ho2
        obtain ⟨es', hblk2, her⟩ := ho2
        cases her with
        | cons hkey hval hborn hnil =>
          rename_i e' es2
          cases hnil
          have hw := Wrote.setObj (o := .mapIter (some k.blk) since #[e'.born] clock) hblk
          refine ⟨_, .tuple ⟨[.bool true, e'.key, e'.val]⟩, ?_, .wrote r hb (by rw [hg]; rfl) hw ⟨h0, k, hk, by rw [hw.at_, hborn]⟩, .tuple (.cons (.bool _) (.cons hkey (.cons hval .nil)))⟩
          rw [h0]
          have hlt' : e'.born < since := by rw [hborn]; exact hlt
          have hge' : ¬ since ≤ e'.born := by omega
          simp [Instr.next, getObj, setObj, Sem.run_bind, Sem.run, hblk, hblk2, Result.andThen, choose, Question.forced, hlt', hge']
      · simp at h
    · simp at h
  · simp at h

/-- What an iterator's last step gave. -/
def entryW (it : Value) (H : AHeap) : Option Value :=
  match it with
  | .pointer (some ⟨r, 0, none⟩) => match H.get r with
    | .miter (some m) _ [b] st => match H.get m with
      | .map [e] clock => if clock = st ∧ e.born = b then some (.tuple ⟨[e.key, e.val]⟩) else none
      | _ => none
    | _ => none
  | _ => none

theorem entryW_sim {P : Program} {B : Nat} {β : Inj} {H : AHeap} {w : World} {x x' v : Value} (r : HRel P B β H w) (h : entryW x H = some v) (hx : VRel β x x') :
    ∃ v', (Instr.entry x').run P w = .ok v' w ∧ VRel β v v' := by
  unfold entryW at h
  split at h
  · rename_i it
    cases hx with
    | ptr hb =>
    rename_i l
    have ho := r.obj it l hb
    split at h
    · rename_i m since b c hg
      rw [hg] at ho
      obtain ⟨h0, k, hk, hblk⟩ := ho
      split at h
      · rename_i e clock hg2
        simp only [Option.ite_none_right_eq_some, Option.some.injEq] at h
        obtain ⟨⟨rfl, rfl⟩, rfl⟩ := h
        have ho2 := r.obj m k hk
        rw [hg2] at ho2
        obtain ⟨es', hblk2, her⟩ := ho2
        cases her with
        | cons hkey hval hborn hnil =>
          rename_i e' es2
          cases hnil
          refine ⟨.tuple ⟨[e'.key, e'.val]⟩, ?_, .tuple (.cons hkey (.cons hval .nil))⟩
          rw [h0]
          simp [Instr.entry, getObj, Sem.run_bind, Sem.run, hblk, hblk2, Result.andThen, hborn]
      · simp at h
    · simp at h
  · simp at h
end Go.Am

/- The abstract machine: operations one behind the other, code, calls. -/
namespace Go.Am
open Go

structure AS where
  tm : List Value
  H : AHeap

def putT (tm : List Value) (dst : Option Tmp) (v : Value) : List Value :=
  match dst with
  | some d => tm.set d v
  | none => tm

def aval (tm : List Value) : Operand → Value
  | .tmp t => tm.getD t undef
  | .const v => v
  | .global g => .pointer (some ⟨g, 0, none⟩)
  | .func f => .func (.func f) #[] #[]

inductive Cls where
  | p | r | n | w | c
  deriving DecidableEq

def cls (P : Program) (o : Oper) : Cls :=
  match o.op with
  | .load .. | .lookup .. => .r
  | .alloc .. | .box .. | .buildSlice .. | .makeMap .. | .makeSlice .. => .n
  | .store .. | .mapUpdate .. | .insert .. | .range .. | .next .. | .entry .. => .w
  | .convert s d _ => match P.underlying s, P.underlying d with
    | some (.slice _), some .string => .r
    | some .string, some (.slice _) => .n
    | _, _ => .p
  | .call c => match c.callee with
    | .builtin .len => if ((c.argTypes[0]?).map (kindT P ·)) = some 4 then .r else .p
    | .builtin .cap | .builtin .min | .builtin .max => .p
    | .builtin _ => .w
    | _ => .c
  | _ => .p

/-- Operations that write. -/
def wop (P : Program) (ρ : Operand → Value) (o : Oper) (H : AHeap) : Option (Value × AHeap) :=
  match o.op with
  | .store t a x => (storeW P t (ρ a) (ρ x) H).map fun H' => (undef, H')
  | .mapUpdate t m k v => (mapUpdateW P t (ρ m) (ρ k) (ρ v) H).map fun H' => (undef, H')
  | .insert t m k v => (mapUpdateW P t (ρ m) (ρ k) (ρ v) H).map fun H' => (undef, H')
  | .range t x => rangeW P t (ρ x) H
  | .next x false => nextW (ρ x) H
  | .entry x => (entryW (ρ x) H).map fun v => (v, H)
  | .call c =>
    match c.callee, c.args.toList, c.argTypes.toList with
    | .builtin .append, [s, x], [t, xt] => appendZ P t xt (ρ s) (ρ x) H
    | .builtin .copy, [d, x], t :: _ => copyW P t (ρ d) (ρ x) H
    | .builtin .delete, [m, k], t :: _ => (deleteW P t (ρ m) (ρ k) H).map fun H' => (.tuple #[], H')
    | _, _, _ => none
  | _ => none

theorem wop_sim {P : Program} {B : Nat} {β : Inj} {H H' : AHeap} {w : World} {ρ ρ' : Operand → Value} {o : Oper} {v : Value} (r : HRel P B β H w) (h : wop P ρ o H = some (v, H')) (hρ : ORelO β ρ ρ' o) :
    ∃ β' w' n v', (execOp ρ' o).run P w = .ok n w' ∧ NextIs n v' ∧ Step P B β H w β' H' w' ∧ VRel β' v v' := by
  have hundef : ∀ β, VRel β undef undef := fun β => .tuple .nil
  obtain ⟨dst, op, type, pos, after, guard⟩ := o
  cases op
  case store t a x =>
    simp only [wop, Option.map_eq_some_iff, Prod.mk.injEq] at h
    obtain ⟨H1, h1, rfl, rfl⟩ := h
    obtain ⟨w', hr, hs⟩ := storeW_sim r h1 (hρ a (by simp [Op.operands])) (hρ x (by simp [Op.operands]))
    exact ⟨β, w', .skip, undef, by simp only [execOp]; rw [Sem.run_bind, hr]; rfl, .skip, hs, hundef β⟩
  case mapUpdate t m k x =>
    simp only [wop, Option.map_eq_some_iff, Prod.mk.injEq] at h
    obtain ⟨H1, h1, rfl, rfl⟩ := h
    obtain ⟨w', hr, hs⟩ := mapUpdateW_sim r h1 (hρ m (by simp [Op.operands])) (hρ k (by simp [Op.operands])) (hρ x (by simp [Op.operands]))
    exact ⟨β, w', .skip, undef, by simp only [execOp]; rw [Sem.run_bind, hr]; rfl, .skip, hs, hundef β⟩
  case insert t m k x =>
    simp only [wop, Option.map_eq_some_iff, Prod.mk.injEq] at h
    obtain ⟨H1, h1, rfl, rfl⟩ := h
    obtain ⟨w', hr, hs⟩ := mapUpdateW_sim r h1 (hρ m (by simp [Op.operands])) (hρ k (by simp [Op.operands])) (hρ x (by simp [Op.operands]))
    exact ⟨β, w', .skip, undef, by simp only [execOp]; rw [Sem.run_bind, hr]; rfl, .skip, hs, hundef β⟩
  case range t x =>
    simp only [wop] at h
    obtain ⟨β', w', v', hr, hs, hv⟩ := rangeW_sim r h (hρ x (by simp [Op.operands]))
    exact ⟨β', w', .value v', v', by simp only [execOp]; rw [Sem.run_bind, hr]; rfl, .value v', hs, hv⟩
  case next x str =>
    cases str
    · simp only [wop] at h
      obtain ⟨w', v', hr, hs, hv⟩ := nextW_sim (ty := type) r h (hρ x (by simp [Op.operands]))
      exact ⟨β, w', .value v', v', by simp only [execOp]; rw [Sem.run_bind, hr]; rfl, .value v', hs, hv⟩
    · simp [wop] at h
  case entry x =>
    simp only [wop, Option.map_eq_some_iff, Prod.mk.injEq] at h
    obtain ⟨u, h1, rfl, rfl⟩ := h
    obtain ⟨v', hr, hv⟩ := entryW_sim r h1 (hρ x (by simp [Op.operands]))
    exact ⟨β, w, .value v', v', by simp only [execOp]; rw [Sem.run_bind, hr]; rfl, .value v', .refl r, hv⟩
  case call c =>
    obtain ⟨callee, args, argTypes⟩ := c
    simp only [wop] at h
    have hops : ∀ x, x ∈ args.toList → VRel β (ρ x) (ρ' x) := fun x hx => hρ x (by simp [Op.operands, Call.operands]; exact .inr (by simpa using hx))
    split at h
    · rename_i s x t xt hargs htys
      have ea : args.map ρ' = #[ρ' s, ρ' x] := by apply Array.ext'; simp [hargs]
      have et : argTypes = #[t, xt] := by apply Array.ext'; simpa using htys
      obtain ⟨β', w', v', hr, hs, hv⟩ := appendZ_sim (ty := type) r h (hops s (by simp [hargs])) (hops x (by simp [hargs]))
      refine ⟨β', w', .value v', v', ?_, .value v', hs, hv⟩
      subst et
      simp only [execOp, resolve, Sem.run_bind, Sem.run_pure, Result.andThen_ok, invoke, builtin, ea, hr]
    · rename_i d x t ts hargs htys
      have ea : args.map ρ' = #[ρ' d, ρ' x] := by apply Array.ext'; simp [hargs]
      have et : argTypes[0]? = some t := by rw [← Array.getElem?_toList, htys]; rfl
      obtain ⟨w', hr, hs, hv⟩ := copyW_sim (ty := type) r h et (hops d (by simp [hargs])) (hops x (by simp [hargs]))
      refine ⟨β, w', .value v, v, ?_, .value v, hs, hv⟩
      simp only [execOp, resolve, Sem.run_bind, Sem.run_pure, Result.andThen_ok, invoke, builtin, ea, hr]
    · rename_i m k t ts hargs htys
      have ea : args.map ρ' = #[ρ' m, ρ' k] := by apply Array.ext'; simp [hargs]
      have et : argTypes[0]? = some t := by rw [← Array.getElem?_toList, htys]; rfl
      simp only [Option.map_eq_some_iff, Prod.mk.injEq] at h
      obtain ⟨H1, h1, rfl, rfl⟩ := h
      obtain ⟨w', hr, hs⟩ := deleteW_sim (ty := type) r h1 et (hops m (by simp [hargs])) (hops k (by simp [hargs]))
      refine ⟨β, w', .value (.tuple #[]), .tuple #[], ?_, .value _, hs, .tuple .nil⟩
      simp only [execOp, resolve, Sem.run_bind, Sem.run_pure, Result.andThen_ok, invoke, builtin, ea, hr]
    · simp at h
  all_goals simp [wop] at h

/-- May a function be entered? -/
def enters (P : Program) (g : FuncId) : Bool :=
  match P.funcs[g]? with
  | some fn => fn.body.isSome && fn.name != "runtime.NumGoroutine"
  | none => false

/-- A type's own method: whose function it is. -/
def mfun (P : Program) (t : TypeId) (name : String) : Option FuncId :=
  match P.info? t with
  | none => none
  | some i => match i.methods.find? (·.name == name) with
    | none => none
    | some m => match m.path.toList, m.func, P.underlying t with
      | [], some (f, true), some (.pointer _) => some f
      | [], some (_, false), some (.pointer _) => none
      | [], some (f, false), some _ => some f
      | _, _, _ => none
theorem mfun_method {P : Program} {t : TypeId} {name : String} {f : FuncId} (h : mfun P t name = some f) (n : Nat) (v : Value) : prun P (method (n + 1) t v name) = some (f, v) := by
  unfold mfun at h
  split at h
  · cases h
  · rename_i i hi
    split at h
    · cases h
    · rename_i m hm
      have hti : prun P (typeInfo t) = some i := by simp only [typeInfo, prun_bind, prun_program, Option.bind_some, hi, prun_pure]
      simp only [method, prun_bind, hti, Option.bind_some, hm]
      split at h
      · rename_i fs e hp hf hu
        obtain rfl := Option.some.inj h
        have hun : prun P (underlying t) = some (.pointer e) := by simp only [underlying, prun_bind, prun_program, Option.bind_some, hu, prun_pure]
        simp only [hp, follow, prun_pure, Option.bind_some, prun_bind, hf, receiverAt, hun, Place.get]
      · cases h
      · rename_i fs u hnp hp hf hu
        obtain rfl := Option.some.inj h
        have hun : prun P (underlying t) = some u := by simp only [underlying, prun_bind, prun_program, Option.bind_some, hu, prun_pure]
        simp only [hp, follow, prun_pure, Option.bind_some, prun_bind, hf, receiverAt, hun, Place.get]
      · cases h

/-- Calls of functions. -/
def cop (P : Program) (ρ : Operand → Value) (o : Oper) : Option (FuncId × List Value) :=
  match o.op with
  | .call c =>
    match c.callee with
    | .value f => match ρ f with
      | .func (.func g) ⟨first⟩ ⟨cap⟩ => if enters P g then some (g, first ++ c.args.toList.map ρ ++ cap) else none
      | _ => none
    | .invoke x name => match ρ x with
      | .iface t v => match mfun P t name with
        | some g => if enters P g then some (g, v :: c.args.toList.map ρ) else none
        | none => none
      | _ => none
    | _ => none
  | _ => none

theorem cop_sim {P : Program} {β : Inj} {ρ ρ' : Operand → Value} {o : Oper} {g : FuncId} {args : List Value} (h : cop P ρ o = some (g, args)) (hρ : ORelO β ρ ρ' o) (w : World) :
    ∃ args', (execOp ρ' o).run P w = .ok (.enter g ⟨args'⟩) w ∧ LRel β args args' := by
  obtain ⟨dst, op, type, pos, after, guard⟩ := o
  cases op
  case call c =>
    obtain ⟨callee, as, argTypes⟩ := c
    simp only [cop] at h
    split at h
    · rename_i f
      have hops : ∀ x, x ∈ as.toList → VRel β (ρ x) (ρ' x) := fun x hx => hρ x (by simp [Op.operands, Call.operands]; exact .inr (by simpa using hx))
      have hf := hρ f (by simp [Op.operands, Call.operands])
      split at h
      · rename_i g' first cap hfv
        split at h
        · rename_i hen
          simp only [Option.some.injEq, Prod.mk.injEq] at h
          obtain ⟨rfl, rfl⟩ := h
          rw [hfv] at hf
          cases hf' : ρ' f <;> rw [hf'] at hf <;> cases hf
          rename_i ys ds h1 h2
          refine ⟨ys ++ as.toList.map ρ' ++ ds, ?_, (h1.append (.of_map hops)).append h2⟩
          unfold enters at hen
          cases hfn : P.funcs[g']? with
          | none => simp [hfn] at hen
          | some fn =>
            simp only [hfn, Bool.and_eq_true, bne_iff_ne] at hen
            have hb : fn.body.isNone = false := by cases hbd : fn.body <;> simp_all
            have e : ((⟨ys⟩ : Array Value) ++ as.map ρ' ++ ⟨ds⟩) = ⟨ys ++ as.toList.map ρ' ++ ds⟩ := by apply Array.ext'; simp
            have hname : (fn.name == "runtime.NumGoroutine") = false := by simpa using hen.2
            simp only [execOp, resolve, hf', Deferred.ofValue, Sem.run_bind, Sem.run_pure, Result.andThen_ok, invoke, callFunc, run_program, hfn, hname, Bool.false_eq_true, if_false, hb, e]
        · simp at h
      · simp at h
    · rename_i x name
      have hops : ∀ x, x ∈ as.toList → VRel β (ρ x) (ρ' x) := fun x hx => hρ x (by simp [Op.operands, Call.operands]; exact .inr (by simpa using hx))
      have hx := hρ x (by simp [Op.operands, Call.operands])
      split at h
      · rename_i t v hxv
        split at h
        · rename_i g' hm
          split at h
          · rename_i hen
            simp only [Option.some.injEq, Prod.mk.injEq] at h
            obtain ⟨rfl, rfl⟩ := h
            rw [hxv] at hx
            cases hx' : ρ' x <;> rw [hx'] at hx <;> cases hx
            rename_i v' hv
            refine ⟨v' :: as.toList.map ρ', ?_, .cons hv (.of_map hops)⟩
            unfold enters at hen
            cases hfn : P.funcs[g']? with
            | none => simp [hfn] at hen
            | some fn =>
              simp only [hfn, Bool.and_eq_true, bne_iff_ne] at hen
              have hb : fn.body.isNone = false := by cases hbd : fn.body <;> simp_all
              have e : (#[v'] ++ as.map ρ' : Array Value) = ⟨v' :: as.toList.map ρ'⟩ := by apply Array.ext'; simp
              have hname : (fn.name == "runtime.NumGoroutine") = false := by simpa using hen.2
              have h0 : (#[Value.iface t v'] ++ as.map ρ')[0]? = some (.iface t v') := by rw [← Array.getElem?_toList]; simp
              have h1 : (#[Value.iface t v'] ++ as.map ρ').extract 1 (#[Value.iface t v'] ++ as.map ρ').size = as.map ρ' := by apply Array.ext'; simp; exact List.take_of_length_le (by simp)
              have hmr : (method (P.types.size + Made.depth) t v' name).run P w = .ok (g', v') w := prun_run (mfun_method (n := P.types.size + (Made.depth - 1)) hm v') w
              simp only [execOp, resolve, hx', Sem.run_bind, Sem.run_pure, Result.andThen_ok, invoke, callMethod, h0, h1, run_program, hmr, callFunc, hfn, hname, Bool.false_eq_true, if_false, hb, e]
          · simp at h
        · simp at h
      · simp at h
    · simp at h
  all_goals simp [cop] at h

abbrev CallF := FuncId → List Value → AHeap → Option (Value × AHeap)

def opStep (P : Program) (call : CallF) (o : Oper) (s : AS) : Option AS :=
  match cls P o with
  | .p => (pop P (aval s.tm) o).map fun v => ⟨putT s.tm o.dst v, s.H⟩
  | .r => (rop P (aval s.tm) o).bind fun q => (q.2 (match q.1 with | some h => s.H.get h | none => .dead)).map fun v => ⟨putT s.tm o.dst v, s.H⟩
  | .n => (nop P (aval s.tm) o).map fun q => ⟨putT s.tm o.dst (q.2 s.H.next), s.H.push q.1⟩
  | .w => (wop P (aval s.tm) o s.H).map fun q => ⟨putT s.tm o.dst q.1, q.2⟩
  | .c => (cop P (aval s.tm) o).bind fun q => (call q.1 q.2 s.H).map fun u => ⟨putT s.tm o.dst u.1, u.2⟩

def ayield (ops : Array Oper) (tm : List Value) (j : Nat) : Option Bool :=
  match ((ops[j]?).bind (·.dst)).bind (tm[·]?) with
  | some (.bool b) => some b
  | _ => none

def runOps (P : Program) (call : CallF) (ops : Array Oper) : List Nat → AS → Option AS
  | [], s => some s
  | i :: l, s =>
    match ops[i]? with
    | none => runOps P call ops l s
    | some o => if Region.wanted o (ayield ops s.tm) then (opStep P call o s).bind (runOps P call ops l) else runOps P call ops l ⟨putT s.tm o.dst undef, s.H⟩

inductive AEx where
  | normal
  | exit (id : Nat)
  | goto (l : Nat)
  | ret
  deriving DecidableEq

def aLoop (f : AS → Option (AEx × AS)) : Nat → AS → Option (AEx × AS)
  | 0, _ => none
  | n + 1, s => (f s).bind fun q => match q.1 with
    | .normal => aLoop f n q.2
    | e => some (e, q.2)

/-- Pieces of code that are told by themselves: by the function, and the block. -/
structure Prims where
  code : FuncId → Nat → Option (AS → Option AS)
  call : FuncId → Option (List Value → AHeap → Option (Value × AHeap))
  draw : FuncId → Nat → Option (AS → Option AS)

/-- A region whose order is open: what else must hold is asked by the second argument. -/
def aCode (P : Program) (pr : Prims) (call : CallF) (drawn : Array Oper → AS → Option AS) (f : FuncId) (fuel : Nat) : Code → AS → Option (AEx × AS)
  | .skip, s => some (.normal, s)
  | .region _ ops false, s => (runOps P call ops (List.range ops.size) s).map fun s' => (.normal, s')
  | .region _ ops true, s => (drawn ops s).map fun s' => (.normal, s')
  | .seq a b, s => (aCode P pr call drawn f fuel a s).bind fun q => match q.1 with
    | .normal => aCode P pr call drawn f fuel b q.2
    | e => some (e, q.2)
  | .cond c a b, s => match aval s.tm c with
    | .bool true => aCode P pr call drawn f fuel a s
    | .bool false => aCode P pr call drawn f fuel b s
    | _ => none
  | .block id b, s => match pr.code f id with
    | some g => (g s).map fun s' => (.normal, s')
    | none => (aCode P pr call drawn f fuel b s).map fun q => (if q.1 = .exit id then .normal else q.1, q.2)
  | .loop b, s => aLoop (aCode P pr call drawn f fuel b) fuel s
  | .exit id, s => some (.exit id, s)
  | .ret, s => some (.ret, s)
  | .label _, s => some (.normal, s)
  | .goto l, s => some (.goto l, s)
  | .scope b, s => (aCode P pr call drawn f fuel b s).bind fun q => match q.1 with
    | .goto _ => none
    | e => some (e, q.2)
  | .rangeFunc .., _ => none
  | .refuse _, _ => none

def aResult (P : Program) (s : AS) : ResultVar → Option Value
  | .tmp t => some (s.tm.getD t undef)
  | .cell a t => match s.tm.getD a undef with
    | .pointer (some ⟨b, off, none⟩) => aLoad P t (s.H.get b) off
    | _ => none

def aResults (P : Program) (fn : Func) (s : AS) : Option Value :=
  (fn.results.toList.mapM (aResult P s)).map fun vs => match vs with
    | [v] => v
    | vs => .tuple ⟨vs⟩
end Go.Am

/- What the abstract machine comes to, the machine comes to: operations, code, calls. -/
namespace Go.Am
open Go

def goodX (P : Program) : Operand → Bool
  | .const v => plainV v
  | .global g => decide (g < P.globals.size)
  | _ => true

def goodO (P : Program) (o : Oper) : Bool := o.op.operands.toList.all (goodX P)

def goodC (P : Program) : Code → Bool
  | .region _ ops _ => ops.toList.all (goodO P)
  | .seq a b => goodC P a && goodC P b
  | .cond c a b => goodX P c && goodC P a && goodC P b
  | .block _ b => goodC P b
  | .loop b => goodC P b
  | .rangeFunc .. => true
  | .scope b => goodC P b
  | _ => true

def goodF (P : Program) (fn : Func) : Bool := match fn.body with | some c => goodC P c | none => true

/-- What is asked of the program once. -/
structure GoodP (P : Program) : Prop where
  zero : ∀ t z, zeroT P t = some z → plainV z = true
  code : ∀ (f : FuncId) (fn : Func) (c : Code), P.funcs[f]? = some fn → fn.body = some c → goodC P c = true

theorem GoodP.of_checks {P : Program} (hz : P.types.all (fun i => match i.zero with | some z => plainV z | none => true) = true) (hc : P.funcs.all (goodF P) = true) : GoodP P where
  zero := fun t z h => by
    simp only [zeroT, Option.bind_eq_some_iff] at h
    obtain ⟨i, hi, hz'⟩ := h
    have := Array.all_eq_true.1 hz
    have hlt : t < P.types.size := (Array.getElem?_eq_some_iff.1 hi).1
    have h2 := this t hlt
    rw [(Array.getElem?_eq_some_iff.1 hi).2, hz'] at h2
    exact h2
  code := fun f fn c hf hb => by
    have := Array.all_eq_true.1 hc
    have hlt : f < P.funcs.size := (Array.getElem?_eq_some_iff.1 hf).1
    have h2 := this f hlt
    rw [(Array.getElem?_eq_some_iff.1 hf).2] at h2
    simpa [goodF, hb] using h2

theorem eval_rel {P : Program} {B : Nat} {β : Inj} {H : AHeap} {w : World} {tm : List Value} {a : Act} (r : HRel P B β H w) (ht : LRel β tm a.tmps.toList) {x : Operand} (hx : goodX P x = true) : VRel β (aval tm x) (a.eval x) := by
  cases x with
  | tmp t =>
    have := ht.getD t (d := undef) (d' := undef) (.tuple .nil)
    simp only [aval, Act.eval]
    rw [List.getD_eq_getElem?_getD] at this ⊢
    rw [List.getD_eq_getElem?_getD] at this
    simpa using this
  | const v => exact .of_plain hx
  | global g =>
    simp only [goodX, decide_eq_true_eq] at hx
    obtain ⟨n, hn⟩ := r.glob g hx
    exact .ptr (l := ⟨g, 0, n⟩) hn
  | func f => exact .func .nil .nil

theorem good_rel {P : Program} {B : Nat} {β : Inj} {H : AHeap} {w : World} {tm : List Value} {a : Act} {o : Oper} (r : HRel P B β H w) (ht : LRel β tm a.tmps.toList) (ho : goodO P o = true) : ORelO β (aval tm) a.eval o :=
  fun x hx => eval_rel r ht (List.all_eq_true.1 ho x hx)

theorem put_rel {β : Inj} {tm : List Value} {a : Act} {v v' : Value} (ht : LRel β tm a.tmps.toList) (hv : VRel β v v') (dst : Option Tmp) : LRel β (putT tm dst v) (a.put dst v').tmps.toList := by
  cases dst with
  | none => exact ht
  | some d =>
    simp only [putT, Act.put, Array.toList_setIfInBounds]
    exact ht.set d hv

theorem put_defers (a : Act) (dst : Option Tmp) (v : Value) : (a.put dst v).defers = a.defers := by cases dst <;> rfl

theorem yield_rel {β : Inj} {tm : List Value} {tmps : Array Value} (ht : LRel β tm tmps.toList) (ops : Array Oper) : ayield ops tm = yielded ops tmps := by
  funext j
  simp only [ayield, yielded]
  cases hd : (ops[j]?).bind (·.dst) with
  | none => rfl
  | some d =>
    simp only [Option.bind_some]
    cases he : tm[d]? with
    | none =>
      have := ht.none he
      rw [Array.getElem?_toList] at this
      rw [this]
    | some v =>
      obtain ⟨v', hv', hr⟩ := ht.get d v he
      rw [Array.getElem?_toList] at hv'
      rw [hv']
      cases hr <;> rfl

/-- What is asked of the calls of the abstract machine. -/
def CallSim (P : Program) (B : Nat) (call : CallF) : Prop := ∀ g args H v H', call g args H = some (v, H') → ∀ β w args', HRel P B β H w → LRel β args args' →
  Calls P g ⟨args'⟩ w (fun e w' => ∃ v' β', e = .returned v' ∧ Step P B β H w β' H' w' ∧ VRel β' v v')

/-- What holds behind a piece of the abstract machine's way. -/
structure Stands (P : Program) (B : Nat) (β : Inj) (H : AHeap) (w : World) (a : Act) (s' : AS) (a' : Act) (w' : World) : Prop where
  ex : ∃ β', Step P B β H w β' s'.H w' ∧ LRel β' s'.tm a'.tmps.toList
  defers : a'.defers = a.defers

theorem opStep_sim {P : Program} {B : Nat} {β : Inj} {s s' : AS} {w : World} {a : Act} {o : Oper} {call : CallF} (hP : GoodP P) (hc : CallSim P B call) (h : opStep P call o s = some s') (r : HRel P B β s.H w) (ht : LRel β s.tm a.tmps.toList) (ho : goodO P o = true)
    {next : Act → World → Prop} {Q : Exit → Act → World → Prop} (hn : ∀ a' w', Stands P B β s.H w a s' a' w' → next a' w') : o.wp P a w next Q := by
  have hρ := good_rel r ht ho
  unfold opStep at h
  unfold Oper.wp
  split at h
  · simp only [Option.map_eq_some_iff] at h
    obtain ⟨v, hv, rfl⟩ := h
    obtain ⟨v', hr, hvr⟩ := pop_sim hP.zero hv hρ w
    rw [hr]
    exact hn _ _ ⟨⟨β, .refl r, put_rel ht hvr _⟩, put_defers _ _ _⟩
  · simp only [Option.bind_eq_some_iff, Option.map_eq_some_iff] at h
    obtain ⟨⟨hd, f⟩, hq, v, hv, rfl⟩ := h
    obtain ⟨v', hr, hvr⟩ := rop_sim hP.zero hq hv hρ (fun h hh l hl => by subst hh; exact r.obj h l hl)
    rw [hr]
    exact hn _ _ ⟨⟨β, .refl r, put_rel ht hvr _⟩, put_defers _ _ _⟩
  · simp only [Option.map_eq_some_iff] at h
    obtain ⟨⟨obj, f⟩, hq, rfl⟩ := h
    obtain ⟨w', v', o', lim, hr, hg, hnew⟩ := nop_sim w hP.zero hq hρ
    have hsub := Inj.put_sub (l := ⟨w.heap.size, 0, lim⟩) (r.none_of_ge (Nat.le_refl _))
    obtain ⟨h1, h2⟩ := hnew _ s.H.next hsub (Inj.put_same _ _ _)
    rw [hr]
    exact hn _ _ ⟨⟨_, .push r hg h1, put_rel (ht.mono hsub) h2 _⟩, put_defers _ _ _⟩
  · simp only [Option.map_eq_some_iff] at h
    obtain ⟨⟨v, H'⟩, hq, rfl⟩ := h
    obtain ⟨β', w', n, v', hr, hnx, hs, hv⟩ := wop_sim r hq hρ
    rw [hr]
    cases hnx with
    | value => exact hn _ _ ⟨⟨β', hs, put_rel (ht.mono hs.sub) hv _⟩, put_defers _ _ _⟩
    | skip => exact hn _ _ ⟨⟨β', hs, put_rel (ht.mono hs.sub) hv _⟩, put_defers _ _ _⟩
  · simp only [Option.bind_eq_some_iff, Option.map_eq_some_iff] at h
    obtain ⟨⟨g, args⟩, hq, ⟨v, H'⟩, hcall, rfl⟩ := h
    obtain ⟨args', hr, ha⟩ := cop_sim hq hρ w
    rw [hr]
    rw [Oper.upon_enter]
    refine (hc g args s.H v H' hcall β w args' r ha).mono ?_
    rintro e w' ⟨v', β', rfl, hs, hv⟩
    exact hn _ _ ⟨⟨β', hs, put_rel (ht.mono hs.sub) hv _⟩, put_defers _ _ _⟩

theorem runOps_sim {P : Program} {B : Nat} {call : CallF} {ops : Array Oper} (hP : GoodP P) (hc : CallSim P B call) (hg : ops.toList.all (goodO P) = true) {Q : Exit → Act → World → Prop} : ∀ (l : List Nat) {β : Inj} {s s' : AS} {w : World} {a : Act}, runOps P call ops l s = some s' →
    HRel P B β s.H w → LRel β s.tm a.tmps.toList → (∀ a' w', Stands P B β s.H w a s' a' w' → Q .normal a' w') → wpOps P ops Q l a w
  | [], β, s, s', w, a, h, r, ht, hn => by
    simp only [runOps, Option.some.injEq] at h
    subst h
    exact hn a w ⟨⟨β, .refl r, ht⟩, rfl⟩
  | i :: l, β, s, s', w, a, h, r, ht, hn => by
    simp only [runOps] at h
    simp only [wpOps]
    cases ho : ops[i]? with
    | none =>
      simp only [ho] at h
      exact runOps_sim hP hc hg l h r ht hn
    | some o =>
      simp only [ho] at h
      rw [yield_rel ht ops] at h
      have hgo : goodO P o = true := List.all_eq_true.1 hg o (by rw [← Array.getElem?_toList] at ho; exact List.mem_of_getElem? ho)
      split at h
      · rename_i hw
        simp only [hw, if_true]
        left
        simp only [Option.bind_eq_some_iff] at h
        obtain ⟨s1, h1, h2⟩ := h
        refine opStep_sim hP hc h1 r ht hgo fun a1 w1 st => ?_
        obtain ⟨⟨β1, hs1, ht1⟩, hd1⟩ := st
        refine runOps_sim hP hc hg l h2 hs1.rel ht1 fun a2 w2 st2 => hn a2 w2 ?_
        obtain ⟨⟨β2, hs2, ht2⟩, hd2⟩ := st2
        exact ⟨⟨β2, hs1.trans hs2, ht2⟩, hd2.trans hd1⟩
      · rename_i hw
        simp only [hw, if_false, Bool.false_eq_true]
        refine runOps_sim hP hc hg l h r (put_rel ht (.tuple .nil) _) fun a2 w2 st2 => hn a2 w2 ?_
        obtain ⟨⟨β2, hs2, ht2⟩, hd2⟩ := st2
        exact ⟨⟨β2, hs2, ht2⟩, hd2.trans (put_defers _ _ _)⟩

def AEx.exit' : AEx → Exit
  | .normal => .normal
  | .exit id => .exit id
  | .goto l => .goto l
  | .ret => .ret

/-- What is asked of a region whose order is open. -/
def DrawSim (P : Program) (B : Nat) (drawn : Array Oper → AS → Option AS) : Prop := ∀ ops id s s', drawn ops s = some s' → ops.toList.all (goodO P) = true → ∀ β w a, HRel P B β s.H w → LRel β s.tm a.tmps.toList →
  ∀ Q : Exit → Act → World → Prop, (∀ a' w', Stands P B β s.H w a s' a' w' → Q .normal a' w') → (Code.region id ops true).wp P Q a w

/-- The blocks of a piece of code. -/
def blocksOf : Code → List (Nat × Code)
  | .seq a b => blocksOf a ++ blocksOf b
  | .cond _ a b => blocksOf a ++ blocksOf b
  | .block id b => (id, b) :: blocksOf b
  | .loop b => blocksOf b
  | .scope b => blocksOf b
  | _ => []

/-- What is asked of pieces of code that are told by themselves. -/
structure PrimSim (P : Program) (B : Nat) (pr : Prims) : Prop where
  code : ∀ f id g, pr.code f id = some g → ∀ (fn : Func) (c : Code) (b : Nat × Code), P.funcs[f]? = some fn → fn.body = some c → b ∈ blocksOf c → b.1 = id → ∀ s s', g s = some s' → ∀ β w a, HRel P B β s.H w → LRel β s.tm a.tmps.toList →
    ∀ Q : Exit → Act → World → Prop, (∀ a' w', Stands P B β s.H w a s' a' w' → Q .normal a' w') → (Code.block b.1 b.2).wp P Q a w
  call : ∀ g f, pr.call g = some f → ∀ args H v H', f args H = some (v, H') → ∀ β w args', HRel P B β H w → LRel β args args' →
    Calls P g ⟨args'⟩ w (fun e w' => ∃ v' β', e = .returned v' ∧ Step P B β H w β' H' w' ∧ VRel β' v v')

theorem aLoop_sim {P : Program} {B : Nat} {f : AS → Option (AEx × AS)} {c : Code} (hf : ∀ {β : Inj} {s s' : AS} {w : World} {a : Act} {e : AEx} {Q : Exit → Act → World → Prop}, f s = some (e, s') → HRel P B β s.H w → LRel β s.tm a.tmps.toList →
    (∀ a' w', Stands P B β s.H w a s' a' w' → Q e.exit' a' w') → c.wp P Q a w) : ∀ (n : Nat) {β : Inj} {s s' : AS} {w : World} {a : Act} {e : AEx} {Q : Exit → Act → World → Prop}, aLoop f n s = some (e, s') → HRel P B β s.H w → LRel β s.tm a.tmps.toList →
    (∀ a' w', Stands P B β s.H w a s' a' w' → Q e.exit' a' w') → Code.rounds P c Q n a w
  | 0, β, s, s', w, a, e, Q, h, _, _, _ => by simp [aLoop] at h
  | n + 1, β, s, s', w, a, e, Q, h, r, ht, hn => by
    simp only [aLoop, Option.bind_eq_some_iff] at h
    obtain ⟨⟨e1, s2⟩, hf1, h2⟩ := h
    rw [rounds_succ]
    refine hf hf1 r ht fun a2 w2 st => ?_
    obtain ⟨⟨β2, hs2, ht2⟩, hd2⟩ := st
    cases e1 with
    | normal =>
      simp only at h2
      exact aLoop_sim hf n h2 hs2.rel ht2 fun a' w' st' => by
        obtain ⟨⟨β3, hs3, ht3⟩, hd3⟩ := st'
        exact hn a' w' ⟨⟨β3, hs2.trans hs3, ht3⟩, hd3.trans hd2⟩
    | exit id => simp only [Option.some.injEq, Prod.mk.injEq] at h2; obtain ⟨rfl, rfl⟩ := h2; exact hn a2 w2 ⟨⟨β2, hs2, ht2⟩, hd2⟩
    | goto l => simp only [Option.some.injEq, Prod.mk.injEq] at h2; obtain ⟨rfl, rfl⟩ := h2; exact hn a2 w2 ⟨⟨β2, hs2, ht2⟩, hd2⟩
    | ret => simp only [Option.some.injEq, Prod.mk.injEq] at h2; obtain ⟨rfl, rfl⟩ := h2; exact hn a2 w2 ⟨⟨β2, hs2, ht2⟩, hd2⟩

theorem aCode_sim {P : Program} {B : Nat} {pr : Prims} {call : CallF} {drawn : Array Oper → AS → Option AS} {f : FuncId} {fuel : Nat} (hP : GoodP P) (hc : CallSim P B call) (hd : DrawSim P B drawn) (hp : PrimSim P B pr) {fn : Func} {c0 : Code}
    (hfn : P.funcs[f]? = some fn) (hb : fn.body = some c0) : ∀ (c : Code), goodC P c = true → (∀ b ∈ blocksOf c, b ∈ blocksOf c0) → ∀ {β : Inj} {s s' : AS} {w : World} {a : Act} {e : AEx} {Q : Exit → Act → World → Prop},
    aCode P pr call drawn f fuel c s = some (e, s') → HRel P B β s.H w → LRel β s.tm a.tmps.toList → (∀ a' w', Stands P B β s.H w a s' a' w' → Q e.exit' a' w') → c.wp P Q a w
  | .skip, _, _, β, s, s', w, a, e, Q, h, r, ht, hn => by
    simp only [aCode, Option.some.injEq, Prod.mk.injEq] at h
    obtain ⟨rfl, rfl⟩ := h
    exact wp_skip (hn a w ⟨⟨β, .refl r, ht⟩, rfl⟩)
  | .region id ops false, hg, _, β, s, s', w, a, e, Q, h, r, ht, hn => by
    simp only [aCode, Option.map_eq_some_iff, Prod.mk.injEq] at h
    obtain ⟨s1, h1, rfl, rfl⟩ := h
    exact wp_region (runOps_sim hP hc hg _ h1 r ht hn)
  | .region id ops true, hg, _, β, s, s', w, a, e, Q, h, r, ht, hn => by
    simp only [aCode, Option.map_eq_some_iff, Prod.mk.injEq] at h
    obtain ⟨s1, h1, rfl, rfl⟩ := h
    exact hd ops id s s1 h1 hg β w a r ht Q hn
  | .seq x y, hg, hbl, β, s, s', w, a, e, Q, h, r, ht, hn => by
    simp only [goodC, Bool.and_eq_true] at hg
    simp only [aCode, Option.bind_eq_some_iff] at h
    obtain ⟨⟨e1, s1⟩, h1, h2⟩ := h
    refine wp_seq (aCode_sim hP hc hd hp hfn hb x hg.1 (fun b hb' => hbl b (by simp [blocksOf, hb'])) h1 r ht fun a1 w1 st => ?_)
    obtain ⟨⟨β1, hs1, ht1⟩, hd1⟩ := st
    cases e1 with
    | normal =>
      simp only at h2
      exact aCode_sim hP hc hd hp hfn hb y hg.2 (fun b hb' => hbl b (by simp [blocksOf, hb'])) h2 hs1.rel ht1 fun a' w' st' => by
        obtain ⟨⟨β3, hs3, ht3⟩, hd3⟩ := st'
        exact hn a' w' ⟨⟨β3, hs1.trans hs3, ht3⟩, hd3.trans hd1⟩
    | exit id => simp only [Option.some.injEq, Prod.mk.injEq] at h2; obtain ⟨rfl, rfl⟩ := h2; exact hn a1 w1 ⟨⟨β1, hs1, ht1⟩, hd1⟩
    | goto l => simp only [Option.some.injEq, Prod.mk.injEq] at h2; obtain ⟨rfl, rfl⟩ := h2; exact hn a1 w1 ⟨⟨β1, hs1, ht1⟩, hd1⟩
    | ret => simp only [Option.some.injEq, Prod.mk.injEq] at h2; obtain ⟨rfl, rfl⟩ := h2; exact hn a1 w1 ⟨⟨β1, hs1, ht1⟩, hd1⟩
  | .cond x y z, hg, hbl, β, s, s', w, a, e, Q, h, r, ht, hn => by
    simp only [goodC, Bool.and_eq_true] at hg
    have hx := eval_rel (a := a) r ht hg.1.1
    simp only [aCode] at h
    split at h
    · rename_i hv
      rw [hv] at hx
      have ev : a.eval x = .bool true := by cases hx' : a.eval x <;> rw [hx'] at hx <;> cases hx; rfl
      exact wp_cond_true ev (aCode_sim hP hc hd hp hfn hb y hg.1.2 (fun b hb' => hbl b (by simp [blocksOf, hb'])) h r ht hn)
    · rename_i hv
      rw [hv] at hx
      have ev : a.eval x = .bool false := by cases hx' : a.eval x <;> rw [hx'] at hx <;> cases hx; rfl
      exact wp_cond_false ev (aCode_sim hP hc hd hp hfn hb z hg.2 (fun b hb' => hbl b (by simp [blocksOf, hb'])) h r ht hn)
    · simp at h
  | .block id b, hg, hbl, β, s, s', w, a, e, Q, h, r, ht, hn => by
    simp only [goodC] at hg
    simp only [aCode] at h
    split at h
    · rename_i g hpg
      simp only [Option.map_eq_some_iff, Prod.mk.injEq] at h
      obtain ⟨s1, h1, rfl, rfl⟩ := h
      exact hp.code f id g hpg fn c0 (id, b) hfn hb (hbl _ (by simp [blocksOf])) rfl s s1 h1 β w a r ht Q hn
    · simp only [Option.map_eq_some_iff, Prod.mk.injEq] at h
      obtain ⟨⟨e1, s1⟩, h1, he, rfl⟩ := h
      refine wp_block (aCode_sim hP hc hd hp hfn hb b hg (fun b' hb' => hbl b' (by simp [blocksOf, hb'])) h1 r ht fun a1 w1 st => ?_)
      have := hn a1 w1 st
      subst he
      cases e1 with
      | normal => simpa [AEx.exit', Exit.inBlock] using this
      | exit id' =>
        simp only [AEx.exit', Exit.inBlock] at this ⊢
        by_cases hid : id' = id
        · subst hid; simpa using this
        · rw [if_neg hid]; simpa [hid] using this
      | goto l => simpa [AEx.exit', Exit.inBlock] using this
      | ret => simpa [AEx.exit', Exit.inBlock] using this
  | .loop b, hg, hbl, β, s, s', w, a, e, Q, h, r, ht, hn => by
    simp only [goodC] at hg
    simp only [aCode] at h
    exact wp_loop_rounds fuel (aLoop_sim (fun h r ht hn => aCode_sim hP hc hd hp hfn hb b hg (fun b' hb' => hbl b' (by simp [blocksOf, hb'])) h r ht hn) fuel h r ht hn)
  | .exit id, _, _, β, s, s', w, a, e, Q, h, r, ht, hn => by
    simp only [aCode, Option.some.injEq, Prod.mk.injEq] at h
    obtain ⟨rfl, rfl⟩ := h
    exact wp_exit (hn a w ⟨⟨β, .refl r, ht⟩, rfl⟩)
  | .ret, _, _, β, s, s', w, a, e, Q, h, r, ht, hn => by
    simp only [aCode, Option.some.injEq, Prod.mk.injEq] at h
    obtain ⟨rfl, rfl⟩ := h
    exact wp_ret (hn a w ⟨⟨β, .refl r, ht⟩, rfl⟩)
  | .label l, _, _, β, s, s', w, a, e, Q, h, r, ht, hn => by
    simp only [aCode, Option.some.injEq, Prod.mk.injEq] at h
    obtain ⟨rfl, rfl⟩ := h
    exact wp_label (hn a w ⟨⟨β, .refl r, ht⟩, rfl⟩)
  | .goto l, _, _, β, s, s', w, a, e, Q, h, r, ht, hn => by
    simp only [aCode, Option.some.injEq, Prod.mk.injEq] at h
    obtain ⟨rfl, rfl⟩ := h
    exact wp_goto (hn a w ⟨⟨β, .refl r, ht⟩, rfl⟩)
  | .scope b, hg, hbl, β, s, s', w, a, e, Q, h, r, ht, hn => by
    simp only [goodC] at hg
    simp only [aCode, Option.bind_eq_some_iff] at h
    obtain ⟨⟨e1, s1⟩, h1, h2⟩ := h
    refine wp_scope_straight (aCode_sim hP hc hd hp hfn hb b hg (fun b' hb' => hbl b' (by simp [blocksOf, hb'])) h1 r ht fun a1 w1 st => ?_)
    cases e1 with
    | goto l => simp at h2
    | normal => simp only [Option.some.injEq, Prod.mk.injEq] at h2; obtain ⟨rfl, rfl⟩ := h2; simpa [AEx.exit', Exit.noGoto] using hn a1 w1 st
    | exit id => simp only [Option.some.injEq, Prod.mk.injEq] at h2; obtain ⟨rfl, rfl⟩ := h2; simpa [AEx.exit', Exit.noGoto] using hn a1 w1 st
    | ret => simp only [Option.some.injEq, Prod.mk.injEq] at h2; obtain ⟨rfl, rfl⟩ := h2; simpa [AEx.exit', Exit.noGoto] using hn a1 w1 st
  | .rangeFunc .., _, _, β, s, s', w, a, e, Q, h, _, _, _ => by simp [aCode] at h
  | .refuse _, _, _, β, s, s', w, a, e, Q, h, _, _, _ => by simp [aCode] at h

def resRead (tmps : Array Value) : ResultVar → Sem Value
  | .tmp t => pure (tmps.getD t undef)
  | .cell b t => do loadVar t (← asAddr (tmps.getD b undef))

theorem results_eq (fn : Func) (tmps : Array Value) : results fn tmps = (do let vs ← fn.results.mapM (resRead tmps); pure (if h : vs.size = 1 then vs[0] else .tuple vs)) := by
  unfold results
  congr 1

theorem aResult_sim {P : Program} {B : Nat} {β : Inj} {s : AS} {w : World} {a : Act} {x : ResultVar} {v : Value} (h : aResult P s x = some v) (r : HRel P B β s.H w) (ht : LRel β s.tm a.tmps.toList) :
    ∃ v', (resRead a.tmps x).run P w = .ok v' w ∧ VRel β v v' := by
  have hget : ∀ t, VRel β (s.tm.getD t undef) (a.tmps.getD t undef) := fun t => by
    have := ht.getD t (d := undef) (d' := undef) (.tuple .nil)
    rw [List.getD_eq_getElem?_getD] at this ⊢
    rw [List.getD_eq_getElem?_getD] at this
    simpa using this
  cases x with
  | tmp t =>
    simp only [aResult, Option.some.injEq] at h
    subst h
    exact ⟨_, rfl, hget t⟩
  | cell b t =>
    simp only [aResult] at h
    have hb := hget b
    split at h
    · rename_i k off hk
      rw [hk] at hb
      cases hb' : a.tmps.getD b undef <;> rw [hb'] at hb <;> cases hb
      rename_i l hl
      have ho := r.obj k l hl
      simp only [resRead, hb', asAddr, Sem.run_bind, Sem.run_pure, Result.andThen_ok]
      cases hobj : s.H.get k with
      | cells c T wr =>
        rw [hobj] at ho h
        simp only [aLoad] at h
        split at h
        · rename_i hag
          simp only [Option.bind_eq_some_iff, Option.ite_none_right_eq_some, Option.some.injEq] at h
          obtain ⟨n, hn, hlen, rfl⟩ := h
          obtain ⟨s', hs, hr⟩ := load_seg (P := P) ho.1 hlen
          exact ⟨.agg ⟨s'⟩, by simp only [loadVar, Sem.run_bind, run_isAgg' w hag, Result.andThen_ok, if_true, run_sizeOf' w hn, hs, Sem.run_pure], .agg hr⟩
        · rename_i hag
          obtain ⟨v', hv, hr⟩ := ho.1 off v h
          exact ⟨v', by simp only [loadVar, Sem.run_bind, run_isAgg' w hag, Result.andThen_ok, Bool.false_eq_true, if_false, run_load, hv], hr⟩
        · simp at h
      | _ => rw [hobj] at h; simp [aLoad] at h
    · simp at h

theorem aResults_sim {P : Program} {B : Nat} {β : Inj} {s : AS} {w : World} {a : Act} {fn : Func} {v : Value} (h : aResults P fn s = some v) (r : HRel P B β s.H w) (ht : LRel β s.tm a.tmps.toList) :
    ∃ v', (results fn a.tmps).run P w = .ok v' w ∧ VRel β v v' := by
  have key : ∀ (xs : List ResultVar) (vs : List Value), xs.mapM (aResult P s) = some vs →
      ∃ vs', (xs.mapM (resRead a.tmps)).run P w = .ok vs' w ∧ LRel β vs vs' := by
    intro xs
    induction xs with
    | nil => intro vs h; simp at h; subst h; exact ⟨[], rfl, .nil⟩
    | cons x xs ih =>
      intro vs h
      rw [List.mapM_cons] at h
      simp only [Option.bind_eq_bind, Option.bind_eq_some_iff, Option.pure_def, Option.some.injEq] at h
      obtain ⟨u, hu, us, hus, rfl⟩ := h
      obtain ⟨u', hu', hur⟩ := aResult_sim (a := a) hu r ht
      obtain ⟨us', hus', husr⟩ := ih us hus
      refine ⟨u' :: us', ?_, .cons hur husr⟩
      rw [List.mapM_cons]
      simp only [Sem.run_bind]
      rw [hu', Result.andThen_ok, hus', Result.andThen_ok]
      rfl
  simp only [aResults, Option.map_eq_some_iff] at h
  obtain ⟨vs, hvs, rfl⟩ := h
  obtain ⟨vs', hr, hl⟩ := key _ _ hvs
  have hrun : (fn.results.mapM (resRead a.tmps)).run P w = .ok vs'.toArray w := by
    rw [← Array.toArray_toList (xs := fn.results), List.mapM_toArray, Sem.run_map, hr, Result.andThen_ok]
  rw [results_eq]
  simp only [Sem.run_bind]
  rw [hrun, Result.andThen_ok]
  match vs, vs', hl with
  | [], _, .nil => exact ⟨_, rfl, .tuple .nil⟩
  | [v], _, .cons hv .nil => exact ⟨_, rfl, hv⟩
  | v1 :: v2 :: vs, _, .cons h1 (.cons h2 h3) => exact ⟨_, rfl, .tuple (.cons h1 (.cons h2 h3))⟩

/-- A call, with so many steps of depth. -/
def aCall (P : Program) (pr : Prims) (drawn : CallF → Array Oper → AS → Option AS) : Nat → CallF
  | 0, _, _, _ => none
  | n + 1, g, args, H => match pr.call g with
    | some f => f args H
    | none => (P.funcs[g]?).bind fun fn => fn.body.bind fun c =>
      (aCode P pr (aCall P pr drawn n) (drawn (aCall P pr drawn n)) g n c ⟨args ++ List.replicate (fn.ntmps - args.length) undef, H⟩).bind fun q => match q.1 with
        | .normal => (aResults P fn q.2).map fun v => (v, q.2.H)
        | .ret => (aResults P fn q.2).map fun v => (v, q.2.H)
        | _ => none

theorem aCall_sim {P : Program} {B : Nat} {pr : Prims} {drawn : CallF → Array Oper → AS → Option AS} {Kp : CallF → Prop} (hK : ∀ n, Kp (aCall P pr drawn n)) (hP : GoodP P) (hd : ∀ call, CallSim P B call → Kp call → DrawSim P B (drawn call)) (hp : PrimSim P B pr) : ∀ n, CallSim P B (aCall P pr drawn n)
  | 0 => fun g args H v H' h => by simp [aCall] at h
  | n + 1 => fun g args H v H' h β w args' r ha => by
    have ih := aCall_sim hK hP hd hp n
    simp only [aCall] at h
    split at h
    · rename_i f hf
      exact hp.call g f hf args H v H' h β w args' r ha
    · simp only [Option.bind_eq_some_iff] at h
      obtain ⟨fn, hfn, c, hb, ⟨e, s'⟩, hrun, h⟩ := h
      have hlen := ha.length
      have ht : LRel β (args ++ List.replicate (fn.ntmps - args.length) undef) ((⟨args'⟩ : Array Value) ++ Array.replicate (fn.ntmps - (⟨args'⟩ : Array Value).size) undef).toList := by
        have hrep : ∀ k, LRel β (List.replicate k undef) (List.replicate k undef) := by
          intro k
          induction k with
          | zero => exact .nil
          | succ k ih => rw [List.replicate_succ]; exact .cons (.tuple .nil) ih
        simp only [Array.toList_append, Array.toList_replicate, List.size_toArray, ← hlen]
        exact ha.append (hrep _)
      refine calls_of_wp hfn hb ?_
      refine aCode_sim (a := { tmps := (⟨args'⟩ : Array Value) ++ Array.replicate (fn.ntmps - (⟨args'⟩ : Array Value).size) undef, defers := [] }) hP ih (hd _ ih (hK n)) hp hfn hb c (hP.code g fn c hfn hb) (fun b hb => hb) hrun r ht fun a1 w1 st => ?_
      obtain ⟨⟨β1, hs1, ht1⟩, hd1⟩ := st
      cases e with
      | normal =>
        simp only [Option.map_eq_some_iff, Prod.mk.injEq] at h
        obtain ⟨v0, hv0, rfl, rfl⟩ := h
        obtain ⟨v', hr, hv⟩ := aResults_sim hv0 hs1.rel ht1
        exact ⟨hd1, v', hr, v', β1, rfl, hs1, hv⟩
      | ret =>
        simp only [Option.map_eq_some_iff, Prod.mk.injEq] at h
        obtain ⟨v0, hv0, rfl, rfl⟩ := h
        obtain ⟨v', hr, hv⟩ := aResults_sim hv0 hs1.rel ht1
        exact ⟨hd1, v', hr, v', β1, rfl, hs1, hv⟩
      | exit id => simp at h
      | goto l => simp at h
end Go.Am

/- What the abstract machine's heap never does: a dead object stays dead, new objects may be written. -/
namespace Go.Am
open Go

structure AKeep (H H' : AHeap) : Prop where
  next : H.next ≤ H'.next
  dead : ∀ h, h < H.next → H.get h = .dead → H'.get h = .dead
  fresh : ∀ h, (H'.get h).live = true → (H'.get h).wlive = true ∨ H'.get h = H.get h
  ro : ∀ h, (H.get h).live = true → (H.get h).wlive = false → H'.get h = H.get h

theorem AKeep.refl (H : AHeap) : AKeep H H := ⟨Nat.le_refl _, fun _ _ h => h, fun _ _ => .inr rfl, fun _ _ _ => rfl⟩

theorem AKeep.trans {a b c : AHeap} (h : AKeep a b) (k : AKeep b c) : AKeep a c where
  next := Nat.le_trans h.next k.next
  dead := fun x hx hd => k.dead x (Nat.lt_of_lt_of_le hx h.next) (h.dead x hx hd)
  fresh := fun x hx => by
    rcases k.fresh x hx with h1 | h1
    · exact .inl h1
    · rw [h1] at hx ⊢
      exact h.fresh x hx
  ro := fun x h1 h2 => by
    have e := h.ro x h1 h2
    rw [← e]
    exact k.ro x (by rw [e]; exact h1) (by rw [e]; exact h2)

theorem AKeep.push (H : AHeap) {o : AObj} (ho : o.wlive = true) : AKeep H (H.push o) where
  next := by simp
  dead := fun h hh hd => by rw [get_push_lt H h o hh]; exact hd
  fresh := fun h hl => by
    by_cases hn : h = H.next
    · subst hn; left; rw [get_push_new]; exact ho
    · right; exact get_push_ne H h o hn
  ro := fun h h1 _ => by
    by_cases hn : h = H.next
    · subst hn; rw [get_ge H H.next (Nat.le_refl _)] at h1; simp [AObj.live] at h1
    · exact get_push_ne H h o hn

/-- A writable object becomes another writable one, or dead. -/
theorem AKeep.set (H : AHeap) {h : Nat} {o : AObj} (hw : (H.get h).wlive = true) (ho : o.wlive = true ∨ o = .dead) : AKeep H (H.set h o) where
  next := by simp
  dead := fun x hx hd => by
    by_cases hxh : x = h
    · subst hxh; rw [hd] at hw; simp [AObj.wlive] at hw
    · rw [get_set_ne H x h o (Ne.symm hxh)]; exact hd
  fresh := fun x hl => by
    by_cases hxh : x = h
    · subst hxh
      have hlt : x < H.next := by
        rcases Nat.lt_or_ge x H.next with h1 | h1
        · exact h1
        · rw [get_ge H x h1] at hw; simp [AObj.wlive] at hw
      rw [get_set_same H x o hlt] at hl ⊢
      rcases ho with ho | rfl
      · exact .inl ho
      · simp [AObj.live] at hl
    · exact .inr (get_set_ne H x h o (Ne.symm hxh))
  ro := fun x h1 h2 => by
    by_cases hxh : x = h
    · subst hxh; rw [hw] at h2; simp at h2
    · exact get_set_ne H x h o (Ne.symm hxh)

/-- A dead slot comes to life, and may be written. -/
theorem AKeep.slot (H : AHeap) {h : Nat} {o : AObj} (hd : H.get h = .dead) (ho : o.wlive = true) :
    (H.set h o).next = H.next ∧ (∀ x, x ≠ h → (H.set h o).get x = H.get x) := ⟨by simp, fun x hx => get_set_ne H x h o (Ne.symm hx)⟩

theorem appendW_keep {P : Program} {t xt : TypeId} {s x v : Value} {H H' : AHeap} (h : appendW P t xt s x H = some (v, H')) : AKeep H H' := by
  unfold appendW at h
  split at h
  · simp only [Option.bind_eq_some_iff, Option.ite_none_right_eq_some] at h
    obtain ⟨sz, _, bs, _, z, _, nx, _, _, h⟩ := h
    split at h
    · split at h
      · simp only [Option.some.injEq, Prod.mk.injEq] at h; obtain ⟨_, rfl⟩ := h; exact .refl H
      · simp only [Option.ite_none_right_eq_some, Option.some.injEq, Prod.mk.injEq] at h; obtain ⟨_, _, rfl⟩ := h; exact .push H rfl
    · split at h
      · simp only [Option.some.injEq, Prod.mk.injEq] at h; obtain ⟨_, rfl⟩ := h; exact .refl H
      · split at h
        · rename_i hg
          split at h
          · split at h
            · simp only [Option.some.injEq, Prod.mk.injEq] at h; obtain ⟨_, rfl⟩ := h; exact .push H rfl
            · split at h
              · rename_i hcw
                obtain ⟨_, rfl⟩ := hcw
                simp only [Option.some.injEq, Prod.mk.injEq] at h; obtain ⟨_, rfl⟩ := h
                exact (AKeep.set H (by rw [hg]; rfl) (.inr rfl)).trans (.push _ rfl)
              · simp at h
          · simp at h
        · simp at h
    · simp at h
  · simp at h

theorem wop_keep {P : Program} {ρ : Operand → Value} {o : Oper} {H H' : AHeap} {v : Value} (h : wop P ρ o H = some (v, H')) : AKeep H H' := by
  have store : ∀ {t a x H'}, storeW P t a x H = some H' → AKeep H H' := by
    intro t a x H' h
    unfold storeW at h
    split at h
    · split at h
      · rename_i hg
        simp only [Option.bind_eq_some_iff, Option.ite_none_right_eq_some, Option.some.injEq] at h
        obtain ⟨_, _, _, rfl⟩ := h
        exact .set H (by rw [hg]; rfl) (.inl rfl)
      · simp at h
    · simp at h
  have upd : ∀ {t m k x H'}, mapUpdateW P t m k x H = some H' → AKeep H H' := by
    intro t m k x H' h
    unfold mapUpdateW at h
    split at h
    · split at h
      · rename_i hg
        simp only [Option.ite_none_right_eq_some, Option.map_eq_some_iff] at h
        obtain ⟨_, q, _, h⟩ := h
        subst h
        split <;> exact .set H (by rw [hg]; rfl) (.inl rfl)
      · simp at h
    · simp at h
  obtain ⟨dst, op, type, pos, after, guard⟩ := o
  cases op
  case store t a x => simp only [wop, Option.map_eq_some_iff, Prod.mk.injEq] at h; obtain ⟨H1, h1, rfl, rfl⟩ := h; exact store h1
  case mapUpdate t m k x => simp only [wop, Option.map_eq_some_iff, Prod.mk.injEq] at h; obtain ⟨H1, h1, rfl, rfl⟩ := h; exact upd h1
  case insert t m k x => simp only [wop, Option.map_eq_some_iff, Prod.mk.injEq] at h; obtain ⟨H1, h1, rfl, rfl⟩ := h; exact upd h1
  case range t x =>
    simp only [wop] at h
    unfold rangeW at h
    split at h
    · simp only [Option.some.injEq, Prod.mk.injEq] at h; obtain ⟨_, rfl⟩ := h; exact .push H rfl
    · split at h
      · simp only [Option.some.injEq, Prod.mk.injEq] at h; obtain ⟨_, rfl⟩ := h; exact .push H rfl
      · simp at h
    · simp at h
  case next x str =>
    cases str
    · simp only [wop] at h
      unfold nextW at h
      split at h
      · split at h
        · simp only [Option.some.injEq, Prod.mk.injEq] at h; obtain ⟨_, rfl⟩ := h; exact .refl H
        · rename_i hg
          split at h
          · simp only [Option.some.injEq, Prod.mk.injEq] at h; obtain ⟨_, rfl⟩ := h; exact .refl H
          · simp only [Option.ite_none_right_eq_some, Option.some.injEq, Prod.mk.injEq] at h; obtain ⟨_, _, rfl⟩ := h; exact .set H (by rw [hg]; rfl) (.inl rfl)
          · simp at h
        · simp at h
      · simp at h
    · simp [wop] at h
  case entry x =>
    simp only [wop, Option.map_eq_some_iff, Prod.mk.injEq] at h
    obtain ⟨_, _, _, rfl⟩ := h
    exact .refl H
  case call c =>
    obtain ⟨callee, args, argTypes⟩ := c
    simp only [wop] at h
    split at h
    · unfold appendZ at h
      split at h
      · rename_i q hq
        obtain rfl := Option.some.inj h
        exact appendW_keep hq
      · unfold appendI at h
        split at h
        · simp only [Option.bind_eq_some_iff] at h
          obtain ⟨sz, _, bs, _, z, _, h⟩ := h
          split at h
          · simp only [Option.ite_none_right_eq_some, Option.some.injEq, Prod.mk.injEq] at h
            obtain ⟨_, _, rfl⟩ := h
            exact .push H rfl
          · simp at h
        · simp at h
    · unfold copyW at h
      split at h
      · simp only [Option.bind_eq_some_iff] at h
        obtain ⟨sz, _, nx, _, h⟩ := h
        split at h
        · simp only [Option.some.injEq, Prod.mk.injEq] at h; obtain ⟨_, rfl⟩ := h; exact .refl H
        · split at h
          · simp only [Option.some.injEq, Prod.mk.injEq] at h; obtain ⟨_, rfl⟩ := h; exact .refl H
          · split at h
            · rename_i hg
              simp only [Option.ite_none_right_eq_some, Option.some.injEq, Prod.mk.injEq] at h
              obtain ⟨_, _, rfl⟩ := h
              exact .set H (by rw [hg]; rfl) (.inl rfl)
            · simp at h
        · simp at h
      · simp at h
    · simp only [Option.map_eq_some_iff, Prod.mk.injEq] at h
      obtain ⟨H1, h1, rfl, rfl⟩ := h
      unfold deleteW at h1
      split at h1
      · split at h1
        · rename_i hg
          simp only [Option.ite_none_right_eq_some, Option.map_eq_some_iff] at h1
          obtain ⟨_, q, _, h1⟩ := h1
          subst h1
          split <;> exact .set H (by rw [hg]; rfl) (.inl rfl)
        · simp at h1
      · simp at h1
    · simp at h
  all_goals simp [wop] at h

theorem nop_wlive {P : Program} {ρ : Operand → Value} {o : Oper} {obj : AObj} {f : Nat → Value} (h : nop P ρ o = some (obj, f)) : obj.wlive = true := by
  obtain ⟨dst, op, type, pos, after, guard⟩ := o
  cases op
  case alloc t => simp only [nop, Option.map_eq_some_iff, Prod.mk.injEq] at h; obtain ⟨_, _, rfl, _⟩ := h; rfl
  case box t x => simp only [nop, Option.some.injEq, Prod.mk.injEq] at h; obtain ⟨rfl, _⟩ := h; rfl
  case buildSlice t n ps =>
    simp only [nop] at h
    split at h
    · simp only [Option.bind_eq_some_iff, Option.ite_none_right_eq_some, Option.map_eq_some_iff, Prod.mk.injEq] at h
      obtain ⟨_, _, _, _, _, _, _, _, rfl, _⟩ := h
      rfl
    · simp at h
  case makeMap t r =>
    cases r with
    | none => simp only [nop, Option.some.injEq, Prod.mk.injEq] at h; obtain ⟨rfl, _⟩ := h; rfl
    | some x => simp [nop] at h
  case makeSlice t l c =>
    simp only [nop] at h
    split at h
    · simp only [Option.bind_eq_some_iff, Option.ite_none_right_eq_some, Option.some.injEq, Prod.mk.injEq] at h
      obtain ⟨_, _, _, _, _, _, _, rfl, _⟩ := h
      rfl
    · simp at h
  case convert s d x =>
    simp only [nop] at h
    split at h
    · split at h
      · split at h
        · simp only [Option.some.injEq, Prod.mk.injEq] at h; obtain ⟨rfl, _⟩ := h; rfl
        · simp at h
      · simp at h
    · simp at h
  all_goals simp [nop] at h

def CallKeep (call : CallF) : Prop := ∀ g args H v H', call g args H = some (v, H') → AKeep H H'

theorem opStep_keep {P : Program} {call : CallF} {o : Oper} {s s' : AS} (hc : CallKeep call) (h : opStep P call o s = some s') : AKeep s.H s'.H := by
  unfold opStep at h
  split at h
  · simp only [Option.map_eq_some_iff] at h; obtain ⟨v, _, rfl⟩ := h; exact .refl _
  · simp only [Option.bind_eq_some_iff, Option.map_eq_some_iff] at h; obtain ⟨q, _, v, _, rfl⟩ := h; exact .refl _
  · simp only [Option.map_eq_some_iff] at h; obtain ⟨⟨obj, f⟩, hq, rfl⟩ := h; exact .push _ (nop_wlive hq)
  · simp only [Option.map_eq_some_iff] at h; obtain ⟨⟨v, H'⟩, hq, rfl⟩ := h; exact wop_keep hq
  · simp only [Option.bind_eq_some_iff, Option.map_eq_some_iff] at h; obtain ⟨q, _, ⟨v, H'⟩, hcl, rfl⟩ := h; exact hc _ _ _ _ _ hcl

theorem runOps_keep {P : Program} {call : CallF} {ops : Array Oper} (hc : CallKeep call) : ∀ (l : List Nat) {s s' : AS}, runOps P call ops l s = some s' → AKeep s.H s'.H
  | [], s, s', h => by simp only [runOps, Option.some.injEq] at h; subst h; exact .refl _
  | i :: l, s, s', h => by
    simp only [runOps] at h
    cases ho : ops[i]? with
    | none => simp only [ho] at h; exact runOps_keep hc l h
    | some o =>
      simp only [ho] at h
      split at h
      · simp only [Option.bind_eq_some_iff] at h
        obtain ⟨s1, h1, h2⟩ := h
        exact (opStep_keep hc h1).trans (runOps_keep hc l h2)
      · exact runOps_keep (s := ⟨putT s.tm o.dst undef, s.H⟩) hc l h

def DrawKeep (drawn : Array Oper → AS → Option AS) : Prop := ∀ ops s s', drawn ops s = some s' → AKeep s.H s'.H

structure PrimKeep (pr : Prims) : Prop where
  code : ∀ f id g, pr.code f id = some g → ∀ s s', g s = some s' → AKeep s.H s'.H
  call : ∀ g f, pr.call g = some f → ∀ args H v H', f args H = some (v, H') → AKeep H H'

theorem aLoop_keep {f : AS → Option (AEx × AS)} (hf : ∀ s e s', f s = some (e, s') → AKeep s.H s'.H) : ∀ n s e s', aLoop f n s = some (e, s') → AKeep s.H s'.H
  | 0, s, e, s', h => by simp [aLoop] at h
  | n + 1, s, e, s', h => by
    simp only [aLoop, Option.bind_eq_some_iff] at h
    obtain ⟨⟨e1, s1⟩, h1, h2⟩ := h
    have k := hf _ _ _ h1
    cases e1 with
    | normal => exact k.trans (aLoop_keep hf n _ _ _ h2)
    | exit id => simp only [Option.some.injEq, Prod.mk.injEq] at h2; obtain ⟨_, rfl⟩ := h2; exact k
    | goto l => simp only [Option.some.injEq, Prod.mk.injEq] at h2; obtain ⟨_, rfl⟩ := h2; exact k
    | ret => simp only [Option.some.injEq, Prod.mk.injEq] at h2; obtain ⟨_, rfl⟩ := h2; exact k

theorem aCode_keep {P : Program} {pr : Prims} {call : CallF} {drawn : Array Oper → AS → Option AS} {f : FuncId} {fuel : Nat} (hc : CallKeep call) (hd : DrawKeep drawn) (hp : PrimKeep pr) : ∀ (c : Code) (s : AS) (e : AEx) (s' : AS), aCode P pr call drawn f fuel c s = some (e, s') → AKeep s.H s'.H
  | .skip, s, e, s', h => by simp only [aCode, Option.some.injEq, Prod.mk.injEq] at h; obtain ⟨_, rfl⟩ := h; exact .refl _
  | .region id ops false, s, e, s', h => by simp only [aCode, Option.map_eq_some_iff, Prod.mk.injEq] at h; obtain ⟨s1, h1, _, rfl⟩ := h; exact runOps_keep hc _ h1
  | .region id ops true, s, e, s', h => by simp only [aCode, Option.map_eq_some_iff, Prod.mk.injEq] at h; obtain ⟨s1, h1, _, rfl⟩ := h; exact hd _ _ _ h1
  | .seq a b, s, e, s', h => by
    simp only [aCode, Option.bind_eq_some_iff] at h
    obtain ⟨⟨e1, s1⟩, h1, h2⟩ := h
    have k := aCode_keep hc hd hp a _ _ _ h1
    cases e1 with
    | normal => exact k.trans (aCode_keep hc hd hp b _ _ _ h2)
    | exit id => simp only [Option.some.injEq, Prod.mk.injEq] at h2; obtain ⟨_, rfl⟩ := h2; exact k
    | goto l => simp only [Option.some.injEq, Prod.mk.injEq] at h2; obtain ⟨_, rfl⟩ := h2; exact k
    | ret => simp only [Option.some.injEq, Prod.mk.injEq] at h2; obtain ⟨_, rfl⟩ := h2; exact k
  | .cond c a b, s, e, s', h => by
    simp only [aCode] at h
    split at h
    · exact aCode_keep hc hd hp a _ _ _ h
    · exact aCode_keep hc hd hp b _ _ _ h
    · simp at h
  | .block id b, s, e, s', h => by
    simp only [aCode] at h
    split at h
    · rename_i g hg
      simp only [Option.map_eq_some_iff, Prod.mk.injEq] at h; obtain ⟨s1, h1, _, rfl⟩ := h; exact hp.code _ _ _ hg _ _ h1
    · simp only [Option.map_eq_some_iff, Prod.mk.injEq] at h; obtain ⟨⟨e1, s1⟩, h1, _, rfl⟩ := h; exact aCode_keep hc hd hp b _ _ _ h1
  | .loop b, s, e, s', h => by
    simp only [aCode] at h
    exact aLoop_keep (fun s e s' h => aCode_keep hc hd hp b s e s' h) _ _ _ _ h
  | .exit id, s, e, s', h => by simp only [aCode, Option.some.injEq, Prod.mk.injEq] at h; obtain ⟨_, rfl⟩ := h; exact .refl _
  | .ret, s, e, s', h => by simp only [aCode, Option.some.injEq, Prod.mk.injEq] at h; obtain ⟨_, rfl⟩ := h; exact .refl _
  | .label l, s, e, s', h => by simp only [aCode, Option.some.injEq, Prod.mk.injEq] at h; obtain ⟨_, rfl⟩ := h; exact .refl _
  | .goto l, s, e, s', h => by simp only [aCode, Option.some.injEq, Prod.mk.injEq] at h; obtain ⟨_, rfl⟩ := h; exact .refl _
  | .scope b, s, e, s', h => by
    simp only [aCode, Option.bind_eq_some_iff] at h
    obtain ⟨⟨e1, s1⟩, h1, h2⟩ := h
    have k := aCode_keep hc hd hp b _ _ _ h1
    cases e1 with
    | goto l => simp at h2
    | normal => simp only [Option.some.injEq, Prod.mk.injEq] at h2; obtain ⟨_, rfl⟩ := h2; exact k
    | exit id => simp only [Option.some.injEq, Prod.mk.injEq] at h2; obtain ⟨_, rfl⟩ := h2; exact k
    | ret => simp only [Option.some.injEq, Prod.mk.injEq] at h2; obtain ⟨_, rfl⟩ := h2; exact k
  | .rangeFunc .., s, e, s', h => by simp [aCode] at h
  | .refuse _, s, e, s', h => by simp [aCode] at h

theorem aCall_keep {P : Program} {pr : Prims} {drawn : CallF → Array Oper → AS → Option AS} (hd : ∀ call, CallKeep call → DrawKeep (drawn call)) (hp : PrimKeep pr) : ∀ n, CallKeep (aCall P pr drawn n)
  | 0 => fun g args H v H' h => by simp [aCall] at h
  | n + 1 => fun g args H v H' h => by
    have ih := aCall_keep (P := P) hd hp n
    simp only [aCall] at h
    split at h
    · rename_i f hf; exact hp.call g f hf args H v H' h
    · simp only [Option.bind_eq_some_iff] at h
      obtain ⟨fn, hfn, c, hb, ⟨e, s'⟩, hrun, h⟩ := h
      have k := aCode_keep ih (hd _ ih) hp c _ _ _ hrun
      cases e with
      | normal => simp only [Option.map_eq_some_iff, Prod.mk.injEq] at h; obtain ⟨_, _, _, rfl⟩ := h; exact k
      | ret => simp only [Option.map_eq_some_iff, Prod.mk.injEq] at h; obtain ⟨_, _, _, rfl⟩ := h; exact k
      | exit id => simp at h
      | goto l => simp at h
end Go.Am

/- A region whose order is open: the text's order serves every order, where what is unordered does not meet. -/
namespace Go.Am
open Go

def dStep (P : Program) (call : CallF) (h : Nat) (o : Oper) (s : AS) : Option AS :=
  match cls P o with
  | .n => (nop P (aval s.tm) o).map fun q => ⟨putT s.tm o.dst (q.2 h), s.H.set h q.1⟩
  | _ => opStep P call o s

def dAt (P : Program) (call : CallF) (ops : Array Oper) (base i : Nat) (s : AS) : Option AS :=
  match ops[i]? with
  | none => some s
  | some o => if Region.wanted o (ayield ops s.tm) then dStep P call (base + i) o s else some ⟨putT s.tm o.dst undef, s.H⟩

/-- What operation i reads. -/
def readAt (P : Program) (ops : Array Oper) (i : Nat) (s : AS) : Option Nat :=
  match ops[i]? with
  | none => none
  | some o => if Region.wanted o (ayield ops s.tm) then (rop P (aval s.tm) o).bind (·.1) else none

structure DAcc where
  s : AS
  reads : List (Nat × Nat)
  writes : List (Nat × AHeap × AHeap)

def dGo (P : Program) (call : CallF) (ops : Array Oper) (ps : List (Nat × Nat)) (base : Nat) : Nat → Nat → DAcc → Option DAcc
  | 0, _, a => some a
  | k + 1, i, a => (dAt P call ops base i a.s).bind fun s1 => dGo P call ops ps base k (i + 1)
      ⟨s1, if ps.any (fun p => p.1 == i) then (match readAt P ops i a.s with | some h => (i, h) :: a.reads | none => a.reads) else a.reads, if ps.any (fun p => p.2 == i) then (i, a.s.H, s1.H) :: a.writes else a.writes⟩

def drawOK (ps : List (Nat × Nat)) (a : DAcc) : Prop := ∀ p ∈ ps, ∀ r ∈ a.reads, r.1 = p.1 → ∀ x ∈ a.writes, x.1 = p.2 → x.2.1.get r.2 = x.2.2.get r.2

def maskOf (acc : List Nat) (o : Oper) : Nat := o.after.toList.foldl (fun s e => if Region.binds .any e then s ||| 2 ^ e.on ||| acc.getD e.on 0 else s) 0

def masks : List Oper → List Nat → List Nat
  | [], acc => acc
  | o :: os, acc => masks os (acc ++ [maskOf acc o])

def isW (P : Program) (o : Oper) : Bool := cls P o == .w || cls P o == .c
def isR (P : Program) (o : Oper) : Bool := cls P o == .r

/-- Which reads and writes of a region are unordered; none: the region is not of our kind. -/
def drawPairs (P : Program) (ops : Array Oper) : Option (List (Nat × Nat)) :=
  let M := masks ops.toList []
  let L := ops.toList.zipIdx
  if L.all (fun x => x.1.after.toList.all fun e => !Region.binds .any e || decide (e.on < x.2)) &&
     L.all (fun y => L.all fun x => !decide (x.2 < y.2) || (M.getD y.2 0).testBit x.2 || (x.1.apart ops y.1 && !(isW P x.1 && isW P y.1)))
  then some (L.flatMap fun y => L.filterMap fun x => if isR P x.1 && isW P y.1 && !((M.getD y.2 0).testBit x.2) && !((M.getD x.2 0).testBit y.2) then some (x.2, y.2) else none)
  else none

def reserve (H : AHeap) (n : Nat) : AHeap := ⟨H.objs ++ List.replicate n .dead⟩

open Classical in
noncomputable def aDraw (P : Program) (call : CallF) (ops : Array Oper) (s : AS) : Option AS :=
  (drawPairs P ops).bind fun ps => (dGo P call ops ps s.H.next ops.size 0 ⟨⟨s.tm, reserve s.H ops.size⟩, [], []⟩).bind fun a => if drawOK ps a then some a.s else none

theorem reserve_next (H : AHeap) (n : Nat) : (reserve H n).next = H.next + n := by simp [reserve, AHeap.next]
theorem reserve_get (H : AHeap) (n h : Nat) : (reserve H n).get h = H.get h := by
  simp only [reserve, AHeap.get, List.getD, List.getElem?_append]
  split
  · rfl
  · rename_i hh
    rw [List.getElem?_eq_none (by omega : H.objs.length ≤ h)]
    by_cases h2 : h - H.objs.length < n
    · rw [List.getElem?_replicate]; simp [h2]
    · rw [List.getElem?_eq_none (by simp; omega)]

theorem dGo_trace {P : Program} {call : CallF} {ops : Array Oper} {ps : List (Nat × Nat)} {base : Nat} : ∀ (k i : Nat) (a a' : DAcc), dGo P call ops ps base k i a = some a' →
    ∃ T : Nat → AS, T i = a.s ∧ T (i + k) = a'.s ∧ (∀ j, i ≤ j → j < i + k → dAt P call ops base j (T j) = some (T (j + 1))) ∧
      (∀ j h, i ≤ j → j < i + k → ps.any (fun p => p.1 == j) = true → readAt P ops j (T j) = some h → (j, h) ∈ a'.reads) ∧
      (∀ j, i ≤ j → j < i + k → ps.any (fun p => p.2 == j) = true → (j, (T j).H, (T (j + 1)).H) ∈ a'.writes) ∧ (∀ x ∈ a.reads, x ∈ a'.reads) ∧ (∀ x ∈ a.writes, x ∈ a'.writes)
  | 0, i, a, a', h => by
    simp only [dGo, Option.some.injEq] at h
    subst h
    exact ⟨fun _ => a.s, rfl, rfl, fun j h1 h2 => by omega, fun j _ h1 h2 => by omega, fun j h1 h2 => by omega, fun _ h => h, fun _ h => h⟩
  | k + 1, i, a, a', h => by
    simp only [dGo, Option.bind_eq_some_iff] at h
    obtain ⟨s1, h1, h2⟩ := h
    obtain ⟨T, t0, tn, ts, tr, tw, sr, sw⟩ := dGo_trace k (i + 1) _ a' h2
    obtain ⟨T', e1, e2⟩ : ∃ T' : Nat → AS, T' i = a.s ∧ ∀ j, j ≠ i → T' j = T j := ⟨fun j => if j = i then a.s else T j, by simp, fun j h => by simp [h]⟩
    refine ⟨T', e1, ?_, ?_, ?_, ?_, ?_, ?_⟩
    · rw [e2 _ (by omega), ← tn]; congr 1; omega
    · intro j hj1 hj2
      rw [e2 (j + 1) (by omega)]
      by_cases hji : j = i
      · subst hji
        rw [e1, t0]
        exact h1
      · rw [e2 _ hji]
        exact ts j (by omega) (by omega)
    · intro j h hj1 hj2 hp hr
      by_cases hji : j = i
      · subst hji
        rw [e1] at hr
        refine sr _ ?_
        simp only [hp, if_true, hr]
        simp
      · rw [e2 _ hji] at hr
        exact tr j h (by omega) (by omega) hp hr
    · intro j hj1 hj2 hp
      rw [e2 (j + 1) (by omega)]
      by_cases hji : j = i
      · subst hji
        rw [e1, t0]
        refine sw _ ?_
        simp only [hp, if_true]
        simp
      · rw [e2 _ hji]
        exact tw j (by omega) (by omega) hp
    · intro x hx
      refine sr x ?_
      simp only
      split
      · split
        · simp [hx]
        · exact hx
      · exact hx
    · intro x hx
      refine sw x ?_
      simp only
      split
      · simp [hx]
      · exact hx

theorem getD_ge {l : List Nat} {i : Nat} (h : l.length ≤ i) : l.getD i 0 = 0 := by simp [List.getD, List.getElem?_eq_none h]
theorem getD_app {l l' : List Nat} {i : Nat} (h : i < l.length) : (l ++ l').getD i 0 = l.getD i 0 := by simp [List.getD, List.getElem?_append, h]

/-- A set that is closed: what it holds, it holds the edges of. -/
def Closed (ops : Array Oper) (S : Nat → Prop) : Prop := ∀ j o, ops[j]? = some o → S j → ∀ e ∈ o.after.toList, Region.binds .any e = true → S e.on

theorem mask_fold {ops : Array Oper} {S : Nat → Prop} {acc : List Nat} (hacc : ∀ j i, j < acc.length → (acc.getD j 0).testBit i = true → S j → S i) : ∀ (es : List Edge) (m : Nat), (∀ e ∈ es, Region.binds .any e = true → S e.on) → (∀ i, m.testBit i = true → S i) →
    ∀ i, (es.foldl (fun s e => if Region.binds .any e then s ||| 2 ^ e.on ||| acc.getD e.on 0 else s) m).testBit i = true → S i
  | [], m, _, hm, i, h => hm i h
  | e :: es, m, he, hm, i, h => by
    simp only [List.foldl_cons] at h
    refine mask_fold (ops := ops) hacc es _ (fun e' h' => he e' (by simp [h'])) ?_ i h
    intro k hk
    split at hk
    · rename_i hb
      simp only [Nat.testBit_or, Bool.or_eq_true] at hk
      have hs := he e (by simp) hb
      rcases hk with (hk | hk) | hk
      · exact hm k hk
      · rw [Nat.testBit_two_pow] at hk
        simp at hk
        subst hk; exact hs
      · by_cases hlt : e.on < acc.length
        · exact hacc e.on k hlt hk hs
        · rw [getD_ge (by omega)] at hk; simp at hk
    · exact hm k hk

theorem masks_closed {ops : Array Oper} {S : Nat → Prop} (hS : Closed ops S) : ∀ (os : List Oper) (acc : List Nat), (∀ k o, os[k]? = some o → ops[acc.length + k]? = some o) → (∀ j i, j < acc.length → (acc.getD j 0).testBit i = true → S j → S i) →
    ∀ j i, ((masks os acc).getD j 0).testBit i = true → S j → S i
  | [], acc, _, hacc, j, i, h, hj => by
    simp only [masks] at h
    by_cases hlt : j < acc.length
    · exact hacc j i hlt h hj
    · rw [getD_ge (by omega)] at h; simp at h
  | o :: os, acc, ho, hacc, j, i, h, hj => by
    simp only [masks] at h
    refine masks_closed hS os (acc ++ [maskOf acc o]) ?_ ?_ j i h hj
    · intro k o' hk
      have := ho (k + 1) o' (by simpa using hk)
      simp only [List.length_append, List.length_cons, List.length_nil]
      rwa [show acc.length + (0 + 1) + k = acc.length + (k + 1) by omega]
    · intro j' i' hj' hb hs
      simp only [List.length_append, List.length_cons, List.length_nil] at hj'
      by_cases hlt : j' < acc.length
      · rw [getD_app hlt] at hb
        exact hacc j' i' hlt hb hs
      · have : j' = acc.length := by omega
        subst this
        have hg : (acc ++ [maskOf acc o]).getD acc.length 0 = maskOf acc o := by simp [List.getD]
        rw [hg] at hb
        have ho' := ho 0 o (by simp)
        simp only [Nat.add_zero] at ho'
        exact mask_fold (ops := ops) hacc o.after.toList 0 (fun e he hbind => hS _ o ho' hs e he hbind) (fun i h => by simp at h) i' hb

theorem mask_spec {ops : Array Oper} {S : Nat → Prop} (hS : Closed ops S) {j i : Nat} (h : ((masks ops.toList []).getD j 0).testBit i = true) (hj : S j) : S i :=
  masks_closed hS ops.toList [] (fun k o hk => by simpa using hk) (fun j i hj => by simp at hj) j i h hj

structure DStatic (P : Program) (ops : Array Oper) (ps : List (Nat × Nat)) : Prop where
  acyc : ∀ i o, ops[i]? = some o → ∀ e ∈ o.after.toList, Region.binds .any e = true → e.on < i
  apart : ∀ i j x y, i < j → ops[i]? = some x → ops[j]? = some y → ((masks ops.toList []).getD j 0).testBit i = true ∨ (x.apart ops y = true ∧ (isW P x && isW P y) = false)
  pairs : ∀ i j x y, i ≠ j → ops[i]? = some x → ops[j]? = some y → isR P x = true → isW P y = true → ((masks ops.toList []).getD j 0).testBit i = true ∨ ((masks ops.toList []).getD i 0).testBit j = true ∨ (i, j) ∈ ps

theorem zipIdx_mem {ops : Array Oper} {i : Nat} {o : Oper} (h : ops[i]? = some o) : (o, i) ∈ ops.toList.zipIdx := by
  rw [← Array.getElem?_toList] at h
  exact List.mem_zipIdx_iff_getElem?.2 h

theorem drawPairs_static {P : Program} {ops : Array Oper} {ps : List (Nat × Nat)} (h : drawPairs P ops = some ps) : DStatic P ops ps := by
  simp only [drawPairs, Option.ite_none_right_eq_some, Option.some.injEq, Bool.and_eq_true] at h
  obtain ⟨⟨h1, h2⟩, rfl⟩ := h
  refine ⟨fun i o ho e he hb => ?_, fun i j x y hij hx hy => ?_, fun i j x y hij hx hy hr hw => ?_⟩
  · have := List.all_eq_true.1 h1 (o, i) (zipIdx_mem ho)
    have := List.all_eq_true.1 this e he
    simpa [hb] using this
  · have := List.all_eq_true.1 h2 (y, j) (zipIdx_mem hy)
    have := List.all_eq_true.1 this (x, i) (zipIdx_mem hx)
    simp only [Bool.or_eq_true, Bool.not_eq_true', decide_eq_false_iff_not, Bool.and_eq_true] at this
    rcases this with (h | h) | h
    · exact absurd hij h
    · exact .inl h
    · exact .inr h
  · by_cases a : ((masks ops.toList []).getD j 0).testBit i = true
    · exact .inl a
    · by_cases b : ((masks ops.toList []).getD i 0).testBit j = true
      · exact .inr (.inl b)
      · refine .inr (.inr (List.mem_flatMap.2 ⟨(y, j), zipIdx_mem hy, List.mem_filterMap.2 ⟨(x, i), zipIdx_mem hx, ?_⟩⟩))
        simp only [hr, hw, Bool.eq_false_iff.2 a, Bool.eq_false_iff.2 b, Bool.not_false, Bool.and_self, if_true, and_self]
end Go.Am

/- A trace in text order, and what is seen of it where only some operations were done. -/
namespace Go.Am
open Go

/-- A trace: state by state. -/
structure Tr (P : Program) (call : CallF) (ops : Array Oper) (base : Nat) (T : Nat → AS) : Prop where
  step : ∀ j, j < ops.size → dAt P call ops base j (T j) = some (T (j + 1))
  start : base + ops.size ≤ (T 0).H.next
  fresh : ∀ k, k < ops.size → (T 0).H.get (base + k) = .dead
  keep : CallKeep call

def Chn (P : Program) (ops : Array Oper) (c : Nat) : Prop := ∃ o, ops[c]? = some o ∧ isW P o = true
def Dst (ops : Array Oper) (c t : Nat) : Prop := ∃ o, ops[c]? = some o ∧ o.dst = some t

theorem dAt_tm {P : Program} {call : CallF} {ops : Array Oper} {base i : Nat} {s s' : AS} (h : dAt P call ops base i s = some s') : (∃ o v, ops[i]? = some o ∧ s'.tm = putT s.tm o.dst v) ∨ (ops[i]? = none ∧ s' = s) := by
  unfold dAt at h
  cases ho : ops[i]? with
  | none => simp only [ho, Option.some.injEq] at h; exact .inr ⟨rfl, h.symm⟩
  | some o =>
    left
    simp only [ho] at h
    split at h
    · unfold dStep at h
      split at h
      · simp only [Option.map_eq_some_iff] at h; obtain ⟨q, _, rfl⟩ := h; exact ⟨o, _, rfl, rfl⟩
      · unfold opStep at h
        split at h
        · simp only [Option.map_eq_some_iff] at h; obtain ⟨q, _, rfl⟩ := h; exact ⟨o, _, rfl, rfl⟩
        · simp only [Option.bind_eq_some_iff, Option.map_eq_some_iff] at h; obtain ⟨q, _, v, _, rfl⟩ := h; exact ⟨o, _, rfl, rfl⟩
        · simp only [Option.map_eq_some_iff] at h; obtain ⟨q, _, rfl⟩ := h; exact ⟨o, _, rfl, rfl⟩
        · simp only [Option.map_eq_some_iff] at h; obtain ⟨q, _, rfl⟩ := h; exact ⟨o, _, rfl, rfl⟩
        · simp only [Option.bind_eq_some_iff, Option.map_eq_some_iff] at h; obtain ⟨q, _, v, _, rfl⟩ := h; exact ⟨o, _, rfl, rfl⟩
    · simp only [Option.some.injEq] at h; subst h; exact ⟨o, _, rfl, rfl⟩

theorem putT_get_ne {tm : List Value} {d t : Nat} {v : Value} (h : d ≠ t) : (putT tm (some d) v).getD t undef = tm.getD t undef := by
  simp [putT, List.getD, List.getElem?_set, h]

theorem putT_length (tm : List Value) (d : Option Tmp) (v : Value) : (putT tm d v).length = tm.length := by
  cases d <;> simp [putT]

/-- An operation that is not of the chain: it leaves the heap, or fills its own slot. -/
theorem dAt_heap {P : Program} {call : CallF} {ops : Array Oper} {base i : Nat} {s s' : AS} (hi : ¬ Chn P ops i) (h : dAt P call ops base i s = some s') : s'.H = s.H ∨ ∃ obj, obj.wlive = true ∧ s'.H = s.H.set (base + i) obj := by
  unfold dAt at h
  cases ho : ops[i]? with
  | none => simp only [ho, Option.some.injEq] at h; subst h; exact .inl rfl
  | some o =>
    have hw : isW P o = false := by
      cases hw : isW P o with
      | false => rfl
      | true => exact absurd ⟨o, ho, hw⟩ hi
    simp only [ho] at h
    split at h
    · unfold dStep at h
      split at h
      · simp only [Option.map_eq_some_iff] at h; obtain ⟨⟨obj, f⟩, hq, rfl⟩ := h; exact .inr ⟨obj, nop_wlive hq, rfl⟩
      · rename_i hn
        unfold opStep at h
        split at h
        · simp only [Option.map_eq_some_iff] at h; obtain ⟨q, _, rfl⟩ := h; exact .inl rfl
        · simp only [Option.bind_eq_some_iff, Option.map_eq_some_iff] at h; obtain ⟨q, _, v, _, rfl⟩ := h; exact .inl rfl
        · rename_i hc; exact absurd hc hn
        · rename_i hc; simp [isW, hc] at hw
        · rename_i hc; simp [isW, hc] at hw
    · simp only [Option.some.injEq] at h; subst h; exact .inl rfl

/-- An operation of the chain keeps what is dead dead. -/
theorem dAt_keep {P : Program} {call : CallF} {ops : Array Oper} {base i : Nat} {s s' : AS} (hk : CallKeep call) (hi : Chn P ops i) (h : dAt P call ops base i s = some s') : AKeep s.H s'.H := by
  obtain ⟨o, ho, hw⟩ := hi
  unfold dAt at h
  simp only [ho] at h
  split at h
  · unfold dStep at h
    split at h
    · rename_i hc; simp [isW, hc] at hw
    · exact opStep_keep hk h
  · simp only [Option.some.injEq] at h; subst h; exact .refl _

section
variable {P : Program} {call : CallF} {ops : Array Oper} {base : Nat} {T : Nat → AS}

theorem Tr.next (t : Tr P call ops base T) : ∀ i, i ≤ ops.size → base + ops.size ≤ (T i).H.next ∧ (T 0).tm.length = (T i).tm.length
  | 0, _ => ⟨t.start, rfl⟩
  | i + 1, h => by
    obtain ⟨h1, h2⟩ := t.next i (by omega)
    have hs := t.step i (by omega)
    constructor
    · by_cases hc : Chn P ops i
      · exact Nat.le_trans h1 (dAt_keep t.keep hc hs).next
      · rcases dAt_heap hc hs with e | ⟨obj, _, e⟩ <;> rw [e]
        · exact h1
        · rw [next_set]; exact h1
    · rcases dAt_tm hs with ⟨o, v, _, e⟩ | ⟨_, e⟩
      · rw [e, putT_length]; exact h2
      · rw [e]; exact h2

theorem Tr.nextMono (t : Tr P call ops base T) {a : Nat} : ∀ {b}, a ≤ b → b ≤ ops.size → (T a).H.next ≤ (T b).H.next
  | 0, h, _ => by rw [show a = 0 by omega]; exact Nat.le_refl _
  | b + 1, h, hb => by
    rcases Nat.lt_or_ge b a with hlt | hge
    · rw [show a = b + 1 by omega]; exact Nat.le_refl _
    · refine Nat.le_trans (t.nextMono hge (by omega)) ?_
      have hs := t.step b (by omega)
      by_cases hc : Chn P ops b
      · exact (dAt_keep t.keep hc hs).next
      · rcases dAt_heap hc hs with e | ⟨obj, _, e⟩ <;> rw [e]
        · exact Nat.le_refl _
        · rw [next_set]; exact Nat.le_refl _

theorem Tr.late (t : Tr P call ops base T) {k : Nat} (hk : k < ops.size) : ∀ i, i ≤ k → (T i).H.get (base + k) = .dead
  | 0, _ => t.fresh k hk
  | i + 1, h => by
    have ih := t.late hk i (by omega)
    have hs := t.step i (by omega)
    by_cases hc : Chn P ops i
    · exact (dAt_keep t.keep hc hs).dead _ (by have := (t.next i (by omega)).1; omega) ih
    · rcases dAt_heap hc hs with e | ⟨obj, _, e⟩ <;> rw [e]
      · exact ih
      · rw [get_set_ne _ _ _ _ (by omega)]; exact ih

/-- A slot of the chain's own stays dead. -/
theorem Tr.chnSlot (t : Tr P call ops base T) {k : Nat} (hk : k < ops.size) (hc : Chn P ops k) : (T (k + 1)).H.get (base + k) = .dead :=
  (dAt_keep t.keep hc (t.step k hk)).dead _ (by have := (t.next k (by omega)).1; omega) (t.late hk k (Nat.le_refl _))

theorem Tr.heap (t : Tr P call ops base T) {h a : Nat} : ∀ {b : Nat}, a ≤ b → b ≤ ops.size → (∀ c, a ≤ c → c < b → Chn P ops c → (T (c + 1)).H.get h = (T c).H.get h) → (∀ k, h = base + k → ¬ (a ≤ k ∧ k < b)) → (T b).H.get h = (T a).H.get h
  | 0, hab, _, _, _ => by rw [show a = 0 by omega]
  | b + 1, hab, hb, hc, hk => by
    rcases Nat.lt_or_ge b a with hlt | hge
    · rw [show a = b + 1 by omega]
    · have ih := t.heap hge (by omega) (fun c h1 h2 => hc c h1 (by omega)) (fun k e hh => hk k e ⟨hh.1, by omega⟩)
      rw [← ih]
      by_cases hch : Chn P ops b
      · exact hc b hge (by omega) hch
      · rcases dAt_heap hch (t.step b (by omega)) with e | ⟨obj, _, e⟩ <;> rw [e]
        by_cases hh : h = base + b
        · exact absurd ⟨hge, by omega⟩ (hk b hh)
        · exact get_set_ne _ _ _ _ (Ne.symm hh)

theorem Tr.sameNext (t : Tr P call ops base T) {a : Nat} : ∀ {b : Nat}, a ≤ b → b ≤ ops.size → (∀ c, a ≤ c → c < b → ¬ Chn P ops c) → (T b).H.next = (T a).H.next
  | 0, hab, _, _ => by rw [show a = 0 by omega]
  | b + 1, hab, hb, hc => by
    rcases Nat.lt_or_ge b a with hlt | hge
    · rw [show a = b + 1 by omega]
    · rw [← t.sameNext hge (by omega) (fun c h1 h2 => hc c h1 (by omega))]
      rcases dAt_heap (hc b hge (by omega)) (t.step b (by omega)) with e | ⟨obj, _, e⟩ <;> rw [e]
      exact next_set _ _ _

theorem Tr.heap2 (t : Tr P call ops base T) {h a b : Nat} (ha : a ≤ ops.size) (hb : b ≤ ops.size) (hc : ∀ c, Chn P ops c → (c < a ↔ c < b) ∨ (T (c + 1)).H.get h = (T c).H.get h) (hk : ∀ k, h = base + k → (k < a ↔ k < b)) : (T a).H.get h = (T b).H.get h := by
  rcases Nat.le_total a b with hab | hab
  · refine (t.heap hab hb (fun c h1 h2 hcc => (hc c hcc).resolve_left (by omega)) (fun k e hh => ?_)).symm
    have := hk k e; omega
  · refine t.heap hab ha (fun c h1 h2 hcc => (hc c hcc).resolve_left (by omega)) (fun k e hh => ?_)
    have := hk k e; omega

theorem Tr.tm (t : Tr P call ops base T) {x a : Nat} : ∀ {b : Nat}, a ≤ b → b ≤ ops.size → (∀ c, a ≤ c → c < b → ¬ Dst ops c x) → (T b).tm.getD x undef = (T a).tm.getD x undef
  | 0, hab, _, _ => by rw [show a = 0 by omega]
  | b + 1, hab, hb, hc => by
    rcases Nat.lt_or_ge b a with hlt | hge
    · rw [show a = b + 1 by omega]
    · rw [← t.tm hge (by omega) (fun c h1 h2 => hc c h1 (by omega))]
      rcases dAt_tm (t.step b (by omega)) with ⟨o, v, ho, e⟩ | ⟨_, e⟩
      · rw [e]
        cases hd : o.dst with
        | none => rfl
        | some d => exact putT_get_ne fun hdx => hc b hge (by omega) ⟨o, ho, by rw [hd, hdx]⟩
      · rw [e]

theorem Tr.tm2 (t : Tr P call ops base T) {x a b : Nat} (ha : a ≤ ops.size) (hb : b ≤ ops.size) (hc : ∀ c, Dst ops c x → (c < a ↔ c < b)) : (T a).tm.getD x undef = (T b).tm.getD x undef := by
  rcases Nat.le_total a b with hab | hab
  · exact (t.tm hab hb (fun c h1 h2 hd => by have := hc c hd; omega)).symm
  · exact t.tm hab ha (fun c h1 h2 hd => by have := hc c hd; omega)
end

/-- What is seen of a trace where S was done, of the chain all ahead of j. -/
def view (n base : Nat) (T : Nat → AS) (S : Nat → Bool) (j h : Nat) : AObj :=
  if base ≤ h ∧ h < base + n then (if S (h - base) = true then (T (max j (h - base + 1))).H.get h else .dead) else (T j).H.get h

def viewH (n base : Nat) (T : Nat → AS) (S : Nat → Bool) (j : Nat) : AHeap := ⟨(List.range (T j).H.next).map (view n base T S j)⟩

theorem viewH_next (n base : Nat) (T : Nat → AS) (S : Nat → Bool) (j : Nat) : (viewH n base T S j).next = (T j).H.next := by simp [viewH, AHeap.next]

theorem viewH_get {n base : Nat} {T : Nat → AS} {S : Nat → Bool} {j : Nat} (hn : base + n ≤ (T j).H.next) (h : Nat) : (viewH n base T S j).get h = view n base T S j h := by
  by_cases hh : h < (T j).H.next
  · simp [viewH, AHeap.get, List.getD, List.getElem?_range hh]
  · rw [get_ge _ _ (by rw [viewH_next]; omega)]
    unfold view
    rw [if_neg (by omega), get_ge _ _ (by omega)]

theorem view_slot {n base : Nat} {T : Nat → AS} {S : Nat → Bool} {j k : Nat} (hk : k < n) : view n base T S j (base + k) = if S k = true then (T (max j (k + 1))).H.get (base + k) else .dead := by
  unfold view
  rw [if_pos (by omega), show base + k - base = k by omega]

theorem view_free {n base : Nat} {T : Nat → AS} {S : Nat → Bool} {j h : Nat} (hh : ¬ (base ≤ h ∧ h < base + n)) : view n base T S j h = (T j).H.get h := by
  unfold view
  rw [if_neg hh]

theorem AHeap.ext_get {H H' : AHeap} (hn : H.next = H'.next) (h : ∀ x, H.get x = H'.get x) : H = H' := by
  obtain ⟨a⟩ := H
  obtain ⟨b⟩ := H'
  simp only [AHeap.next, AHeap.get] at hn h
  congr 1
  refine List.ext_getElem hn fun i h1 h2 => ?_
  have := h i
  simpa [List.getD, h1, h2] using this

theorem AObj.dead_of_not_live {o : AObj} (h : ¬ o.live = true) : o = .dead := by cases o <;> simp_all [AObj.live]

/-- Another heap for the same memory: the same objects, or dead ones. -/
theorem HRel.less {P : Program} {B : Nat} {β : Inj} {G H : AHeap} {w : World} (r : HRel P B β G w) (hn : G.next ≤ H.next) (h : ∀ x l, β x = some l → H.get x = G.get x ∨ H.get x = .dead) : HRel P B β H w where
  obj := fun x l e => by
    rcases h x l e with h1 | h1 <;> rw [h1]
    · exact r.obj x l e
    · trivial
  blk := r.blk
  excl := fun x y l m ex ey hw hl hxy => by
    rcases h x l ex with h1 | h1
    · rcases h y m ey with h2 | h2
      · exact r.excl x y l m ex ey (h1 ▸ hw) (h2 ▸ hl) hxy
      · rw [h2] at hl; simp [AObj.live] at hl
    · rw [h1] at hw; simp [AObj.wlive] at hw
  low := fun x l e hw => by
    rcases h x l e with h1 | h1
    · exact r.low x l e (h1 ▸ hw)
    · rw [h1] at hw; simp [AObj.wlive] at hw
  dom := fun x l e => Nat.lt_of_lt_of_le (r.dom x l e) hn
  glob := r.glob
  base := r.base

/-- A step of a heap in which some objects are dead, that live in the other one. -/
theorem Step.patch {P : Program} {B : Nat} {β β' : Inj} {G G' H H' : AHeap} {w w' : World} (r : HRel P B β G w) (st : Step P B β H w β' H' w') (K : AKeep H H') (hn : G.next ≤ H.next) (hn' : G'.next = H'.next)
    (hc : ∀ x, (G.get x = H.get x ∧ G'.get x = H'.get x) ∨ (H.get x = .dead ∧ H'.get x = .dead ∧ G'.get x = G.get x ∧ x < H.next) ∨ (β x = none ∧ x < H.next ∧ G.get x = .dead ∧ G'.get x = .dead)) : Step P B β G w β' G' w' := by
  have gone : ∀ x, β x = none → x < H.next → β' x = none := fun x e hx => (st.keep x hx e).2
  have old : ∀ x l, x < H.next → β' x = some l → β x = some l := fun x l hx e => by
    cases e0 : β x with
    | none => rw [gone x e0 hx] at e; simp at e
    | some m => rw [st.sub x m e0] at e; exact e
  have wl : ∀ x l, β x = some l → (H.get x).wlive = true → (G.get x).wlive = true := fun x l e hw => by
    rcases hc x with ⟨h1, _⟩ | ⟨h1, _⟩ | ⟨h1, _⟩
    · rw [h1]; exact hw
    · rw [h1] at hw; simp [AObj.wlive] at hw
    · rw [h1] at e; simp at e
  -- a late object and one that the step has made or kept
  have lateA : ∀ x y l m, H.get x = .dead → G'.get x = G.get x → x < H.next → β' x = some l → (G.get x).live = true → (H'.get y).wlive = true → β' y = some m → l.blk ≠ m.blk := fun x y l m hd hg hx ex hlv hwy ey => by
    have ex0 := old x l hx ex
    have hlt := r.blk x l ex0
    rcases Nat.lt_or_ge m.blk w.heap.size with hm | hm
    · obtain ⟨h0, l0, e0, w0, q⟩ := st.own y m ey hwy hm
      rw [← q]
      exact Ne.symm (r.excl h0 x l0 l e0 ex0 (wl h0 l0 e0 w0) hlv (fun e => by subst e; rw [hd] at w0; simp [AObj.wlive] at w0))
    · omega
  exact
    { sub := st.sub
      rel :=
        { obj := fun x l e => by
            rcases hc x with ⟨_, h2⟩ | ⟨h1, h2, h3, h4⟩ | ⟨h1, h2, h3, h4⟩
            · rw [h2]; exact st.rel.obj x l e
            · have e0 := old x l h4 e
              rw [h3]
              by_cases hl : (G.get x).live = true
              · refine .same st.sub (st.frame _ (r.blk x l e0) fun y m ey hwy => ?_) (r.obj x l e0)
                exact r.excl y x m l ey e0 (wl y m ey hwy) hl (fun e => by subst e; rw [h1] at hwy; simp [AObj.wlive] at hwy)
              · rw [AObj.dead_of_not_live hl]; trivial
            · rw [gone x h1 h2] at e; simp at e
          blk := st.rel.blk
          excl := fun x y l m ex ey hw hl hxy => by
            rcases hc x with ⟨_, hx2⟩ | ⟨hx1, hx2, hx3, hx4⟩ | ⟨hx1, hx2, _, _⟩
            · rw [hx2] at hw
              rcases hc y with ⟨_, hy2⟩ | ⟨hy1, hy2, hy3, hy4⟩ | ⟨hy1, hy2, _, _⟩
              · rw [hy2] at hl; exact st.rel.excl x y l m ex ey hw hl hxy
              · rw [hy3] at hl; exact Ne.symm (lateA y x m l hy1 hy3 hy4 ey hl hw ex)
              · rw [gone y hy1 hy2] at ey; simp at ey
            · rw [hx3] at hw
              rcases hc y with ⟨hy1, hy2⟩ | ⟨hy1, hy2, hy3, hy4⟩ | ⟨hy1, hy2, _, _⟩
              · rw [hy2] at hl
                rcases K.fresh y hl with hf | hf
                · exact lateA x y l m hx1 hx3 hx4 ex (AObj.live_of_wlive hw) hf ey
                · rw [hf] at hl
                  have hylt : y < H.next := by
                    rcases Nat.lt_or_ge y H.next with h | h
                    · exact h
                    · rw [get_ge H y h] at hl; simp [AObj.live] at hl
                  exact r.excl x y l m (old x l hx4 ex) (old y m hylt ey) hw (by rw [hy1]; exact hl) hxy
              · rw [hy3] at hl; exact r.excl x y l m (old x l hx4 ex) (old y m hy4 ey) hw hl hxy
              · rw [gone y hy1 hy2] at ey; simp at ey
            · rw [gone x hx1 hx2] at ex; simp at ex
          low := fun x l e hw => by
            rcases hc x with ⟨_, h2⟩ | ⟨h1, h2, h3, h4⟩ | ⟨h1, h2, h3, h4⟩
            · rw [h2] at hw; exact st.rel.low x l e hw
            · rw [h3] at hw; exact r.low x l (old x l h4 e) hw
            · rw [gone x h1 h2] at e; simp at e
          dom := fun x l e => by rw [hn']; exact st.rel.dom x l e
          glob := st.rel.glob
          base := st.rel.base }
      size := st.size
      os := st.os
      output := st.output
      tape := st.tape
      frame := fun b hb hh => st.frame b hb fun x l e hw => hh x l e (wl x l e hw)
      own := fun x l e hw hlt => by
        rcases hc x with ⟨_, h2⟩ | ⟨h1, h2, h3, h4⟩ | ⟨h1, h2, h3, h4⟩
        · rw [h2] at hw
          obtain ⟨h0, l0, e0, w0, q⟩ := st.own x l e hw hlt
          exact ⟨h0, l0, e0, wl h0 l0 e0 w0, q⟩
        · rw [h3] at hw; exact ⟨x, l, old x l h4 e, hw, rfl⟩
        · rw [gone x h1 h2] at e; simp at e
      next := by rw [hn']; exact Nat.le_trans hn st.next
      keep := fun x hx e => by
        have hx' : x < H.next := Nat.lt_of_lt_of_le hx hn
        obtain ⟨k1, k2⟩ := st.keep x hx' e
        rcases hc x with ⟨h1, h2⟩ | ⟨h1, h2, h3, h4⟩ | ⟨h1, h2, h3, h4⟩
        · exact ⟨by rw [h1, h2]; exact k1, k2⟩
        · exact ⟨h3, k2⟩
        · exact ⟨by rw [h3, h4], k2⟩ }

/-- A slot is filled. -/
theorem Step.slot {P : Program} {B : Nat} {β₀ β : Inj} {H₀ G G' : AHeap} {w₀ w w' : World} {o' : Obj} {obj : AObj} {x lim : Nat} (st : Step P B β₀ H₀ w₀ β G w) (g : Grow w w' o') (hx : β x = none) (hb : H₀.next ≤ x) (hg : G'.get x = obj) (hlt : x < G'.next)
    (hne : ∀ y, y ≠ x → G'.get y = G.get y) (hn : G'.next = G.next) (ho : ORel (Inj.put β x ⟨w.heap.size, 0, lim⟩) ⟨w.heap.size, 0, lim⟩ w' obj) : Step P B β₀ H₀ w₀ (Inj.put β x ⟨w.heap.size, 0, lim⟩) G' w' where
  sub := st.sub.trans (Inj.put_sub hx)
  rel := Step.newAt st.rel g hx hg hlt hne (by omega) ho
  size := by have := st.size; have := g.size; omega
  os := g.os.trans st.os
  output := g.output.trans st.output
  tape := g.tape.trans st.tape
  frame := fun b hb' hh => (g.old b (Nat.lt_of_lt_of_le hb' st.size)).trans (st.frame b hb' hh)
  own := fun y l e hw hlt' => by
    by_cases hy : y = x
    · subst hy
      rw [Inj.put_same, Option.some.injEq] at e
      subst e
      have := st.size; simp only at hlt'; omega
    · rw [Inj.put_ne hy] at e
      rw [hne y hy] at hw
      exact st.own y l e hw hlt'
  next := by rw [hn]; exact st.next
  keep := fun y hy e => by
    obtain ⟨k1, k2⟩ := st.keep y hy e
    exact ⟨by rw [hne y (by omega)]; exact k1, by rw [Inj.put_ne (by omega)]; exact k2⟩

/-- The same objects under another list. -/
theorem Step.same {P : Program} {B : Nat} {β₀ β : Inj} {H₀ G G' : AHeap} {w₀ w : World} (st : Step P B β₀ H₀ w₀ β G w) (hn : G'.next = G.next) (h : ∀ x, G'.get x = G.get x) : Step P B β₀ H₀ w₀ β G' w := by
  rw [AHeap.ext_get hn h]; exact st
end Go.Am

/- A region in any order: what the text's order comes to. -/
namespace Go.Am
open Go

structure DI (P : Program) (B : Nat) (ops : Array Oper) (T : Nat → AS) (β₀ : Inj) (H₀ : AHeap) (w₀ : World) (a₀ : Act) (S : Nat → Bool) (j : Nat) (β : Inj) (a : Act) (w : World) : Prop where
  st : Step P B β₀ H₀ w₀ β (viewH ops.size H₀.next T S j) w
  jle : j ≤ ops.size
  slots : ∀ k, k < ops.size → S k = false → β (H₀.next + k) = none
  chain : ∀ c, Chn P ops c → (S c = true ↔ c < j)
  untouched : ∀ k, k < ops.size → S k = false → k < j → (T j).H.get (H₀.next + k) = (T (k + 1)).H.get (H₀.next + k)
  len : a.tmps.toList.length = (T 0).tm.length
  tm : ∀ t, ∃ jt, jt ≤ ops.size ∧ (∀ c, Dst ops c t → (S c = true ↔ c < jt)) ∧ VRel β ((T jt).tm.getD t undef) (a.tmps.toList.getD t undef)
  closed : Closed ops (fun k => S k = true)
  defers : a.defers = a₀.defers

theorem mask_le {P : Program} {ops : Array Oper} {ps : List (Nat × Nat)} (st : DStatic P ops ps) {j i : Nat} (h : ((masks ops.toList []).getD j 0).testBit i = true) : i ≤ j :=
  mask_spec (S := fun k => k ≤ j) (fun k o hk hs e he hb => by have := st.acyc k o hk e he hb; simp only at hs ⊢; omega) h (Nat.le_refl j)

def plus (S : Nat → Bool) (i : Nat) : Nat → Bool := fun k => S k || k == i

theorem plus_ne {S : Nat → Bool} {i k : Nat} (h : k ≠ i) : plus S i k = S k := by simp [plus, h]
theorem plus_same {S : Nat → Bool} {i : Nat} : plus S i i = true := by simp [plus]

/-- Operation i may be done now. -/
structure Rdy (P : Program) (ops : Array Oper) (ps : List (Nat × Nat)) (S : Nat → Bool) (i : Nat) (o : Oper) : Prop where
  at' : ops[i]? = some o
  un : S i = false
  pre : ∀ e ∈ o.after.toList, Region.binds .any e = true → S e.on = true
  closed : Closed ops (fun k => S k = true)
  static : DStatic P ops ps

section
variable {P : Program} {B : Nat} {ops : Array Oper} {ps : List (Nat × Nat)} {S : Nat → Bool} {i : Nat} {o : Oper}

theorem Rdy.lt (r : Rdy P ops ps S i o) : i < ops.size := (Array.getElem?_eq_some_iff.1 r.at').1

theorem Rdy.closed' (r : Rdy P ops ps S i o) : Closed ops (fun k => plus S i k = true) := by
  intro j oj hj hs e he hb
  by_cases hji : j = i
  · subst hji
    rw [r.at', Option.some.injEq] at hj
    subst hj
    simp [plus, r.pre e he hb]
  · simp only [plus_ne hji] at hs
    simp [plus, r.closed j oj hj hs e he hb]

theorem Rdy.order (r : Rdy P ops ps S i o) {c : Nat} {oc : Oper} (hc : ops[c]? = some oc) (hne : c ≠ i) (h1 : ¬ (oc.apart ops o = true ∧ (isW P oc && isW P o) = false)) (h2 : ¬ (o.apart ops oc = true ∧ (isW P o && isW P oc) = false)) : S c = true ↔ c < i := by
  rcases Nat.lt_or_ge c i with hlt | hge
  · have := (r.static.apart c i oc o hlt hc r.at').resolve_right h1
    have := mask_spec r.closed' this plus_same
    simp only [plus_ne hne] at this
    simp [this, hlt]
  · have hlt : i < c := by omega
    have hm := (r.static.apart i c o oc hlt r.at' hc).resolve_right h2
    constructor
    · intro hs
      have := mask_spec r.closed hm hs
      simp only [r.un] at this
      simp at this
    · omega

theorem Rdy.reads (r : Rdy P ops ps S i o) {t c : Nat} (ht : t ∈ o.looksAt ops) (hd : Dst ops c t) (hne : c ≠ i) : S c = true ↔ c < i := by
  obtain ⟨oc, hc, hdst⟩ := hd
  exact r.order hc hne (fun h => (Oper.apart_spec h.1).1 t hdst ht) (fun h => (Oper.apart_spec h.1).2.2 t hdst ht)

theorem Rdy.writes (r : Rdy P ops ps S i o) {t c : Nat} (ht : o.dst = some t) (hd : Dst ops c t) (hne : c ≠ i) : S c = true ↔ c < i := by
  obtain ⟨oc, hc, hdst⟩ := hd
  exact r.order hc hne (fun h => (Oper.apart_spec h.1).2.1 t hdst ht) (fun h => (Oper.apart_spec h.1).2.1 t ht hdst)

theorem Rdy.chain (r : Rdy P ops ps S i o) {c : Nat} (hw : isW P o = true) (hd : Chn P ops c) (hne : c ≠ i) : S c = true ↔ c < i := by
  obtain ⟨oc, hc, hcw⟩ := hd
  exact r.order hc hne (fun h => by simp [hw, hcw] at h) (fun h => by simp [hw, hcw] at h)

/-- What a reading operation reads, the chain leaves, or stands in order to it. -/
theorem Rdy.readOrder (r : Rdy P ops ps S i o) (hr : isR P o = true) {c : Nat} (hd : Chn P ops c) (hne : c ≠ i) : (S c = true ↔ c < i) ∨ (i, c) ∈ ps := by
  obtain ⟨oc, hc, hcw⟩ := hd
  rcases r.static.pairs i c o oc (Ne.symm hne) r.at' hc hr hcw with h | h | h
  · left
    -- i is ahead of c
    have hs : S c = false := by
      cases hs : S c with
      | false => rfl
      | true => have := mask_spec r.closed h hs; simp only [r.un] at this; simp at this
    have := mask_le r.static h
    simp [hs]; omega
  · left
    have hs := mask_spec r.closed' h plus_same
    simp only [plus_ne hne] at hs
    have := mask_le r.static h
    simp [hs]; omega
  · exact .inr h
end

theorem put_list (a : Act) (dst : Option Tmp) (v : Value) : (a.put dst v).tmps.toList = putT a.tmps.toList dst v := by
  cases dst <;> simp [Act.put, putT]

theorem eval_list {β : Inj} {tm : List Value} {a : Act} {t : Nat} (h : VRel β (tm.getD t undef) (a.tmps.toList.getD t undef)) : VRel β (aval tm (.tmp t)) (a.eval (.tmp t)) := by
  simp only [aval, Act.eval]
  rw [List.getD_eq_getElem?_getD] at h ⊢
  rw [List.getD_eq_getElem?_getD] at h
  simpa using h

section
variable {P : Program} {B : Nat} {call : CallF} {ops : Array Oper} {ps : List (Nat × Nat)} {T : Nat → AS} {β₀ : Inj} {H₀ : AHeap} {w₀ : World} {a₀ : Act} {S : Nat → Bool} {i j : Nat} {o : Oper} {β : Inj} {a : Act} {w : World}

theorem DI.read (d : DI P B ops T β₀ H₀ w₀ a₀ S j β a w) (t : Tr P call ops H₀.next T) (r : Rdy P ops ps S i o) {x : Nat} (hx : x ∈ o.looksAt ops) : VRel β ((T i).tm.getD x undef) (a.tmps.toList.getD x undef) := by
  obtain ⟨jt, hjt, hc, hv⟩ := d.tm x
  rw [t.tm2 (a := i) (b := jt) (Nat.le_of_lt r.lt) hjt]
  · exact hv
  · intro c hd
    by_cases hci : c = i
    · subst hci
      have := hc c hd
      rw [r.un] at this
      simp at this
      omega
    · rw [← r.reads hx hd hci, hc c hd]

theorem DI.opers (d : DI P B ops T β₀ H₀ w₀ a₀ S j β a w) (t : Tr P call ops H₀.next T) (r : Rdy P ops ps S i o) (hg : goodO P o = true) : ORelO β (aval (T i).tm) a.eval o := by
  intro x hx
  have hgx := List.all_eq_true.1 hg x hx
  cases x with
  | tmp t' => exact eval_list (d.read t r (List.mem_append_left _ (List.mem_filterMap.2 ⟨.tmp t', hx, rfl⟩)))
  | const v => exact .of_plain hgx
  | global g =>
    simp only [goodX, decide_eq_true_eq] at hgx
    obtain ⟨n, hn⟩ := d.st.rel.glob g hgx
    exact .ptr (l := ⟨g, 0, n⟩) hn
  | func f => exact .func .nil .nil

theorem DI.wanted (d : DI P B ops T β₀ H₀ w₀ a₀ S j β a w) (t : Tr P call ops H₀.next T) (r : Rdy P ops ps S i o) : Region.wanted o (ayield ops (T i).tm) = Region.wanted o (yielded ops a.tmps) := by
  unfold Region.wanted
  cases hgd : o.guard with
  | none => rfl
  | some gw =>
    obtain ⟨g, want⟩ := gw
    simp only
    congr 1
    simp only [ayield, yielded]
    cases hd : (ops[g]?).bind (·.dst) with
    | none => rfl
    | some x =>
      have hx : x ∈ o.looksAt ops := List.mem_append_right _ (by simp [hgd, hd])
      have hv := d.read t r hx
      have hl : (T i).tm.length = a.tmps.toList.length := by rw [d.len]; exact ((t.next i (Nat.le_of_lt r.lt)).2).symm
      simp only [Option.bind_some]
      rw [← Array.getElem?_toList]
      rcases Nat.lt_or_ge x (T i).tm.length with hlt | hge
      · have hlt' : x < a.tmps.toList.length := by rw [← hl]; exact hlt
        simp only [List.getD, List.getElem?_eq_getElem hlt, List.getElem?_eq_getElem hlt', Option.getD_some] at hv ⊢
        generalize (T i).tm[x] = u at *
        generalize a.tmps.toList[x] = u' at *
        cases hv <;> rfl
      · have hge' : a.tmps.toList.length ≤ x := by rw [← hl]; exact hge
        rw [List.getElem?_eq_none hge, List.getElem?_eq_none hge']

/-- The temporaries behind operation i. -/
theorem DI.tms (d : DI P B ops T β₀ H₀ w₀ a₀ S j β a w) (t : Tr P call ops H₀.next T) (r : Rdy P ops ps S i o) {β' : Inj} {v v' : Value} (hs : Inj.Sub β β') (hv : VRel β' v v') (ht : (T (i + 1)).tm = putT (T i).tm o.dst v) :
    (a.put o.dst v').tmps.toList.length = (T 0).tm.length ∧ ∀ x, ∃ jt, jt ≤ ops.size ∧ (∀ c, Dst ops c x → (plus S i c = true ↔ c < jt)) ∧ VRel β' ((T jt).tm.getD x undef) ((a.put o.dst v').tmps.toList.getD x undef) := by
  refine ⟨by rw [put_list, putT_length]; exact d.len, fun x => ?_⟩
  have hl : (T i).tm.length = a.tmps.toList.length := by rw [d.len]; exact ((t.next i (Nat.le_of_lt r.lt)).2).symm
  by_cases hx : o.dst = some x
  · refine ⟨i + 1, r.lt, fun c hd => ?_, ?_⟩
    · by_cases hci : c = i
      · subst hci; simp [plus]
      · rw [plus_ne hci, r.writes hx hd hci]; omega
    · rw [ht, put_list, hx]
      simp only [putT, List.getD, List.getElem?_set]
      by_cases hlt : x < (T i).tm.length
      · simp only [if_true, hlt, show x < a.tmps.toList.length by omega, Option.getD_some]
        exact hv
      · simp only [if_true, hlt, show ¬ x < a.tmps.toList.length by omega, if_false, Option.getD_none]
        exact .tuple .nil
  · obtain ⟨jt, hjt, hc, hv'⟩ := d.tm x
    refine ⟨jt, hjt, fun c hd => ?_, ?_⟩
    · have hci : c ≠ i := fun e => by
        subst e
        obtain ⟨oc, ho, hdst⟩ := hd
        rw [r.at', Option.some.injEq] at ho
        subst ho
        exact hx hdst
      rw [plus_ne hci]; exact hc c hd
    · rw [put_list]
      have : (putT a.tmps.toList o.dst v').getD x undef = a.tmps.toList.getD x undef := by
        cases hdst : o.dst with
        | none => rfl
        | some d' => exact putT_get_ne fun e => hx (by rw [hdst, e])
      rw [this]
      exact hv'.mono hs

theorem DI.rng (d : DI P B ops T β₀ H₀ w₀ a₀ S j β a w) (t : Tr P call ops H₀.next T) : H₀.next + ops.size ≤ (T j).H.next := (t.next j d.jle).1

theorem DI.plusUntouched (d : DI P B ops T β₀ H₀ w₀ a₀ S j β a w) : ∀ k, k < ops.size → plus S i k = false → k < j → (T j).H.get (H₀.next + k) = (T (k + 1)).H.get (H₀.next + k) := fun k hk hs hj => by
  refine d.untouched k hk ?_ hj
  simp only [plus, Bool.or_eq_false_iff] at hs
  exact hs.1

theorem DI.slotNow (d : DI P B ops T β₀ H₀ w₀ a₀ S j β a w) (r : Rdy P ops ps S i o) : (T (max j (i + 1))).H.get (H₀.next + i) = (T (i + 1)).H.get (H₀.next + i) := by
  rcases Nat.lt_or_ge i j with h | h
  · rw [Nat.max_eq_left (by omega)]; exact d.untouched i r.lt r.un h
  · rw [Nat.max_eq_right (by omega)]

theorem view_plus {n base : Nat} {T : Nat → AS} {S : Nat → Bool} {i j h : Nat} (hh : h ≠ base + i) : view n base T (plus S i) j h = view n base T S j h := by
  unfold view
  by_cases h1 : base ≤ h ∧ h < base + n
  · rw [if_pos h1, if_pos h1, plus_ne (by omega)]
  · rw [if_neg h1, if_neg h1]

/-- An operation that is not of the chain and makes nothing. -/
theorem DI.free (d : DI P B ops T β₀ H₀ w₀ a₀ S j β a w) (t : Tr P call ops H₀.next T) (r : Rdy P ops ps S i o) (hnc : isW P o = false) {v v' : Value} (hv : VRel β v v') (hT : T (i + 1) = ⟨putT (T i).tm o.dst v, (T i).H⟩) : DI P B ops T β₀ H₀ w₀ a₀ (plus S i) j β (a.put o.dst v') w where
  st := by
    refine d.st.same (by rw [viewH_next, viewH_next]) fun x => ?_
    rw [viewH_get (d.rng t), viewH_get (d.rng t)]
    by_cases hx : x = H₀.next + i
    · subst hx
      rw [view_slot r.lt, view_slot r.lt, plus_same, r.un, if_pos rfl, d.slotNow r, hT]
      simp only [Bool.false_eq_true, if_false]
      exact t.late r.lt i (Nat.le_refl _)
    · exact view_plus hx
  jle := d.jle
  slots := fun k hk hs => d.slots k hk (by simp only [plus, Bool.or_eq_false_iff] at hs; exact hs.1)
  chain := fun c hc => by
    have hci : c ≠ i := fun e => by
      subst e
      obtain ⟨oc, ho, hw⟩ := hc
      rw [r.at', Option.some.injEq] at ho
      subst ho
      rw [hnc] at hw; simp at hw
    rw [plus_ne hci]; exact d.chain c hc
  untouched := d.plusUntouched
  len := (d.tms t r (.refl β) hv (by rw [hT])).1
  tm := (d.tms t r (.refl β) hv (by rw [hT])).2
  closed := r.closed'
  defers := (put_defers _ _ _).trans d.defers

/-- A new object. -/
theorem DI.new (d : DI P B ops T β₀ H₀ w₀ a₀ S j β a w) (t : Tr P call ops H₀.next T) (r : Rdy P ops ps S i o) (hnc : isW P o = false) {v v' : Value} {w' : World} {o' : Obj} {obj : AObj} {lim : Nat} (g : Grow w w' o')
    (ho : ORel (Inj.put β (H₀.next + i) ⟨w.heap.size, 0, lim⟩) ⟨w.heap.size, 0, lim⟩ w' obj) (hv : VRel (Inj.put β (H₀.next + i) ⟨w.heap.size, 0, lim⟩) v v') (hT : T (i + 1) = ⟨putT (T i).tm o.dst v, (T i).H.set (H₀.next + i) obj⟩) :
    DI P B ops T β₀ H₀ w₀ a₀ (plus S i) j (Inj.put β (H₀.next + i) ⟨w.heap.size, 0, lim⟩) (a.put o.dst v') w' where
  st := by
    have hnone := d.slots i r.lt r.un
    refine d.st.slot g hnone (by omega) (obj := obj) ?_ (by rw [viewH_next]; have := d.rng t; have := r.lt; omega) (fun y hy => ?_) (by rw [viewH_next, viewH_next]) ho
    · rw [viewH_get (d.rng t), view_slot r.lt, plus_same, if_pos rfl, d.slotNow r, hT]
      exact get_set_same _ _ _ (by have := (t.next i (Nat.le_of_lt r.lt)).1; have := r.lt; omega)
    · rw [viewH_get (d.rng t), viewH_get (d.rng t)]
      exact view_plus hy
  jle := d.jle
  slots := fun k hk hs => by
    have hki : k ≠ i := fun e => by subst e; rw [plus_same] at hs; simp at hs
    rw [Inj.put_ne (by omega)]
    exact d.slots k hk (by rw [plus_ne hki] at hs; exact hs)
  chain := fun c hc => by
    have hci : c ≠ i := fun e => by
      subst e
      obtain ⟨oc, ho, hw⟩ := hc
      rw [r.at', Option.some.injEq] at ho
      subst ho
      rw [hnc] at hw; simp at hw
    rw [plus_ne hci]; exact d.chain c hc
  untouched := d.plusUntouched
  len := (d.tms t r (Inj.put_sub (d.slots i r.lt r.un)) hv (by rw [hT])).1
  tm := (d.tms t r (Inj.put_sub (d.slots i r.lt r.un)) hv (by rw [hT])).2
  closed := r.closed'
  defers := (put_defers _ _ _).trans d.defers

theorem DI.ge (d : DI P B ops T β₀ H₀ w₀ a₀ S j β a w) (r : Rdy P ops ps S i o) (hc : isW P o = true) : j ≤ i := by
  have := (d.chain i ⟨o, r.at', hc⟩)
  rw [r.un] at this
  simp at this
  exact this

/-- Between j and a chain's operation that is next, no other one. -/
theorem DI.noChn (d : DI P B ops T β₀ H₀ w₀ a₀ S j β a w) (r : Rdy P ops ps S i o) (hc : isW P o = true) : ∀ c, j ≤ c → c < i → ¬ Chn P ops c := fun c h1 h2 hch => by
  have := r.chain hc hch (by omega)
  rw [d.chain c hch] at this
  omega

/-- How the heap ahead of a chain's operation stands to what is seen. -/
theorem DI.ahead (d : DI P B ops T β₀ H₀ w₀ a₀ S j β a w) (t : Tr P call ops H₀.next T) (r : Rdy P ops ps S i o) (hc : isW P o = true) (h : Nat) :
    (view ops.size H₀.next T S j h = (T i).H.get h ∧ view ops.size H₀.next T (plus S i) (i + 1) h = (T (i + 1)).H.get h) ∨
    ((T i).H.get h = .dead ∧ (T (i + 1)).H.get h = .dead ∧ view ops.size H₀.next T (plus S i) (i + 1) h = view ops.size H₀.next T S j h ∧ h < (T i).H.next) ∨
    (β h = none ∧ h < (T i).H.next ∧ view ops.size H₀.next T S j h = .dead ∧ view ops.size H₀.next T (plus S i) (i + 1) h = .dead) := by
  have hji := d.ge r hc
  have hno := d.noChn r hc
  have hin := r.lt
  have hnx := (t.next i (Nat.le_of_lt r.lt)).1
  by_cases hh : H₀.next ≤ h ∧ h < H₀.next + ops.size
  · obtain ⟨k, rfl⟩ : ∃ k, h = H₀.next + k := ⟨h - H₀.next, by omega⟩
    have hk : k < ops.size := by omega
    rw [view_slot hk, view_slot hk]
    by_cases hki : k = i
    · subst hki
      right; right
      refine ⟨d.slots k hk r.un, by omega, by simp [r.un], ?_⟩
      rw [plus_same, if_pos rfl, Nat.max_eq_right (Nat.le_refl _)]
      exact t.chnSlot hk ⟨o, r.at', hc⟩
    · rw [plus_ne hki]
      cases hs : S k with
      | false => right; right; exact ⟨d.slots k hk hs, by omega, by simp, by simp⟩
      | true =>
        simp only [if_true]
        rcases Nat.lt_or_ge k i with hlt | hge
        · left
          rw [Nat.max_eq_left (by omega : k + 1 ≤ i + 1)]
          refine ⟨?_, rfl⟩
          refine (t.heap (a := max j (k + 1)) (b := i) (by omega) (by omega) (fun c h1 h2 hch => absurd hch (hno c (by omega) h2)) (fun k' e hb => by omega)).symm
        · right; left
          have hlt : i < k := by omega
          refine ⟨t.late hk i (by omega), t.late hk (i + 1) (by omega), ?_, by omega⟩
          rw [Nat.max_eq_right (by omega : i + 1 ≤ k + 1), Nat.max_eq_right (by omega : j ≤ k + 1)]
  · left
    rw [view_free hh, view_free hh]
    exact ⟨(t.heap hji (by omega) (fun c h1 h2 hch => absurd hch (hno c h1 h2)) (fun k e hb => hh (by omega))).symm, rfl⟩

theorem DI.relAt (d : DI P B ops T β₀ H₀ w₀ a₀ S j β a w) (t : Tr P call ops H₀.next T) (r : Rdy P ops ps S i o) (hc : isW P o = true) : HRel P B β (T i).H w := by
  refine d.st.rel.less (by rw [viewH_next]; exact t.nextMono (d.ge r hc) (Nat.le_of_lt r.lt)) fun x l e => ?_
  rw [viewH_get (d.rng t)]
  rcases d.ahead t r hc x with ⟨h, _⟩ | ⟨h, _⟩ | ⟨h, _⟩
  · exact .inl h.symm
  · exact .inr h
  · rw [h] at e; simp at e

/-- An operation of the chain. -/
theorem DI.chn (d : DI P B ops T β₀ H₀ w₀ a₀ S j β a w) (t : Tr P call ops H₀.next T) (r : Rdy P ops ps S i o) (hc : isW P o = true) {β' : Inj} {w' : World} {v v' : Value} (st : Step P B β (T i).H w β' (T (i + 1)).H w') (hv : VRel β' v v')
    (ht : (T (i + 1)).tm = putT (T i).tm o.dst v) : DI P B ops T β₀ H₀ w₀ a₀ (plus S i) (i + 1) β' (a.put o.dst v') w' where
  st := by
    have hji := d.ge r hc
    have hr1 : H₀.next + ops.size ≤ (T (i + 1)).H.next := (t.next (i + 1) r.lt).1
    refine d.st.trans (Step.patch d.st.rel st (dAt_keep t.keep ⟨o, r.at', hc⟩ (t.step i r.lt)) (by rw [viewH_next]; exact t.nextMono hji (Nat.le_of_lt r.lt)) (by rw [viewH_next]) fun x => ?_)
    rw [viewH_get (d.rng t), viewH_get hr1]
    exact d.ahead t r hc x
  jle := r.lt
  slots := fun k hk hs => by
    have hki : k ≠ i := fun e => by subst e; rw [plus_same] at hs; simp at hs
    exact (st.keep _ (by have := (t.next i (Nat.le_of_lt r.lt)).1; omega) (d.slots k hk (by rw [plus_ne hki] at hs; exact hs))).2
  chain := fun c hch => by
    by_cases hci : c = i
    · subst hci; simp [plus]
    · rw [plus_ne hci, r.chain hc hch hci]; omega
  untouched := fun k hk hs hlt => by
    have hki : k ≠ i := fun e => by subst e; rw [plus_same] at hs; simp at hs
    rw [plus_ne hki] at hs
    have hki' : k < i := by omega
    have hji := d.ge r hc
    rw [(st.keep _ (by have := (t.next i (Nat.le_of_lt r.lt)).1; omega) (d.slots k hk hs)).1]
    rcases Nat.lt_or_ge k j with h | h
    · rw [← d.untouched k hk hs h]
      exact t.heap hji (Nat.le_of_lt r.lt) (fun c h1 h2 hch => absurd hch (d.noChn r hc c h1 h2)) (fun k' e hb => by omega)
    · exact t.heap (by omega) (Nat.le_of_lt r.lt) (fun c h1 h2 hch => absurd hch (d.noChn r hc c (by omega) h2)) (fun k' e hb => by omega)
  len := (d.tms t r st.sub hv ht).1
  tm := (d.tms t r st.sub hv ht).2
  closed := r.closed'
  defers := (put_defers _ _ _).trans d.defers
end
end Go.Am
