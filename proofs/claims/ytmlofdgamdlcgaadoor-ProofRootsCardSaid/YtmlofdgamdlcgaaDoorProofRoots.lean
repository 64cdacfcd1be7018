/- Which proofs may be, and the root behind any of them: Right, Root, Check and Update answer as the document (the law ProofRoots returns true for every input; the tied card; the two package variables as the program's text lays them). -/
import Derived.Test.YtmlofdgamdlcgaaDoorRowA
import Derived.Test.YtmlofdgamdlcgaaDoorWalkE
import Derived.SizedLaws
import Derived.Test.YtmlofdgamdlcgaaDoorCards
import Derived.Test.YtmlofdgamdlcgaaDoorTie
set_option linter.unusedSimpArgs false
set_option linter.unusedVariables false
/- From the walk to the row: a proof as the last argument. -/
namespace Go.Proofs.YtmlofdgamdlcgaaDoor
open Go Go.Am Go.ChangeShapes Go.WideShapes Go.RowKit
set_option maxRecDepth 100000

theorem cells_hash {H : Type} {enc : TypeId × Value → H} {W : World} {base fuel : Nat} {sp : Nat → Bool} {held : Bool} {cs : List Value} {x : DataW H × List MemPlace} (hf : DataW.trod enc Tryd.prog W base sp held fuel 23 cs = some x) : ∃ h : Hsh, cs = hC h := by
  obtain ⟨xs, m, _, ex, hl, hl2, hel⟩ := DataW.trod_array Tryd.underlying23 hf
  rw [cellsH] at hl
  obtain ⟨l, e1, e2, e3⟩ := bytes_of cs fun i hi => by
    have hE := hel i (by omega)
    rw [cellsU8, Nat.mul_one, List.getElem?_eq_getElem (by omega)] at hE
    obtain ⟨z, e1, e2, e3⟩ := DataW.trod_int Tryd.underlying5 hE
    obtain ⟨w1, w2⟩ := wf_u8 e3
    refine ⟨z, ?_, w1, w2⟩
    have h0 : ((cs.drop i).take 1)[0]? = some (.int .u8 z) := by rw [e1]; rfl
    simpa using h0
  exact ⟨⟨l, by rw [e2, hl], e3⟩, e1⟩
theorem list_of {α : Type} {Q : Nat → α → Prop} : ∀ n, (∀ i, i < n → ∃ p, Q i p) → ∃ l : List α, l.length = n ∧ ∀ i p, l[i]? = some p → Q i p
  | 0, _ => ⟨[], rfl, by simp⟩
  | n + 1, h => by
    obtain ⟨l, h1, h2⟩ := list_of n fun i hi => h i (by omega)
    obtain ⟨p, hp⟩ := h n (by omega)
    refine ⟨l ++ [p], by simp [h1], fun i q hq => ?_⟩
    rw [List.getElem?_append] at hq
    split at hq
    · exact h2 i q hq
    · rename_i hlt
      have : i - l.length = 0 := by
        have := (List.getElem?_eq_some_iff.1 hq).1
        simp at this; omega
      rw [this] at hq
      simp only [List.getElem?_cons_zero, Option.some.injEq] at hq
      subst hq
      have : i = n := by omega
      subst this; exact hp
theorem add_none {a : Addr} (h : a.spot = none) (n : Nat) : a.add n = ⟨a.block, a.off + n, none⟩ := by
  obtain ⟨b, o, s⟩ := a
  simp only at h
  subst h
  unfold Addr.add
  split
  · rename_i e; subst e; rfl
  · rfl
theorem hcs_get {l : List Hsh} {i : Nat} {x : Value} (h : (hcs l)[i]? = some x) : ∃ p, l[i / 32]? = some p ∧ (hC p)[i % 32]? = some x := by
  have hi : i < l.length * 32 := by have := (List.getElem?_eq_some_iff.1 h).1; rwa [hcs_length] at this
  obtain ⟨p, hp⟩ : ∃ p, l[i / 32]? = some p := ⟨l[i / 32]'(by omega), List.getElem?_eq_getElem (by omega)⟩
  refine ⟨p, hp, ?_⟩
  have hl : (hcs (l.take (i / 32))).length = i / 32 * 32 := by rw [hcs_length, List.length_take]; congr 1; omega
  rw [hcs_cut hp, List.getElem?_append_right (by omega), hl, List.getElem?_append_left (by simp; omega)] at h
  rw [← h]; congr 1; omega
/-- What a slice of hashes is, in memory. -/
def RowIn (W : World) (v : Value) (l : List Hsh) : Prop := (v = .slice none 0 0 ∧ l = []) ∨ ∃ a c, v = .slice (some a) l.length c ∧ l.length ≤ c ∧ a.spot = none ∧ a.block < W.heap.size ∧ ∀ i x, (hcs l)[i]? = some x → W.cell? ⟨a.block, a.off + i, none⟩ = some x
theorem open_hrow {H : Type} {enc : TypeId × Value → H} {W : World} {r : Reach} {b0 : Nat} {base fuel : Nat} {sp : Nat → Bool} {held : Bool} {v : Value} {x : DataW H × List MemPlace} (hval : Cell.okWide Tryd.prog W r b0 24 v) (hf : DataW.trod enc Tryd.prog W base sp held fuel 24 [v] = some x) :
    ∃ l : List Hsh, RowIn W v l ∧ (l = [] ∨ ∃ es rs, x.1 = .slice es rs ∧ es.length = l.length) := by
  rcases DataW.trod_slice Tryd.underlying24 hf with ⟨h0, _⟩ | ⟨a, len, cap, elems, rest, n, _, hcs, hx, hb, hl, _, hlen, hel, _, _⟩
  · simp only [List.cons.injEq, and_true] at h0
    exact ⟨[], .inl ⟨h0, rfl⟩, .inl rfl⟩
  · simp only [List.cons.injEq, and_true] at hcs
    subst hcs
    simp only [Tryd.underlying24, Cell.okWide, Cell.ok, World.has] at hval
    obtain ⟨_, _, _, hspot, row, cells, hshape, _⟩ := hval
    have hblk : a.block < W.heap.size := by
      rcases Nat.lt_or_ge a.block W.heap.size with h1 | h1
      · exact h1
      · simp [World.shape?, Array.getElem?_eq_none h1] at hshape
    obtain ⟨l, h1, h2⟩ := list_of (Q := fun i (p : Hsh) => ∀ j, j < 32 → W.cell? ⟨a.block, a.off + (i * 32 + j), none⟩ = (hC p)[j]?) len fun i hi => by
      have hE := hel i hi
      rw [cellsH, List.getElem?_eq_getElem (by omega), Option.bind_eq_some_iff] at hE
      obtain ⟨cs, hcs, ht⟩ := hE
      obtain ⟨_, hcl, hc⟩ := World.cells?_some hcs
      obtain ⟨k, ek⟩ := cells_hash ht
      refine ⟨k, fun j hj => ?_⟩
      rw [← ek, ← hc j hj, add_none hspot, add_none rfl, ← Nat.add_assoc]
    refine ⟨l, .inr ⟨a, cap, by rw [h1], by omega, hspot, hblk, fun i x hx => ?_⟩, .inr ⟨_, _, by rw [hx], by simp [hlen, h1]⟩⟩
    obtain ⟨p, hp, hx2⟩ := hcs_get hx
    have := h2 _ p hp (i % 32) (Nat.mod_lt _ (by decide))
    rw [hx2, show i / 32 * 32 + i % 32 = i by omega] at this
    exact this
theorem cellsPr : Tryd.prog.cellsOf 26 = 33 := by kernel_rfl
theorem cellsSl : Tryd.prog.cellsOf 24 = 1 := by kernel_rfl
theorem ctPr : Tryd.prog.cellTypes Tryd.prog.depth 26 = some (List.replicate 32 5 ++ [24]) := by kernel_rfl
theorem bytesHs : Tryd.prog.bytesOf 23 = 32 := by kernel_rfl
theorem len_two {α : Type} : ∀ {l : List α}, l.length = 2 → ∃ a b, l = [a, b]
  | [a, b], _ => ⟨a, b, rfl⟩
/-- An argument that is a proof. -/
theorem open_proof {H : Type} {enc : TypeId × Value → H} {W : World} {r : Reach} {b0 : Nat} {base : Nat} {sp : Nat → Bool} {held : Bool} {v : Value} {d : DataW H} {ps : List MemPlace} (hval : Value.okWide Tryd.prog W r b0 26 v) (hd : DataW.Trod enc Tryd.prog W base sp held 26 v d ps) (hw : (d.weights Tryd.prog 26).all (· ≤ reachBytes) = true) :
    ∃ (mask : Hsh) (sv : Value) (l : List Hsh), v = prV mask sv ∧ RowIn W sv l ∧ l.length ≤ 4398046511104 := by
  simp only [Value.okWide, Tryd.underlying26] at hval
  obtain ⟨cs, rfl, hsz, ts, hts, _, hrow⟩ := hval
  rw [cellsPr] at hsz
  rw [ctPr, Option.some.injEq] at hts
  subst hts
  obtain ⟨fuel, hf⟩ := hd
  obtain ⟨xs, m, _, ex, _, hxl, hfx⟩ := DataW.trod_struct Tryd.underlying26 hf
  have hcs : (Value.agg cs).cells.toList = cs.toList := rfl
  rw [hcs] at hfx
  have hxl2 : xs.length = 2 := hxl
  obtain ⟨x0, x1, rfl⟩ := len_two hxl2
  have hcl : cs.toList.length = 33 := by simpa using hsz
  have f0 := hfx 0 _ rfl
  have f1 := hfx 1 _ rfl
  have f0 : DataW.trod enc Tryd.prog W base sp held m 23 ((cs.toList.drop 0).take (Tryd.prog.cellsOf 23)) = some x0 := f0
  have f1 : DataW.trod enc Tryd.prog W base sp held m 24 ((cs.toList.drop 32).take (Tryd.prog.cellsOf 24)) = some x1 := f1
  obtain ⟨mask, ek⟩ := cells_hash f0
  have ek2 : (cs.toList.drop 0).take (Tryd.prog.cellsOf 23) = hC mask := ek
  rw [cellsH, List.drop_zero] at ek2
  obtain ⟨sv, hsv⟩ : ∃ sv, cs.toList.drop 32 = [sv] := by
    have : (cs.toList.drop 32).length = 1 := by rw [List.length_drop, hcl]
    exact List.length_eq_one_iff.1 this
  have f1' : DataW.trod enc Tryd.prog W base sp held m 24 [sv] = some x1 := by
    have : (cs.toList.drop 32).take (Tryd.prog.cellsOf 24) = [sv] := by rw [cellsSl, hsv]; rfl
    rw [← this]; exact f1
  have hcell : Cell.okWide Tryd.prog W r b0 24 sv := by
    have e : cs[32]? = some sv := by
      have : (cs.toList.drop 32)[0]? = some sv := by rw [hsv]; rfl
      simpa using this
    obtain ⟨u, hu, hok⟩ := hrow 32 sv e
    have hu' : (List.replicate 32 5 ++ [24])[32]? = some u := hu
    simp at hu'
    rw [hu']; exact hok
  obtain ⟨l, hl, hlw⟩ := open_hrow hcell f1'
  refine ⟨mask, sv, l, ?_, hl, ?_⟩
  · obtain ⟨cl⟩ := cs
    have : cl = hC mask ++ [sv] := by rw [← ek2, ← hsv]; exact (List.take_append_drop 32 cl).symm
    rw [this]
    try rfl
  · rcases hlw with rfl | ⟨es, rs, he, hle⟩
    · simp
    · have hd' : d = .agg ([x0, x1].map (·.1)) := (Prod.mk.inj ex).1
      rw [hd'] at hw
      simp only [List.map_cons, List.map_nil, he, DataW.weights, Tryd.underlying26, DataW.weightsEach, Tryd.underlying24, List.all_append, List.all_cons, Bool.and_eq_true, decide_eq_true_eq, bytesHs] at hw
      have h3 : (es.length + rs.length) * 32 ≤ reachBytes := by
        first
          | exact hw.2.1.1
          | exact hw.2.1
          | simp_all
      rw [show reachBytes = 140737488351232 from rfl] at h3
      omega

def heapS (l : List Hsh) : AHeap := ⟨heap0.objs ++ [.cells (hcs l) 23 false]⟩
def injS (a : Addr) : Inj := fun h => if h = 2 then some ⟨a.block, a.off, 0⟩ else inj0 h
theorem heapS_gl (l : List Hsh) : Gl (heapS l) := ⟨⟨_, rfl⟩, ⟨_, rfl⟩⟩
theorem heapS_ro (l : List Hsh) (h : Nat) : ((heapS l).get h).wlive = false := by
  rcases h with _ | _ | _ | h
  · rfl
  · rfl
  · rfl
  · rw [get_ge _ _ (by show 3 ≤ h + 3; omega)]; rfl
theorem hcs_rel (β : Inj) {l : List Hsh} {i : Nat} {v : Value} (hv : (hcs l)[i]? = some v) : VRel β v v := by
  obtain ⟨p, _, h⟩ := hcs_get hv
  rw [hC, ints, List.getElem?_map] at h
  simp only [Option.map_eq_some_iff] at h
  obtain ⟨n, _, rfl⟩ := h
  exact .int _ _
theorem heapS_rel {W : World} {a : Addr} {l : List Hsh} (h : laidMetH Tryd.prog laidV W) (hb : a.block < W.heap.size) (hc : ∀ i x, (hcs l)[i]? = some x → W.cell? ⟨a.block, a.off + i, none⟩ = some x) : HRel Tryd.prog W.heap.size (injS a) (heapS l) W := by
  have r0 := heap0_rel h
  have cases : ∀ x m, injS a x = some m → (x = 2 ∧ m = ⟨a.block, a.off, 0⟩) ∨ (x < 2 ∧ inj0 x = some m) := by
    intro x m e
    unfold injS at e
    by_cases hx : x = 2
    · rw [if_pos hx] at e; exact .inl ⟨hx, (Option.some.inj e).symm⟩
    · rw [if_neg hx] at e
      refine .inr ⟨?_, e⟩
      unfold inj0 at e
      by_cases h0 : x = 0
      · omega
      · rw [if_neg h0] at e
        by_cases h1 : x = 1
        · omega
        · rw [if_neg h1] at e; cases e
  have low : ∀ x, x < 2 → (heapS l).get x = heap0.get x := by
    intro x hx
    match x, hx with
    | 0, _ | 1, _ => rfl
  have sub : Inj.Sub inj0 (injS a) := fun x m e => by
    unfold injS
    rw [if_neg (fun hx => by subst hx; simp [inj0] at e)]; exact e
  refine ⟨?_, ?_, ?_, ?_, ?_, ?_, Nat.le_refl _⟩
  · intro x m e
    rcases cases x m e with ⟨rfl, rfl⟩ | ⟨hx, e⟩
    · exact ⟨fun i v hv => ⟨v, hc i v hv, hcs_rel _ hv⟩, fun hw => by cases hw⟩
    · rw [low x hx]; exact .same sub rfl (r0.obj x m e)
  · intro x m e
    rcases cases x m e with ⟨rfl, rfl⟩ | ⟨_, e⟩
    · exact hb
    · exact r0.blk x m e
  · intro x y m k _ _ hw; rw [heapS_ro] at hw; cases hw
  · intro x m _ hw; rw [heapS_ro] at hw; cases hw
  · intro x m e
    rcases cases x m e with ⟨rfl, rfl⟩ | ⟨hx, _⟩
    · show 2 < 3; decide
    · show x < 3; omega
  · intro g hg
    obtain ⟨n, hn⟩ := r0.glob g hg
    exact ⟨n, sub _ _ hn⟩
theorem prV_rel {β : Inj} {mask : Hsh} {v v' : Value} (h : VRel β v v') : VRel β (prV mask v) (prV mask v') :=
  .agg ((LRel.of_plain (plain_ints _ _)).append (.cons h .nil))

/-- A law's walk, as the machine's call: its last argument a proof, the others without pointers. -/
theorem calls_of_walkS {f : FuncId} {xs : List Value} {W : World} {sv : Value} {mask : Hsh} {l : List Hsh} (hL : laidMetH Tryd.prog laidV W) (hx : plainL xs = true) (hv : RowIn W sv l)
    (c : ∀ lv H, Gl H → HsS H lv l → CallR Tryd.prog noPrims f (xs ++ [prV mask lv]) H (fun u H' => u = .bool true ∧ Hp H 0 0 H' [] [])) :
    Calls Tryd.prog f ⟨xs ++ [prV mask sv]⟩ W fun e W' => e = .returned (.bool true) ∧ Below W.heap.size W W' := by
  rcases hv with ⟨rfl, rfl⟩ | ⟨⟨ab, ao, sp⟩, cap, rfl, hcap, hs, hb, hc⟩
  · obtain ⟨n, v, H', hcall, rfl, _⟩ := c (.slice none 0 0) heap0 heap0_gl (.inl ⟨rfl, rfl⟩)
    exact sim_true (call_sim mixed good noPrims_keep (noPrims_sim _ _) n) hcall (heap0_rel hL) heap0_ro ((LRel.of_plain hx).append (.cons (prV_rel .snil) .nil))
  · simp only at hs
    subst hs
    obtain ⟨n, v, H', hcall, rfl, _⟩ := c (.slice (some ⟨2, 0, none⟩) l.length (l.length + 1)) (heapS l) (heapS_gl l) (.inr ⟨2, l.length + 1, _, false, rfl, rfl⟩)
    have hrel : VRel (injS ⟨ab, ao, none⟩) (.slice (some ⟨2, 0, none⟩) l.length (l.length + 1)) (.slice (some ⟨ab, ao, none⟩) l.length cap) :=
      .slice (l := ⟨ab, ao, 0⟩) rfl hcap (Nat.le_succ _) (fun h => by omega) (fun sz h => by omega)
    exact sim_true (call_sim mixed good noPrims_keep (noPrims_sim _ _) n) hcall (heapS_rel hL hb hc) (heapS_ro l) ((LRel.of_plain hx).append (.cons (prV_rel hrel) .nil))
end Go.Proofs.YtmlofdgamdlcgaaDoor

/- ProofRoots: which proofs may be, and the root behind any of them: the program answers as the document. -/
namespace Go.Proofs.YtmlofdgamdlcgaaDoor
open Go Go.Am Go.ChangeShapes Go.WideShapes Go.RowKit
set_option maxRecDepth 100000

theorem proofRoots_lifted (os : Os) (started : os.Started) (H : Type) (enc : TypeId × Value → H) :
    ReturnsInHanded {} Tryd.checked os 3 .any (fun w args => (Rows.proofRootsSpec.pre enc Tryd.prog Tryd.f3 Rows.proofRootsRow.domain false w args ∧ laidMetH Tryd.prog laidV w) ∧ sizedMet enc Tryd.prog Tryd.f3 (OpenSpec.ofChange Rows.proofRootsSpec) false w args)
      (Rows.proofRootsSpec.post enc Tryd.prog Tryd.f3 false true false false) := by
  refine returnsInHanded_of_change_and (C := Tryd.checked) (X := fun w _ => laidMetH Tryd.prog laidV w) (fun _ _ _ hh h => h.of_heap hh) Tryd.own started (by kernel_rfl) Tryd.func3
    (ChangeSpec.witness_shaped (enc := enc) (C := Tryd.checked) (os := os) (X := fun w _ => laidMetH Tryd.prog laidV w) false (World.laidAll Tryd.prog os laidV) #[hV zeroH, hV zeroH, hV zeroH, hV zeroH, prV zeroH (.slice none 0 0)] 8 (World.laidAll_os _ _ _)
      (World.shaped_of_ZipB (by kernel_rfl) (by kernel_rfl)) (by kernel_rfl) (by kernel_rfl) (by kernel_rfl)
      (by rw [MakeChecks.laidMetH_plain _ _ _ (by kernel_rfl)]; exact laidMet_laidAll _ (by kernel_rfl) (by kernel_rfl))) ?_
  intro W base args ds gs before hval0 hW _ hwt hL _
  have hval : ∀ (j : Nat) t v, Tryd.f3.params[j]? = some t → args[j]? = some v → Value.okWide Tryd.prog W .any base t v := hval0
  have hW' := hW
  obtain ⟨p, q, hA0, hV0, rfl, _, _⟩ := hW
  have hA : DataW.TrodAll enc Tryd.prog W 0 (fun _ => true) true Tryd.f3.params.toList args.toList ds p := hA0
  rw [Tryd.params3] at hA hval
  obtain ⟨rfl, rfl⟩ := trodVars_none hV0
  have hlt := hA.lt
  obtain ⟨v0, vs0, d0, ds0, p0, q0, ea, rfl, rfl, e0, hA1⟩ := trodAll_cons hA
  obtain ⟨v1, vs1, d1, ds1, p1, q1, rfl, rfl, rfl, e1, hA2⟩ := trodAll_cons hA1
  obtain ⟨v2, vs2, d2, ds2, p2, q2, rfl, rfl, rfl, e2, hA3⟩ := trodAll_cons hA2
  obtain ⟨v3, vs3, d3, ds3, p3, q3, rfl, rfl, rfl, e3, hA4⟩ := trodAll_cons hA3
  obtain ⟨v4, vs4, d4, ds4, p4, q4, rfl, rfl, rfl, e4, hA5⟩ := trodAll_cons hA4
  obtain ⟨rfl, rfl, rfl⟩ := trodAll_nil hA5
  obtain rfl : args = #[v0, v1, v2, v3, v4] := Array.ext' ea
  obtain ⟨a, rfl, rfl⟩ := open_hash (hval 0 23 v0 rfl rfl) e0
  obtain ⟨b, rfl, rfl⟩ := open_hash (hval 1 23 v1 rfl rfl) e1
  obtain ⟨o, rfl, rfl⟩ := open_hash (hval 2 23 v2 rfl rfl) e2
  obtain ⟨n, rfl, rfl⟩ := open_hash (hval 3 23 v3 rfl rfl) e3
  have hwt' : (DataW.weightsEach Tryd.prog (Tryd.f3.params.toList ++ Rows.proofRootsSpec.plain.varTypes Tryd.prog) ([d0, d1, d2, d3, d4] ++ [])).all (· ≤ reachBytes) = true := hwt
  rw [Tryd.params3] at hwt'
  obtain ⟨mask, sv, l, rfl, hrow, hlen⟩ := open_proof (hval 4 26 v4 rfl rfl) e4 (List.all_eq_true.2 fun x hx => List.all_eq_true.1 hwt' x (DataW.weights_mem_each (j := 4) rfl rfl x hx))
  have hrun := calls_of_walkS (f := 3) (xs := [hV a, hV b, hV o, hV n]) (mask := mask) hL (by simp [plainL, plain_hV]) hrow (fun lv H g hp => c_ProofRoots a b o n mask lv l H g hp hlen)
  refine hrun.mono fun e W' ⟨he, hb⟩ => ?_
  subst he
  refine ⟨_, rfl, _, _, _, [], [] ++ ([] ++ ([] ++ ([] ++ (p4 ++ [])))), [], hW', ?_, ?_, ?_, hb.frame _, fun h => by cases h⟩
  · exact trodAll_mk1 (shut_bool Tryd.underlying4 true)
  · have hk := fun {t v d p} (e : DataW.Trod enc Tryd.prog W 0 (fun _ => true) true t v d p) (h1 : Tryd.prog.readableRec t = true) (h2 : t < Tryd.prog.types.size) (hp : ∀ x ∈ p, x.block < W.heap.size) => Below.trod Tryd.laidOut h1 h2 e hb hp
    exact ⟨[], _, hk e0 (by kernel_rfl) (of_decide_eq_true (by kernel_rfl)) (by simp), ⟨[], _, hk e1 (by kernel_rfl) (of_decide_eq_true (by kernel_rfl)) (by simp), ⟨[], _, hk e2 (by kernel_rfl) (of_decide_eq_true (by kernel_rfl)) (by simp), ⟨[], _, hk e3 (by kernel_rfl) (of_decide_eq_true (by kernel_rfl)) (by simp), ⟨p4, [], hk e4 (by kernel_rfl) (of_decide_eq_true (by kernel_rfl)) (fun x hx => hlt x (by simp [hx])), rfl, rfl⟩, rfl⟩, rfl⟩, rfl⟩, rfl⟩
  · rfl

theorem proofRoots_holds : Rows.ProofRootsSaid :=
  OpenClaim.holds_of_wide 3 Tryd.f3 rfl rfl rfl rfl rfl rfl rfl ⟨rfl, rfl, rfl, rfl, rfl⟩ rfl rfl rfl rfl rfl (by kernel_rfl) Tryd.func3 (by kernel_rfl)
    (of_decide_eq_true (by kernel_rfl)) (by unfold Func.isWrapper; first | (rw [if_pos (by decide +kernel)]; kernel_rfl) | (rw [if_neg (by decide +kernel)]; exact ⟨rfl, rfl⟩))
    (fun os started H enc _ => proofRoots_lifted os started H enc)

theorem proofRoots_card : Rows.ProofRootsCardSaid :=
  Claim7.holds_tied_plain_at .later [] [.data, .data] true (true, "d2fec8ed6b7989ac45653ed74a480be8a1c2e8eaa01aa4cb47a44be19ae35c58") false proofRoots_holds (fun _ h => by cases h) (by kernel_rfl) (fun _ h => by cases h) proofRoots_row_tie rfl ⟨rfl, rfl⟩ (by kernel_rfl) rfl
    (fun f fn hf hfn => by
      obtain rfl : f = 3 := Option.some.inj ((show Tryd.prog.funcNamed "bascule/basculelaw06.ProofRoots" = some 3 by kernel_rfl).symm.trans hf) |>.symm
      obtain rfl : fn = Tryd.f3 := (Option.some.inj (Tryd.func3.symm.trans hfn)).symm
      exact ⟨by kernel_rfl, fun j t ht => by
        rw [Tryd.params3] at ht
        have hm : t ∈ [23, 23, 23, 23, 26] := by simpa using Array.mem_of_getElem? ht
        have hall : ([23, 23, 23, 23, 26].all fun u => !Tryd.prog.wantsStandIn u) = true := by kernel_rfl
        exact (show Tryd.prog.wantsStandIn t = false by simpa using List.all_eq_true.1 hall t hm)⟩)
    (by kernel_rfl)
#print axioms proofRoots_card
end Go.Proofs.YtmlofdgamdlcgaaDoor
