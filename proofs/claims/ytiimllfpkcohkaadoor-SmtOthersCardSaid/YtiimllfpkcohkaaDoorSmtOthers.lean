/- A Put of one key leaves all others, and what is put last is told, for any pairs, key and value (the law SmtOthers returns true for every input; the tied card; the two package variables as the program's text lays them). -/
import Derived.Test.YtiimllfpkcohkaaDoorRowA
import Derived.Test.YtiimllfpkcohkaaDoorWalkD
import Derived.Test.YtiimllfpkcohkaaDoorValue
import Derived.Test.YtiimllfpkcohkaaDoorCards
import Derived.Test.YtiimllfpkcohkaaDoorTie
set_option linter.unusedSimpArgs false
set_option linter.unusedVariables false
/- From the walk to the row: a slice of pairs as an argument. -/
namespace Go.Proofs.YtiimllfpkcohkaaDoor
open Go Go.Am Go.ChangeShapes Go.WideShapes Go.RowKit
set_option maxRecDepth 100000

theorem cellsP : Tryd.prog.cellsOf 35 = 64 := by kernel_rfl
theorem cells_hash {H : Type} {enc : TypeId × Value → H} {W : World} {base fuel : Nat} {sp : Nat → Bool} {held : Bool} {cs : List Value} {x : DataW H × List MemPlace} (hf : DataW.trod enc Tryd.prog W base sp held fuel 23 cs = some x) : ∃ h : Hsh, cs = hC h := by
  obtain ⟨xs, m, _, ex, hl, hl2, hel⟩ := DataW.trod_array Tryd.underlying23 hf
  rw [cellsH] at hl
  obtain ⟨l, e1, e2, e3⟩ := bytes_of cs fun i hi => by
    have hE := hel i (by omega)
    rw [cellsU8, Nat.mul_one, List.getElem?_eq_getElem (by omega)] at hE
    obtain ⟨z, e1, e2, e3⟩ := DataW.trod_int Tryd.underlying5 hE
    obtain ⟨w1, w2⟩ := wf_u8 e3
    refine ⟨z, ?_, w1, w2⟩
    have h0 : ((cs.drop i).take 1)[0]? = some (.int .u8 z) := by rw [e1]; rfl
    simpa using h0
  exact ⟨⟨l, by rw [e2, hl], e3⟩, e1⟩
theorem list_of {α : Type} {Q : Nat → α → Prop} : ∀ n, (∀ i, i < n → ∃ p, Q i p) → ∃ l : List α, l.length = n ∧ ∀ i p, l[i]? = some p → Q i p
  | 0, _ => ⟨[], rfl, by simp⟩
  | n + 1, h => by
    obtain ⟨l, h1, h2⟩ := list_of n fun i hi => h i (by omega)
    obtain ⟨p, hp⟩ := h n (by omega)
    refine ⟨l ++ [p], by simp [h1], fun i q hq => ?_⟩
    rw [List.getElem?_append] at hq
    split at hq
    · exact h2 i q hq
    · rename_i hlt
      have : i - l.length = 0 := by
        have := (List.getElem?_eq_some_iff.1 hq).1
        simp at this; omega
      rw [this] at hq
      simp only [List.getElem?_cons_zero, Option.some.injEq] at hq
      subst hq
      have : i = n := by omega
      subst this; exact hp
theorem pcs_get {l : List (Hsh × Hsh)} {i : Nat} {x : Value} (h : (pcs l)[i]? = some x) : ∃ p, l[i / 64]? = some p ∧ (hC p.1 ++ hC p.2)[i % 64]? = some x := by
  have hi : i < l.length * 64 := by have := (List.getElem?_eq_some_iff.1 h).1; rwa [pcs_length] at this
  obtain ⟨p, hp⟩ : ∃ p, l[i / 64]? = some p := ⟨l[i / 64]'(by omega), List.getElem?_eq_getElem (by omega)⟩
  refine ⟨p, hp, ?_⟩
  have hl : (pcs (l.take (i / 64))).length = i / 64 * 64 := by rw [pcs_length, List.length_take]; congr 1; omega
  rw [pcs_cut hp, List.getElem?_append_right (by omega), hl, ← List.append_assoc, List.getElem?_append_left (by simp; omega)] at h
  rw [← h]; congr 1; omega
theorem add_none {a : Addr} (h : a.spot = none) (n : Nat) : a.add n = ⟨a.block, a.off + n, none⟩ := by
  obtain ⟨b, o, s⟩ := a
  simp only at h
  subst h
  unfold Addr.add
  split
  · rename_i e; subst e; rfl
  · rfl
/-- An argument that is a slice of pairs. -/
theorem open_pairs {H : Type} {enc : TypeId × Value → H} {W : World} {r : Reach} {b0 : Nat} {base : Nat} {sp : Nat → Bool} {held : Bool} {v : Value} {d : DataW H} {ps : List MemPlace} (hval : Value.okWide Tryd.prog W r b0 27 v) (hd : DataW.Trod enc Tryd.prog W base sp held 27 v d ps) :
    ∃ l : List (Hsh × Hsh), (v = .slice none 0 0 ∧ l = []) ∨ ∃ a c, v = .slice (some a) l.length c ∧ l.length ≤ c ∧ a.spot = none ∧ a.block < W.heap.size ∧ ∀ i x, (pcs l)[i]? = some x → W.cell? ⟨a.block, a.off + i, none⟩ = some x := by
  obtain ⟨fuel, hf⟩ := hd
  rcases DataW.trod_slice Tryd.underlying27 hf with ⟨h0, _⟩ | ⟨a, len, cap, elems, rest, n, _, hcs, _, hb, hl, _, hlen, hel, _, _⟩
  · refine ⟨[], .inl ⟨?_, rfl⟩⟩
    cases v <;> simp [Value.cells] at h0
    · obtain ⟨rfl, rfl, rfl⟩ := h0; rfl
    · simp [Value.okWide, Tryd.underlying27, Cell.okWide, Cell.ok] at hval
  · have hv : v = .slice (some a) len cap := by
      cases v <;> simp [Value.cells] at hcs
      · obtain ⟨rfl, rfl, rfl⟩ := hcs; rfl
      · simp [Value.okWide, Tryd.underlying27, Cell.okWide, Cell.ok] at hval
    subst hv
    simp only [Value.okWide, Tryd.underlying27, Cell.okWide, Cell.ok, World.has] at hval
    obtain ⟨_, _, _, hspot, row, cells, hshape, _⟩ := hval
    have hblk : a.block < W.heap.size := by
      rcases Nat.lt_or_ge a.block W.heap.size with h1 | h1
      · exact h1
      · simp [World.shape?, Array.getElem?_eq_none h1] at hshape
    obtain ⟨l, h1, h2⟩ := list_of (Q := fun i (p : Hsh × Hsh) => ∀ j, j < 64 → W.cell? ⟨a.block, a.off + (i * 64 + j), none⟩ = (hC p.1 ++ hC p.2)[j]?) len fun i hi => by
      have hE := hel i hi
      rw [cellsP, List.getElem?_eq_getElem (by omega), Option.bind_eq_some_iff] at hE
      obtain ⟨cs, hcs, ht⟩ := hE
      obtain ⟨_, hcl, hc⟩ := World.cells?_some hcs
      obtain ⟨xs, m, _, _, _, hxl, hfx⟩ := DataW.trod_struct Tryd.underlying35 ht
      have hxl2 : xs.length = 2 := hxl
      have f0 := hfx 0 _ rfl
      have f1 := hfx 1 _ rfl
      rw [List.getElem?_eq_getElem (by omega)] at f0 f1
      obtain ⟨k, ek⟩ := cells_hash f0
      obtain ⟨w, ew⟩ := cells_hash f1
      have ek2 : (cs.drop 0).take (Tryd.prog.cellsOf 23) = hC k := ek
      have ew2 : (cs.drop 32).take (Tryd.prog.cellsOf 23) = hC w := ew
      rw [cellsH] at ek2 ew2
      rw [List.drop_zero] at ek2
      refine ⟨(k, w), fun j hj => ?_⟩
      have e : cs = hC k ++ hC w := by
        rw [← ek2, ← ew2, List.take_of_length_le (l := cs.drop 32) (by rw [List.length_drop, hcl]; decide)]
        exact (List.take_append_drop 32 cs).symm
      rw [← e, ← hc j hj, add_none hspot, add_none rfl, ← Nat.add_assoc]
    refine ⟨l, .inr ⟨a, cap, by rw [h1], by omega, hspot, hblk, fun i x hx => ?_⟩⟩
    obtain ⟨p, hp, hx2⟩ := pcs_get hx
    have := h2 _ p hp (i % 64) (Nat.mod_lt _ (by decide))
    rw [hx2, show i / 64 * 64 + i % 64 = i by omega] at this
    exact this

def heapP (l : List (Hsh × Hsh)) : AHeap := ⟨heap0.objs ++ [.cells (pcs l) 35 false]⟩
def injP (a : Addr) : Inj := fun h => if h = 2 then some ⟨a.block, a.off, 0⟩ else inj0 h
theorem heapP_gl (l : List (Hsh × Hsh)) : Gl (heapP l) := ⟨⟨_, rfl⟩, ⟨_, rfl⟩⟩
theorem heapP_ro (l : List (Hsh × Hsh)) (h : Nat) : ((heapP l).get h).wlive = false := by
  rcases h with _ | _ | _ | h
  · rfl
  · rfl
  · rfl
  · rw [get_ge _ _ (by show 3 ≤ h + 3; omega)]; rfl
theorem plain_rel (β : Inj) {k : IntKind} (l : List Nat) (i : Nat) (v : Value) (hv : (ints k l)[i]? = some v) : VRel β v v := by
  rw [ints, List.getElem?_map] at hv
  simp only [Option.map_eq_some_iff] at hv
  obtain ⟨n, _, rfl⟩ := hv
  exact .int _ _
theorem pcs_rel (β : Inj) {l : List (Hsh × Hsh)} {i : Nat} {v : Value} (hv : (pcs l)[i]? = some v) : VRel β v v := by
  obtain ⟨p, _, h⟩ := pcs_get hv
  rw [List.getElem?_append] at h
  split at h
  · exact plain_rel β _ _ _ h
  · exact plain_rel β _ _ _ h
theorem heapP_rel {W : World} {a : Addr} {l : List (Hsh × Hsh)} (h : laidMetH Tryd.prog laidV W) (hb : a.block < W.heap.size) (hc : ∀ i x, (pcs l)[i]? = some x → W.cell? ⟨a.block, a.off + i, none⟩ = some x) : HRel Tryd.prog W.heap.size (injP a) (heapP l) W := by
  have r0 := heap0_rel h
  have cases : ∀ x m, injP a x = some m → (x = 2 ∧ m = ⟨a.block, a.off, 0⟩) ∨ (x < 2 ∧ inj0 x = some m) := by
    intro x m e
    unfold injP at e
    by_cases hx : x = 2
    · rw [if_pos hx] at e; exact .inl ⟨hx, (Option.some.inj e).symm⟩
    · rw [if_neg hx] at e
      refine .inr ⟨?_, e⟩
      unfold inj0 at e
      by_cases h0 : x = 0
      · omega
      · rw [if_neg h0] at e
        by_cases h1 : x = 1
        · omega
        · rw [if_neg h1] at e; cases e
  have low : ∀ x, x < 2 → (heapP l).get x = heap0.get x := by
    intro x hx
    match x, hx with
    | 0, _ | 1, _ => rfl
  have sub : Inj.Sub inj0 (injP a) := fun x m e => by
    unfold injP
    rw [if_neg (fun hx => by subst hx; simp [inj0] at e)]; exact e
  refine ⟨?_, ?_, ?_, ?_, ?_, ?_, Nat.le_refl _⟩
  · intro x m e
    rcases cases x m e with ⟨rfl, rfl⟩ | ⟨hx, e⟩
    · exact ⟨fun i v hv => ⟨v, hc i v hv, pcs_rel _ hv⟩, fun hw => by cases hw⟩
    · rw [low x hx]; exact .same sub rfl (r0.obj x m e)
  · intro x m e
    rcases cases x m e with ⟨rfl, rfl⟩ | ⟨_, e⟩
    · exact hb
    · exact r0.blk x m e
  · intro x y m k _ _ hw; rw [heapP_ro] at hw; cases hw
  · intro x m _ hw; rw [heapP_ro] at hw; cases hw
  · intro x m e
    rcases cases x m e with ⟨rfl, rfl⟩ | ⟨hx, _⟩
    · show 2 < 3; decide
    · show x < 3; omega
  · intro g hg
    obtain ⟨n, hn⟩ := r0.glob g hg
    exact ⟨n, sub _ _ hn⟩

/-- A law's walk, as the machine's call: its first argument a slice of pairs, the others without pointers. -/
theorem calls_of_walkP {f : FuncId} {xs : List Value} {W : World} {v : Value} {l : List (Hsh × Hsh)} (hL : laidMetH Tryd.prog laidV W) (hx : plainL xs = true)
    (hv : (v = .slice none 0 0 ∧ l = []) ∨ ∃ a c, v = .slice (some a) l.length c ∧ l.length ≤ c ∧ a.spot = none ∧ a.block < W.heap.size ∧ ∀ i x, (pcs l)[i]? = some x → W.cell? ⟨a.block, a.off + i, none⟩ = some x)
    (c : ∀ lv H, Gl H → PairsAt 35 H lv l → CallR Tryd.prog noPrims f (lv :: xs) H (fun u H' => u = .bool true ∧ Hp H 0 0 H' [] [])) :
    Calls Tryd.prog f ⟨v :: xs⟩ W fun e W' => e = .returned (.bool true) ∧ Below W.heap.size W W' := by
  rcases hv with ⟨rfl, rfl⟩ | ⟨⟨ab, ao, sp⟩, cap, rfl, hcap, hs, hb, hc⟩
  · obtain ⟨n, v, H', hcall, rfl, _⟩ := c (.slice none 0 0) heap0 heap0_gl (.inl ⟨rfl, rfl⟩)
    exact sim_true (call_sim mixed good noPrims_keep (noPrims_sim _ _) n) hcall (heap0_rel hL) heap0_ro (.cons .snil (LRel.of_plain hx))
  · simp only at hs
    subst hs
    obtain ⟨n, v, H', hcall, rfl, _⟩ := c (.slice (some ⟨2, 0, none⟩) l.length (l.length + 1)) (heapP l) (heapP_gl l) (.inr ⟨2, l.length + 1, false, rfl, rfl⟩)
    have hrel : VRel (injP ⟨ab, ao, none⟩) (.slice (some ⟨2, 0, none⟩) l.length (l.length + 1)) (.slice (some ⟨ab, ao, none⟩) l.length cap) :=
      .slice (l := ⟨ab, ao, 0⟩) rfl hcap (Nat.le_succ _) (fun h => by omega) (fun sz h => by omega)
    exact sim_true (call_sim mixed good noPrims_keep (noPrims_sim _ _) n) hcall (heapP_rel hL hb hc) (heapP_ro l) (.cons hrel (LRel.of_plain hx))
end Go.Proofs.YtiimllfpkcohkaaDoor

/- SmtOthers: a Put of one key leaves all others, and what is put last is told. -/
namespace Go.Proofs.YtiimllfpkcohkaaDoor
open Go Go.Am Go.ChangeShapes Go.WideShapes Go.RowKit
set_option maxRecDepth 100000

theorem smtOthers_lifted (os : Os) (started : os.Started) (H : Type) (enc : TypeId × Value → H) :
    ReturnsInHanded {} Tryd.checked os 5 .any (fun w args => (Rows.smtOthersSpec.pre enc Tryd.prog Tryd.f5 Rows.smtOthersRow.domain false w args ∧ laidMetH Tryd.prog laidV w) ∧ sizedMet enc Tryd.prog Tryd.f5 (OpenSpec.ofChange Rows.smtOthersSpec) false w args)
      (Rows.smtOthersSpec.post enc Tryd.prog Tryd.f5 false true false false) := by
  refine returnsInHanded_of_change_and (C := Tryd.checked) (X := fun w _ => laidMetH Tryd.prog laidV w) (fun _ _ _ hh h => h.of_heap hh) Tryd.own started (by kernel_rfl) Tryd.func5
    (ChangeSpec.witness_shaped (enc := enc) (C := Tryd.checked) (os := os) (X := fun w _ => laidMetH Tryd.prog laidV w) false (World.laidAll Tryd.prog os laidV) #[.slice none 0 0, hV zeroH, hV zeroH] 8 (World.laidAll_os _ _ _)
      (World.shaped_of_ZipB (by kernel_rfl) (by kernel_rfl)) (by kernel_rfl) (by kernel_rfl) (by kernel_rfl)
      (by rw [MakeChecks.laidMetH_plain _ _ _ (by kernel_rfl)]; exact laidMet_laidAll _ (by kernel_rfl) (by kernel_rfl))) ?_
  intro W base args ds gs before hval0 hW _ _ hL _
  have hval : ∀ (j : Nat) t v, Tryd.f5.params[j]? = some t → args[j]? = some v → Value.okWide Tryd.prog W .any base t v := hval0
  have hW' := hW
  obtain ⟨p, q, hA0, hV0, rfl, _, _⟩ := hW
  have hA : DataW.TrodAll enc Tryd.prog W 0 (fun _ => true) true Tryd.f5.params.toList args.toList ds p := hA0
  rw [Tryd.params5] at hA hval
  obtain ⟨v0, v1, v2, d0, d1, d2, p0, p1, p2, rfl, rfl, rfl, e0, e1, e2⟩ := trodAll_three hA
  obtain ⟨rfl, rfl⟩ := trodVars_none hV0
  have hlt := hA.lt
  obtain ⟨l, hl⟩ := open_pairs (hval 0 27 v0 rfl rfl) e0
  obtain ⟨a, rfl, rfl⟩ := open_hash (hval 1 23 v1 rfl rfl) e1
  obtain ⟨b, rfl, rfl⟩ := open_hash (hval 2 23 v2 rfl rfl) e2
  have hrun := calls_of_walkP (f := 5) (xs := [hV a, hV b]) hL (by simp [plainL, plain_hV]) hl (fun lv H g hp => c_SmtOthers knows_val l a b lv H g hp)
  refine hrun.mono fun e W' ⟨he, hb⟩ => ?_
  subst he
  refine ⟨_, rfl, _, _, _, [], p0 ++ ([] ++ []), [], hW', ?_, ?_, ?_, hb.frame _, fun h => by cases h⟩
  · exact trodAll_mk1 (shut_bool Tryd.underlying4 true)
  · exact trodAll_mk3 (Below.trod Tryd.laidOut (by kernel_rfl) (of_decide_eq_true (by kernel_rfl)) e0 hb (fun x hx => hlt x (by simp [hx]))) (Below.trod Tryd.laidOut (by kernel_rfl) (of_decide_eq_true (by kernel_rfl)) e1 hb (by simp)) (Below.trod Tryd.laidOut (by kernel_rfl) (of_decide_eq_true (by kernel_rfl)) e2 hb (by simp))
  · rfl

theorem smtOthers_holds : Rows.SmtOthersSaid :=
  OpenClaim.holds_of_wide 5 Tryd.f5 rfl rfl rfl rfl rfl rfl rfl ⟨rfl, rfl, rfl, rfl, rfl⟩ rfl rfl rfl rfl rfl (by kernel_rfl) Tryd.func5 (by kernel_rfl)
    (of_decide_eq_true (by kernel_rfl)) (by unfold Func.isWrapper; first | (rw [if_pos (by decide +kernel)]; kernel_rfl) | (rw [if_neg (by decide +kernel)]; exact ⟨rfl, rfl⟩))
    (fun os started H enc _ => smtOthers_lifted os started H enc)

theorem smtOthers_card : Rows.SmtOthersCardSaid :=
  Claim7.holds_tied_plain_at .later [] [.data, .data] true (true, "ac47a654e2f1c320af79ed81a84a162073c8af513ae0c75ff4a5ef174bfc12e1") false smtOthers_holds (fun _ h => by cases h) (by kernel_rfl) (fun _ h => by cases h) smtOthers_row_tie rfl ⟨rfl, rfl⟩ (by kernel_rfl) rfl
    (fun f fn hf hfn => by
      obtain rfl : f = 5 := Option.some.inj ((show Tryd.prog.funcNamed "bascule/basculelaw05.SmtOthers" = some 5 by kernel_rfl).symm.trans hf) |>.symm
      obtain rfl : fn = Tryd.f5 := (Option.some.inj (Tryd.func5.symm.trans hfn)).symm
      exact ⟨by kernel_rfl, fun j t ht => by
        rw [Tryd.params5] at ht
        have hm : t ∈ [27, 23, 23] := by simpa using Array.mem_of_getElem? ht
        have hall : ([27, 23, 23].all fun u => !Tryd.prog.wantsStandIn u) = true := by kernel_rfl
        exact (show Tryd.prog.wantsStandIn t = false by simpa using List.all_eq_true.1 hall t hm)⟩)
    (by kernel_rfl)
#print axioms smtOthers_card
end Go.Proofs.YtiimllfpkcohkaaDoor
