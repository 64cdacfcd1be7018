/- Walks: proofs. -/
import Derived.Test.YtmlofdgamdlcgaaDoorSy
import Derived.Test.YtmlofdgamdlcgaaDoorWalkC
import Derived.Test.YtmlofdgamdlcgaaDoorWalkB
set_option linter.unusedSimpArgs false
set_option linter.unusedVariables false
/- Layer 06: bits, rows of hashes, which proofs may be. -/
namespace Go.Proofs.YtmlofdgamdlcgaaDoor
open Go Go.Am
set_option maxRecDepth 100000
set_option linter.unusedVariables false

/-- Bits of a byte. -/
def popN (x : Nat) : Nat := (x >>> 7 &&& 1) + (x >>> 6 &&& 1) + (x >>> 5 &&& 1) + (x >>> 4 &&& 1) + (x >>> 3 &&& 1) + (x >>> 2 &&& 1) + (x >>> 1 &&& 1) + (x >>> 0 &&& 1)
theorem popN_le (x : Nat) : popN x ≤ 8 := by
  unfold popN
  have h : ∀ y, y &&& 1 ≤ 1 := fun y => Nat.and_le_right
  have := h (x >>> 7); have := h (x >>> 6); have := h (x >>> 5); have := h (x >>> 4); have := h (x >>> 3); have := h (x >>> 2); have := h (x >>> 1); have := h (x >>> 0)
  omega
theorem ix_str {t : TypeId} {s : ByteArray} {k2 : IntKind} {i : Nat} {y : Nat} (h : Tryd.prog.underlying t = some .string) (hi : (s.data.toList.map UInt8.toNat)[i]? = some y) : indexV Tryd.prog t (.string s) (.int k2 (i : Int)) = some (.int .u8 ((y : Nat) : Int)) := by
  have e : (s[i]?).map (fun b : UInt8 => (b.toNat : Nat)) = some y := by
    rw [List.getElem?_map] at hi
    rw [← hi]
    show Option.map (fun b : UInt8 => (b.toNat : Nat)) s.data[i]? = _
    rw [← Array.getElem?_toList]
  unfold indexV
  rw [h]
  simp only [Int.natCast_nonneg, ge_iff_le, if_true, Int.toNat_natCast]
  cases hs : s[i]? with
  | none => rw [hs] at e; simp at e
  | some b => rw [hs] at e; simp only [Option.map_some, Option.some.injEq] at e; rw [Option.map_some, e]
def popT : ByteArray := ⟨#[0, 1, 1, 2, 1, 2, 2, 3, 1, 2, 2, 3, 2, 3, 3, 4, 1, 2, 2, 3, 2, 3, 3, 4, 2, 3, 3, 4, 3, 4, 4, 5, 1, 2, 2, 3, 2, 3, 3, 4, 2, 3, 3, 4, 3, 4, 4, 5, 2, 3, 3, 4, 3, 4, 4, 5, 3, 4, 4, 5, 4, 5, 5, 6, 1, 2, 2, 3, 2, 3, 3, 4, 2, 3, 3, 4, 3, 4, 4, 5, 2, 3, 3, 4, 3, 4, 4, 5, 3, 4, 4, 5, 4, 5, 5, 6, 2, 3, 3, 4, 3, 4, 4, 5, 3, 4, 4, 5, 4, 5, 5, 6, 3, 4, 4, 5, 4, 5, 5, 6, 4, 5, 5, 6, 5, 6, 6, 7, 1, 2, 2, 3, 2, 3, 3, 4, 2, 3, 3, 4, 3, 4, 4, 5, 2, 3, 3, 4, 3, 4, 4, 5, 3, 4, 4, 5, 4, 5, 5, 6, 2, 3, 3, 4, 3, 4, 4, 5, 3, 4, 4, 5, 4, 5, 5, 6, 3, 4, 4, 5, 4, 5, 5, 6, 4, 5, 5, 6, 5, 6, 6, 7, 2, 3, 3, 4, 3, 4, 4, 5, 3, 4, 4, 5, 4, 5, 5, 6, 3, 4, 4, 5, 4, 5, 5, 6, 4, 5, 5, 6, 5, 6, 6, 7, 3, 4, 4, 5, 4, 5, 5, 6, 4, 5, 5, 6, 5, 6, 6, 7, 4, 5, 5, 6, 5, 6, 6, 7, 5, 6, 6, 7, 6, 7, 7, 8]⟩
theorem pop_all : ∀ i : Fin 256, (popT.data.toList.map UInt8.toNat)[i.1]? = some (popN i.1) := by decide +kernel
theorem pop_tab (x : Nat) (hx : x < 256) : (popT.data.toList.map UInt8.toNat)[x]? = some (popN x) := pop_all ⟨x, hx⟩
theorem c_pop (x : Nat) (hx : x < 256) (H : AHeap) : CallR Tryd.prog noPrims 34 [.int .u8 ((x : Nat) : Int)] H (fun u H' => u = .int .i64 ((popN x : Nat) : Int) ∧ Hp H 0 0 H' [] []) := by
  have hp := popN_le x
  refine CallR.sy (n := 6) Tryd.func34 rfl rfl rfl ?_
  repeat' (first
    | (with_reducible refine Sy.seq ?_)
    | (with_reducible refine Sy.regionL ?_)
    | (with_reducible refine Sy.opsnil ?_)
    | (with_reducible refine Sy.go ?_)
    | (with_reducible refine Sy.nrm ?_)
    | ((with_reducible apply Sy.assign); (case hd => exact rfl); (case hx => exact rfl))
    | ((with_reducible apply Sy.move); (case hd => exact rfl); (case hx => exact rfl))
    | ((with_reducible apply Sy.conv (D := 0) (T := .bool)); (case hd => exact rfl); (case hs => exact Tryd.underlying5); (case hu => exact Tryd.underlying3); (case hx => exact rfl); (case hz => exact (wrap_i64 (by omega))))
    | ((with_reducible apply Sy.ix (t := 9)); (case hd => exact rfl); (case hx => exact rfl); (case hy => exact rfl); (case hv => exact ix_str (s := popT) (y := popN x) Tryd.underlying9 (pop_tab x hx)))
    | (with_reducible refine Sy.ret ?_))
  exact .fin [_] (.inr rfl) ⟨rfl, trivial⟩ fun H' hp => ⟨rfl, hp⟩

/-- Hashes, one behind the other. -/
def hcs (l : List Hsh) : List Value := (l.map hC).flatten
theorem hcs_length (l : List Hsh) : (hcs l).length = l.length * 32 := by
  induction l with
  | nil => rfl
  | cons a l ih => simp only [hcs, List.map_cons, List.flatten_cons, List.length_append, hC_length, List.length_cons] at ih ⊢; rw [ih]; omega
theorem hcs_append (a b : List Hsh) : hcs (a ++ b) = hcs a ++ hcs b := by simp [hcs]
theorem hcs_cut {l : List Hsh} {i : Nat} {h : Hsh} (e : l[i]? = some h) : hcs l = hcs (l.take i) ++ (hC h ++ hcs (l.drop (i + 1))) := by
  obtain ⟨hi, e1⟩ := List.getElem?_eq_some_iff.1 e
  have e2 : l = l.take i ++ (h :: l.drop (i + 1)) := by rw [← e1, ← List.drop_eq_getElem_cons hi, List.take_append_drop]
  conv => lhs; rw [e2]
  rw [hcs_append]
  simp [hcs]
theorem hcs_k {l : List Hsh} {i o T : Nat} {h : Hsh} {w : Bool} (e : l[i]? = some h) (ho : o = i * 32) : aLoad Tryd.prog 23 (.cells (hcs l) T w) o = some (hV h) := by
  obtain ⟨hi, _⟩ := List.getElem?_eq_some_iff.1 e
  refine ld_agg (cs' := hC h) ag23 sz23 (by rw [hcs_length]; omega) ?_
  have hl : (hcs (l.take i)).length = i * 32 := by rw [hcs_length, List.length_take]; congr 1; omega
  rw [hcs_cut e, ho, ← hl, List.drop_left, ← hC_length h, List.take_left]
/-- A slice of hashes, read. -/
def HsAt (H : AHeap) (v : Value) (l : List Hsh) : Prop := ∃ a c, v = .slice a l.length c ∧ (l = [] ∨ ∃ b T w, a = some ⟨b, 0, none⟩ ∧ H.get b = .cells (hcs l) T w)
theorem HsAt.of {H H1 : AHeap} {lo hi : Nat} {Mn : Hm} {v : Value} {l : List Hsh} (h : HsAt H v l) (hp : Hp H lo hi H1 [] Mn) : HsAt H1 v l := by
  obtain ⟨a, c, e, h⟩ := h
  refine ⟨a, c, e, h.imp id ?_⟩
  rintro ⟨b, T, w, e1, e2⟩
  exact ⟨b, T, w, e1, hp.get0 e2 rfl (by simp)⟩

theorem c_Index (v : Value) (l : List Hsh) (z : Hsh) (H : AHeap) (hl : HsAt H v l) (hn : l.length ≤ 4398046511104) : CallR Tryd.prog noPrims 47 [v, hV z] H (fun u H' => ∃ i : Int, (0 ≤ i ↔ z ∈ l) ∧ u = .int .i64 i ∧ Hp H 0 0 H' [] []) := by
  obtain ⟨a, c, rfl, hl⟩ := hl
  refine CallR.sy (n := 19) Tryd.func47 rfl rfl rfl ?_
  repeat' (first
    | (with_reducible refine Sy.seq ?_)
    | (with_reducible refine Sy.regionL ?_)
    | (with_reducible refine Sy.opsnil ?_)
    | (with_reducible refine Sy.go ?_)
    | (with_reducible refine Sy.nrm ?_)
    | ((with_reducible apply Sy.assign); (case hd => exact rfl); (case hx => exact rfl))
    | ((with_reducible apply Sy.move); (case hd => exact rfl); (case hx => exact rfl))
    | ((with_reducible apply Sy.lenS); (case hd => exact rfl); (case ht => exact Tryd.underlying24); (case hx => exact rfl))
    | ((with_reducible apply Sy.newY (o := ⟨some 3, .box 23 _, _, _, _, _⟩)); (case ho => exact rfl); (case hd => exact rfl); (case hc => exact (nbH rfl)); intro q3)
    | (with_reducible refine Sy.block ?_))
  refine Sy.loop (ι := Nat) (fun i => l.length - i) (fun i => [(0, .slice a l.length c), (3, .pointer (some ⟨q3, 0, none⟩)), (7, .int .i64 (l.length : Nat)), (8, .int .i64 (i : Nat))]) (fun _ => []) (fun _ => [(q3, .cells (hC z) 23 true)]) (fun i => i ≤ l.length ∧ z ∉ l.take i) 0 ⟨Nat.zero_le _, by simp⟩ ⟨rfl, rfl, rfl, rfl, trivial⟩ (fun H h => h) ?_
  rintro i ⟨hi, hz⟩
  by_cases hlt : i < l.length
  · obtain ⟨h, hh⟩ : ∃ h, l[i]? = some h := ⟨l[i], List.getElem?_eq_getElem hlt⟩
    rcases hl with rfl | ⟨b, T, w, rfl, hb⟩
    · simp at hlt
    have hbn : b < H.next := get_live_lt (by rw [hb]; rfl)
    repeat' (first
    | (with_reducible refine Sy.seq ?_)
    | (with_reducible refine Sy.regionL ?_)
    | (with_reducible refine Sy.opsnil ?_)
    | (with_reducible refine Sy.go ?_)
    | (with_reducible refine Sy.nrm ?_)
    | ((with_reducible apply Sy.assign); (case hd => exact rfl); (case hx => exact rfl))
    | ((with_reducible apply Sy.move); (case hd => exact rfl); (case hx => exact rfl))
    | ((with_reducible apply Sy.bin (op := .lss) (t := 3)); (case hd => exact rfl); (case hx => exact rfl); (case hy => exact rfl); (case hv => exact b_lss))
    | ((with_reducible apply Sy.ldN (t := 23)); (case hd => exact rfl); (case hx => exact rfl); (case hm => repeat (first | exact Has.here | apply Has.there)); (case hv => first | exact ld_hV ag23 sz23))
    | ((with_reducible apply Sy.ia (t := 24)); (case hd => exact rfl); (case hx => exact rfl); (case hy => exact rfl); (case hv => exact (ia_sl Tryd.underlying24 sz23 (by omega))))
    | ((with_reducible apply Sy.bin (op := .eql) (t := 23)); (case hd => exact rfl); (case hx => exact rfl); (case hy => exact rfl); (case hv => exact (eq23)))
    | ((with_reducible apply Sy.bin (op := .add) (t := 3)); (case hd => exact rfl); (case hx => exact rfl); (case hy => exact rfl); (case hv => exact (b_add (by omega))))
    | (with_reducible refine Sy.ld0 (t := 23) rfl rfl hb rfl (by simp only [List.forall_mem_cons, List.not_mem_nil, false_implies, implies_true, and_true, ne_eq]; first | done | omega | (repeat (first | with_reducible assumption | (refine And.intro ?_ ?_)))) (hcs_k hh (by omega)) ?_)
    | (with_reducible refine Sy.skip ?_)
    | (with_reducible refine Sy.ret ?_)
    | (with_reducible refine Sy.block ?_)
    | (with_reducible refine Sy.aret ?_)
    | (with_reducible refine Sy.inrm ?_)
    | (with_reducible refine Sy.iret ?_)
    | (with_reducible refine Sy.rret ?_)
    | ((with_reducible apply Sy.drawL (id := 4) 6 [] (fun hi h => h < hi)); (case hp => kernel_rfl); (case hN => exact rfl); intro base hbase hM; try simp only [List.forall_mem_cons, List.forall_mem_append, List.not_mem_nil, false_implies, implies_true, and_true] at hM)
    | (with_reducible refine Sy.dend ?_)
    | ((with_reducible apply Sy.dgo); (case hw => first | exact wantY_none); (case hc => intro hcls; cases hcls); (case h1 => exact rfl); (case h2 => exact rfl))
    | ((with_reducible apply Sy.ite); (case hx => exact rfl); all_goals (intro hc; try (exfalso; omega))))
    · exact .fin [.int .i64 ((i : Nat) : Int)] (.inr rfl) ⟨rfl, trivial⟩ fun H' hp => ⟨((i : Nat) : Int), ⟨fun _ => by rw [hc]; exact List.mem_of_getElem? hh, fun _ => by omega⟩, rfl, hp.less (List.nil_sublist _)⟩
    · refine Sy.rnrm (i + 1) ⟨by omega, ?_⟩ (by omega) ⟨rfl, rfl, rfl, rfl, trivial⟩ (fun H h => h)
      rw [List.take_add_one, hh]
      simp only [Option.toList_some, List.mem_append, List.mem_singleton, not_or]
      exact ⟨hz, hc⟩
  · rw [List.take_of_length_le (by omega)] at hz
    repeat' (first
    | (with_reducible refine Sy.seq ?_)
    | (with_reducible refine Sy.regionL ?_)
    | (with_reducible refine Sy.opsnil ?_)
    | (with_reducible refine Sy.go ?_)
    | (with_reducible refine Sy.nrm ?_)
    | ((with_reducible apply Sy.assign); (case hd => exact rfl); (case hx => exact rfl))
    | ((with_reducible apply Sy.bin (op := .lss) (t := 3)); (case hd => exact rfl); (case hx => exact rfl); (case hy => exact rfl); (case hv => exact b_lss))
    | (with_reducible refine Sy.exit ?_)
    | (with_reducible refine Sy.ret ?_)
    | (with_reducible refine Sy.aex ?_)
    | ((with_reducible apply Sy.iex); (case hi' => exact rfl))
    | (with_reducible refine Sy.rex ?_)
    | ((with_reducible apply Sy.ite); (case hx => exact rfl); all_goals (intro hc; try (exfalso; omega))))
    exact .fin [.int .i64 (-1)] (.inr rfl) ⟨rfl, trivial⟩ fun H' hp => ⟨-1, ⟨fun h => absurd h (by decide), fun h => absurd h hz⟩, rfl, hp.less (List.nil_sublist _)⟩
theorem c_Contains (v : Value) (l : List Hsh) (z : Hsh) (H : AHeap) (hl : HsAt H v l) (hn : l.length ≤ 4398046511104) : CallR Tryd.prog noPrims 35 [v, hV z] H (fun u H' => u = .bool (decide (z ∈ l)) ∧ Hp H 0 0 H' [] []) := by
  refine CallR.sy (n := 9) Tryd.func35 rfl rfl rfl ?_
  repeat' (first
    | (with_reducible refine Sy.seq ?_)
    | (with_reducible refine Sy.regionL ?_)
    | (with_reducible refine Sy.opsnil ?_)
    | (with_reducible refine Sy.go ?_)
    | (with_reducible refine Sy.nrm ?_)
    | ((with_reducible apply Sy.assign); (case hd => exact rfl); (case hx => exact rfl))
    | ((with_reducible apply Sy.move); (case hd => exact rfl); (case hx => exact rfl))
    | ((with_reducible apply Sy.ldN (t := 23)); (case hd => exact rfl); (case hx => exact rfl); (case hm => repeat (first | exact Has.here)); (case hv => first | exact ld_hV ag23 sz23))
    | ((with_reducible apply Sy.bin (op := .geq) (t := 3)); (case hd => exact rfl); (case hx => exact rfl); (case hy => exact rfl); (case hv => exact bz_geq))
    | ((with_reducible apply Sy.callN (k := 47)); (case hd => exact rfl); (case hf => exact rfl); (case hen => exact en47); (case hx => exact rfl); (case hc => intro H' hp; exact c_Index v l z H' (hl.of hp) hn); rintro i hi)
    | ((with_reducible apply Sy.newY (o := ⟨some 3, .box 23 _, _, _, _, _⟩)); (case ho => exact rfl); (case hd => exact rfl); (case hc => exact (nbH rfl)); intro q3)
    | (with_reducible refine Sy.ret ?_))
  refine .fin [_] (.inr rfl) ⟨rfl, trivial⟩ fun H' hp => ⟨congrArg Value.bool ?_, hp.less (List.nil_sublist _)⟩
  rw [decide_eq_decide]
  exact hi

/-- A proof's value. -/
def prV (mask : Hsh) (v : Value) : Value := .agg ⟨hC mask ++ [v]⟩
def popTo (m : Hsh) : Nat → Nat
  | 0 => 0
  | i + 1 => popTo m i + popN (m.at i)
theorem popTo_le (m : Hsh) : ∀ i, popTo m i ≤ 8 * i
  | 0 => Nat.le_refl _
  | i + 1 => by have := popTo_le m i; have := popN_le (m.at i); simp only [popTo]; omega
def rightB (m : Hsh) (l : List Hsh) : Bool := decide (popTo m 32 = l.length) && !decide (zeroH ∈ l)
theorem ldS {m : Hsh} {v : Value} {T : Nat} {w : Bool} : aLoad Tryd.prog 24 (.cells (hC m ++ [v]) T w) (0 + 32) = some v := ld_one ag24 (by simp [List.getElem?_append])
theorem c_Right (mask : Hsh) (v : Value) (l : List Hsh) (H : AHeap) (hl : HsAt H v l) (hn : l.length ≤ 4398046511104) : CallR Tryd.prog noPrims 12 [prV mask v] H (fun u H' => u = .bool (rightB mask l) ∧ Hp H 0 0 H' [] []) := by
  obtain ⟨a, c, rfl, hl0⟩ := hl
  have hl : HsAt H (.slice a l.length c) l := ⟨a, c, rfl, hl0⟩
  unfold prV
  refine CallR.sy (n := 28) Tryd.func12 rfl rfl rfl ?_
  repeat' (first
    | (with_reducible refine Sy.seq ?_)
    | (with_reducible refine Sy.regionL ?_)
    | (with_reducible refine Sy.opsnil ?_)
    | (with_reducible refine Sy.go ?_)
    | (with_reducible refine Sy.nrm ?_)
    | ((with_reducible apply Sy.assign); (case hd => exact rfl); (case hx => exact rfl))
    | ((with_reducible apply Sy.fa (t := 27) (i := 0)); (case hd => exact rfl); (case hx => exact rfl); (case hv => exact (fa27_0 _ _)))
    | ((with_reducible apply Sy.ldN (t := 23)); (case hd => exact rfl); (case hx => exact rfl); (case hm => repeat (first | exact Has.here)); (case hv => first | exact ld_agg (cs' := hC _) ag23 sz23 (by simp; done) (by first | exact cut_here (by simp; done))))
    | ((with_reducible apply Sy.move); (case hd => exact rfl); (case hx => exact rfl))
    | ((with_reducible apply Sy.newY (o := ⟨some 1, .box 27 _, _, _, _, _⟩)); (case ho => exact rfl); (case hd => exact rfl); (case hc => exact (nbA rfl)); intro q1)
    | (with_reducible refine Sy.block ?_))
  refine Sy.loop (ι := Nat) (fun i => 32 - i) (fun i => [(1, .pointer (some ⟨q1, 0, none⟩)), (3, .int .i64 ((popTo mask i : Nat) : Int)), (7, hV mask), (8, .int .i64 (i : Nat))]) (fun _ => []) (fun _ => [(q1, .cells (hC mask ++ [.slice a l.length c]) 27 true)]) (fun i => i ≤ 32) 0 (Nat.zero_le _) ⟨rfl, rfl, rfl, rfl, trivial⟩ (fun H h => h) ?_
  intro i hi
  have hpt := popTo_le mask i
  have hpn := popN_le (mask.at i)
  by_cases hlt : i < 32
  · repeat' (first
    | (with_reducible refine Sy.seq ?_)
    | (with_reducible refine Sy.regionL ?_)
    | (with_reducible refine Sy.opsnil ?_)
    | (with_reducible refine Sy.go ?_)
    | (with_reducible refine Sy.nrm ?_)
    | ((with_reducible apply Sy.assign); (case hd => exact rfl); (case hx => exact rfl))
    | ((with_reducible apply Sy.move); (case hd => exact rfl); (case hx => exact rfl))
    | ((with_reducible apply Sy.bin (op := .lss) (t := 3)); (case hd => exact rfl); (case hx => exact rfl); (case hy => exact rfl); (case hv => exact b_lss))
    | ((with_reducible apply Sy.ix (t := 23)); (case hd => exact rfl); (case hx => exact rfl); (case hy => exact rfl); (case hv => exact (ix_hash Tryd.underlying23 sz5 ag5 (by omega))))
    | ((with_reducible apply Sy.bin (op := .add) (t := 3)); (case hd => exact rfl); (case hx => exact rfl); (case hy => exact rfl); (case hv => exact (b_add (by omega))))
    | ((with_reducible apply Sy.call0 (k := 34)); (case hd => exact rfl); (case hf => exact rfl); (case hen => exact en34); (case hx => exact rfl); (case hc => intro H' hp; exact c_pop _ (mask.at_lt i) H'))
    | (with_reducible refine Sy.skip ?_)
    | (with_reducible refine Sy.block ?_)
    | (with_reducible refine Sy.inrm ?_)
    | ((with_reducible apply Sy.ite); (case hx => exact rfl); all_goals (intro hc; try (exfalso; omega))))
    exact Sy.rnrm (i + 1) (by omega) (by omega) ⟨rfl, rfl, rfl, rfl, trivial⟩ (fun H h => h)
  · obtain rfl : i = 32 := by omega
    repeat' (first
    | (with_reducible refine Sy.seq ?_)
    | (with_reducible refine Sy.regionL ?_)
    | (with_reducible refine Sy.opsnil ?_)
    | (with_reducible refine Sy.go ?_)
    | (with_reducible refine Sy.nrm ?_)
    | ((with_reducible refine Sy.ldN (t := 24) rfl rfl (by repeat (first | exact Has.here | apply Has.there | apply Has.app)) ldS ?_))
    | ((with_reducible refine Sy.build (t := 23) (ps := #[]) rfl rfl bvZ ?_))
    | ((with_reducible apply Sy.assign); (case hd => exact rfl); (case hx => exact rfl))
    | ((with_reducible apply Sy.move); (case hd => exact rfl); (case hx => exact rfl))
    | ((with_reducible apply Sy.bin (op := .lss) (t := 3)); (case hd => exact rfl); (case hx => exact rfl); (case hy => exact rfl); (case hv => exact b_lss))
    | ((with_reducible apply Sy.fa (t := 27) (i := 1)); (case hd => exact rfl); (case hx => exact rfl); (case hv => exact (fa27_1 _ _)))
    | ((with_reducible apply Sy.lenS); (case hd => exact rfl); (case ht => exact Tryd.underlying24); (case hx => exact rfl))
    | ((with_reducible apply Sy.bin (op := .eql) (t := 3)); (case hd => exact rfl); (case hx => exact rfl); (case hy => exact rfl); (case hv => exact b_eql))
    | ((with_reducible apply Sy.un (op := .not)); (case hd => exact rfl); (case hx => exact rfl); (case hv => exact un_notD))
    | ((with_reducible apply Sy.pickT); (case hd => exact rfl); (case hx => exact rfl); (case hy => exact rfl))
    | ((with_reducible apply Sy.pickF); (case hd => exact rfl); (case hx => exact rfl); (case hy => exact rfl))
    | ((with_reducible apply Sy.call0 (k := 35)); (case hd => exact rfl); (case hf => exact rfl); (case hen => exact en35); (case hx => exact rfl); (case hc => intro H' hp; exact c_Contains _ l zeroH H' (hl.of hp) hn))
    | (with_reducible refine Sy.exit ?_)
    | (with_reducible refine Sy.ret ?_)
    | (with_reducible refine Sy.aex ?_)
    | ((with_reducible apply Sy.iex); (case hi' => exact rfl))
    | (with_reducible refine Sy.rex ?_)
    | ((with_reducible apply Sy.no); (case hx => exact rfl))
    | ((with_reducible apply Sy.goG); (case hj => exact rfl); (case ht => exact rfl); (case hb => exact rfl))
    | ((with_reducible apply Sy.noG); (case hj => exact rfl); (case ht => exact rfl); (case hb => exact rfl); (case hc => exact rfl); (case hd => exact rfl))
    | ((with_reducible apply Sy.caseG); (case hj => exact rfl); (case hx => exact rfl); all_goals (intro hc; try (exfalso; omega))))
    · refine .fin [_] (.inr rfl) ⟨rfl, trivial⟩ fun H' hp => ⟨congrArg Value.bool ?_, hp.less (List.nil_sublist _)⟩
      simp [rightB, hc]
    · refine .fin [_] (.inr rfl) ⟨rfl, trivial⟩ fun H' hp => ⟨congrArg Value.bool ?_, hp.less (List.nil_sublist _)⟩
      simp [rightB, hc]
end Go.Proofs.YtmlofdgamdlcgaaDoor

/- Layer 06: the reference's bits; the root behind a proof. -/
namespace Go.Proofs.YtmlofdgamdlcgaaDoor
open Go Go.Am
set_option maxRecDepth 100000
set_option linter.unusedVariables false

def bitTo (m : Hsh) : Nat → Nat
  | 0 => 0
  | i + 1 => bitTo m i + bitOf m i
theorem bit_le (m : Hsh) (i : Nat) : bitOf m i ≤ 1 := Nat.and_le_right
theorem bitTo_le (m : Hsh) : ∀ i, bitTo m i ≤ i
  | 0 => Nat.le_refl _
  | i + 1 => by have := bitTo_le m i; have := bit_le m i; simp only [bitTo]; omega
theorem bitTo_pop (m : Hsh) : ∀ j, bitTo m (8 * j) = popTo m j
  | 0 => rfl
  | j + 1 => by
    have e : ∀ c, c < 8 → bitOf m (8 * j + c) = m.at j >>> (7 - c) &&& 1 := fun c hc => by
      unfold bitOf; rw [show (8 * j + c) / 8 = j by omega, show (8 * j + c) % 8 = c by omega]
    have e0 := e 0 (by decide)
    rw [Nat.add_zero] at e0
    rw [show 8 * (j + 1) = 8 * j + 7 + 1 by omega]
    simp only [bitTo, popTo, popN, bitTo_pop m j, e0, e 1 (by decide), e 2 (by decide), e 3 (by decide), e 4 (by decide), e 5 (by decide), e 6 (by decide), e 7 (by decide)]
    simp only [Nat.reduceSub]
    omega
theorem bitTo_mono (m : Hsh) {i j : Nat} (h : i ≤ j) : bitTo m i ≤ bitTo m j := by
  induction h with
  | refl => exact Nat.le_refl _
  | step _ ih => simp only [bitTo]; omega
theorem c_Bit (h : Hsh) (n : Nat) (hn : n < 256) (H : AHeap) :
    CallR Tryd.prog noPrims 32 [hV h, .int .i64 n] H (fun v H' => v = .int .i64 ((bitOf h n : Nat) : Int) ∧ Hp H 0 0 H' [] []) := by
  have h1 := h.at_lt (n / 8)
  have h2 : h.at (n / 8) >>> (7 - n % 8) < 256 := shr_lt h1
  have e : bitOf h n = (h.at (n / 8) >>> (7 - n % 8)) % 2 := Nat.and_one_is_mod _
  rw [e]
  refine CallR.sy (n := 16) Tryd.func32 rfl rfl rfl ?_
  repeat' (first
    | (with_reducible refine Sy.seq ?_)
    | (with_reducible refine Sy.regionL ?_)
    | (with_reducible refine Sy.opsnil ?_)
    | (with_reducible refine Sy.go ?_)
    | (with_reducible refine Sy.nrm ?_)
    | ((with_reducible apply Sy.assign); (case hd => exact rfl); (case hx => exact rfl))
    | ((with_reducible apply Sy.move); (case hd => exact rfl); (case hx => exact rfl))
    | ((with_reducible apply Sy.bin (op := .quo) (t := 3)); (case hd => exact rfl); (case hx => exact rfl); (case hy => exact rfl); (case hv => exact (b_quo (by omega) (by omega))))
    | ((with_reducible apply Sy.ia (t := 23)); (case hd => exact rfl); (case hx => exact rfl); (case hy => exact rfl); (case hv => exact (ia_ar10 Tryd.underlying23 sz5 (by omega))))
    | ((with_reducible apply Sy.ldN (t := 5)); (case hd => exact rfl); (case hx => exact rfl); (case hm => repeat (first | exact Has.here)); (case hv => first | ((with_reducible refine ld_hash ag5 ?_); omega)))
    | ((with_reducible apply Sy.bin (op := .rem) (t := 3)); (case hd => exact rfl); (case hx => exact rfl); (case hy => exact rfl); (case hv => exact (b_rem (by omega))))
    | ((with_reducible apply Sy.bin (op := .sub) (t := 3)); (case hd => exact rfl); (case hx => exact rfl); (case hy => exact rfl); (case hv => exact (b_sub (by omega) (by omega))))
    | ((with_reducible apply Sy.conv (D := 0) (T := .bool)); (case hd => exact rfl); (case hs => exact Tryd.underlying3); (case hu => exact Tryd.underlying89); (case hx => exact rfl); (case hz => exact (wrap_u64x (by omega))))
    | ((with_reducible apply Sy.bin (op := .shr) (t := 5)); (case hd => exact rfl); (case hx => exact rfl); (case hy => exact rfl); (case hv => exact (b_shr8 (by omega))))
    | ((with_reducible apply Sy.conv (D := 0) (T := .bool)); (case hd => exact rfl); (case hs => exact Tryd.underlying5); (case hu => exact Tryd.underlying3); (case hx => exact rfl); (case hz => exact (wrap_i64 (by omega))))
    | ((with_reducible apply Sy.newY (o := ⟨some 2, .box 23 _, _, _, _, _⟩)); (case ho => exact rfl); (case hd => exact rfl); (case hc => exact (nbH rfl)); intro q2)
    | (with_reducible refine Sy.ret ?_))
  exact .fin [_] (.inr rfl) ⟨rfl, trivial⟩ fun H' hp => ⟨rfl, hp.less (List.nil_sublist _)⟩
theorem c_pbit (h : Hsh) (n : Nat) (hn : n < 256) (H : AHeap) :
    CallR Tryd.prog noPrims 29 [hV h, .int .i64 n] H (fun v H' => v = .bool (decide (bitOf h n = 1)) ∧ Hp H 0 0 H' [] []) := by
  have h1 := h.at_lt (n / 8)
  have h2 : h.at (n / 8) >>> (7 - n % 8) < 256 := shr_lt h1
  have h3 := and1_lt (h.at (n / 8) >>> (7 - n % 8))
  refine CallR.sy (n := 15) Tryd.func29 rfl rfl rfl ?_
  repeat' (first
    | (with_reducible refine Sy.seq ?_)
    | (with_reducible refine Sy.regionL ?_)
    | (with_reducible refine Sy.opsnil ?_)
    | (with_reducible refine Sy.go ?_)
    | (with_reducible refine Sy.nrm ?_)
    | ((with_reducible apply Sy.assign); (case hd => exact rfl); (case hx => exact rfl))
    | ((with_reducible apply Sy.move); (case hd => exact rfl); (case hx => exact rfl))
    | ((with_reducible apply Sy.bin (op := .quo) (t := 3)); (case hd => exact rfl); (case hx => exact rfl); (case hy => exact rfl); (case hv => exact (b_quo (by omega) (by omega))))
    | ((with_reducible apply Sy.ia (t := 23)); (case hd => exact rfl); (case hx => exact rfl); (case hy => exact rfl); (case hv => exact (ia_ar10 Tryd.underlying23 sz5 (by omega))))
    | ((with_reducible apply Sy.ldN (t := 5)); (case hd => exact rfl); (case hx => exact rfl); (case hm => repeat (first | exact Has.here)); (case hv => first | ((with_reducible refine ld_hash ag5 ?_); omega)))
    | ((with_reducible apply Sy.bin (op := .rem) (t := 3)); (case hd => exact rfl); (case hx => exact rfl); (case hy => exact rfl); (case hv => exact (b_rem (by omega))))
    | ((with_reducible apply Sy.bin (op := .sub) (t := 3)); (case hd => exact rfl); (case hx => exact rfl); (case hy => exact rfl); (case hv => exact (b_sub (by omega) (by omega))))
    | ((with_reducible apply Sy.bin (op := .shr) (t := 5)); (case hd => exact rfl); (case hx => exact rfl); (case hy => exact rfl); (case hv => exact (b_shr8 (by omega))))
    | ((with_reducible apply Sy.bin (op := .and) (t := 5)); (case hd => exact rfl); (case hx => exact rfl); (case hy => exact rfl); (case hv => exact (u8_and (by first | with_reducible assumption) (by first | omega))))
    | ((with_reducible apply Sy.bin (op := .eql) (t := 5)); (case hd => exact rfl); (case hx => exact rfl); (case hy => exact rfl); (case hv => exact b_eql))
    | ((with_reducible apply Sy.newY (o := ⟨some 2, .box 23 _, _, _, _, _⟩)); (case ho => exact rfl); (case hd => exact rfl); (case hc => exact (nbH rfl)); intro q2)
    | (with_reducible refine Sy.ret ?_))
  exact .fin [_] (.inr rfl) ⟨rfl, trivial⟩ fun H' hp => ⟨rfl, hp.less (List.nil_sublist _)⟩
theorem ldSr {m : Hsh} {v : Value} {T : Nat} {w : Bool} : aLoad Tryd.prog 24 (.cells (hC m ++ [v]) T w) (0 + 32) = some v := ldS
theorem c_rRight (mask : Hsh) (v : Value) (l : List Hsh) (H : AHeap) (hl : HsAt H v l) (hn : l.length ≤ 4398046511104) : CallR Tryd.prog noPrims 13 [prV mask v] H (fun u H' => u = .bool (rightB mask l) ∧ Hp H 0 0 H' [] []) := by
  obtain ⟨a, c, rfl, hl0⟩ := hl
  unfold prV
  refine CallR.sy (n := 33) Tryd.func13 rfl rfl rfl ?_
  repeat' (first
    | (with_reducible refine Sy.seq ?_)
    | (with_reducible refine Sy.regionL ?_)
    | (with_reducible refine Sy.opsnil ?_)
    | (with_reducible refine Sy.go ?_)
    | (with_reducible refine Sy.nrm ?_)
    | ((with_reducible apply Sy.assign); (case hd => exact rfl); (case hx => exact rfl))
    | ((with_reducible apply Sy.newY (o := ⟨some 1, .box 26 _, _, _, _, _⟩)); (case ho => exact rfl); (case hd => exact rfl); (case hc => exact (nbA rfl)); intro q1)
    | (with_reducible refine Sy.block ?_))
  refine Sy.loop (ι := Nat) (fun i => 256 - i) (fun i => [(1, .pointer (some ⟨q1, 0, none⟩)), (3, .int .i64 ((bitTo mask i : Nat) : Int)), (4, .int .i64 (i : Nat))]) (fun _ => []) (fun _ => [(q1, .cells (hC mask ++ [.slice a l.length c]) 26 true)]) (fun i => i ≤ 256) 0 (Nat.zero_le _) ⟨rfl, rfl, rfl, trivial⟩ (fun H h => h) ?_
  intro i hi
  have hpt := bitTo_le mask i
  have hpn := bit_le mask i
  by_cases hlt : i < 256
  · repeat' (first
    | (with_reducible refine Sy.seq ?_)
    | (with_reducible refine Sy.regionL ?_)
    | (with_reducible refine Sy.opsnil ?_)
    | (with_reducible refine Sy.go ?_)
    | (with_reducible refine Sy.nrm ?_)
    | ((with_reducible apply Sy.assign); (case hd => exact rfl); (case hx => exact rfl))
    | ((with_reducible apply Sy.move); (case hd => exact rfl); (case hx => exact rfl))
    | ((with_reducible apply Sy.bin (op := .lss) (t := 3)); (case hd => exact rfl); (case hx => exact rfl); (case hy => exact rfl); (case hv => exact b_lss))
    | ((with_reducible apply Sy.fa (t := 26) (i := 0)); (case hd => exact rfl); (case hx => exact rfl); (case hv => exact (fa26_0 _ _)))
    | ((with_reducible apply Sy.ldN (t := 23)); (case hd => exact rfl); (case hx => exact rfl); (case hm => repeat (first | exact Has.here)); (case hv => first | exact ld_agg (cs' := hC _) ag23 sz23 (by simp; done) (by first | exact cut_here (by simp; done))))
    | ((with_reducible apply Sy.bin (op := .add) (t := 3)); (case hd => exact rfl); (case hx => exact rfl); (case hy => exact rfl); (case hv => exact (b_add (by omega))))
    | ((with_reducible apply Sy.call0 (k := 32)); (case hd => exact rfl); (case hf => exact rfl); (case hen => exact en32); (case hx => exact rfl); (case hc => intro H' hp; exact c_Bit mask _ hlt H'))
    | (with_reducible refine Sy.skip ?_)
    | (with_reducible refine Sy.block ?_)
    | (with_reducible refine Sy.inrm ?_)
    | ((with_reducible apply Sy.ite); (case hx => exact rfl); all_goals (intro hc; try (exfalso; omega))))
    exact Sy.rnrm (i + 1) (by omega) (by omega) ⟨rfl, rfl, rfl, trivial⟩ (fun H h => h)
  · obtain rfl : i = 256 := by omega
    have hpop : bitTo mask 256 = popTo mask 32 := bitTo_pop mask 32
    repeat' (first
    | (with_reducible refine Sy.seq ?_)
    | (with_reducible refine Sy.regionL ?_)
    | (with_reducible refine Sy.opsnil ?_)
    | (with_reducible refine Sy.go ?_)
    | (with_reducible refine Sy.nrm ?_)
    | ((with_reducible refine Sy.ldN (t := 24) rfl rfl (by repeat (first | exact Has.here | apply Has.there | apply Has.app)) ldS ?_))
    | ((with_reducible apply Sy.assign); (case hd => exact rfl); (case hx => exact rfl))
    | ((with_reducible apply Sy.move); (case hd => exact rfl); (case hx => exact rfl))
    | ((with_reducible apply Sy.bin (op := .lss) (t := 3)); (case hd => exact rfl); (case hx => exact rfl); (case hy => exact rfl); (case hv => exact b_lss))
    | ((with_reducible apply Sy.fa (t := 26) (i := 1)); (case hd => exact rfl); (case hx => exact rfl); (case hv => exact (fa26_1 _ _)))
    | ((with_reducible apply Sy.lenS); (case hd => exact rfl); (case ht => exact Tryd.underlying24); (case hx => exact rfl))
    | ((with_reducible apply Sy.bin (op := .neq) (t := 3)); (case hd => exact rfl); (case hx => exact rfl); (case hy => exact rfl); (case hv => exact b_neq))
    | (with_reducible refine Sy.skip ?_)
    | (with_reducible refine Sy.exit ?_)
    | (with_reducible refine Sy.ret ?_)
    | (with_reducible refine Sy.block ?_)
    | (with_reducible refine Sy.aex ?_)
    | (with_reducible refine Sy.aret ?_)
    | ((with_reducible apply Sy.iex); (case hi' => exact rfl))
    | (with_reducible refine Sy.rex ?_)
    | ((with_reducible apply Sy.no); (case hx => exact rfl))
    | ((with_reducible apply Sy.ite); (case hx => exact rfl); all_goals (intro hc; try (exfalso; omega))))
    · refine .fin [_] (.inr rfl) ⟨rfl, trivial⟩ fun H' hp => ⟨congrArg Value.bool ?_, hp.less (List.nil_sublist _)⟩
      simp only [rightB]; rw [hpop] at hc; simp [hc]
    refine Sy.loop (ι := Nat) (fun i => l.length - i) (fun i => [(1, .pointer (some ⟨q1, 0, none⟩)), (3, .int .i64 ((bitTo mask 256 : Nat) : Int)), (5, .int .i64 (i : Nat))]) (fun _ => []) (fun _ => [(q1, .cells (hC mask ++ [.slice a l.length c]) 26 true)]) (fun i => i ≤ l.length ∧ zeroH ∉ l.take i) 0 ⟨Nat.zero_le _, by simp⟩ ⟨rfl, rfl, rfl, trivial⟩ (fun H h => h) ?_
    rintro i ⟨hi, hz⟩
    have hlen : bitTo mask 256 = l.length := by omega
    rw [hlen]
    by_cases hlt2 : i < l.length
    · obtain ⟨h, hh⟩ : ∃ h, l[i]? = some h := ⟨l[i], List.getElem?_eq_getElem hlt2⟩
      rcases hl0 with rfl | ⟨b, T, w, rfl, hb⟩
      · simp at hlt2
      repeat' (first
    | (with_reducible refine Sy.seq ?_)
    | (with_reducible refine Sy.regionL ?_)
    | (with_reducible refine Sy.opsnil ?_)
    | (with_reducible refine Sy.go ?_)
    | (with_reducible refine Sy.nrm ?_)
    | ((with_reducible refine Sy.ldN (t := 24) rfl rfl (by repeat (first | exact Has.here | apply Has.there | apply Has.app)) ldS ?_))
    | ((with_reducible refine Sy.build (t := 23) (ps := #[]) rfl rfl bvZ ?_))
    | ((with_reducible apply Sy.assign); (case hd => exact rfl); (case hx => exact rfl))
    | ((with_reducible apply Sy.move); (case hd => exact rfl); (case hx => exact rfl))
    | ((with_reducible apply Sy.bin (op := .lss) (t := 3)); (case hd => exact rfl); (case hx => exact rfl); (case hy => exact rfl); (case hv => exact b_lss))
    | ((with_reducible apply Sy.bin (op := .add) (t := 3)); (case hd => exact rfl); (case hx => exact rfl); (case hy => exact rfl); (case hv => exact (b_add (by omega))))
    | ((with_reducible apply Sy.fa (t := 26) (i := 1)); (case hd => exact rfl); (case hx => exact rfl); (case hv => exact (fa26_1 _ _)))
    | ((with_reducible apply Sy.ia (t := 24)); (case hd => exact rfl); (case hx => exact rfl); (case hy => exact rfl); (case hv => exact (ia_sl Tryd.underlying24 sz23 (by omega))))
    | ((with_reducible apply Sy.bin (op := .eql) (t := 23)); (case hd => exact rfl); (case hx => exact rfl); (case hy => exact rfl); (case hv => exact (eq23)))
    | (with_reducible refine Sy.ld0 (t := 23) rfl rfl hb rfl (by simp only [List.forall_mem_cons, List.not_mem_nil, false_implies, implies_true, and_true, ne_eq]; first | done | omega | (repeat (first | with_reducible assumption | (refine And.intro ?_ ?_)))) (hcs_k hh (by omega)) ?_)
    | (with_reducible refine Sy.skip ?_)
    | (with_reducible refine Sy.ret ?_)
    | (with_reducible refine Sy.block ?_)
    | (with_reducible refine Sy.aret ?_)
    | (with_reducible refine Sy.inrm ?_)
    | (with_reducible refine Sy.iret ?_)
    | (with_reducible refine Sy.rret ?_)
    | ((with_reducible apply Sy.ite); (case hx => exact rfl); all_goals (intro hc; try (exfalso; omega))))
      · refine .fin [_] (.inr rfl) ⟨rfl, trivial⟩ fun H' hp => ⟨congrArg Value.bool ?_, hp.less (List.nil_sublist _)⟩
        have hm : zeroH ∈ l := by rw [← hc]; exact List.mem_of_getElem? hh
        simp [rightB, hm]
      · refine Sy.rnrm (i + 1) ⟨by omega, ?_⟩ (by omega) ⟨rfl, rfl, rfl, trivial⟩ (fun H h => h)
        rw [List.take_add_one, hh]
        simp only [Option.toList_some, List.mem_append, List.mem_singleton, not_or]
        exact ⟨hz, fun e => hc e.symm⟩
    · rw [List.take_of_length_le (by omega)] at hz
      repeat' (first
    | (with_reducible refine Sy.seq ?_)
    | (with_reducible refine Sy.regionL ?_)
    | (with_reducible refine Sy.opsnil ?_)
    | (with_reducible refine Sy.go ?_)
    | (with_reducible refine Sy.nrm ?_)
    | ((with_reducible apply Sy.assign); (case hd => exact rfl); (case hx => exact rfl))
    | ((with_reducible apply Sy.move); (case hd => exact rfl); (case hx => exact rfl))
    | ((with_reducible apply Sy.bin (op := .lss) (t := 3)); (case hd => exact rfl); (case hx => exact rfl); (case hy => exact rfl); (case hv => exact b_lss))
    | (with_reducible refine Sy.exit ?_)
    | (with_reducible refine Sy.ret ?_)
    | (with_reducible refine Sy.aex ?_)
    | ((with_reducible apply Sy.iex); (case hi' => exact rfl))
    | (with_reducible refine Sy.rex ?_)
    | ((with_reducible apply Sy.ite); (case hx => exact rfl); all_goals (intro hc; try (exfalso; omega))))
      refine .fin [_] (.inr rfl) ⟨rfl, trivial⟩ fun H' hp => ⟨congrArg Value.bool ?_, hp.less (List.nil_sublist _)⟩
      have : popTo mask 32 = l.length := by omega
      simp [rightB, hz, this]

/-- The root behind a proof: i bits from the leaf up. -/
def sideH (mask : Hsh) (l : List Hsh) (d : Nat) : Hsh := if bitOf mask d = 1 then l.getD (bitTo mask d) zeroH else zeroH
def rootH (key mask : Hsh) (l : List Hsh) (h0 : Hsh) : Nat → Hsh
  | 0 => h0
  | i + 1 => if bitOf key (255 - i) = 1 then aboveH (sideH mask l (255 - i)) (rootH key mask l h0 i) else aboveH (rootH key mask l h0 i) (sideH mask l (255 - i))
def rootV (key v mask : Hsh) (l : List Hsh) : Hsh × Nat := if rightB mask l = true then (rootH key mask l (leafH key v) 256, 0) else (zeroH, 21)
theorem right_len {mask : Hsh} {l : List Hsh} (h : rightB mask l = true) : bitTo mask 256 = l.length := by
  unfold rightB at h
  simp only [Bool.and_eq_true, decide_eq_true_eq] at h
  rw [← h.1]; exact bitTo_pop mask 32

theorem rootH_step {key mask : Hsh} {l : List Hsh} {h0 : Hsh} {e : Nat} (he : e < 256) : rootH key mask l h0 (256 - e) = if bitOf key e = 1 then aboveH (sideH mask l e) (rootH key mask l h0 (256 - (e + 1))) else aboveH (rootH key mask l h0 (256 - (e + 1))) (sideH mask l e) := by
  rw [show 256 - e = (256 - (e + 1)) + 1 by omega, rootH, show 255 - (256 - (e + 1)) = e by omega]
theorem c_pbit1 (h : Hsh) (n : Nat) (b : Bool) (hb : decide (bitOf h n = 1) = b) (hn : n < 256) (H : AHeap) : CallR Tryd.prog noPrims 29 [hV h, .int .i64 n] H (fun v H' => v = .bool b ∧ Hp H 0 0 H' [] []) := by
  subst hb; exact c_pbit h n hn H
set_option maxHeartbeats 4000000 in
theorem c_Root (key v mask : Hsh) (sv : Value) (l : List Hsh) (H : AHeap) (g : Gl H) (hl : HsAt H sv l) (hn : l.length ≤ 4398046511104) : CallR Tryd.prog noPrims 8 [hV key, hV v, prV mask sv] H (fun u H' => u = .tuple ⟨[hV (rootV key v mask l).1, .int .i64 (((rootV key v mask l).2 : Nat) : Int)]⟩ ∧ Hp H 0 0 H' [] []) := by
  obtain ⟨a, c, rfl, hl0⟩ := hl
  have hl : HsAt H (.slice a l.length c) l := ⟨a, c, rfl, hl0⟩
  have epr : prV mask (.slice a l.length c) = .agg ⟨hC mask ++ [.slice a l.length c]⟩ := rfl
  rw [epr]
  refine CallR.sy (n := 50) Tryd.func8 rfl rfl rfl ?_
  repeat' (first
    | (with_reducible refine Sy.seq ?_)
    | (with_reducible refine Sy.regionL ?_)
    | (with_reducible refine Sy.opsnil ?_)
    | (with_reducible refine Sy.go ?_)
    | (with_reducible refine Sy.nrm ?_)
    | ((with_reducible refine Sy.build (t := 23) (ps := #[]) rfl rfl bvZ ?_))
    | ((with_reducible refine Sy.ldN (t := 24) rfl rfl (by repeat (first | exact Has.here | apply Has.there | apply Has.app)) ldS ?_))
    | ((with_reducible apply Sy.drawL (id := 3) 8 [(4, 2), (4, 6)] (fun hi h => h = q5)); (case hp => kernel_rfl); (case hN => exact rfl); intro base hbase hM)
    | ((with_reducible apply Sy.assign); (case hd => exact rfl); (case hx => exact rfl))
    | ((with_reducible apply Sy.ldN (t := 27)); (case hd => exact rfl); (case hx => exact rfl); (case hm => repeat (first | exact Has.here | apply Has.there)); (case hv => first | exact ld_all ag27 (by first | (simp [sz27, *]; done))))
    | ((with_reducible apply Sy.un (op := .not)); (case hd => exact rfl); (case hx => exact rfl); (case hv => exact un_not))
    | ((with_reducible apply Sy.stNa (t := 23)); (case hx => exact rfl); (case hy => exact rfl); (case hs => exact sz23); (case hl => first | exact hC_length _); (case h1 => first | exact hC_one _); (case hm => repeat (first | exact Turn.here)); (case hle => first | (simp; done)); (case hc => first | exact lay_all (by first | (simp; done))))
    | ((with_reducible apply Sy.ldN (t := 23)); (case hd => exact rfl); (case hx => exact rfl); (case hm => repeat (first | exact Has.here | apply Has.there)); (case hv => first | exact ld_hV ag23 sz23))
    | ((with_reducible apply Sy.fa (t := 27) (i := 1)); (case hd => exact rfl); (case hx => exact rfl); (case hv => exact (fa27_1 _ _)))
    | ((with_reducible apply Sy.call0 (k := 12)); (case hd => exact rfl); (case hf => exact rfl); (case hen => exact en12); (case hx => exact rfl); (case hc => intro H' hp; exact c_Right mask _ l H' (hl.of hp) hn))
    | ((with_reducible apply Sy.call0 (k := 28)); (case hd => exact rfl); (case hf => exact rfl); (case hen => exact en28); (case hx => exact rfl); (case hc => intro H' hp; exact c_Leaf key v H' (g.of hp (by simp))))
    | ((with_reducible apply Sy.dwr (SK := [(q5, .cells (hC mask ++ [.slice a l.length c]) 27 true)])); (case hw => first | exact wantY_none); (case hc => intro hcls; cases hcls); (case h1 => exact rfl); (case hS => intro h hh; subst hh; exact ⟨_, List.mem_singleton.2 rfl⟩); (case hk => exact .consN (by repeat (first | exact Has.here | apply Has.there | apply Has.app)) .nil))
    | ((with_reducible apply Sy.dand); (case hk => exact .consN (by repeat (first | exact Has.here | apply Has.there | apply Has.app)) .nil))
    | ((with_reducible apply Sy.newY (o := ⟨some 3, .box 23 _, _, _, _, _⟩)); (case ho => exact rfl); (case hd => exact rfl); (case hc => exact (nbH rfl)); intro q3)
    | ((with_reducible apply Sy.newY (o := ⟨some 4, .box 23 _, _, _, _, _⟩)); (case ho => exact rfl); (case hd => exact rfl); (case hc => exact (nbH rfl)); intro q4)
    | ((with_reducible apply Sy.newY (o := ⟨some 5, .box 27 _, _, _, _, _⟩)); (case ho => exact rfl); (case hd => exact rfl); (case hc => exact (nbA rfl)); intro q5)
    | ((with_reducible apply Sy.newY (o := ⟨some 6, .alloc 23, _, _, _, _⟩)); (case ho => exact rfl); (case hd => exact rfl); (case hc => exact (nwz23)); intro q6)
    | ((with_reducible apply Sy.dnew (o := ⟨some 8, .alloc 23, _, _, _, _⟩)); (case hw => first | exact wantY_none); (case ho => exact rfl); (case hd => exact rfl); (case hi1 => exact rfl); (case h1 => exact rfl); (case h2 => exact rfl); (case hc => exact (nwz23)); intro q8 hq8)
    | (with_reducible refine Sy.skip ?_)
    | (with_reducible refine Sy.ret ?_)
    | (with_reducible refine Sy.label ?_)
    | (with_reducible refine Sy.block ?_)
    | (with_reducible refine Sy.scope ?_)
    | (with_reducible refine Sy.aret ?_)
    | (with_reducible refine Sy.sret ?_)
    | (with_reducible refine Sy.dend ?_)
    | ((with_reducible apply Sy.dld); (case hw => first | exact wantY_none); (case hx => exact rfl); (case hb => omega); (case h2 => exact rfl))
    | ((with_reducible apply Sy.iteB); (case hx => exact rfl); all_goals intro hc))
  · refine .fin [_, _] (.inr rfl) ⟨⟨q6, 0, _, rfl, (by repeat (first | exact Has.here | apply Has.there | apply Has.app)), ld_hV ag23 sz23⟩, rfl, trivial⟩ fun H' hp => ⟨?_, hp.less (List.nil_sublist _)⟩
    have : ¬ rightB mask l = true := by simpa using hc
    rw [rootV, if_neg this]; rfl
  have hr : rightB mask l = true := by simpa using hc
  have hlen := right_len hr
  have hv : rootV key v mask l = (rootH key mask l (leafH key v) 256, 0) := by rw [rootV, if_pos hr]
  rw [hv]
  generalize leafH key v = h0
  refine Sy.loop (ι := Nat × Nat) (fun d => d.1) (fun d => [(3, .pointer (some ⟨q3, 0, none⟩)), (5, .pointer (some ⟨q5, 0, none⟩)), (6, .pointer (some ⟨q6, 0, none⟩)), (8, .pointer (some ⟨q8, 0, none⟩)), (9, .slice a (bitTo mask d.1) d.2), (10, .int .i64 (d.1 : Nat))]) (fun _ => [])
    (fun d => [(q8, .cells (hC (rootH key mask l h0 (256 - d.1))) 23 true), (q6, .cells (hC zeroH) 23 true), (q5, .cells (hC mask ++ [.slice a l.length c]) 27 true), (q3, .cells (hC key) 23 true)]) (fun d => d.1 ≤ 256) (256, c) (Nat.le_refl _) ⟨rfl, rfl, rfl, rfl, by rw [hlen]; rfl, rfl, trivial⟩ (fun H h => h.less (.cons_cons _ (.cons_cons _ (.cons_cons _ (.cons _ (.refl _)))))) ?_
  rintro ⟨d, cp⟩ hd
  dsimp only at hd ⊢
  by_cases h0d : d = 0
  · subst h0d
    repeat' (first
    | (with_reducible refine Sy.seq ?_)
    | (with_reducible refine Sy.regionL ?_)
    | (with_reducible refine Sy.opsnil ?_)
    | (with_reducible refine Sy.go ?_)
    | (with_reducible refine Sy.nrm ?_)
    | ((with_reducible apply Sy.assign); (case hd => exact rfl); (case hx => exact rfl))
    | ((with_reducible apply Sy.stNa (t := 23)); (case hx => exact rfl); (case hy => exact rfl); (case hs => exact sz23); (case hl => first | exact hC_length _); (case h1 => first | exact hC_one _); (case hm => repeat (first | exact Turn.here | apply Turn.there)); (case hle => first | (simp; done)); (case hc => first | exact lay_all (by first | (simp; done))))
    | ((with_reducible apply Sy.ldN (t := 23)); (case hd => exact rfl); (case hx => exact rfl); (case hm => repeat (first | exact Has.here)); (case hv => first | exact ld_hV ag23 sz23))
    | ((with_reducible apply Sy.move); (case hd => exact rfl); (case hx => exact rfl))
    | ((with_reducible apply Sy.bin (op := .gtr) (t := 3)); (case hd => exact rfl); (case hx => exact rfl); (case hy => exact rfl); (case hv => exact b_gtr))
    | (with_reducible refine Sy.exit ?_)
    | (with_reducible refine Sy.ret ?_)
    | (with_reducible refine Sy.aex ?_)
    | ((with_reducible apply Sy.iex); (case hi' => exact rfl))
    | (with_reducible refine Sy.sret ?_)
    | (with_reducible refine Sy.rex ?_)
    | ((with_reducible apply Sy.no); (case hx => exact rfl)))
    exact .fin [_, _] (.inr rfl) ⟨⟨q6, 0, _, rfl, (by repeat (first | exact Has.here | apply Has.there | apply Has.app)), ld_hV ag23 sz23⟩, rfl, trivial⟩ fun H' hp => ⟨rfl, hp.less (List.nil_sublist _)⟩
  · obtain ⟨e, rfl⟩ : ∃ e, d = e + 1 := ⟨d - 1, by omega⟩
    have hbe := bit_le mask e
    have hbk := bit_le key e
    have hs : bitTo mask (e + 1) = bitTo mask e + bitOf mask e := rfl
    have hm := bitTo_mono mask (i := e + 1) (j := 256) (by omega)
    have hstep := rootH_step (key := key) (mask := mask) (l := l) (h0 := h0) (e := e) (by omega)
    rw [hs] at hm ⊢
    by_cases hb1 : bitOf mask e = 1
    · obtain ⟨x, hx⟩ : ∃ x, l[bitTo mask e]? = some x := ⟨l[bitTo mask e]'(by omega), List.getElem?_eq_getElem (by omega)⟩
      have hside : sideH mask l e = x := by rw [sideH, if_pos hb1]; simp [List.getD, hx]
      rw [hside] at hstep
      rcases hl0 with rfl | ⟨b, T, w, rfl, hb⟩
      · simp at hx
      rw [hb1] at hm ⊢
      by_cases hk1 : bitOf key e = 1
      · rw [if_pos hk1] at hstep
        repeat' (first
    | (with_reducible refine Sy.seq ?_)
    | (with_reducible refine Sy.regionL ?_)
    | (with_reducible refine Sy.opsnil ?_)
    | (with_reducible refine Sy.go ?_)
    | (with_reducible refine Sy.nrm ?_)
    | ((with_reducible apply Sy.assign); (case hd => exact rfl); (case hx => exact rfl))
    | ((with_reducible apply Sy.stNa (t := 23)); (case hx => exact rfl); (case hy => exact rfl); (case hs => exact sz23); (case hl => first | exact hC_length _); (case h1 => first | exact hC_one _); (case hm => repeat (first | exact Turn.here | apply Turn.there)); (case hle => first | (simp; done)); (case hc => first | exact lay_all (by first | (simp; done))))
    | ((with_reducible apply Sy.ldN (t := 23)); (case hd => exact rfl); (case hx => exact rfl); (case hm => repeat (first | exact Has.here | apply Has.there)); (case hv => first | exact ld_hV ag23 sz23 | exact ld_agg (cs' := hC _) ag23 sz23 (by simp; done) (by first | exact cut_here (by simp; done))))
    | ((with_reducible apply Sy.move); (case hd => exact rfl); (case hx => exact rfl))
    | ((with_reducible apply Sy.bin (op := .gtr) (t := 3)); (case hd => exact rfl); (case hx => exact rfl); (case hy => exact rfl); (case hv => exact b_gtr))
    | ((with_reducible apply Sy.bin (op := .sub) (t := 3)); (case hd => exact rfl); (case hx => exact rfl); (case hy => exact rfl); (case hv => exact (b_sub (by omega) (by omega))))
    | ((with_reducible apply Sy.fa (t := 27) (i := 0)); (case hd => exact rfl); (case hx => exact rfl); (case hv => exact (fa27_0 _ _)))
    | ((with_reducible apply Sy.lenS); (case hd => exact rfl); (case ht => exact Tryd.underlying24); (case hx => exact rfl))
    | ((with_reducible apply Sy.ia (t := 24)); (case hd => exact rfl); (case hx => exact rfl); (case hy => exact rfl); (case hv => exact (ia_sl Tryd.underlying24 sz23 (by omega))))
    | ((with_reducible apply Sy.sl (t := 24)); (case hd => exact rfl); (case hx => exact rfl); (case hl => exact rfl); (case hu => exact rfl); (case hm => exact rfl); (case hv => exact (sl_to Tryd.underlying24 sz23 (by omega))))
    | ((with_reducible apply Sy.call0 (k := 29)); (case hd => exact rfl); (case hf => exact rfl); (case hen => exact en29); (case hx => exact rfl); (case hc => intro H' hp; exact c_pbit1 mask e true (by simp [hb1]) (by omega) H'))
    | ((with_reducible apply Sy.call0 (k := 29)); (case hd => exact rfl); (case hf => exact rfl); (case hen => exact en29); (case hx => exact rfl); (case hc => intro H' hp; exact c_pbit1 key e true (by simp [hk1]) (by omega) H'))
    | (with_reducible refine Sy.ld0 (t := 23) rfl rfl hb rfl (by simp only [List.forall_mem_cons, List.not_mem_nil, false_implies, implies_true, and_true, ne_eq]; first | done | omega | (repeat (first | with_reducible assumption | (refine And.intro ?_ ?_)))) (hcs_k hx (by omega)) ?_)
    | ((with_reducible apply Sy.call0 (k := 30)); (case hd => exact rfl); (case hf => exact rfl); (case hen => exact en30); (case hx => exact rfl); (case hc => intro H' hp; exact c_Above _ _ H' (g.of hp (by simp))))
    | ((with_reducible apply Sy.newY (o := ⟨some 11, .alloc 23, _, _, _, _⟩)); (case ho => exact rfl); (case hd => exact rfl); (case hc => exact (nwz23)); intro q11)
    | (with_reducible refine Sy.skip ?_)
    | (with_reducible refine Sy.exit ?_)
    | (with_reducible refine Sy.block ?_)
    | (with_reducible refine Sy.aex ?_)
    | ((with_reducible apply Sy.iex); (case hi' => exact rfl))
    | ((with_reducible apply Sy.drawL (id := 10) 9 [] (fun hi h => h < hi)); (case hp => kernel_rfl); (case hN => exact rfl); intro base hbase hM; try simp only [List.forall_mem_cons, List.forall_mem_append, List.not_mem_nil, false_implies, implies_true, and_true] at hM)
    | ((with_reducible apply Sy.yes); (case hx => exact rfl))
    | (with_reducible refine Sy.dend ?_)
    | ((with_reducible apply Sy.dgo); (case hw => first | exact wantY_none); (case hc => intro hcls; cases hcls); (case h1 => exact rfl); (case h2 => exact rfl)))
        refine Sy.rnrm (e, _) (by dsimp only; omega) (by dsimp only; omega) ⟨rfl, rfl, rfl, rfl, rfl, rfl, trivial⟩ (fun H1 h => ?_)
        dsimp only
        rw [hstep]
        exact h.less (.cons _ (.refl _))
      · rw [if_neg hk1] at hstep
        repeat' (first
    | (with_reducible refine Sy.seq ?_)
    | (with_reducible refine Sy.regionL ?_)
    | (with_reducible refine Sy.opsnil ?_)
    | (with_reducible refine Sy.go ?_)
    | (with_reducible refine Sy.nrm ?_)
    | ((with_reducible apply Sy.assign); (case hd => exact rfl); (case hx => exact rfl))
    | ((with_reducible apply Sy.stNa (t := 23)); (case hx => exact rfl); (case hy => exact rfl); (case hs => exact sz23); (case hl => first | exact hC_length _); (case h1 => first | exact hC_one _); (case hm => repeat (first | exact Turn.here | apply Turn.there)); (case hle => first | (simp; done)); (case hc => first | exact lay_all (by first | (simp; done))))
    | ((with_reducible apply Sy.ldN (t := 23)); (case hd => exact rfl); (case hx => exact rfl); (case hm => repeat (first | exact Has.here | apply Has.there)); (case hv => first | exact ld_hV ag23 sz23 | exact ld_agg (cs' := hC _) ag23 sz23 (by simp; done) (by first | exact cut_here (by simp; done))))
    | ((with_reducible apply Sy.move); (case hd => exact rfl); (case hx => exact rfl))
    | ((with_reducible apply Sy.bin (op := .gtr) (t := 3)); (case hd => exact rfl); (case hx => exact rfl); (case hy => exact rfl); (case hv => exact b_gtr))
    | ((with_reducible apply Sy.bin (op := .sub) (t := 3)); (case hd => exact rfl); (case hx => exact rfl); (case hy => exact rfl); (case hv => exact (b_sub (by omega) (by omega))))
    | ((with_reducible apply Sy.fa (t := 27) (i := 0)); (case hd => exact rfl); (case hx => exact rfl); (case hv => exact (fa27_0 _ _)))
    | ((with_reducible apply Sy.lenS); (case hd => exact rfl); (case ht => exact Tryd.underlying24); (case hx => exact rfl))
    | ((with_reducible apply Sy.ia (t := 24)); (case hd => exact rfl); (case hx => exact rfl); (case hy => exact rfl); (case hv => exact (ia_sl Tryd.underlying24 sz23 (by omega))))
    | ((with_reducible apply Sy.sl (t := 24)); (case hd => exact rfl); (case hx => exact rfl); (case hl => exact rfl); (case hu => exact rfl); (case hm => exact rfl); (case hv => exact (sl_to Tryd.underlying24 sz23 (by omega))))
    | ((with_reducible apply Sy.call0 (k := 29)); (case hd => exact rfl); (case hf => exact rfl); (case hen => exact en29); (case hx => exact rfl); (case hc => intro H' hp; exact c_pbit1 mask e true (by simp [hb1]) (by omega) H'))
    | ((with_reducible apply Sy.call0 (k := 29)); (case hd => exact rfl); (case hf => exact rfl); (case hen => exact en29); (case hx => exact rfl); (case hc => intro H' hp; exact c_pbit1 key e false (by simp [hk1]) (by omega) H'))
    | (with_reducible refine Sy.ld0 (t := 23) rfl rfl hb rfl (by simp only [List.forall_mem_cons, List.not_mem_nil, false_implies, implies_true, and_true, ne_eq]; first | done | omega | (repeat (first | with_reducible assumption | (refine And.intro ?_ ?_)))) (hcs_k hx (by omega)) ?_)
    | ((with_reducible apply Sy.call0 (k := 30)); (case hd => exact rfl); (case hf => exact rfl); (case hen => exact en30); (case hx => exact rfl); (case hc => intro H' hp; exact c_Above _ _ H' (g.of hp (by simp))))
    | ((with_reducible apply Sy.newY (o := ⟨some 11, .alloc 23, _, _, _, _⟩)); (case ho => exact rfl); (case hd => exact rfl); (case hc => exact (nwz23)); intro q11)
    | (with_reducible refine Sy.skip ?_)
    | (with_reducible refine Sy.block ?_)
    | (with_reducible refine Sy.inrm ?_)
    | ((with_reducible apply Sy.drawL (id := 10) 9 [] (fun hi h => h < hi)); (case hp => kernel_rfl); (case hN => exact rfl); intro base hbase hM; try simp only [List.forall_mem_cons, List.forall_mem_append, List.not_mem_nil, false_implies, implies_true, and_true] at hM)
    | ((with_reducible apply Sy.yes); (case hx => exact rfl))
    | ((with_reducible apply Sy.no); (case hx => exact rfl))
    | (with_reducible refine Sy.dend ?_)
    | ((with_reducible apply Sy.dgo); (case hw => first | exact wantY_none); (case hc => intro hcls; cases hcls); (case h1 => exact rfl); (case h2 => exact rfl)))
        refine Sy.rnrm (e, _) (by dsimp only; omega) (by dsimp only; omega) ⟨rfl, rfl, rfl, rfl, rfl, rfl, trivial⟩ (fun H1 h => ?_)
        dsimp only
        rw [hstep]
        exact h.less (.cons _ (.refl _))
    · have hside : sideH mask l e = zeroH := by rw [sideH, if_neg hb1]
      rw [hside] at hstep
      have hb0 : bitOf mask e = 0 := by omega
      rw [hb0, Nat.add_zero] at hm ⊢
      by_cases hk1 : bitOf key e = 1
      · rw [if_pos hk1] at hstep
        repeat' (first
    | (with_reducible refine Sy.seq ?_)
    | (with_reducible refine Sy.regionL ?_)
    | (with_reducible refine Sy.opsnil ?_)
    | (with_reducible refine Sy.go ?_)
    | (with_reducible refine Sy.nrm ?_)
    | ((with_reducible apply Sy.assign); (case hd => exact rfl); (case hx => exact rfl))
    | ((with_reducible apply Sy.stNa (t := 23)); (case hx => exact rfl); (case hy => exact rfl); (case hs => exact sz23); (case hl => first | exact hC_length _); (case h1 => first | exact hC_one _); (case hm => repeat (first | exact Turn.here | apply Turn.there)); (case hle => first | (simp; done)); (case hc => first | exact lay_all (by first | (simp; done))))
    | ((with_reducible apply Sy.ldN (t := 23)); (case hd => exact rfl); (case hx => exact rfl); (case hm => repeat (first | exact Has.here | apply Has.there)); (case hv => first | exact ld_hV ag23 sz23 | exact ld_agg (cs' := hC _) ag23 sz23 (by simp; done) (by first | exact cut_here (by simp; done))))
    | ((with_reducible apply Sy.move); (case hd => exact rfl); (case hx => exact rfl))
    | ((with_reducible apply Sy.bin (op := .gtr) (t := 3)); (case hd => exact rfl); (case hx => exact rfl); (case hy => exact rfl); (case hv => exact b_gtr))
    | ((with_reducible apply Sy.bin (op := .sub) (t := 3)); (case hd => exact rfl); (case hx => exact rfl); (case hy => exact rfl); (case hv => exact (b_sub (by omega) (by omega))))
    | ((with_reducible apply Sy.fa (t := 27) (i := 0)); (case hd => exact rfl); (case hx => exact rfl); (case hv => exact (fa27_0 _ _)))
    | ((with_reducible apply Sy.call0 (k := 29)); (case hd => exact rfl); (case hf => exact rfl); (case hen => exact en29); (case hx => exact rfl); (case hc => intro H' hp; exact c_pbit1 mask e false (by simp [hb1]) (by omega) H'))
    | ((with_reducible apply Sy.call0 (k := 29)); (case hd => exact rfl); (case hf => exact rfl); (case hen => exact en29); (case hx => exact rfl); (case hc => intro H' hp; exact c_pbit1 key e true (by simp [hk1]) (by omega) H'))
    | ((with_reducible apply Sy.call0 (k := 30)); (case hd => exact rfl); (case hf => exact rfl); (case hen => exact en30); (case hx => exact rfl); (case hc => intro H' hp; exact c_Above _ _ H' (g.of hp (by simp))))
    | ((with_reducible apply Sy.newY (o := ⟨some 11, .alloc 23, _, _, _, _⟩)); (case ho => exact rfl); (case hd => exact rfl); (case hc => exact (nwz23)); intro q11)
    | (with_reducible refine Sy.skip ?_)
    | (with_reducible refine Sy.exit ?_)
    | (with_reducible refine Sy.block ?_)
    | (with_reducible refine Sy.aex ?_)
    | ((with_reducible apply Sy.iex); (case hi' => exact rfl))
    | ((with_reducible apply Sy.yes); (case hx => exact rfl))
    | ((with_reducible apply Sy.no); (case hx => exact rfl)))
        refine Sy.rnrm (e, _) (by dsimp only; omega) (by dsimp only; omega) ⟨rfl, rfl, rfl, rfl, rfl, rfl, trivial⟩ (fun H1 h => ?_)
        dsimp only
        rw [hstep]
        exact h.less (.cons _ (.refl _))
      · rw [if_neg hk1] at hstep
        repeat' (first
    | (with_reducible refine Sy.seq ?_)
    | (with_reducible refine Sy.regionL ?_)
    | (with_reducible refine Sy.opsnil ?_)
    | (with_reducible refine Sy.go ?_)
    | (with_reducible refine Sy.nrm ?_)
    | ((with_reducible apply Sy.assign); (case hd => exact rfl); (case hx => exact rfl))
    | ((with_reducible apply Sy.stNa (t := 23)); (case hx => exact rfl); (case hy => exact rfl); (case hs => exact sz23); (case hl => first | exact hC_length _); (case h1 => first | exact hC_one _); (case hm => repeat (first | exact Turn.here | apply Turn.there)); (case hle => first | (simp; done)); (case hc => first | exact lay_all (by first | (simp; done))))
    | ((with_reducible apply Sy.ldN (t := 23)); (case hd => exact rfl); (case hx => exact rfl); (case hm => repeat (first | exact Has.here | apply Has.there)); (case hv => first | exact ld_hV ag23 sz23 | exact ld_agg (cs' := hC _) ag23 sz23 (by simp; done) (by first | exact cut_here (by simp; done))))
    | ((with_reducible apply Sy.move); (case hd => exact rfl); (case hx => exact rfl))
    | ((with_reducible apply Sy.bin (op := .gtr) (t := 3)); (case hd => exact rfl); (case hx => exact rfl); (case hy => exact rfl); (case hv => exact b_gtr))
    | ((with_reducible apply Sy.bin (op := .sub) (t := 3)); (case hd => exact rfl); (case hx => exact rfl); (case hy => exact rfl); (case hv => exact (b_sub (by omega) (by omega))))
    | ((with_reducible apply Sy.fa (t := 27) (i := 0)); (case hd => exact rfl); (case hx => exact rfl); (case hv => exact (fa27_0 _ _)))
    | ((with_reducible apply Sy.call0 (k := 29)); (case hd => exact rfl); (case hf => exact rfl); (case hen => exact en29); (case hx => exact rfl); (case hc => intro H' hp; exact c_pbit1 mask e false (by simp [hb1]) (by omega) H'))
    | ((with_reducible apply Sy.call0 (k := 29)); (case hd => exact rfl); (case hf => exact rfl); (case hen => exact en29); (case hx => exact rfl); (case hc => intro H' hp; exact c_pbit1 key e false (by simp [hk1]) (by omega) H'))
    | ((with_reducible apply Sy.call0 (k := 30)); (case hd => exact rfl); (case hf => exact rfl); (case hen => exact en30); (case hx => exact rfl); (case hc => intro H' hp; exact c_Above _ _ H' (g.of hp (by simp))))
    | ((with_reducible apply Sy.newY (o := ⟨some 11, .alloc 23, _, _, _, _⟩)); (case ho => exact rfl); (case hd => exact rfl); (case hc => exact (nwz23)); intro q11)
    | (with_reducible refine Sy.skip ?_)
    | (with_reducible refine Sy.block ?_)
    | (with_reducible refine Sy.inrm ?_)
    | ((with_reducible apply Sy.yes); (case hx => exact rfl))
    | ((with_reducible apply Sy.no); (case hx => exact rfl)))
        refine Sy.rnrm (e, _) (by dsimp only; omega) (by dsimp only; omega) ⟨rfl, rfl, rfl, rfl, rfl, rfl, trivial⟩ (fun H1 h => ?_)
        dsimp only
        rw [hstep]
        exact h.less (.cons _ (.refl _))
end Go.Proofs.YtmlofdgamdlcgaaDoor

/- Layer 06: the reference's root; Check, Update. -/
namespace Go.Proofs.YtmlofdgamdlcgaaDoor
open Go Go.Am
set_option maxRecDepth 100000
set_option linter.unusedVariables false

theorem c_Bit1 (h : Hsh) (n b : Nat) (hb : bitOf h n = b) (hn : n < 256) (H : AHeap) : CallR Tryd.prog noPrims 32 [hV h, .int .i64 n] H (fun v H' => v = .int .i64 ((b : Nat) : Int) ∧ Hp H 0 0 H' [] []) := by
  subst hb; exact c_Bit h n hn H
set_option maxHeartbeats 4000000 in
theorem c_rRoot (key v mask : Hsh) (sv : Value) (l : List Hsh) (H : AHeap) (hl : HsAt H sv l) (hn : l.length ≤ 4398046511104) : CallR Tryd.prog noPrims 9 [hV key, hV v, prV mask sv] H (fun u H' => u = .tuple ⟨[hV (rootV key v mask l).1, .int .i64 (((rootV key v mask l).2 : Nat) : Int)]⟩ ∧ Hp H 0 0 H' [] []) := by
  obtain ⟨a, c, rfl, hl0⟩ := hl
  have hl : HsAt H (.slice a l.length c) l := ⟨a, c, rfl, hl0⟩
  have epr : prV mask (.slice a l.length c) = .agg ⟨hC mask ++ [.slice a l.length c]⟩ := rfl
  rw [epr]
  refine CallR.sy (n := 50) Tryd.func9 rfl rfl rfl ?_
  repeat' (first
    | (with_reducible refine Sy.seq ?_)
    | (with_reducible refine Sy.regionL ?_)
    | (with_reducible refine Sy.opsnil ?_)
    | (with_reducible refine Sy.go ?_)
    | (with_reducible refine Sy.nrm ?_)
    | ((with_reducible refine Sy.build (t := 23) (ps := #[]) rfl rfl bvZ ?_))
    | ((with_reducible refine Sy.ldN (t := 24) rfl rfl (by repeat (first | exact Has.here | apply Has.there | apply Has.app)) ldS ?_))
    | ((with_reducible apply Sy.assign); (case hd => exact rfl); (case hx => exact rfl))
    | ((with_reducible apply Sy.ldN (t := 26)); (case hd => exact rfl); (case hx => exact rfl); (case hm => repeat (first | exact Has.here | apply Has.there)); (case hv => first | exact ld_all ag26 (by first | (simp [sz26, *]; done))))
    | ((with_reducible apply Sy.un (op := .not)); (case hd => exact rfl); (case hx => exact rfl); (case hv => exact un_not))
    | ((with_reducible apply Sy.stNa (t := 23)); (case hx => exact rfl); (case hy => exact rfl); (case hs => exact sz23); (case hl => first | exact hC_length _); (case h1 => first | exact hC_one _); (case hm => repeat (first | exact Turn.here)); (case hle => first | (simp; done)); (case hc => first | exact lay_all (by first | (simp; done))))
    | ((with_reducible apply Sy.ldN (t := 23)); (case hd => exact rfl); (case hx => exact rfl); (case hm => repeat (first | exact Has.here | apply Has.there)); (case hv => first | exact ld_hV ag23 sz23))
    | ((with_reducible apply Sy.fa (t := 26) (i := 1)); (case hd => exact rfl); (case hx => exact rfl); (case hv => exact (fa26_1 _ _)))
    | ((with_reducible apply Sy.lenS); (case hd => exact rfl); (case ht => exact Tryd.underlying24); (case hx => exact rfl))
    | ((with_reducible apply Sy.call0 (k := 13)); (case hd => exact rfl); (case hf => exact rfl); (case hen => exact en13); (case hx => exact rfl); (case hc => intro H' hp; exact c_rRight mask _ l H' (hl.of hp) hn))
    | ((with_reducible apply Sy.call0 (k := 31)); (case hd => exact rfl); (case hf => exact rfl); (case hen => exact en31); (case hx => exact rfl); (case hc => intro H' hp; exact c_rLeaf key v H'))
    | ((with_reducible apply Sy.newY (o := ⟨some 3, .box 23 _, _, _, _, _⟩)); (case ho => exact rfl); (case hd => exact rfl); (case hc => exact (nbH rfl)); intro q3)
    | ((with_reducible apply Sy.newY (o := ⟨some 4, .box 23 _, _, _, _, _⟩)); (case ho => exact rfl); (case hd => exact rfl); (case hc => exact (nbH rfl)); intro q4)
    | ((with_reducible apply Sy.newY (o := ⟨some 5, .box 26 _, _, _, _, _⟩)); (case ho => exact rfl); (case hd => exact rfl); (case hc => exact (nbA rfl)); intro q5)
    | ((with_reducible apply Sy.newY (o := ⟨some 6, .alloc 23, _, _, _, _⟩)); (case ho => exact rfl); (case hd => exact rfl); (case hc => exact (nwz23)); intro q6)
    | ((with_reducible apply Sy.newY (o := ⟨some 8, .alloc 23, _, _, _, _⟩)); (case ho => exact rfl); (case hd => exact rfl); (case hc => exact (nwz23)); intro q8)
    | (with_reducible refine Sy.skip ?_)
    | (with_reducible refine Sy.ret ?_)
    | (with_reducible refine Sy.block ?_)
    | (with_reducible refine Sy.aret ?_)
    | ((with_reducible apply Sy.iteB); (case hx => exact rfl); all_goals intro hc))
  · refine .fin [_, _] (.inr rfl) ⟨⟨q6, 0, _, rfl, (by repeat (first | exact Has.here | apply Has.there | apply Has.app)), ld_hV ag23 sz23⟩, rfl, trivial⟩ fun H' hp => ⟨?_, hp.less (List.nil_sublist _)⟩
    have : ¬ rightB mask l = true := by simpa using hc
    rw [rootV, if_neg this]; rfl
  have hr : rightB mask l = true := by simpa using hc
  have hlen := right_len hr
  have hv : rootV key v mask l = (rootH key mask l (leafH key v) 256, 0) := by rw [rootV, if_pos hr]
  rw [hv]
  generalize leafH key v = h0
  refine Sy.loop (ι := Nat) (fun d => d) (fun d => [(3, .pointer (some ⟨q3, 0, none⟩)), (5, .pointer (some ⟨q5, 0, none⟩)), (6, .pointer (some ⟨q6, 0, none⟩)), (8, .pointer (some ⟨q8, 0, none⟩)), (9, .int .i64 ((bitTo mask d : Nat) : Int)), (10, .int .i64 (((d : Nat) : Int) - ((1 : Nat) : Int)))]) (fun _ => [])
    (fun d => [(q8, .cells (hC (rootH key mask l h0 (256 - d))) 23 true), (q6, .cells (hC zeroH) 23 true), (q5, .cells (hC mask ++ [.slice a l.length c]) 26 true), (q3, .cells (hC key) 23 true)]) (fun d => d ≤ 256) 256 (Nat.le_refl _) ⟨rfl, rfl, rfl, rfl, by rw [hlen]; rfl, rfl, trivial⟩ (fun H h => h.less (.cons_cons _ (.cons_cons _ (.cons_cons _ (.cons _ (.refl _)))))) ?_
  intro d hd
  by_cases h0d : d = 0
  · subst h0d
    repeat' (first
    | (with_reducible refine Sy.seq ?_)
    | (with_reducible refine Sy.regionL ?_)
    | (with_reducible refine Sy.opsnil ?_)
    | (with_reducible refine Sy.go ?_)
    | (with_reducible refine Sy.nrm ?_)
    | ((with_reducible apply Sy.assign); (case hd => exact rfl); (case hx => exact rfl))
    | ((with_reducible apply Sy.stNa (t := 23)); (case hx => exact rfl); (case hy => exact rfl); (case hs => exact sz23); (case hl => first | exact hC_length _); (case h1 => first | exact hC_one _); (case hm => repeat (first | exact Turn.here | apply Turn.there)); (case hle => first | (simp; done)); (case hc => first | exact lay_all (by first | (simp; done))))
    | ((with_reducible apply Sy.ldN (t := 23)); (case hd => exact rfl); (case hx => exact rfl); (case hm => repeat (first | exact Has.here)); (case hv => first | exact ld_hV ag23 sz23))
    | ((with_reducible apply Sy.move); (case hd => exact rfl); (case hx => exact rfl))
    | ((with_reducible apply Sy.bin (op := .geq) (t := 3)); (case hd => exact rfl); (case hx => exact rfl); (case hy => exact rfl); (case hv => exact bz_geq))
    | (with_reducible refine Sy.exit ?_)
    | (with_reducible refine Sy.ret ?_)
    | (with_reducible refine Sy.aex ?_)
    | ((with_reducible apply Sy.iex); (case hi' => exact rfl))
    | (with_reducible refine Sy.rex ?_)
    | ((with_reducible apply Sy.no); (case hx => exact rfl)))
    exact .fin [_, _] (.inr rfl) ⟨⟨q6, 0, _, rfl, (by repeat (first | exact Has.here | apply Has.there | apply Has.app)), ld_hV ag23 sz23⟩, rfl, trivial⟩ fun H' hp => ⟨rfl, hp.less (List.nil_sublist _)⟩
  · obtain ⟨e, rfl⟩ : ∃ e, d = e + 1 := ⟨d - 1, by omega⟩
    have hbe := bit_le mask e
    have hbk := bit_le key e
    have hs : bitTo mask (e + 1) = bitTo mask e + bitOf mask e := rfl
    have hm := bitTo_mono mask (i := e + 1) (j := 256) (by omega)
    have hstep := rootH_step (key := key) (mask := mask) (l := l) (h0 := h0) (e := e) (by omega)
    have he : (((e + 1 : Nat) : Int) - ((1 : Nat) : Int)) = ((e : Nat) : Int) := by omega
    rw [hs] at hm ⊢
    rw [he]
    by_cases hb1 : bitOf mask e = 1
    · obtain ⟨x, hx⟩ : ∃ x, l[bitTo mask e]? = some x := ⟨l[bitTo mask e]'(by omega), List.getElem?_eq_getElem (by omega)⟩
      have hside : sideH mask l e = x := by rw [sideH, if_pos hb1]; simp [List.getD, hx]
      rw [hside] at hstep
      rcases hl0 with rfl | ⟨b, T, w, rfl, hb⟩
      · simp at hx
      rw [hb1] at hm ⊢
      by_cases hk1 : bitOf key e = 1
      · rw [if_pos hk1] at hstep
        repeat' (first
    | (with_reducible refine Sy.seq ?_)
    | (with_reducible refine Sy.regionL ?_)
    | (with_reducible refine Sy.opsnil ?_)
    | (with_reducible refine Sy.go ?_)
    | (with_reducible refine Sy.nrm ?_)
    | ((with_reducible refine Sy.build (t := 23) (ps := #[]) rfl rfl bvZ ?_))
    | ((with_reducible refine Sy.ldN (t := 24) rfl rfl (by repeat (first | exact Has.here | apply Has.there | apply Has.app)) ldS ?_))
    | ((with_reducible apply Sy.assign); (case hd => exact rfl); (case hx => exact rfl))
    | ((with_reducible apply Sy.stNa (t := 23)); (case hx => exact rfl); (case hy => exact rfl); (case hs => exact sz23); (case hl => first | exact hC_length _); (case h1 => first | exact hC_one _); (case hm => repeat (first | exact Turn.here | apply Turn.there)); (case hle => first | (simp; done)); (case hc => first | exact lay_all (by first | (simp; done))))
    | ((with_reducible apply Sy.ldN (t := 23)); (case hd => exact rfl); (case hx => exact rfl); (case hm => repeat (first | exact Has.here | apply Has.there)); (case hv => first | exact ld_hV ag23 sz23 | exact ld_agg (cs' := hC _) ag23 sz23 (by simp; done) (by first | exact cut_here (by simp; done))))
    | ((with_reducible apply Sy.fa (t := 26) (i := 1)); (case hd => exact rfl); (case hx => exact rfl); (case hv => exact (fa26_1 _ _)))
    | ((with_reducible apply Sy.move); (case hd => exact rfl); (case hx => exact rfl))
    | ((with_reducible apply Sy.bin (op := .geq) (t := 3)); (case hd => exact rfl); (case hx => exact rfl); (case hy => exact rfl); (case hv => exact b_geq))
    | ((with_reducible apply Sy.fa (t := 26) (i := 0)); (case hd => exact rfl); (case hx => exact rfl); (case hv => exact (fa26_0 _ _)))
    | ((with_reducible apply Sy.bin (op := .eql) (t := 3)); (case hd => exact rfl); (case hx => exact rfl); (case hy => exact rfl); (case hv => exact b_eql))
    | ((with_reducible apply Sy.bin (op := .sub) (t := 3)); (case hd => exact rfl); (case hx => exact rfl); (case hy => exact rfl); (case hv => exact (b_sub (by omega) (by omega))))
    | ((with_reducible apply Sy.bin (op := .sub) (t := 3)); (case hd => exact rfl); (case hx => exact rfl); (case hy => exact rfl); (case hv => exact (bz_sub (by omega) (by omega))))
    | ((with_reducible apply Sy.ia (t := 24)); (case hd => exact rfl); (case hx => exact rfl); (case hy => exact rfl); (case hv => exact (ia_sl Tryd.underlying24 sz23 (by omega))))
    | ((with_reducible apply Sy.call0 (k := 32)); (case hd => exact rfl); (case hf => exact rfl); (case hen => exact en32); (case hx => exact rfl); (case hc => intro H' hp; exact c_Bit1 mask e 1 hb1 (by omega) H'))
    | ((with_reducible apply Sy.call0 (k := 32)); (case hd => exact rfl); (case hf => exact rfl); (case hen => exact en32); (case hx => exact rfl); (case hc => intro H' hp; exact c_Bit1 key e 1 hk1 (by omega) H'))
    | (with_reducible refine Sy.ld0 (t := 23) rfl rfl hb rfl (by simp only [List.forall_mem_cons, List.not_mem_nil, false_implies, implies_true, and_true, ne_eq]; first | done | omega | (repeat (first | with_reducible assumption | (refine And.intro ?_ ?_)))) (hcs_k hx (by omega)) ?_)
    | ((with_reducible apply Sy.call0 (k := 33)); (case hd => exact rfl); (case hf => exact rfl); (case hen => exact en33); (case hx => exact rfl); (case hc => intro H' hp; exact c_rAbove _ _ H'))
    | ((with_reducible apply Sy.newY (o := ⟨some 11, .alloc 23, _, _, _, _⟩)); (case ho => exact rfl); (case hd => exact rfl); (case hc => exact (nwz23)); intro q11)
    | (with_reducible refine Sy.skip ?_)
    | (with_reducible refine Sy.block ?_)
    | (with_reducible refine Sy.inrm ?_)
    | ((with_reducible apply Sy.yes); (case hx => exact rfl))
    | ((with_reducible apply Sy.no); (case hx => exact rfl)))
        refine Sy.rnrm e (by omega) (by omega) ⟨rfl, rfl, rfl, rfl, rfl, rfl, trivial⟩ (fun H1 h => ?_)
        rw [hstep]
        exact h.less (.cons _ (.refl _))
      · rw [if_neg hk1] at hstep
        repeat' (first
    | (with_reducible refine Sy.seq ?_)
    | (with_reducible refine Sy.regionL ?_)
    | (with_reducible refine Sy.opsnil ?_)
    | (with_reducible refine Sy.go ?_)
    | (with_reducible refine Sy.nrm ?_)
    | ((with_reducible refine Sy.build (t := 23) (ps := #[]) rfl rfl bvZ ?_))
    | ((with_reducible refine Sy.ldN (t := 24) rfl rfl (by repeat (first | exact Has.here | apply Has.there | apply Has.app)) ldS ?_))
    | ((with_reducible apply Sy.assign); (case hd => exact rfl); (case hx => exact rfl))
    | ((with_reducible apply Sy.stNa (t := 23)); (case hx => exact rfl); (case hy => exact rfl); (case hs => exact sz23); (case hl => first | exact hC_length _); (case h1 => first | exact hC_one _); (case hm => repeat (first | exact Turn.here | apply Turn.there)); (case hle => first | (simp; done)); (case hc => first | exact lay_all (by first | (simp; done))))
    | ((with_reducible apply Sy.ldN (t := 23)); (case hd => exact rfl); (case hx => exact rfl); (case hm => repeat (first | exact Has.here | apply Has.there)); (case hv => first | exact ld_hV ag23 sz23 | exact ld_agg (cs' := hC _) ag23 sz23 (by simp; done) (by first | exact cut_here (by simp; done))))
    | ((with_reducible apply Sy.fa (t := 26) (i := 1)); (case hd => exact rfl); (case hx => exact rfl); (case hv => exact (fa26_1 _ _)))
    | ((with_reducible apply Sy.move); (case hd => exact rfl); (case hx => exact rfl))
    | ((with_reducible apply Sy.bin (op := .geq) (t := 3)); (case hd => exact rfl); (case hx => exact rfl); (case hy => exact rfl); (case hv => exact b_geq))
    | ((with_reducible apply Sy.fa (t := 26) (i := 0)); (case hd => exact rfl); (case hx => exact rfl); (case hv => exact (fa26_0 _ _)))
    | ((with_reducible apply Sy.bin (op := .eql) (t := 3)); (case hd => exact rfl); (case hx => exact rfl); (case hy => exact rfl); (case hv => exact b_eql))
    | ((with_reducible apply Sy.bin (op := .sub) (t := 3)); (case hd => exact rfl); (case hx => exact rfl); (case hy => exact rfl); (case hv => exact (b_sub (by omega) (by omega))))
    | ((with_reducible apply Sy.bin (op := .sub) (t := 3)); (case hd => exact rfl); (case hx => exact rfl); (case hy => exact rfl); (case hv => exact (bz_sub (by omega) (by omega))))
    | ((with_reducible apply Sy.ia (t := 24)); (case hd => exact rfl); (case hx => exact rfl); (case hy => exact rfl); (case hv => exact (ia_sl Tryd.underlying24 sz23 (by omega))))
    | ((with_reducible apply Sy.call0 (k := 32)); (case hd => exact rfl); (case hf => exact rfl); (case hen => exact en32); (case hx => exact rfl); (case hc => intro H' hp; exact c_Bit1 mask e 1 hb1 (by omega) H'))
    | ((with_reducible apply Sy.call0 (k := 32)); (case hd => exact rfl); (case hf => exact rfl); (case hen => exact en32); (case hx => exact rfl); (case hc => intro H' hp; exact c_Bit1 key e 0 (by omega) (by omega) H'))
    | (with_reducible refine Sy.ld0 (t := 23) rfl rfl hb rfl (by simp only [List.forall_mem_cons, List.not_mem_nil, false_implies, implies_true, and_true, ne_eq]; first | done | omega | (repeat (first | with_reducible assumption | (refine And.intro ?_ ?_)))) (hcs_k hx (by omega)) ?_)
    | ((with_reducible apply Sy.call0 (k := 33)); (case hd => exact rfl); (case hf => exact rfl); (case hen => exact en33); (case hx => exact rfl); (case hc => intro H' hp; exact c_rAbove _ _ H'))
    | ((with_reducible apply Sy.newY (o := ⟨some 11, .alloc 23, _, _, _, _⟩)); (case ho => exact rfl); (case hd => exact rfl); (case hc => exact (nwz23)); intro q11)
    | (with_reducible refine Sy.skip ?_)
    | (with_reducible refine Sy.block ?_)
    | (with_reducible refine Sy.inrm ?_)
    | ((with_reducible apply Sy.yes); (case hx => exact rfl)))
        refine Sy.rnrm e (by omega) (by omega) ⟨rfl, rfl, rfl, rfl, rfl, rfl, trivial⟩ (fun H1 h => ?_)
        rw [hstep]
        exact h.less (.cons _ (.refl _))
    · have hside : sideH mask l e = zeroH := by rw [sideH, if_neg hb1]
      rw [hside] at hstep
      have hb0 : bitOf mask e = 0 := by omega
      rw [hb0, Nat.add_zero] at hm ⊢
      by_cases hk1 : bitOf key e = 1
      · rw [if_pos hk1] at hstep
        repeat' (first
    | (with_reducible refine Sy.seq ?_)
    | (with_reducible refine Sy.regionL ?_)
    | (with_reducible refine Sy.opsnil ?_)
    | (with_reducible refine Sy.go ?_)
    | (with_reducible refine Sy.nrm ?_)
    | ((with_reducible refine Sy.build (t := 23) (ps := #[]) rfl rfl bvZ ?_))
    | ((with_reducible apply Sy.assign); (case hd => exact rfl); (case hx => exact rfl))
    | ((with_reducible apply Sy.stNa (t := 23)); (case hx => exact rfl); (case hy => exact rfl); (case hs => exact sz23); (case hl => first | exact hC_length _); (case h1 => first | exact hC_one _); (case hm => repeat (first | exact Turn.here | apply Turn.there)); (case hle => first | (simp; done)); (case hc => first | exact lay_all (by first | (simp; done))))
    | ((with_reducible apply Sy.ldN (t := 23)); (case hd => exact rfl); (case hx => exact rfl); (case hm => repeat (first | exact Has.here | apply Has.there)); (case hv => first | exact ld_hV ag23 sz23 | exact ld_agg (cs' := hC _) ag23 sz23 (by simp; done) (by first | exact cut_here (by simp; done))))
    | ((with_reducible apply Sy.move); (case hd => exact rfl); (case hx => exact rfl))
    | ((with_reducible apply Sy.bin (op := .geq) (t := 3)); (case hd => exact rfl); (case hx => exact rfl); (case hy => exact rfl); (case hv => exact b_geq))
    | ((with_reducible apply Sy.fa (t := 26) (i := 0)); (case hd => exact rfl); (case hx => exact rfl); (case hv => exact (fa26_0 _ _)))
    | ((with_reducible apply Sy.bin (op := .eql) (t := 3)); (case hd => exact rfl); (case hx => exact rfl); (case hy => exact rfl); (case hv => exact b_eql))
    | ((with_reducible apply Sy.bin (op := .sub) (t := 3)); (case hd => exact rfl); (case hx => exact rfl); (case hy => exact rfl); (case hv => exact (bz_sub (by omega) (by omega))))
    | ((with_reducible apply Sy.call0 (k := 32)); (case hd => exact rfl); (case hf => exact rfl); (case hen => exact en32); (case hx => exact rfl); (case hc => intro H' hp; exact c_Bit1 mask e 0 hb0 (by omega) H'))
    | ((with_reducible apply Sy.call0 (k := 32)); (case hd => exact rfl); (case hf => exact rfl); (case hen => exact en32); (case hx => exact rfl); (case hc => intro H' hp; exact c_Bit1 key e 1 hk1 (by omega) H'))
    | ((with_reducible apply Sy.call0 (k := 33)); (case hd => exact rfl); (case hf => exact rfl); (case hen => exact en33); (case hx => exact rfl); (case hc => intro H' hp; exact c_rAbove _ _ H'))
    | ((with_reducible apply Sy.newY (o := ⟨some 11, .alloc 23, _, _, _, _⟩)); (case ho => exact rfl); (case hd => exact rfl); (case hc => exact (nwz23)); intro q11)
    | (with_reducible refine Sy.skip ?_)
    | (with_reducible refine Sy.block ?_)
    | (with_reducible refine Sy.inrm ?_)
    | ((with_reducible apply Sy.yes); (case hx => exact rfl))
    | ((with_reducible apply Sy.no); (case hx => exact rfl)))
        refine Sy.rnrm e (by omega) (by omega) ⟨rfl, rfl, rfl, rfl, rfl, rfl, trivial⟩ (fun H1 h => ?_)
        rw [hstep]
        exact h.less (.cons _ (.refl _))
      · rw [if_neg hk1] at hstep
        repeat' (first
    | (with_reducible refine Sy.seq ?_)
    | (with_reducible refine Sy.regionL ?_)
    | (with_reducible refine Sy.opsnil ?_)
    | (with_reducible refine Sy.go ?_)
    | (with_reducible refine Sy.nrm ?_)
    | ((with_reducible refine Sy.build (t := 23) (ps := #[]) rfl rfl bvZ ?_))
    | ((with_reducible apply Sy.assign); (case hd => exact rfl); (case hx => exact rfl))
    | ((with_reducible apply Sy.stNa (t := 23)); (case hx => exact rfl); (case hy => exact rfl); (case hs => exact sz23); (case hl => first | exact hC_length _); (case h1 => first | exact hC_one _); (case hm => repeat (first | exact Turn.here | apply Turn.there)); (case hle => first | (simp; done)); (case hc => first | exact lay_all (by first | (simp; done))))
    | ((with_reducible apply Sy.ldN (t := 23)); (case hd => exact rfl); (case hx => exact rfl); (case hm => repeat (first | exact Has.here | apply Has.there)); (case hv => first | exact ld_hV ag23 sz23 | exact ld_agg (cs' := hC _) ag23 sz23 (by simp; done) (by first | exact cut_here (by simp; done))))
    | ((with_reducible apply Sy.move); (case hd => exact rfl); (case hx => exact rfl))
    | ((with_reducible apply Sy.bin (op := .geq) (t := 3)); (case hd => exact rfl); (case hx => exact rfl); (case hy => exact rfl); (case hv => exact b_geq))
    | ((with_reducible apply Sy.fa (t := 26) (i := 0)); (case hd => exact rfl); (case hx => exact rfl); (case hv => exact (fa26_0 _ _)))
    | ((with_reducible apply Sy.bin (op := .eql) (t := 3)); (case hd => exact rfl); (case hx => exact rfl); (case hy => exact rfl); (case hv => exact b_eql))
    | ((with_reducible apply Sy.bin (op := .sub) (t := 3)); (case hd => exact rfl); (case hx => exact rfl); (case hy => exact rfl); (case hv => exact (bz_sub (by omega) (by omega))))
    | ((with_reducible apply Sy.call0 (k := 32)); (case hd => exact rfl); (case hf => exact rfl); (case hen => exact en32); (case hx => exact rfl); (case hc => intro H' hp; exact c_Bit1 mask e 0 hb0 (by omega) H'))
    | ((with_reducible apply Sy.call0 (k := 32)); (case hd => exact rfl); (case hf => exact rfl); (case hen => exact en32); (case hx => exact rfl); (case hc => intro H' hp; exact c_Bit1 key e 0 (by omega) (by omega) H'))
    | ((with_reducible apply Sy.call0 (k := 33)); (case hd => exact rfl); (case hf => exact rfl); (case hen => exact en33); (case hx => exact rfl); (case hc => intro H' hp; exact c_rAbove _ _ H'))
    | ((with_reducible apply Sy.newY (o := ⟨some 11, .alloc 23, _, _, _, _⟩)); (case ho => exact rfl); (case hd => exact rfl); (case hc => exact (nwz23)); intro q11)
    | (with_reducible refine Sy.skip ?_)
    | (with_reducible refine Sy.block ?_)
    | (with_reducible refine Sy.inrm ?_)
    | ((with_reducible apply Sy.yes); (case hx => exact rfl))
    | ((with_reducible apply Sy.no); (case hx => exact rfl)))
        refine Sy.rnrm e (by omega) (by omega) ⟨rfl, rfl, rfl, rfl, rfl, rfl, trivial⟩ (fun H1 h => ?_)
        rw [hstep]
        exact h.less (.cons _ (.refl _))
end Go.Proofs.YtmlofdgamdlcgaaDoor

/- Layer 06: Check, Update, proofs that are copied and compared. -/
namespace Go.Proofs.YtmlofdgamdlcgaaDoor
open Go Go.Am
set_option maxRecDepth 100000
set_option linter.unusedVariables false

def tupR (r : Hsh × Nat) : Value := .tuple ⟨[hV r.1, .int .i64 ((r.2 : Nat) : Int)]⟩
theorem root_e (key v mask : Hsh) (l : List Hsh) : (rootV key v mask l).2 ≤ 21 := by unfold rootV; split <;> simp
def chkV (root key v mask : Hsh) (l : List Hsh) : Bool := decide ((rootV key v mask l).2 = 0) && decide ((rootV key v mask l).1 = root)
def updV (root key old now mask : Hsh) (l : List Hsh) : Hsh × Nat :=
  if (rootV key old mask l).2 ≠ 0 then (zeroH, (rootV key old mask l).2) else if (rootV key old mask l).1 ≠ root then (zeroH, 22) else rootV key now mask l

theorem c_Check (root key v mask : Hsh) (sv : Value) (l : List Hsh) (H : AHeap) (g : Gl H) (hl : HsAt H sv l) (hn : l.length ≤ 4398046511104) : CallR Tryd.prog noPrims 15 [hV root, hV key, hV v, prV mask sv] H (fun u H' => u = .bool (chkV root key v mask l) ∧ Hp H 0 0 H' [] []) := by
  have hR : ∀ {H' : AHeap} {lo hi : Nat} {Mn : Hm}, Hp H lo hi H' [] Mn → CallR Tryd.prog noPrims 8 [hV key, hV v, prV mask sv] H' (fun u H2 => u = tupR (rootV key v mask l) ∧ Hp H' 0 0 H2 [] []) := fun hp => c_Root key v mask sv l _ (g.of hp (by simp)) (hl.of hp) hn
  have hE := root_e key v mask l
  unfold chkV
  generalize rootV key v mask l = r at *
  obtain ⟨x, e⟩ := r
  dsimp only at hE ⊢
  refine CallR.sy (n := 25) Tryd.func15 rfl rfl rfl ?_
  repeat' (first
    | (with_reducible refine Sy.seq ?_)
    | (with_reducible refine Sy.regionL ?_)
    | (with_reducible refine Sy.opsnil ?_)
    | (with_reducible refine Sy.go ?_)
    | (with_reducible refine Sy.nrm ?_)
    | ((with_reducible apply Sy.assign); (case hd => exact rfl); (case hx => exact rfl))
    | ((with_reducible apply Sy.ldN (t := 23)); (case hd => exact rfl); (case hx => exact rfl); (case hm => repeat (first | exact Has.here | apply Has.there)); (case hv => first | exact ld_hV ag23 sz23))
    | ((with_reducible apply Sy.ldN (t := 27)); (case hd => exact rfl); (case hx => exact rfl); (case hm => repeat (first | exact Has.here)); (case hv => first | exact ld_all ag27 (by first | (simp [sz27, *]; done))))
    | ((with_reducible apply Sy.move); (case hd => exact rfl); (case hx => exact rfl))
    | ((with_reducible apply Sy.ext); (case hd => exact rfl); (case hx => exact rfl); (case hv => exact rfl))
    | ((with_reducible apply Sy.stNa (t := 23)); (case hx => exact rfl); (case hy => exact rfl); (case hs => exact sz23); (case hl => first | exact hC_length _); (case h1 => first | exact hC_one _); (case hm => repeat (first | exact Turn.here)); (case hle => first | (simp; done)); (case hc => first | exact lay_all (by first | (simp; done))))
    | ((with_reducible apply Sy.bin (op := .eql) (t := 29)); (case hd => exact rfl); (case hx => exact rfl); (case hy => exact rfl); (case hv => exact b_eql))
    | ((with_reducible apply Sy.bin (op := .eql) (t := 23)); (case hd => exact rfl); (case hx => exact rfl); (case hy => exact rfl); (case hv => exact (eq23)))
    | ((with_reducible apply Sy.pickT); (case hd => exact rfl); (case hx => exact rfl); (case hy => exact rfl))
    | ((with_reducible apply Sy.pickF); (case hd => exact rfl); (case hx => exact rfl); (case hy => exact rfl))
    | ((with_reducible apply Sy.call0 (k := 8)); (case hd => exact rfl); (case hf => exact rfl); (case hen => exact en8); (case hx => exact rfl); (case hc => intro H' hp; exact hR hp))
    | ((with_reducible apply Sy.newY (o := ⟨some 4, .box 23 _, _, _, _, _⟩)); (case ho => exact rfl); (case hd => exact rfl); (case hc => exact (nbH rfl)); intro q4)
    | ((with_reducible apply Sy.newY (o := ⟨some 5, .box 23 _, _, _, _, _⟩)); (case ho => exact rfl); (case hd => exact rfl); (case hc => exact (nbH rfl)); intro q5)
    | ((with_reducible apply Sy.newY (o := ⟨some 6, .box 23 _, _, _, _, _⟩)); (case ho => exact rfl); (case hd => exact rfl); (case hc => exact (nbH rfl)); intro q6)
    | ((with_reducible apply Sy.newY (o := ⟨some 7, .box 27 _, _, _, _, _⟩)); (case ho => exact rfl); (case hd => exact rfl); (case hc => exact (nbA rfl)); intro q7)
    | ((with_reducible apply Sy.newY (o := ⟨some 9, .alloc 23, _, _, _, _⟩)); (case ho => exact rfl); (case hd => exact rfl); (case hc => exact (nwz23)); intro q9)
    | (with_reducible refine Sy.ret ?_)
    | ((with_reducible apply Sy.goG); (case hj => exact rfl); (case ht => exact rfl); (case hb => exact rfl))
    | ((with_reducible apply Sy.noG); (case hj => exact rfl); (case ht => exact rfl); (case hb => exact rfl); (case hc => exact rfl); (case hd => exact rfl))
    | ((with_reducible apply Sy.caseG); (case hj => exact rfl); (case hx => exact rfl); all_goals (intro hc; try (exfalso; omega))))
  all_goals (refine .fin [_] (.inr rfl) ⟨rfl, trivial⟩ fun H' hp => ⟨congrArg Value.bool ?_, hp.less (List.nil_sublist _)⟩; (try dsimp only at hc); simp [hc])
theorem c_rCheck (root key v mask : Hsh) (sv : Value) (l : List Hsh) (H : AHeap) (hl : HsAt H sv l) (hn : l.length ≤ 4398046511104) : CallR Tryd.prog noPrims 16 [hV root, hV key, hV v, prV mask sv] H (fun u H' => u = .bool (chkV root key v mask l) ∧ Hp H 0 0 H' [] []) := by
  have hR : ∀ {H' : AHeap} {lo hi : Nat} {Mn : Hm}, Hp H lo hi H' [] Mn → CallR Tryd.prog noPrims 9 [hV key, hV v, prV mask sv] H' (fun u H2 => u = tupR (rootV key v mask l) ∧ Hp H' 0 0 H2 [] []) := fun hp => c_rRoot key v mask sv l _ (hl.of hp) hn
  have hE := root_e key v mask l
  unfold chkV
  generalize rootV key v mask l = r at *
  obtain ⟨x, e⟩ := r
  dsimp only at hE ⊢
  refine CallR.sy (n := 25) Tryd.func16 rfl rfl rfl ?_
  repeat' (first
    | (with_reducible refine Sy.seq ?_)
    | (with_reducible refine Sy.regionL ?_)
    | (with_reducible refine Sy.opsnil ?_)
    | (with_reducible refine Sy.go ?_)
    | (with_reducible refine Sy.nrm ?_)
    | ((with_reducible apply Sy.assign); (case hd => exact rfl); (case hx => exact rfl))
    | ((with_reducible apply Sy.ldN (t := 23)); (case hd => exact rfl); (case hx => exact rfl); (case hm => repeat (first | exact Has.here | apply Has.there)); (case hv => first | exact ld_hV ag23 sz23))
    | ((with_reducible apply Sy.ldN (t := 26)); (case hd => exact rfl); (case hx => exact rfl); (case hm => repeat (first | exact Has.here)); (case hv => first | exact ld_all ag26 (by first | (simp [sz26, *]; done))))
    | ((with_reducible apply Sy.move); (case hd => exact rfl); (case hx => exact rfl))
    | ((with_reducible apply Sy.ext); (case hd => exact rfl); (case hx => exact rfl); (case hv => exact rfl))
    | ((with_reducible apply Sy.stNa (t := 23)); (case hx => exact rfl); (case hy => exact rfl); (case hs => exact sz23); (case hl => first | exact hC_length _); (case h1 => first | exact hC_one _); (case hm => repeat (first | exact Turn.here)); (case hle => first | (simp; done)); (case hc => first | exact lay_all (by first | (simp; done))))
    | ((with_reducible apply Sy.bin (op := .eql) (t := 3)); (case hd => exact rfl); (case hx => exact rfl); (case hy => exact rfl); (case hv => exact b_eql))
    | ((with_reducible apply Sy.bin (op := .eql) (t := 23)); (case hd => exact rfl); (case hx => exact rfl); (case hy => exact rfl); (case hv => exact (eq23)))
    | ((with_reducible apply Sy.pickT); (case hd => exact rfl); (case hx => exact rfl); (case hy => exact rfl))
    | ((with_reducible apply Sy.pickF); (case hd => exact rfl); (case hx => exact rfl); (case hy => exact rfl))
    | ((with_reducible apply Sy.call0 (k := 9)); (case hd => exact rfl); (case hf => exact rfl); (case hen => exact en9); (case hx => exact rfl); (case hc => intro H' hp; exact hR hp))
    | ((with_reducible apply Sy.newY (o := ⟨some 4, .box 23 _, _, _, _, _⟩)); (case ho => exact rfl); (case hd => exact rfl); (case hc => exact (nbH rfl)); intro q4)
    | ((with_reducible apply Sy.newY (o := ⟨some 5, .box 23 _, _, _, _, _⟩)); (case ho => exact rfl); (case hd => exact rfl); (case hc => exact (nbH rfl)); intro q5)
    | ((with_reducible apply Sy.newY (o := ⟨some 6, .box 23 _, _, _, _, _⟩)); (case ho => exact rfl); (case hd => exact rfl); (case hc => exact (nbH rfl)); intro q6)
    | ((with_reducible apply Sy.newY (o := ⟨some 7, .box 26 _, _, _, _, _⟩)); (case ho => exact rfl); (case hd => exact rfl); (case hc => exact (nbA rfl)); intro q7)
    | ((with_reducible apply Sy.newY (o := ⟨some 9, .alloc 23, _, _, _, _⟩)); (case ho => exact rfl); (case hd => exact rfl); (case hc => exact (nwz23)); intro q9)
    | (with_reducible refine Sy.ret ?_)
    | ((with_reducible apply Sy.goG); (case hj => exact rfl); (case ht => exact rfl); (case hb => exact rfl))
    | ((with_reducible apply Sy.noG); (case hj => exact rfl); (case ht => exact rfl); (case hb => exact rfl); (case hc => exact rfl); (case hd => exact rfl))
    | ((with_reducible apply Sy.caseG); (case hj => exact rfl); (case hx => exact rfl); all_goals (intro hc; try (exfalso; omega))))
  all_goals (refine .fin [_] (.inr rfl) ⟨rfl, trivial⟩ fun H' hp => ⟨congrArg Value.bool ?_, hp.less (List.nil_sublist _)⟩; (try dsimp only at hc); simp [hc])
theorem c_Update (root key old now mask : Hsh) (sv : Value) (l : List Hsh) (H : AHeap) (g : Gl H) (hl : HsAt H sv l) (hn : l.length ≤ 4398046511104) : CallR Tryd.prog noPrims 10 [hV root, hV key, hV old, hV now, prV mask sv] H (fun u H' => u = tupR (updV root key old now mask l) ∧ Hp H 0 0 H' [] []) := by
  have hR : ∀ {H' : AHeap} {lo hi : Nat} {Mn : Hm}, Hp H lo hi H' [] Mn → CallR Tryd.prog noPrims 8 [hV key, hV old, prV mask sv] H' (fun u H2 => u = tupR (rootV key old mask l) ∧ Hp H' 0 0 H2 [] []) := fun hp => c_Root key old mask sv l _ (g.of hp (by simp)) (hl.of hp) hn
  have hR2 : ∀ {H' : AHeap} {lo hi : Nat} {Mn : Hm}, Hp H lo hi H' [] Mn → CallR Tryd.prog noPrims 8 [hV key, hV now, prV mask sv] H' (fun u H2 => u = tupR (rootV key now mask l) ∧ Hp H' 0 0 H2 [] []) := fun hp => c_Root key now mask sv l _ (g.of hp (by simp)) (hl.of hp) hn
  have hE := root_e key old mask l
  unfold updV
  generalize rootV key old mask l = r at *
  generalize rootV key now mask l = r2 at *
  obtain ⟨x, e⟩ := r
  obtain ⟨x2, e2⟩ := r2
  dsimp only at hE ⊢
  refine CallR.sy (n := 37) Tryd.func10 rfl rfl rfl ?_
  repeat' (first
    | (with_reducible refine Sy.seq ?_)
    | (with_reducible refine Sy.regionL ?_)
    | (with_reducible refine Sy.opsnil ?_)
    | (with_reducible refine Sy.go ?_)
    | (with_reducible refine Sy.nrm ?_)
    | ((with_reducible refine Sy.build (t := 23) (ps := #[]) rfl rfl bvZ ?_))
    | ((with_reducible apply Sy.assign); (case hd => exact rfl); (case hx => exact rfl))
    | ((with_reducible apply Sy.ldN (t := 23)); (case hd => exact rfl); (case hx => exact rfl); (case hm => repeat (first | exact Has.here | apply Has.there)); (case hv => first | exact ld_hV ag23 sz23))
    | ((with_reducible apply Sy.ldN (t := 27)); (case hd => exact rfl); (case hx => exact rfl); (case hm => repeat (first | exact Has.here | apply Has.there)); (case hv => first | exact ld_all ag27 (by first | (simp [sz27, *]; done))))
    | ((with_reducible apply Sy.move); (case hd => exact rfl); (case hx => exact rfl))
    | ((with_reducible apply Sy.ext); (case hd => exact rfl); (case hx => exact rfl); (case hv => exact rfl))
    | ((with_reducible apply Sy.stNa (t := 23)); (case hx => exact rfl); (case hy => exact rfl); (case hs => exact sz23); (case hl => first | exact hC_length _); (case h1 => first | exact hC_one _); (case hm => repeat (first | exact Turn.here | apply Turn.there)); (case hle => first | (simp; done)); (case hc => first | exact lay_all (by first | (simp; done))))
    | ((with_reducible apply Sy.bin (op := .neq) (t := 29)); (case hd => exact rfl); (case hx => exact rfl); (case hy => exact rfl); (case hv => exact b_neq))
    | ((with_reducible apply Sy.bin (op := .neq) (t := 23)); (case hd => exact rfl); (case hx => exact rfl); (case hy => exact rfl); (case hv => exact (ne23)))
    | ((with_reducible apply Sy.call0 (k := 8)); (case hd => exact rfl); (case hf => exact rfl); (case hen => exact en8); (case hx => exact rfl); (case hc => intro H' hp; exact hR hp))
    | ((with_reducible apply Sy.call0 (k := 8)); (case hd => exact rfl); (case hf => exact rfl); (case hen => exact en8); (case hx => exact rfl); (case hc => intro H' hp; exact hR2 hp))
    | ((with_reducible apply Sy.newY (o := ⟨some 5, .box 23 _, _, _, _, _⟩)); (case ho => exact rfl); (case hd => exact rfl); (case hc => exact (nbH rfl)); intro q5)
    | ((with_reducible apply Sy.newY (o := ⟨some 6, .box 23 _, _, _, _, _⟩)); (case ho => exact rfl); (case hd => exact rfl); (case hc => exact (nbH rfl)); intro q6)
    | ((with_reducible apply Sy.newY (o := ⟨some 7, .box 23 _, _, _, _, _⟩)); (case ho => exact rfl); (case hd => exact rfl); (case hc => exact (nbH rfl)); intro q7)
    | ((with_reducible apply Sy.newY (o := ⟨some 8, .box 23 _, _, _, _, _⟩)); (case ho => exact rfl); (case hd => exact rfl); (case hc => exact (nbH rfl)); intro q8)
    | ((with_reducible apply Sy.newY (o := ⟨some 9, .box 27 _, _, _, _, _⟩)); (case ho => exact rfl); (case hd => exact rfl); (case hc => exact (nbA rfl)); intro q9)
    | ((with_reducible apply Sy.newY (o := ⟨some 10, .alloc 23, _, _, _, _⟩)); (case ho => exact rfl); (case hd => exact rfl); (case hc => exact (nwz23)); intro q10)
    | ((with_reducible apply Sy.newY (o := ⟨some 12, .alloc 23, _, _, _, _⟩)); (case ho => exact rfl); (case hd => exact rfl); (case hc => exact (nwz23)); intro q12)
    | (with_reducible refine Sy.skip ?_)
    | (with_reducible refine Sy.ret ?_)
    | (with_reducible refine Sy.block ?_)
    | (with_reducible refine Sy.aret ?_)
    | (with_reducible refine Sy.inrm ?_)
    | (with_reducible refine Sy.iret ?_)
    | ((with_reducible apply Sy.ite); (case hx => exact rfl); all_goals (intro hc; try (exfalso; omega))))
  all_goals (try dsimp only at *)
  all_goals first
    | (refine .fin [_, _] (.inr rfl) ⟨⟨q10, 0, _, rfl, (by repeat (first | exact Has.here | apply Has.there | apply Has.app)), ld_hV ag23 sz23⟩, rfl, trivial⟩ fun H' hp => ⟨?_, hp.less (List.nil_sublist _)⟩; rw [if_pos (by with_reducible assumption)]; rfl)
    | (refine .fin [_, _] (.inr rfl) ⟨⟨q10, 0, _, rfl, (by repeat (first | exact Has.here | apply Has.there | apply Has.app)), ld_hV ag23 sz23⟩, rfl, trivial⟩ fun H' hp => ⟨?_, hp.less (List.nil_sublist _)⟩; rw [if_neg (by with_reducible assumption), if_pos (by with_reducible assumption)]; rfl)
    | (refine .fin [_, _] (.inr rfl) ⟨⟨q10, 0, _, rfl, (by repeat (first | exact Has.here | apply Has.there | apply Has.app)), ld_hV ag23 sz23⟩, rfl, trivial⟩ fun H' hp => ⟨?_, hp.less (List.nil_sublist _)⟩; rw [if_neg (by with_reducible assumption), if_neg (by with_reducible assumption)]; rfl)
theorem right_root {key v mask : Hsh} {l : List Hsh} : (rightB mask l = true ∧ (rootV key v mask l).2 = 0) ∨ (rightB mask l = false ∧ rootV key v mask l = (zeroH, 21)) := by
  unfold rootV
  cases rightB mask l with
  | true => exact .inl ⟨rfl, by simp⟩
  | false => exact .inr ⟨rfl, by simp⟩
theorem c_rUpdate (root key old now mask : Hsh) (sv : Value) (l : List Hsh) (H : AHeap) (hl : HsAt H sv l) (hn : l.length ≤ 4398046511104) : CallR Tryd.prog noPrims 11 [hV root, hV key, hV old, hV now, prV mask sv] H (fun u H' => u = tupR (updV root key old now mask l) ∧ Hp H 0 0 H' [] []) := by
  have hR2 : ∀ {H' : AHeap} {lo hi : Nat} {Mn : Hm}, Hp H lo hi H' [] Mn → CallR Tryd.prog noPrims 9 [hV key, hV now, prV mask sv] H' (fun u H2 => u = tupR (rootV key now mask l) ∧ Hp H' 0 0 H2 [] []) := fun hp => c_rRoot key now mask sv l _ (hl.of hp) hn
  have hC : ∀ {H' : AHeap} {lo hi : Nat} {Mn : Hm}, Hp H lo hi H' [] Mn → CallR Tryd.prog noPrims 16 [hV root, hV key, hV old, prV mask sv] H' (fun u H2 => u = .bool (chkV root key old mask l) ∧ Hp H' 0 0 H2 [] []) := fun hp => c_rCheck root key old mask sv l _ (hl.of hp) hn
  have hG : ∀ {H' : AHeap} {lo hi : Nat} {Mn : Hm}, Hp H lo hi H' [] Mn → CallR Tryd.prog noPrims 13 [prV mask sv] H' (fun u H2 => u = .bool (rightB mask l) ∧ Hp H' 0 0 H2 [] []) := fun hp => c_rRight mask sv l _ (hl.of hp) hn
  have hU : updV root key old now mask l = if rightB mask l = false then (zeroH, 21) else if chkV root key old mask l = false then (zeroH, 22) else rootV key now mask l := by
    unfold updV chkV
    rcases right_root (key := key) (v := old) (mask := mask) (l := l) with ⟨e1, e2⟩ | ⟨e1, e2⟩
    · rw [e1, e2]
      by_cases hx : (rootV key old mask l).1 = root <;> simp [hx]
    · rw [e1, e2]; simp
  rw [hU]
  generalize rightB mask l = b1 at *
  generalize chkV root key old mask l = b2 at *
  generalize rootV key now mask l = r2 at *
  obtain ⟨x2, e2⟩ := r2
  clear hU
  refine CallR.sy (n := 29) Tryd.func11 rfl rfl rfl ?_
  cases b1 <;> cases b2
  all_goals repeat' (first
    | (with_reducible refine Sy.seq ?_)
    | (with_reducible refine Sy.regionL ?_)
    | (with_reducible refine Sy.opsnil ?_)
    | (with_reducible refine Sy.go ?_)
    | (with_reducible refine Sy.nrm ?_)
    | ((with_reducible refine Sy.build (t := 23) (ps := #[]) rfl rfl bvZ ?_))
    | ((with_reducible apply Sy.assign); (case hd => exact rfl); (case hx => exact rfl))
    | ((with_reducible apply Sy.ldN (t := 26)); (case hd => exact rfl); (case hx => exact rfl); (case hm => repeat (first | exact Has.here | apply Has.there)); (case hv => first | exact ld_all ag26 (by first | (simp [sz26, *]; done))))
    | ((with_reducible apply Sy.un (op := .not)); (case hd => exact rfl); (case hx => exact rfl); (case hv => exact un_notT))
    | ((with_reducible apply Sy.un (op := .not)); (case hd => exact rfl); (case hx => exact rfl); (case hv => exact un_notF))
    | ((with_reducible apply Sy.stNa (t := 23)); (case hx => exact rfl); (case hy => exact rfl); (case hs => exact sz23); (case hl => first | exact hC_length _); (case h1 => first | exact hC_one _); (case hm => repeat (first | exact Turn.here)); (case hle => first | (simp; done)); (case hc => first | exact lay_all (by first | (simp; done))))
    | ((with_reducible apply Sy.ldN (t := 23)); (case hd => exact rfl); (case hx => exact rfl); (case hm => repeat (first | exact Has.here | apply Has.there)); (case hv => first | exact ld_hV ag23 sz23))
    | ((with_reducible apply Sy.ext); (case hd => exact rfl); (case hx => exact rfl); (case hv => exact rfl))
    | ((with_reducible apply Sy.call0 (k := 13)); (case hd => exact rfl); (case hf => exact rfl); (case hen => exact en13); (case hx => exact rfl); (case hc => intro H' hp; exact hG hp))
    | ((with_reducible apply Sy.call0 (k := 16)); (case hd => exact rfl); (case hf => exact rfl); (case hen => exact en16); (case hx => exact rfl); (case hc => intro H' hp; exact hC hp))
    | ((with_reducible apply Sy.call0 (k := 9)); (case hd => exact rfl); (case hf => exact rfl); (case hen => exact en9); (case hx => exact rfl); (case hc => intro H' hp; exact hR2 hp))
    | ((with_reducible apply Sy.newY (o := ⟨some 5, .box 23 _, _, _, _, _⟩)); (case ho => exact rfl); (case hd => exact rfl); (case hc => exact (nbH rfl)); intro q5)
    | ((with_reducible apply Sy.newY (o := ⟨some 6, .box 23 _, _, _, _, _⟩)); (case ho => exact rfl); (case hd => exact rfl); (case hc => exact (nbH rfl)); intro q6)
    | ((with_reducible apply Sy.newY (o := ⟨some 7, .box 23 _, _, _, _, _⟩)); (case ho => exact rfl); (case hd => exact rfl); (case hc => exact (nbH rfl)); intro q7)
    | ((with_reducible apply Sy.newY (o := ⟨some 8, .box 23 _, _, _, _, _⟩)); (case ho => exact rfl); (case hd => exact rfl); (case hc => exact (nbH rfl)); intro q8)
    | ((with_reducible apply Sy.newY (o := ⟨some 9, .box 26 _, _, _, _, _⟩)); (case ho => exact rfl); (case hd => exact rfl); (case hc => exact (nbA rfl)); intro q9)
    | ((with_reducible apply Sy.newY (o := ⟨some 10, .alloc 23, _, _, _, _⟩)); (case ho => exact rfl); (case hd => exact rfl); (case hc => exact (nwz23)); intro q10)
    | (with_reducible refine Sy.skip ?_)
    | (with_reducible refine Sy.ret ?_)
    | (with_reducible refine Sy.aret ?_)
    | ((with_reducible apply Sy.yes); (case hx => exact rfl))
    | ((with_reducible apply Sy.no); (case hx => exact rfl)))
  all_goals (first
    | exact .fin [_, _] (.inr rfl) ⟨⟨q10, 0, _, rfl, (by repeat (first | exact Has.here | apply Has.there | apply Has.app)), ld_hV ag23 sz23⟩, rfl, trivial⟩ fun H' hp => ⟨rfl, hp.less (List.nil_sublist _)⟩)
end Go.Proofs.YtmlofdgamdlcgaaDoor

/- Layer 06: proofs that are copied and compared. -/
namespace Go.Proofs.YtmlofdgamdlcgaaDoor
open Go Go.Am
set_option maxRecDepth 100000
set_option linter.unusedVariables false

/-- A slice of hashes, whole. -/
def HsS (H : AHeap) (v : Value) (l : List Hsh) : Prop := (v = .slice none 0 0 ∧ l = []) ∨ ∃ b c T w, v = .slice (some ⟨b, 0, none⟩) l.length c ∧ H.get b = .cells (hcs l) T w
theorem HsS.at {H : AHeap} {v : Value} {l : List Hsh} (h : HsS H v l) : HsAt H v l := by
  rcases h with ⟨rfl, rfl⟩ | ⟨b, c, T, w, rfl, h⟩
  · exact ⟨none, 0, rfl, .inl rfl⟩
  · exact ⟨_, c, rfl, .inr ⟨b, T, w, rfl, h⟩⟩
theorem HsS.of {H H1 : AHeap} {lo hi : Nat} {Mn : Hm} {v : Value} {l : List Hsh} (h : HsS H v l) (hp : Hp H lo hi H1 [] Mn) : HsS H1 v l := by
  rcases h with h | ⟨b, c, T, w, e, h⟩
  · exact .inl h
  · exact .inr ⟨b, c, T, w, e, hp.get0 h rfl (by simp)⟩
theorem hcs_one (l : List Hsh) : oneL (hcs l) = true := by
  induction l with
  | nil => rfl
  | cons a l ih => simp only [hcs, List.map_cons, List.flatten_cons] at ih ⊢; rw [oneL_append, hC_one, ih]; rfl
theorem bvPr {mask : Hsh} {v : Value} (hv : v.cells.toList = [v]) : buildV Tryd.prog 27 [(0, hV mask), (1, v)] = some (.agg ⟨hC mask ++ [v]⟩) := bv27 (by
  simp only [fillL, plc, hV_cells, hv]
  have e1 : lay (hC zeroH ++ [Value.slice none 0 0]) 0 (hC mask) = hC mask ++ [Value.slice none 0 0] := lay_here (by simp)
  have e2 : lay (hC mask ++ [Value.slice none 0 0]) 32 [v] = hC mask ++ [v] := by
    have := lay_there (a := hC mask) (b := [Value.slice none 0 0]) (v := [v]) (o := 32) (k := 0) (by simp)
    rw [Nat.add_zero] at this
    rw [this]; rfl
  simp [e1, e2])

theorem setPr {m m' : Hsh} {x y : Value} : lay (hC m ++ [x]) 0 (hC m' ++ [y]) = hC m' ++ [y] := lay_all (by simp)
theorem c_Proof (mask : Hsh) (sv : Value) (l : List Hsh) (H : AHeap) (hl : HsS H sv l) (hn : l.length ≤ 4398046511104) : CallR Tryd.prog noPrims 7 [prV mask sv] H (fun u H' => ∃ i : Nat × Nat, True ∧ u = prV mask (.slice (some ⟨i.1, 0, none⟩) l.length i.2) ∧ Hp H 0 0 H' [] [(i.1, .cells (hcs l) 23 true)]) := by
  have hone : ∃ a c, sv = .slice a l.length c := by
    obtain ⟨a, c, e, _⟩ := hl.at
    exact ⟨a, c, e⟩
  obtain ⟨a, c, rfl⟩ := hone
  have epr : prV mask (.slice a l.length c) = .agg ⟨hC mask ++ [.slice a l.length c]⟩ := rfl
  rw [epr]
  refine CallR.sy (n := 10) Tryd.func7 rfl rfl rfl ?_
  repeat' (first
    | (with_reducible refine Sy.seq ?_)
    | (with_reducible refine Sy.regionL ?_)
    | (with_reducible refine Sy.opsnil ?_)
    | (with_reducible refine Sy.go ?_)
    | (with_reducible refine Sy.nrm ?_)
    | ((with_reducible apply Sy.drawL (id := 1) 8 [(1, 5)] (fun hi h => h = q1)); (case hp => kernel_rfl); (case hN => exact rfl); intro base hbase hM)
    | ((with_reducible refine Sy.ldN (t := 24) rfl rfl (by repeat (first | exact Has.here | apply Has.there | apply Has.app)) ldS ?_))
    | ((with_reducible apply Sy.fa (t := 26) (i := 0)); (case hd => exact rfl); (case hx => exact rfl); (case hv => exact (fa26_0 _ _)))
    | ((with_reducible apply Sy.ldN (t := 23)); (case hd => exact rfl); (case hx => exact rfl); (case hm => repeat (first | exact Has.here | apply Has.there)); (case hv => first | exact ld_agg (cs' := hC _) ag23 sz23 (by simp; done) (by first | exact cut_here (by simp; done))))
    | ((with_reducible apply Sy.fa (t := 26) (i := 1)); (case hd => exact rfl); (case hx => exact rfl); (case hv => exact (fa26_1 _ _)))
    | ((with_reducible apply Sy.dwr (SK := [(q1, .cells (hC mask ++ [.slice a l.length c]) 26 true)])); (case hw => first | exact wantY_none); (case hc => intro hcls; cases hcls); (case h1 => exact rfl); (case hS => intro h hh; subst hh; exact ⟨_, List.mem_singleton.2 rfl⟩); (case hk => exact .consN (by repeat (first | exact Has.here | apply Has.there | apply Has.app)) .nil))
    | ((with_reducible apply Sy.dand); (case hk => exact .consN (by repeat (first | exact Has.here | apply Has.there | apply Has.app)) .nil))
    | ((with_reducible apply Sy.newY (o := ⟨some 1, .box 26 _, _, _, _, _⟩)); (case ho => exact rfl); (case hd => exact rfl); (case hc => exact (nbA rfl)); intro q1)
    | ((with_reducible apply Sy.newY (o := ⟨some 2, .alloc 27, _, _, _, _⟩)); (case ho => exact rfl); (case hd => exact rfl); (case hc => exact (nwz27)); intro q2)
    | ((with_reducible apply Sy.dnew (o := ⟨some 5, .buildSlice 24 _ _, _, _, _, _⟩)); (case hw => first | exact wantY_none); (case ho => exact rfl); (case hd => exact rfl); (case hi1 => exact rfl); (case h1 => exact rfl); (case h2 => exact rfl); (case hc => exact (nbs0 Tryd.underlying24 sz23 zr23 rfl (by decide) rfl)); intro q5 hq5)
    | ((with_reducible apply Sy.dld); (case hw => first | exact wantY_none); (case hx => exact rfl); (case hb => omega); (case h2 => exact rfl)))
  rcases hl with ⟨he, rfl⟩ | ⟨b, c', T, w, he, hb⟩
  · simp only [List.length_nil, Value.slice.injEq, true_and] at he
    obtain ⟨rfl, rfl⟩ := he
    refine Sy.appZ (t := 24) (xt := 24) (ap24_24 zr23 rfl) rfl rfl rfl (.inl ⟨_, _, _, _, rfl⟩) SrcY.nil rfl ?_
    refine Sy.dand (.consN (by repeat (first | exact Has.here | apply Has.there | apply Has.app)) .nil) ?_
    repeat' (first
    | (with_reducible refine Sy.nrm ?_)
    | ((with_reducible refine Sy.build (t := 27) rfl rfl (bvPr rfl) ?_))
    | ((with_reducible refine Sy.stNa (t := 27) rfl rfl sz27 (by simp) (by simp [oneL_append, hC_one, oneL_cons, oneL_nil, Value.oneCell']) (by repeat (first | exact Turn.here | apply Turn.there | apply Turn.app)) (by simp) setPr ?_))
    | (with_reducible refine Sy.ret ?_)
    | (with_reducible refine Sy.dend ?_)
    | ((with_reducible apply Sy.dgo); (case hw => first | exact wantY_none); (case hc => intro hcls; cases hcls); (case h1 => exact rfl); (case h2 => exact rfl)))
    exact .fin [_] (.inr rfl) ⟨⟨q2, 0, _, rfl, (by repeat (first | exact Has.here | apply Has.there | apply Has.app)), ld_all ag27 (by simp [sz27])⟩, trivial⟩ fun H' hp => ⟨(q5, 0), trivial, rfl, hp.less (.cons_cons _ (List.nil_sublist _))⟩
  · simp only [Value.slice.injEq, true_and] at he
    obtain ⟨rfl, rfl⟩ := he
    have hsrc : ∀ {lo hi : Nat} {Mn : Hm}, SrcY H lo hi [] Mn 32 (.slice (some ⟨b, 0, none⟩) l.length c) l.length (hcs l) := fun {lo hi Mn} => (SrcY.of0 hb (by simp) (by rw [hcs_length]; omega)).eq (by rw [List.drop_zero, List.take_of_length_le (by rw [hcs_length]; omega)])
    by_cases hl0 : l = []
    · subst hl0
      refine Sy.appZ (t := 24) (xt := 24) (ap24_24 zr23 rfl) rfl rfl rfl (.inl ⟨_, _, _, _, rfl⟩) hsrc rfl ?_
      refine Sy.dand (.consN (by repeat (first | exact Has.here | apply Has.there | apply Has.app)) .nil) ?_
      repeat' (first
    | (with_reducible refine Sy.nrm ?_)
    | ((with_reducible refine Sy.build (t := 27) rfl rfl (bvPr rfl) ?_))
    | ((with_reducible refine Sy.stNa (t := 27) rfl rfl sz27 (by simp) (by simp [oneL_append, hC_one, oneL_cons, oneL_nil, Value.oneCell']) (by repeat (first | exact Turn.here | apply Turn.there | apply Turn.app)) (by simp) setPr ?_))
    | (with_reducible refine Sy.ret ?_)
    | (with_reducible refine Sy.dend ?_)
    | ((with_reducible apply Sy.dgo); (case hw => first | exact wantY_none); (case hc => intro hcls; cases hcls); (case h1 => exact rfl); (case h2 => exact rfl)))
      exact .fin [_] (.inr rfl) ⟨⟨q2, 0, _, rfl, (by repeat (first | exact Has.here | apply Has.there | apply Has.app)), ld_all ag27 (by simp [sz27])⟩, trivial⟩ fun H' hp => ⟨(q5, 0), trivial, rfl, hp.less (.cons_cons _ (List.nil_sublist _))⟩
    · refine Sy.appF (t := 24) (xt := 24) (ap24_24 zr23 rfl) rfl rfl rfl hsrc (hcs_one l) (by simpa using hl0) (by omega) (fun H1 hH => hH.getN (by repeat (first | exact Has.here | apply Has.there | apply Has.app))) (by simp) (old := []) rfl ?_
      intro b2
      refine Sy.dand (.consN (by repeat (first | exact Has.here | apply Has.there | apply Has.app)) .nil) ?_
      repeat' (first
    | (with_reducible refine Sy.nrm ?_)
    | ((with_reducible refine Sy.build (t := 27) rfl rfl (bvPr rfl) ?_))
    | ((with_reducible refine Sy.stNa (t := 27) rfl rfl sz27 (by simp) (by simp [oneL_append, hC_one, oneL_cons, oneL_nil, Value.oneCell']) (by repeat (first | exact Turn.here | apply Turn.there | apply Turn.app)) (by simp) setPr ?_))
    | (with_reducible refine Sy.ret ?_)
    | (with_reducible refine Sy.dend ?_)
    | ((with_reducible apply Sy.dgo); (case hw => first | exact wantY_none); (case hc => intro hcls; cases hcls); (case h1 => exact rfl); (case h2 => exact rfl)))
      exact .fin [_] (.inr rfl) ⟨⟨q2, 0, _, rfl, (by repeat (first | exact Has.here | apply Has.there | apply Has.app)), ld_all ag27 (by simp [sz27])⟩, trivial⟩ fun H' hp => ⟨(b2, 0 + l.length + 2 + 32), trivial, by rw [Nat.zero_add]; rfl, hp.less (.cons_cons _ (List.nil_sublist _))⟩
end Go.Proofs.YtmlofdgamdlcgaaDoor

/- Layer 06: proofs compared; New of one pair; knows. -/
namespace Go.Proofs.YtmlofdgamdlcgaaDoor
open Go Go.Am
set_option maxRecDepth 100000
set_option linter.unusedVariables false

theorem c_Same (mask : Hsh) (v1 v2 : Value) (l : List Hsh) (H : AHeap) (h1 : HsAt H v1 l) (h2 : HsAt H v2 l) (hn : l.length ≤ 4398046511104) : CallR Tryd.prog noPrims 17 [prV mask v1, prV mask v2] H (fun u H' => u = .bool true ∧ Hp H 0 0 H' [] []) := by
  obtain ⟨a1, c1, rfl, h1⟩ := h1
  obtain ⟨a2, c2, rfl, h2⟩ := h2
  unfold prV
  refine CallR.sy (n := 38) Tryd.func17 rfl rfl rfl ?_
  repeat' (first
    | (with_reducible refine Sy.seq ?_)
    | (with_reducible refine Sy.regionL ?_)
    | (with_reducible refine Sy.opsnil ?_)
    | (with_reducible refine Sy.go ?_)
    | (with_reducible refine Sy.nrm ?_)
    | ((with_reducible refine Sy.ldN (t := 24) rfl rfl (by repeat (first | exact Has.here | apply Has.there | apply Has.app)) ldS ?_))
    | ((with_reducible apply Sy.assign); (case hd => exact rfl); (case hx => exact rfl))
    | ((with_reducible apply Sy.fa (t := 27) (i := 0)); (case hd => exact rfl); (case hx => exact rfl); (case hv => exact (fa27_0 _ _)))
    | ((with_reducible apply Sy.ldN (t := 23)); (case hd => exact rfl); (case hx => exact rfl); (case hm => repeat (first | exact Has.here | apply Has.there)); (case hv => first | exact ld_agg (cs' := hC _) ag23 sz23 (by simp; done) (by first | exact cut_here (by simp; done))))
    | ((with_reducible apply Sy.fa (t := 26) (i := 0)); (case hd => exact rfl); (case hx => exact rfl); (case hv => exact (fa26_0 _ _)))
    | ((with_reducible apply Sy.bin (op := .neq) (t := 23)); (case hd => exact rfl); (case hx => exact rfl); (case hy => exact rfl); (case hv => exact (ne23)))
    | ((with_reducible apply Sy.move); (case hd => exact rfl); (case hx => exact rfl))
    | ((with_reducible apply Sy.fa (t := 27) (i := 1)); (case hd => exact rfl); (case hx => exact rfl); (case hv => exact (fa27_1 _ _)))
    | ((with_reducible apply Sy.lenS); (case hd => exact rfl); (case ht => exact Tryd.underlying24); (case hx => exact rfl))
    | ((with_reducible apply Sy.fa (t := 26) (i := 1)); (case hd => exact rfl); (case hx => exact rfl); (case hv => exact (fa26_1 _ _)))
    | ((with_reducible apply Sy.bin (op := .neq) (t := 3)); (case hd => exact rfl); (case hx => exact rfl); (case hy => exact rfl); (case hv => exact b_neq))
    | ((with_reducible apply Sy.pickT); (case hd => exact rfl); (case hx => exact rfl); (case hy => exact rfl))
    | ((with_reducible apply Sy.pickF); (case hd => exact rfl); (case hx => exact rfl); (case hy => exact rfl))
    | ((with_reducible apply Sy.newY (o := ⟨some 2, .box 27 _, _, _, _, _⟩)); (case ho => exact rfl); (case hd => exact rfl); (case hc => exact (nbA rfl)); intro q2)
    | ((with_reducible apply Sy.newY (o := ⟨some 3, .box 26 _, _, _, _, _⟩)); (case ho => exact rfl); (case hd => exact rfl); (case hc => exact (nbA rfl)); intro q3)
    | (with_reducible refine Sy.skip ?_)
    | (with_reducible refine Sy.ret ?_)
    | (with_reducible refine Sy.block ?_)
    | (with_reducible refine Sy.aret ?_)
    | ((with_reducible apply Sy.yes); (case hx => exact rfl))
    | ((with_reducible apply Sy.goG); (case hj => exact rfl); (case ht => exact rfl); (case hb => exact rfl))
    | ((with_reducible apply Sy.noG); (case hj => exact rfl); (case ht => exact rfl); (case hb => exact rfl); (case hc => exact rfl); (case hd => exact rfl))
    | ((with_reducible apply Sy.caseG); (case hj => exact rfl); (case hx => exact rfl); all_goals (intro hc; try (exfalso; omega)))
    | ((with_reducible apply Sy.ite); (case hx => exact rfl); all_goals (intro hc; try (exfalso; omega))))
  all_goals (try exact absurd rfl hc)
  refine Sy.loop (ι := Nat) (fun i => l.length - i) (fun i => [(2, .pointer (some ⟨q2, 0, none⟩)), (3, .pointer (some ⟨q3, 0, none⟩)), (5, .int .i64 (i : Nat))]) (fun _ => []) (fun _ => [(q3, .cells (hC mask ++ [.slice a2 l.length c2]) 26 true), (q2, .cells (hC mask ++ [.slice a1 l.length c1]) 27 true)]) (fun i => i ≤ l.length) 0 (Nat.zero_le _) ⟨rfl, rfl, rfl, trivial⟩ (fun H h => h) ?_
  intro i hi
  by_cases hlt : i < l.length
  · obtain ⟨x, hx⟩ : ∃ x, l[i]? = some x := ⟨l[i], List.getElem?_eq_getElem hlt⟩
    rcases h1 with rfl | ⟨b1, T1, w1, rfl, hb1⟩
    · simp at hlt
    rcases h2 with rfl | ⟨b2, T2, w2, rfl, hb2⟩
    · simp at hlt
    repeat' (first
    | (with_reducible refine Sy.seq ?_)
    | (with_reducible refine Sy.regionL ?_)
    | (with_reducible refine Sy.opsnil ?_)
    | (with_reducible refine Sy.go ?_)
    | (with_reducible refine Sy.nrm ?_)
    | ((with_reducible refine Sy.ldN (t := 24) rfl rfl (by repeat (first | exact Has.here | apply Has.there | apply Has.app)) ldS ?_))
    | ((with_reducible apply Sy.assign); (case hd => exact rfl); (case hx => exact rfl))
    | ((with_reducible apply Sy.bin (op := .neq) (t := 23)); (case hd => exact rfl); (case hx => exact rfl); (case hy => exact rfl); (case hv => exact (ne23)))
    | ((with_reducible apply Sy.move); (case hd => exact rfl); (case hx => exact rfl))
    | ((with_reducible apply Sy.fa (t := 27) (i := 1)); (case hd => exact rfl); (case hx => exact rfl); (case hv => exact (fa27_1 _ _)))
    | ((with_reducible apply Sy.lenS); (case hd => exact rfl); (case ht => exact Tryd.underlying24); (case hx => exact rfl))
    | ((with_reducible apply Sy.fa (t := 26) (i := 1)); (case hd => exact rfl); (case hx => exact rfl); (case hv => exact (fa26_1 _ _)))
    | ((with_reducible apply Sy.bin (op := .lss) (t := 3)); (case hd => exact rfl); (case hx => exact rfl); (case hy => exact rfl); (case hv => exact b_lss))
    | ((with_reducible apply Sy.ia (t := 24)); (case hd => exact rfl); (case hx => exact rfl); (case hy => exact rfl); (case hv => exact (ia_sl Tryd.underlying24 sz23 (by omega))))
    | ((with_reducible apply Sy.bin (op := .add) (t := 3)); (case hd => exact rfl); (case hx => exact rfl); (case hy => exact rfl); (case hv => exact (b_add (by omega))))
    | (with_reducible refine Sy.ld0 (t := 23) rfl rfl hb1 rfl (by simp only [List.forall_mem_cons, List.not_mem_nil, false_implies, implies_true, and_true, ne_eq]; first | done | omega | (repeat (first | with_reducible assumption | (refine And.intro ?_ ?_)))) (hcs_k hx (by omega)) ?_)
    | (with_reducible refine Sy.ld0 (t := 23) rfl rfl hb2 rfl (by simp only [List.forall_mem_cons, List.not_mem_nil, false_implies, implies_true, and_true, ne_eq]; first | done | omega | (repeat (first | with_reducible assumption | (refine And.intro ?_ ?_)))) (hcs_k hx (by omega)) ?_)
    | (with_reducible refine Sy.skip ?_)
    | (with_reducible refine Sy.ret ?_)
    | (with_reducible refine Sy.block ?_)
    | (with_reducible refine Sy.aret ?_)
    | (with_reducible refine Sy.inrm ?_)
    | (with_reducible refine Sy.iret ?_)
    | (with_reducible refine Sy.rret ?_)
    | ((with_reducible apply Sy.drawL (id := 6) 11 [] (fun hi h => h < hi)); (case hp => kernel_rfl); (case hN => exact rfl); intro base hbase hM; try simp only [List.forall_mem_cons, List.forall_mem_append, List.not_mem_nil, false_implies, implies_true, and_true] at hM)
    | (with_reducible refine Sy.dend ?_)
    | ((with_reducible apply Sy.dgo); (case hw => first | exact wantY_none); (case hc => intro hcls; cases hcls); (case h1 => exact rfl); (case h2 => exact rfl))
    | ((with_reducible apply Sy.ite); (case hx => exact rfl); all_goals (intro hc; try (exfalso; omega))))
    all_goals first
      | exact absurd rfl hc
      | exact Sy.rnrm (i + 1) (by omega) (by omega) ⟨rfl, rfl, rfl, trivial⟩ (fun H h => h)
  · repeat' (first
    | (with_reducible refine Sy.seq ?_)
    | (with_reducible refine Sy.regionL ?_)
    | (with_reducible refine Sy.opsnil ?_)
    | (with_reducible refine Sy.go ?_)
    | (with_reducible refine Sy.nrm ?_)
    | ((with_reducible refine Sy.ldN (t := 24) rfl rfl (by repeat (first | exact Has.here | apply Has.there | apply Has.app)) ldS ?_))
    | ((with_reducible apply Sy.assign); (case hd => exact rfl); (case hx => exact rfl))
    | ((with_reducible apply Sy.move); (case hd => exact rfl); (case hx => exact rfl))
    | ((with_reducible apply Sy.fa (t := 27) (i := 1)); (case hd => exact rfl); (case hx => exact rfl); (case hv => exact (fa27_1 _ _)))
    | ((with_reducible apply Sy.lenS); (case hd => exact rfl); (case ht => exact Tryd.underlying24); (case hx => exact rfl))
    | ((with_reducible apply Sy.bin (op := .lss) (t := 3)); (case hd => exact rfl); (case hx => exact rfl); (case hy => exact rfl); (case hv => exact b_lss))
    | (with_reducible refine Sy.exit ?_)
    | (with_reducible refine Sy.ret ?_)
    | (with_reducible refine Sy.aex ?_)
    | ((with_reducible apply Sy.iex); (case hi' => exact rfl))
    | (with_reducible refine Sy.rex ?_)
    | ((with_reducible apply Sy.ite); (case hx => exact rfl); all_goals (intro hc; try (exfalso; omega))))
    exact .fin [_] (.inr rfl) ⟨rfl, trivial⟩ fun H' hp => ⟨rfl, hp.less (List.nil_sublist _)⟩
theorem c_num6 (e : Nat) (H : AHeap) : CallR Tryd.prog noPrims 14 [.int .i64 ((e : Nat) : Int)] H (fun u H' => u = .int .i64 ((e : Nat) : Int) ∧ Hp H 0 0 H' [] []) := by
  refine CallR.sy (n := 4) Tryd.func14 rfl rfl rfl ?_
  repeat' (first
    | (with_reducible refine Sy.seq ?_)
    | (with_reducible refine Sy.regionL ?_)
    | (with_reducible refine Sy.opsnil ?_)
    | (with_reducible refine Sy.go ?_)
    | (with_reducible refine Sy.nrm ?_)
    | ((with_reducible apply Sy.assign); (case hd => exact rfl); (case hx => exact rfl))
    | ((with_reducible apply Sy.move); (case hd => exact rfl); (case hx => exact rfl))
    | (with_reducible refine Sy.ret ?_))
  exact .fin [.int .i64 ((e : Nat) : Int)] (.inr rfl) ⟨rfl, trivial⟩ fun H' hp => ⟨rfl, hp⟩

theorem plain_ints6 (k : IntKind) (l : List Nat) : plainL (ints k l) = true := by
  induction l with
  | nil => rfl
  | cons a l ih => simpa [ints, plainL, plainV] using ih
theorem keyH (h : Hsh) : keyOK Tryd.prog 23 (hV h) = true := by
  have hl : (hC h).length = 32 := hC_length h
  have hp : plainL (hC h) = true := plain_ints6 _ _
  simp [keyOK, hV, ek23, ag23, hl, hp]
theorem eqHH (h : Hsh) : eqV Tryd.prog 23 (hV h) (hV h) = some true := by
  have := eq23 (a := h) (b := h)
  simpa [binV] using this
theorem c_PutNil {m : Nat} (k v : Hsh) (H : AHeap) (g : Gl H) (hm0 : m ≠ 0) (hm1 : m ≠ 1) (hm : H.get m = .cells (mapC none ((0 : Nat) : Int) true) 75 true) :
    CallR Tryd.prog noPrims 20 [.pointer (some ⟨m, 0, none⟩), hV k, hV v] H (fun u H' => ∃ i : Option Addr × Hm, (∀ H1, TreeL H1 0 i.2 i.1 (Put1 k v .nil ((0 : Nat) : Int)).1) ∧ u = .int .i64 (((Put1 k v .nil ((0 : Nat) : Int)).2.2 : Nat) : Int) ∧ Hp H 0 0 H' [(m, .cells (mapC i.1 (Put1 k v .nil ((0 : Nat) : Int)).2.1 true) 75 true)] i.2) := by
  refine (c_Put (B := 0) (t := .nil) (k := k) (v := v) H g hm0 hm1 hm .nil (Nat.zero_le _) (lv_nil _) (by omega) (by omega)).mono ?_
  rintro u H' ⟨i, hT, hu, hp⟩
  exact ⟨i, fun H1 => hT.move fun a _ _ _ ha => absurd ha (Nat.not_lt_zero a), hu, hp⟩
set_option maxHeartbeats 2000000 in
theorem c_New1 (k v : Hsh) (b c : Nat) (w : Bool) (H : AHeap) (g : Gl H) (hb : H.get b = .cells (hC k ++ hC v) 70 w) : CallR Tryd.prog noPrims 19 [.slice (some ⟨b, 0, none⟩) 1 c] H (fun u H' => ∃ i : Nat × Option Addr × Hm, (∀ H1, TreeL H1 0 i.2.2 i.2.1 (Put1 k v .nil ((0 : Nat) : Int)).1) ∧ u = .tuple ⟨[.pointer (some ⟨i.1, 0, none⟩), .int .i64 ((0 : Nat) : Int)]⟩ ∧ Hp H 0 0 H' [] (i.2.2 ++ [(i.1, .cells (mapC i.2.1 (Put1 k v .nil ((0 : Nat) : Int)).2.1 true) 75 true)])) := by
  have h2n := g.two
  have hpair : ∀ {o : Nat}, o = 0 → aLoad Tryd.prog 70 (.cells (hC k ++ hC v) 70 w) o = some (.agg ⟨hC k ++ hC v⟩) := fun ho => by subst ho; exact ld_all ag70 (by rw [sz70]; simp)
  refine CallR.sy (n := 53) Tryd.func19 rfl rfl rfl ?_
  repeat' (first
    | (with_reducible refine Sy.seq ?_)
    | (with_reducible refine Sy.regionL ?_)
    | (with_reducible refine Sy.opsnil ?_)
    | (with_reducible refine Sy.go ?_)
    | (with_reducible refine Sy.nrm ?_)
    | ((with_reducible apply Sy.assign); (case hd => exact rfl); (case hx => exact rfl))
    | ((with_reducible apply Sy.move); (case hd => exact rfl); (case hx => exact rfl))
    | ((with_reducible apply Sy.lenS); (case hd => exact rfl); (case ht => exact Tryd.underlying71); (case hx => exact rfl))
    | ((with_reducible apply Sy.bin (op := .gtr) (t := 3)); (case hd => exact rfl); (case hx => exact rfl); (case hy => exact rfl); (case hv => exact b_gtr))
    | ((with_reducible apply Sy.build (t := 75)); (case hd => exact rfl); (case hx => exact rfl); (case hv => exact (bv75 (by first | rfl))))
    | ((with_reducible apply Sy.newY (o := ⟨some 14, .makeMap 72 _, _, _, _, _⟩)); (case ho => exact rfl); (case hd => exact rfl); (case hc => exact newY_map); intro q14)
    | ((with_reducible apply Sy.newY (o := ⟨some 16, .box 75 _, _, _, _, _⟩)); (case ho => exact rfl); (case hd => exact rfl); (case hc => exact (nbA rfl)); intro q16)
    | (with_reducible refine Sy.skip ?_)
    | (with_reducible refine Sy.block ?_)
    | ((with_reducible apply Sy.no); (case hx => exact rfl)))
  refine Sy.loop (ι := Nat) (fun i => 1 - i) (fun i => [(0, .slice (some ⟨b, 0, none⟩) 1 c), (4, .map (some q14)), (5, .pointer (some ⟨q16, 0, none⟩)), (17, .slice (some ⟨b, 0, none⟩) 1 c), (18, .int .i64 ((1 : Nat) : Int)), (19, .int .i64 (i : Nat))]) (fun _ => []) (fun i => [(q16, .cells (mapC none ((0 : Nat) : Int) true) 75 true), (q14, if i = 0 then .map [] 0 else .map [⟨hV k, .bool true, 0⟩] 1)]) (fun i => i ≤ 1) 0 (Nat.zero_le _) ⟨rfl, rfl, rfl, rfl, rfl, rfl, trivial⟩ (fun H h => h) ?_
  intro i hi
  by_cases h0 : i = 0
  · subst h0
    simp only [if_true]
    repeat' (first
    | (with_reducible refine Sy.seq ?_)
    | (with_reducible refine Sy.regionL ?_)
    | (with_reducible refine Sy.opsnil ?_)
    | (with_reducible refine Sy.go ?_)
    | (with_reducible refine Sy.nrm ?_)
    | ((with_reducible apply Sy.move); (case hd => exact rfl); (case hx => exact rfl))
    | ((with_reducible apply Sy.bin (op := .lss) (t := 3)); (case hd => exact rfl); (case hx => exact rfl); (case hy => exact rfl); (case hv => exact b_lss))
    | ((with_reducible apply Sy.ia (t := 71)); (case hd => exact rfl); (case hx => exact rfl); (case hy => exact rfl); (case hv => exact (ia_sl Tryd.underlying71 sz70 (by omega))))
    | ((with_reducible apply Sy.ld0 (t := 70)); (case hd => exact rfl); (case hx => exact rfl); (case hm => with_reducible assumption); (case hl => exact rfl); (case hn => simp only [List.forall_mem_cons, List.not_mem_nil, false_implies, implies_true, and_true, ne_eq]; first | done); (case hv => first | exact ld_all ag70 (by first | (simp [sz70, *]; done))))
    | ((with_reducible apply Sy.stNa (t := 70)); (case hx => exact rfl); (case hy => exact rfl); (case hs => exact sz70); (case hl => first | (simp; done)); (case h1 => first | (simp [oneL_append, oneL_cons, oneL_nil, hC_one, oneL_ints]; done)); (case hm => repeat (first | exact Turn.here)); (case hle => first | (simp; done)); (case hc => first | exact lay_all (by first | (simp; done))))
    | ((with_reducible apply Sy.fa (t := 70) (i := 0)); (case hd => exact rfl); (case hx => exact rfl); (case hv => exact (fa70_0 _ _)))
    | ((with_reducible apply Sy.ldN (t := 23)); (case hd => exact rfl); (case hx => exact rfl); (case hm => repeat (first | exact Has.here)); (case hv => first | exact ld_agg (cs' := hC _) ag23 sz23 (by simp; done) (by first | exact cut_here (by simp; done))))
    | ((with_reducible apply Sy.bin (op := .add) (t := 3)); (case hd => exact rfl); (case hx => exact rfl); (case hy => exact rfl); (case hv => exact (b_add (by omega))))
    | ((with_reducible refine Sy.lookup0 (v := .bool false) rfl Tryd.underlying72 rfl rfl (keyH k) (by repeat (first | exact Has.here | apply Has.there | apply Has.app)) (by kernel_rfl) ?_))
    | ((with_reducible refine Sy.mapUp0 rfl Tryd.underlying72 rfl rfl rfl (keyH k) (by repeat (first | exact Turn.here | apply Turn.there | apply Turn.app)) ?_))
    | ((with_reducible apply Sy.newY (o := ⟨some 7, .alloc 70, _, _, _, _⟩)); (case ho => exact rfl); (case hd => exact rfl); (case hc => exact (nwz70)); intro q7)
    | (with_reducible refine Sy.skip ?_)
    | (with_reducible refine Sy.block ?_)
    | (with_reducible refine Sy.inrm ?_)
    | ((with_reducible apply Sy.yes); (case hx => exact rfl))
    | ((with_reducible apply Sy.no); (case hx => exact rfl)))
    exact Sy.rnrm 1 (Nat.le_refl _) (by omega) ⟨rfl, rfl, rfl, rfl, rfl, rfl, trivial⟩ (fun H h => h.less (.cons _ (.refl _)))
  · obtain rfl : i = 1 := by omega
    rw [if_neg (by decide)]
    repeat' (first
    | (with_reducible refine Sy.seq ?_)
    | (with_reducible refine Sy.regionL ?_)
    | (with_reducible refine Sy.opsnil ?_)
    | (with_reducible refine Sy.go ?_)
    | (with_reducible refine Sy.nrm ?_)
    | ((with_reducible apply Sy.move); (case hd => exact rfl); (case hx => exact rfl))
    | ((with_reducible apply Sy.bin (op := .lss) (t := 3)); (case hd => exact rfl); (case hx => exact rfl); (case hy => exact rfl); (case hv => exact b_lss))
    | ((with_reducible refine Sy.rangeM (t := 72) rfl Tryd.underlying72 rfl (by repeat (first | exact Has.here | apply Has.there | apply Has.app)) ?_); intro q32)
    | (with_reducible refine Sy.exit ?_)
    | (with_reducible refine Sy.block ?_)
    | (with_reducible refine Sy.aex ?_)
    | ((with_reducible apply Sy.iex); (case hi' => exact rfl))
    | (with_reducible refine Sy.rex ?_)
    | ((with_reducible apply Sy.no); (case hx => exact rfl)))
    refine Sy.loop (ι := Nat) (fun i => 1 - i) (fun i => [(0, .slice (some ⟨b, 0, none⟩) 1 c), (4, .map (some q14)), (5, .pointer (some ⟨q16, 0, none⟩)), (32, .pointer (some ⟨q32, 0, none⟩))]) (fun _ => []) (fun i => [(q32, if i = 0 then .miter (some q14) 1 [] 1 else .miter (some q14) 1 [0] 1), (q16, .cells (mapC none ((0 : Nat) : Int) true) 75 true), (q14, if i = 0 then .map [⟨hV k, .bool true, 0⟩] 1 else .map [] 1)]) (fun i => i ≤ 1) 0 (Nat.zero_le _) ⟨rfl, rfl, rfl, rfl, trivial⟩ (fun H h => h) ?_
    intro i hi
    by_cases h0 : i = 0
    · subst h0
      simp only [if_true]
      repeat' (first
    | (with_reducible refine Sy.seq ?_)
    | (with_reducible refine Sy.regionL ?_)
    | (with_reducible refine Sy.opsnil ?_)
    | (with_reducible refine Sy.go ?_)
    | (with_reducible refine Sy.nrm ?_)
    | ((with_reducible apply Sy.move); (case hd => exact rfl); (case hx => exact rfl))
    | ((with_reducible apply Sy.ldN (t := 23)); (case hd => exact rfl); (case hx => exact rfl); (case hm => repeat (first | exact Has.here)); (case hv => first | exact ld_hV ag23 sz23))
    | ((with_reducible apply Sy.ext); (case hd => exact rfl); (case hx => exact rfl); (case hv => exact rfl))
    | ((with_reducible apply Sy.stNa (t := 23)); (case hx => exact rfl); (case hy => exact rfl); (case hs => exact sz23); (case hl => first | exact hC_length _); (case h1 => first | exact hC_one _); (case hm => repeat (first | exact Turn.here)); (case hle => first | (simp; done)); (case hc => first | exact lay_all (by first | (simp; done))))
    | (with_reducible refine Sy.next1 rfl rfl (by repeat (first | exact Turn.here | apply Turn.there | apply Turn.app)) (by repeat (first | exact Has.here | apply Has.there | apply Has.app)) (by decide) ?_)
    | (with_reducible refine Sy.entry1 rfl rfl (by repeat (first | exact Has.here | apply Has.there | apply Has.app)) (by repeat (first | exact Has.here | apply Has.there | apply Has.app)) ?_)
    | (with_reducible refine Sy.del1 rfl rfl Tryd.underlying72 rfl rfl (keyH k) (eqHH k) (by repeat (first | exact Turn.here | apply Turn.there | apply Turn.app)) ?_)
    | ((with_reducible apply Sy.newY (o := ⟨some 8, .alloc 23, _, _, _, _⟩)); (case ho => exact rfl); (case hd => exact rfl); (case hc => exact (nwz23)); intro q8)
    | (with_reducible refine Sy.skip ?_)
    | (with_reducible refine Sy.block ?_)
    | (with_reducible refine Sy.inrm ?_)
    | ((with_reducible apply Sy.yes); (case hx => exact rfl)))
      exact Sy.rnrm 1 (Nat.le_refl _) (by omega) ⟨rfl, rfl, rfl, rfl, trivial⟩ (fun H h => h.less (.cons _ (.refl _)))
    · obtain rfl : i = 1 := by omega
      rw [if_neg (by decide), if_neg (by decide)]
      repeat' (first
    | (with_reducible refine Sy.seq ?_)
    | (with_reducible refine Sy.regionL ?_)
    | (with_reducible refine Sy.opsnil ?_)
    | (with_reducible refine Sy.go ?_)
    | (with_reducible refine Sy.nrm ?_)
    | ((with_reducible apply Sy.move); (case hd => exact rfl); (case hx => exact rfl))
    | ((with_reducible apply Sy.lenS); (case hd => exact rfl); (case ht => exact Tryd.underlying71); (case hx => exact rfl))
    | ((with_reducible apply Sy.ext); (case hd => exact rfl); (case hx => exact rfl); (case hv => exact rfl))
    | (with_reducible refine Sy.nextE rfl rfl (by repeat (first | exact Has.here | apply Has.there | apply Has.app)) (by repeat (first | exact Has.here | apply Has.there | apply Has.app)) ?_)
    | (with_reducible refine Sy.exit ?_)
    | (with_reducible refine Sy.block ?_)
    | (with_reducible refine Sy.aex ?_)
    | ((with_reducible apply Sy.iex); (case hi' => exact rfl))
    | (with_reducible refine Sy.rex ?_)
    | ((with_reducible apply Sy.no); (case hx => exact rfl)))
      refine Sy.loop (ι := Option (Option Addr × Hm)) (fun i => if i.isNone then 1 else 0) (fun i => [(5, .pointer (some ⟨q16, 0, none⟩)), (39, .slice (some ⟨b, 0, none⟩) 1 c), (40, .int .i64 ((1 : Nat) : Int)), (41, .int .i64 (((if i.isNone then 0 else 1 : Nat) : Nat) : Int))]) (fun _ => []) (fun i => match i with | none => [(q16, .cells (mapC none ((0 : Nat) : Int) true) 75 true)] | some x => x.2 ++ [(q16, .cells (mapC x.1 (Put1 k v .nil ((0 : Nat) : Int)).2.1 true) 75 true)])
        (fun i => match i with | none => True | some x => ∀ H1, TreeL H1 0 x.2 x.1 (Put1 k v .nil ((0 : Nat) : Int)).1) none trivial ⟨rfl, rfl, rfl, rfl, trivial⟩ (fun H h => h.less (.cons _ (.cons_cons _ (List.nil_sublist _)))) ?_
      intro i hI
      cases i with
      | none =>
        simp only [Option.isNone_none, if_true]
        (try dsimp only)
        repeat' (first
    | (with_reducible refine Sy.seq ?_)
    | (with_reducible refine Sy.regionL ?_)
    | (with_reducible refine Sy.opsnil ?_)
    | (with_reducible refine Sy.go ?_)
    | (with_reducible refine Sy.nrm ?_)
    | ((with_reducible refine Sy.ldN (t := 23) rfl rfl (by repeat (first | exact Has.here | apply Has.there | apply Has.app)) ldv ?_))
    | ((with_reducible apply Sy.move); (case hd => exact rfl); (case hx => exact rfl))
    | ((with_reducible apply Sy.bin (op := .lss) (t := 3)); (case hd => exact rfl); (case hx => exact rfl); (case hy => exact rfl); (case hv => exact b_lss))
    | ((with_reducible apply Sy.ia (t := 71)); (case hd => exact rfl); (case hx => exact rfl); (case hy => exact rfl); (case hv => exact (ia_sl Tryd.underlying71 sz70 (by omega))))
    | ((with_reducible apply Sy.ld0 (t := 70)); (case hd => exact rfl); (case hx => exact rfl); (case hm => with_reducible assumption); (case hl => exact rfl); (case hn => simp only [List.forall_mem_cons, List.not_mem_nil, false_implies, implies_true, and_true, ne_eq]; first | done); (case hv => first | exact ld_all ag70 (by first | (simp [sz70, *]; done))))
    | ((with_reducible apply Sy.stNa (t := 70)); (case hx => exact rfl); (case hy => exact rfl); (case hs => exact sz70); (case hl => first | (simp; done)); (case h1 => first | (simp [oneL_append, oneL_cons, oneL_nil, hC_one, oneL_ints]; done)); (case hm => repeat (first | exact Turn.here)); (case hle => first | (simp; done)); (case hc => first | exact lay_all (by first | (simp; done))))
    | ((with_reducible apply Sy.fa (t := 70) (i := 0)); (case hd => exact rfl); (case hx => exact rfl); (case hv => exact (fa70_0 _ _)))
    | ((with_reducible apply Sy.ldN (t := 23)); (case hd => exact rfl); (case hx => exact rfl); (case hm => repeat (first | exact Has.here)); (case hv => first | exact ld_agg (cs' := hC _) ag23 sz23 (by simp; done) (by first | exact cut_here (by simp; done))))
    | ((with_reducible apply Sy.bin (op := .add) (t := 3)); (case hd => exact rfl); (case hx => exact rfl); (case hy => exact rfl); (case hv => exact (b_add (by omega))))
    | ((with_reducible apply Sy.fa (t := 70) (i := 1)); (case hd => exact rfl); (case hx => exact rfl); (case hv => exact (fa70_1 _ _)))
    | ((with_reducible apply Sy.callTN (k := 20)); (case hd => exact rfl); (case hf => exact rfl); (case hen => exact en20); (case hx => exact rfl); (case hc => intro H' hp; exact c_PutNil k v H' (g.of hp (by simp)) (by have := (hp.new_lt (h := q16) (by repeat (first | exact Has.here | apply Has.there | apply Has.app))).1; omega) (by have := (hp.new_lt (h := q16) (by repeat (first | exact Has.here | apply Has.there | apply Has.app))).1; omega) (hp.getN (by repeat (first | exact Has.here | apply Has.there | apply Has.app)))); (case ht => intro i; repeat (first | exact Turn.here | apply Turn.there)); rintro ⟨r, L⟩ hT)
    | ((with_reducible apply Sy.newY (o := ⟨some 10, .alloc 70, _, _, _, _⟩)); (case ho => exact rfl); (case hd => exact rfl); (case hc => exact (nwz70)); intro q10)
    | (with_reducible refine Sy.skip ?_)
    | (with_reducible refine Sy.block ?_)
    | (with_reducible refine Sy.inrm ?_)
    | ((with_reducible apply Sy.yes); (case hx => exact rfl)))
        exact Sy.rnrm (some (r, L)) hT (by simp) ⟨rfl, rfl, rfl, rfl, trivial⟩ (fun H h => h.less ((List.Sublist.refl L).append (.cons _ (.refl _))))
      | some x =>
        simp only [Option.isNone_some, Bool.false_eq_true, if_false] at hI ⊢
        repeat' (first
    | (with_reducible refine Sy.seq ?_)
    | (with_reducible refine Sy.regionL ?_)
    | (with_reducible refine Sy.opsnil ?_)
    | (with_reducible refine Sy.go ?_)
    | (with_reducible refine Sy.nrm ?_)
    | ((with_reducible apply Sy.assign); (case hd => exact rfl); (case hx => exact rfl))
    | ((with_reducible apply Sy.move); (case hd => exact rfl); (case hx => exact rfl))
    | ((with_reducible apply Sy.bin (op := .lss) (t := 3)); (case hd => exact rfl); (case hx => exact rfl); (case hy => exact rfl); (case hv => exact b_lss))
    | (with_reducible refine Sy.exit ?_)
    | (with_reducible refine Sy.ret ?_)
    | (with_reducible refine Sy.aex ?_)
    | ((with_reducible apply Sy.iex); (case hi' => exact rfl))
    | (with_reducible refine Sy.rex ?_)
    | ((with_reducible apply Sy.no); (case hx => exact rfl)))
        exact .fin [_, _] (.inr rfl) ⟨rfl, rfl, trivial⟩ fun H' hp => ⟨(q16, x), hI, rfl, hp⟩
end Go.Proofs.YtmlofdgamdlcgaaDoor
