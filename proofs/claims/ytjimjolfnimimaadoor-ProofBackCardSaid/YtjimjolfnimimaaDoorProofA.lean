/- Proofs: what may be, roots. -/
import Derived.Test.YtjimjolfnimimaaDoorWalkA
import Derived.Test.YtjimjolfnimimaaDoorSy
import Derived.Test.YtjimjolfnimimaaDoorWalkC
import Derived.Test.YtjimjolfnimimaaDoorWalkB
import Derived.Test.YtjimjolfnimimaaDoorCodecA
import Derived.Test.YtjimjolfnimimaaDoorValue
set_option linter.unusedSimpArgs false
set_option linter.unusedVariables false
/- Equal things are equal, without a split. -/
namespace Go.Proofs.YtjimjolfnimimaaDoor
open Go Go.Am
theorem eqNS {n : Nat} : binV Tryd.prog .eql 3 (.int .i64 ((n : Nat) : Int)) (.int .i64 ((n : Nat) : Int)) = some (.bool true) := by rw [b_eql, decide_eq_true rfl]
end Go.Proofs.YtjimjolfnimimaaDoor

/- Layer 06: bits, rows of hashes, which proofs may be. -/
namespace Go.Proofs.YtjimjolfnimimaaDoor
open Go Go.Am
set_option maxRecDepth 100000
set_option linter.unusedVariables false

/-- Bits of a byte. -/
def popN (x : Nat) : Nat := (x >>> 7 &&& 1) + (x >>> 6 &&& 1) + (x >>> 5 &&& 1) + (x >>> 4 &&& 1) + (x >>> 3 &&& 1) + (x >>> 2 &&& 1) + (x >>> 1 &&& 1) + (x >>> 0 &&& 1)
theorem popN_le (x : Nat) : popN x ≤ 8 := by
  unfold popN
  have h : ∀ y, y &&& 1 ≤ 1 := fun y => Nat.and_le_right
  have := h (x >>> 7); have := h (x >>> 6); have := h (x >>> 5); have := h (x >>> 4); have := h (x >>> 3); have := h (x >>> 2); have := h (x >>> 1); have := h (x >>> 0)
  omega
theorem ix_str {t : TypeId} {s : ByteArray} {k2 : IntKind} {i : Nat} {y : Nat} (h : Tryd.prog.underlying t = some .string) (hi : (s.data.toList.map UInt8.toNat)[i]? = some y) : indexV Tryd.prog t (.string s) (.int k2 (i : Int)) = some (.int .u8 ((y : Nat) : Int)) := by
  have e : (s[i]?).map (fun b : UInt8 => (b.toNat : Nat)) = some y := by
    rw [List.getElem?_map] at hi
    rw [← hi]
    show Option.map (fun b : UInt8 => (b.toNat : Nat)) s.data[i]? = _
    rw [← Array.getElem?_toList]
  unfold indexV
  rw [h]
  simp only [Int.natCast_nonneg, ge_iff_le, if_true, Int.toNat_natCast]
  cases hs : s[i]? with
  | none => rw [hs] at e; simp at e
  | some b => rw [hs] at e; simp only [Option.map_some, Option.some.injEq] at e; rw [Option.map_some, e]
def popT : ByteArray := ⟨#[0, 1, 1, 2, 1, 2, 2, 3, 1, 2, 2, 3, 2, 3, 3, 4, 1, 2, 2, 3, 2, 3, 3, 4, 2, 3, 3, 4, 3, 4, 4, 5, 1, 2, 2, 3, 2, 3, 3, 4, 2, 3, 3, 4, 3, 4, 4, 5, 2, 3, 3, 4, 3, 4, 4, 5, 3, 4, 4, 5, 4, 5, 5, 6, 1, 2, 2, 3, 2, 3, 3, 4, 2, 3, 3, 4, 3, 4, 4, 5, 2, 3, 3, 4, 3, 4, 4, 5, 3, 4, 4, 5, 4, 5, 5, 6, 2, 3, 3, 4, 3, 4, 4, 5, 3, 4, 4, 5, 4, 5, 5, 6, 3, 4, 4, 5, 4, 5, 5, 6, 4, 5, 5, 6, 5, 6, 6, 7, 1, 2, 2, 3, 2, 3, 3, 4, 2, 3, 3, 4, 3, 4, 4, 5, 2, 3, 3, 4, 3, 4, 4, 5, 3, 4, 4, 5, 4, 5, 5, 6, 2, 3, 3, 4, 3, 4, 4, 5, 3, 4, 4, 5, 4, 5, 5, 6, 3, 4, 4, 5, 4, 5, 5, 6, 4, 5, 5, 6, 5, 6, 6, 7, 2, 3, 3, 4, 3, 4, 4, 5, 3, 4, 4, 5, 4, 5, 5, 6, 3, 4, 4, 5, 4, 5, 5, 6, 4, 5, 5, 6, 5, 6, 6, 7, 3, 4, 4, 5, 4, 5, 5, 6, 4, 5, 5, 6, 5, 6, 6, 7, 4, 5, 5, 6, 5, 6, 6, 7, 5, 6, 6, 7, 6, 7, 7, 8]⟩
theorem pop_all : ∀ i : Fin 256, (popT.data.toList.map UInt8.toNat)[i.1]? = some (popN i.1) := by decide +kernel
theorem pop_tab (x : Nat) (hx : x < 256) : (popT.data.toList.map UInt8.toNat)[x]? = some (popN x) := pop_all ⟨x, hx⟩
theorem c_pop (x : Nat) (hx : x < 256) (H : AHeap) : CallR Tryd.prog noPrims 106 [.int .u8 ((x : Nat) : Int)] H (fun u H' => u = .int .i64 ((popN x : Nat) : Int) ∧ Hp H 0 0 H' [] []) := by
  have hp := popN_le x
  refine CallR.sy (n := 6) Tryd.func106 rfl rfl rfl ?_
  repeat' (first
    | (with_reducible refine Sy.seq ?_)
    | (with_reducible refine Sy.regionL ?_)
    | (with_reducible refine Sy.opsnil ?_)
    | (with_reducible refine Sy.go ?_)
    | (with_reducible refine Sy.nrm ?_)
    | ((with_reducible apply Sy.assign); exact rfl; exact rfl)
    | ((with_reducible apply Sy.move); exact rfl; exact rfl)
    | ((with_reducible apply Sy.conv (D := 0) (T := .bool)); exact rfl; exact Tryd.underlying5; exact Tryd.underlying3; exact rfl; exact (wrap_i64 (by omega)))
    | ((with_reducible apply Sy.conv (D := 0) (T := .bool)); exact rfl; exact Tryd.underlying5; exact Tryd.underlying3; exact rfl; exact (wrap_i64z (by omega) (by omega)))
    | ((with_reducible apply Sy.ix (t := 9)); (case hd => exact rfl); (case hx => exact rfl); (case hy => exact rfl); (case hv => exact ix_str (s := popT) (y := popN x) Tryd.underlying9 (pop_tab x hx)))
    | (with_reducible refine Sy.ret ?_))
  exact .fin [_] (.inr rfl) ⟨rfl, trivial⟩ fun H' hp => ⟨rfl, hp⟩

theorem c_Index (v : Value) (l : List Hsh) (z : Hsh) (H : AHeap) (hl : HsAt H v l) (hn : l.length ≤ 4398046511104) : CallR Tryd.prog noPrims 127 [v, hV z] H (fun u H' => ∃ i : Int, (0 ≤ i ↔ z ∈ l) ∧ u = .int .i64 i ∧ Hp H 0 0 H' [] []) := by
  obtain ⟨a, c, rfl, hl⟩ := hl
  refine CallR.sy (n := 19) Tryd.func127 rfl rfl rfl ?_
  repeat' (first
    | (with_reducible refine Sy.seq ?_)
    | (with_reducible refine Sy.regionL ?_)
    | (with_reducible refine Sy.opsnil ?_)
    | (with_reducible refine Sy.go ?_)
    | (with_reducible refine Sy.nrm ?_)
    | ((with_reducible apply Sy.assign); exact rfl; exact rfl)
    | ((with_reducible apply Sy.move); exact rfl; exact rfl)
    | ((with_reducible apply Sy.lenS); exact rfl; exact Tryd.underlying114; exact rfl)
    | ((with_reducible apply Sy.newY (o := ⟨some 3, .box 44 _, _, _, _, _⟩)); exact rfl; exact rfl; exact nbH rfl; intro q3)
    | ((with_reducible apply Sy.newY (o := ⟨some 3, .box 44 _, _, _, _, _⟩)); exact rfl; exact rfl; exact nb1 rfl rfl; intro q3)
    | ((with_reducible apply Sy.newY (o := ⟨some 3, .box 44 _, _, _, _, _⟩)); exact rfl; exact rfl; exact nbA rfl; intro q3)
    | (with_reducible refine Sy.block ?_))
  refine Sy.loop (ι := Nat) (fun i => l.length - i) (fun i => [(0, .slice a l.length c), (3, .pointer (some ⟨q3, 0, none⟩)), (7, .int .i64 (l.length : Nat)), (8, .int .i64 (i : Nat))]) (fun _ => []) (fun _ => [(q3, .cells (hC z) 44 true)]) (fun i => i ≤ l.length ∧ z ∉ l.take i) 0 ⟨Nat.zero_le _, by simp⟩ ⟨rfl, rfl, rfl, rfl, trivial⟩ (fun H h => h) ?_
  rintro i ⟨hi, hz⟩
  by_cases hlt : i < l.length
  · obtain ⟨h, hh⟩ : ∃ h, l[i]? = some h := ⟨l[i], List.getElem?_eq_getElem hlt⟩
    rcases hl with rfl | ⟨b, T, w, rfl, hb⟩
    · simp at hlt
    have hbn : b < H.next := get_live_lt (by rw [hb]; rfl)
    repeat' (first
    | (with_reducible refine Sy.seq ?_)
    | (with_reducible refine Sy.regionL ?_)
    | (with_reducible refine Sy.opsnil ?_)
    | (with_reducible refine Sy.go ?_)
    | (with_reducible refine Sy.nrm ?_)
    | ((with_reducible apply Sy.assign); exact rfl; exact rfl)
    | ((with_reducible apply Sy.move); exact rfl; exact rfl)
    | ((with_reducible apply Sy.bin (op := .lss) (t := 3)); exact rfl; exact rfl; exact rfl; exact b_lss)
    | ((with_reducible apply Sy.bin (op := .lss) (t := 3)); exact rfl; exact rfl; exact rfl; exact bz_lss)
    | ((with_reducible apply Sy.ldN (t := 44)); exact rfl; exact rfl; exact hasT; (· first | exact ld_hV ag44 sz44))
    | ((with_reducible apply Sy.ia (t := 114)); exact rfl; exact rfl; exact rfl; exact (ia_sl Tryd.underlying114 sz44 (by omega)))
    | ((with_reducible apply Sy.bin (op := .eql) (t := 44)); exact rfl; exact rfl; exact rfl; exact eq44)
    | ((with_reducible apply Sy.bin (op := .add) (t := 3)); exact rfl; exact rfl; exact rfl; exact (b_add (by omega)))
    | ((with_reducible apply Sy.bin (op := .add) (t := 3)); exact rfl; exact rfl; exact rfl; exact (bz_add (by omega) (by omega)))
    | (with_reducible refine Sy.ld0 (t := 44) rfl rfl hb rfl (by simp only [List.forall_mem_cons, List.not_mem_nil, false_implies, implies_true, and_true, ne_eq]; first | done | omega | (repeat (first | with_reducible assumption | (refine And.intro ?_ ?_)))) (hcs_k hh (by omega)) ?_)
    | (with_reducible refine Sy.skip ?_)
    | (with_reducible refine Sy.ret ?_)
    | (with_reducible refine Sy.block ?_)
    | (with_reducible refine Sy.aret ?_)
    | (with_reducible refine Sy.inrm ?_)
    | (with_reducible refine Sy.iret ?_)
    | (with_reducible refine Sy.rret ?_)
    | ((with_reducible apply Sy.drawL (id := 4) 6 [] (fun hi h => h < hi)); (case hp => kernel_rfl); (case hN => exact rfl); intro base hbase hM; try simp only [List.forall_mem_cons, List.forall_mem_append, List.not_mem_nil, false_implies, implies_true, and_true] at hM)
    | (with_reducible refine Sy.dend ?_)
    | ((with_reducible apply Sy.dgo); (· first | exact wantY_none); (· intro hcls; cases hcls); exact rfl; exact rfl)
    | ((with_reducible apply Sy.ite); (case hx => exact rfl); all_goals (intro hc; try (exfalso; omega))))
    · exact .fin [.int .i64 ((i : Nat) : Int)] (.inr rfl) ⟨rfl, trivial⟩ fun H' hp => ⟨((i : Nat) : Int), ⟨fun _ => by rw [hc]; exact List.mem_of_getElem? hh, fun _ => by omega⟩, rfl, hp.less (List.nil_sublist _)⟩
    · refine Sy.rnrm (i + 1) ⟨by omega, ?_⟩ (by omega) ⟨rfl, rfl, rfl, rfl, trivial⟩ (fun H h => h)
      rw [List.take_add_one, hh]
      simp only [Option.toList_some, List.mem_append, List.mem_singleton, not_or]
      exact ⟨hz, hc⟩
  · rw [List.take_of_length_le (by omega)] at hz
    repeat' (first
    | (with_reducible refine Sy.seq ?_)
    | (with_reducible refine Sy.regionL ?_)
    | (with_reducible refine Sy.opsnil ?_)
    | (with_reducible refine Sy.go ?_)
    | (with_reducible refine Sy.nrm ?_)
    | ((with_reducible apply Sy.assign); exact rfl; exact rfl)
    | ((with_reducible apply Sy.bin (op := .lss) (t := 3)); exact rfl; exact rfl; exact rfl; exact b_lss)
    | ((with_reducible apply Sy.bin (op := .lss) (t := 3)); exact rfl; exact rfl; exact rfl; exact bz_lss)
    | (with_reducible refine Sy.exit ?_)
    | (with_reducible refine Sy.ret ?_)
    | (with_reducible refine Sy.aex ?_)
    | ((with_reducible apply Sy.iex); exact rfl)
    | (with_reducible refine Sy.rex ?_)
    | ((with_reducible apply Sy.ite); (case hx => exact rfl); all_goals (intro hc; try (exfalso; omega))))
    exact .fin [.int .i64 (-1)] (.inr rfl) ⟨rfl, trivial⟩ fun H' hp => ⟨-1, ⟨fun h => absurd h (by decide), fun h => absurd h hz⟩, rfl, hp.less (List.nil_sublist _)⟩
theorem c_Contains (v : Value) (l : List Hsh) (z : Hsh) (H : AHeap) (hl : HsAt H v l) (hn : l.length ≤ 4398046511104) : CallR Tryd.prog noPrims 107 [v, hV z] H (fun u H' => u = .bool (decide (z ∈ l)) ∧ Hp H 0 0 H' [] []) := by
  refine CallR.sy (n := 9) Tryd.func107 rfl rfl rfl ?_
  repeat' (first
    | (with_reducible refine Sy.seq ?_)
    | (with_reducible refine Sy.regionL ?_)
    | (with_reducible refine Sy.opsnil ?_)
    | (with_reducible refine Sy.go ?_)
    | (with_reducible refine Sy.nrm ?_)
    | ((with_reducible apply Sy.assign); exact rfl; exact rfl)
    | ((with_reducible apply Sy.move); exact rfl; exact rfl)
    | ((with_reducible apply Sy.ldN (t := 44)); exact rfl; exact rfl; exact hasT; (· first | exact ld_hV ag44 sz44))
    | ((with_reducible apply Sy.bin (op := .geq) (t := 3)); exact rfl; exact rfl; exact rfl; exact b_geq)
    | ((with_reducible apply Sy.bin (op := .geq) (t := 3)); exact rfl; exact rfl; exact rfl; exact bz_geq)
    | ((with_reducible apply Sy.callN (k := 127)); exact rfl; exact rfl; exact en127; exact rfl; (intro H' hp; exact c_Index v l z H' (hl.of hp) hn); rintro i hi)
    | ((with_reducible apply Sy.newY (o := ⟨some 3, .box 44 _, _, _, _, _⟩)); exact rfl; exact rfl; exact nbH rfl; intro q3)
    | ((with_reducible apply Sy.newY (o := ⟨some 3, .box 44 _, _, _, _, _⟩)); exact rfl; exact rfl; exact nb1 rfl rfl; intro q3)
    | ((with_reducible apply Sy.newY (o := ⟨some 3, .box 44 _, _, _, _, _⟩)); exact rfl; exact rfl; exact nbA rfl; intro q3)
    | (with_reducible refine Sy.ret ?_))
  refine .fin [_] (.inr rfl) ⟨rfl, trivial⟩ fun H' hp => ⟨congrArg Value.bool ?_, hp.less (List.nil_sublist _)⟩
  rw [decide_eq_decide]
  exact hi

/-- A proof's value. -/
def prV (mask : Hsh) (v : Value) : Value := .agg ⟨hC mask ++ [v]⟩
def popTo (m : Hsh) : Nat → Nat
  | 0 => 0
  | i + 1 => popTo m i + popN (m.at i)
theorem popTo_le (m : Hsh) : ∀ i, popTo m i ≤ 8 * i
  | 0 => Nat.le_refl _
  | i + 1 => by have := popTo_le m i; have := popN_le (m.at i); simp only [popTo]; omega
def rightB (m : Hsh) (l : List Hsh) : Bool := decide (popTo m 32 = l.length) && !decide (zeroH ∈ l)
theorem ldS {m : Hsh} {v : Value} {T : Nat} {w : Bool} : aLoad Tryd.prog 114 (.cells (hC m ++ [v]) T w) (0 + 32) = some v := ld_one ag114 (by simp [List.getElem?_append])
theorem c_Right (mask : Hsh) (v : Value) (l : List Hsh) (H : AHeap) (hl : HsAt H v l) (hn : l.length ≤ 4398046511104) : CallR Tryd.prog noPrims 60 [prV mask v] H (fun u H' => u = .bool (rightB mask l) ∧ Hp H 0 0 H' [] []) := by
  obtain ⟨a, c, rfl, hl0⟩ := hl
  have hl : HsAt H (.slice a l.length c) l := ⟨a, c, rfl, hl0⟩
  unfold prV
  refine CallR.sy (n := 28) Tryd.func60 rfl rfl rfl ?_
  repeat' (first
    | (with_reducible refine Sy.seq ?_)
    | (with_reducible refine Sy.regionL ?_)
    | (with_reducible refine Sy.opsnil ?_)
    | (with_reducible refine Sy.go ?_)
    | (with_reducible refine Sy.nrm ?_)
    | ((with_reducible apply Sy.assign); exact rfl; exact rfl)
    | ((with_reducible apply Sy.fa (t := 116) (i := 0)); exact rfl; exact rfl; exact fa116_0 _ _)
    | ((with_reducible apply Sy.ldN (t := 44)); exact rfl; exact rfl; exact hasT; (· first | exact ld_agg (cs' := hC _) ag44 sz44 (by simp; done) (by first | exact cut_here (by simp; done))))
    | ((with_reducible apply Sy.move); exact rfl; exact rfl)
    | ((with_reducible apply Sy.fa (t := 116) (i := 1)); exact rfl; exact rfl; exact fa116_1 _ _)
    | ((with_reducible apply Sy.ldN (t := 114)); exact rfl; exact rfl; exact hasT; (· first | exact ld_one ag114 rfl | with_reducible assumption | exact ld_one ag114 (by with_reducible assumption) | exact ld_one ag114 (by simp [List.drop_append, List.take_append, List.getElem?_append, lay, hC_length, ints_length, ints_drop, ints_take, ints_append, List.drop_of_length_le, List.take_of_length_le, List.map_append, List.set_append, Value.cells]; done)))
    | ((with_reducible apply Sy.newY (o := ⟨some 1, .box 116 _, _, _, _, _⟩)); exact rfl; exact rfl; exact nbA rfl; intro q1)
    | (with_reducible refine Sy.block ?_))
  refine Sy.loop (ι := Nat) (fun i => 32 - i) (fun i => [(1, .pointer (some ⟨q1, 0, none⟩)), (3, .int .i64 ((popTo mask i : Nat) : Int)), (7, hV mask), (8, .int .i64 (i : Nat))]) (fun _ => []) (fun _ => [(q1, .cells (hC mask ++ [.slice a l.length c]) 116 true)]) (fun i => i ≤ 32) 0 (Nat.zero_le _) ⟨rfl, rfl, rfl, rfl, trivial⟩ (fun H h => h) ?_
  intro i hi
  have hpt := popTo_le mask i
  have hpn := popN_le (mask.at i)
  by_cases hlt : i < 32
  · repeat' (first
    | (with_reducible refine Sy.seq ?_)
    | (with_reducible refine Sy.regionL ?_)
    | (with_reducible refine Sy.opsnil ?_)
    | (with_reducible refine Sy.go ?_)
    | (with_reducible refine Sy.nrm ?_)
    | ((with_reducible apply Sy.assign); exact rfl; exact rfl)
    | ((with_reducible apply Sy.move); exact rfl; exact rfl)
    | ((with_reducible apply Sy.bin (op := .lss) (t := 3)); exact rfl; exact rfl; exact rfl; exact b_lss)
    | ((with_reducible apply Sy.bin (op := .lss) (t := 3)); exact rfl; exact rfl; exact rfl; exact bz_lss)
    | ((with_reducible apply Sy.ix (t := 44)); exact rfl; exact rfl; exact rfl; exact (ix_hash Tryd.underlying44 sz5 ag5 (by omega)))
    | ((with_reducible apply Sy.ix (t := 44)); exact rfl; exact rfl; exact rfl; (· exact (ix_ints Tryd.underlying44 sz5 ag5 (by omega) (by first | omega | (simp; done)))))
    | ((with_reducible apply Sy.bin (op := .add) (t := 3)); exact rfl; exact rfl; exact rfl; exact (b_add (by omega)))
    | ((with_reducible apply Sy.bin (op := .add) (t := 3)); exact rfl; exact rfl; exact rfl; exact (bz_add (by omega) (by omega)))
    | ((with_reducible apply Sy.call0 (k := 106)); exact rfl; exact rfl; exact en106; exact rfl; (intro H' hp; exact c_pop _ (mask.at_lt i) H'))
    | (with_reducible refine Sy.skip ?_)
    | (with_reducible refine Sy.block ?_)
    | (with_reducible refine Sy.inrm ?_)
    | ((with_reducible apply Sy.ite); (case hx => exact rfl); all_goals (intro hc; try (exfalso; omega))))
    exact Sy.rnrm (i + 1) (by omega) (by omega) ⟨rfl, rfl, rfl, rfl, trivial⟩ (fun H h => h)
  · obtain rfl : i = 32 := by omega
    repeat' (first
    | (with_reducible refine Sy.seq ?_)
    | (with_reducible refine Sy.regionL ?_)
    | (with_reducible refine Sy.opsnil ?_)
    | (with_reducible refine Sy.go ?_)
    | (with_reducible refine Sy.nrm ?_)
    | ((with_reducible refine Sy.ldN (t := 114) rfl rfl (by repeat (first | exact Has.here | apply Has.there | apply Has.app)) ldS ?_))
    | ((with_reducible refine Sy.build (t := 44) (ps := #[]) rfl rfl bvZ ?_))
    | ((with_reducible apply Sy.assign); exact rfl; exact rfl)
    | ((with_reducible apply Sy.fa (t := 116) (i := 0)); exact rfl; exact rfl; exact fa116_0 _ _)
    | ((with_reducible apply Sy.move); exact rfl; exact rfl)
    | ((with_reducible apply Sy.bin (op := .lss) (t := 3)); exact rfl; exact rfl; exact rfl; exact b_lss)
    | ((with_reducible apply Sy.bin (op := .lss) (t := 3)); exact rfl; exact rfl; exact rfl; exact bz_lss)
    | ((with_reducible apply Sy.fa (t := 116) (i := 1)); exact rfl; exact rfl; exact fa116_1 _ _)
    | ((with_reducible apply Sy.lenS); exact rfl; exact Tryd.underlying114; exact rfl)
    | ((with_reducible apply Sy.bin (op := .eql) (t := 3)); exact rfl; exact rfl; exact rfl; exact b_eql)
    | ((with_reducible apply Sy.bin (op := .eql) (t := 3)); exact rfl; exact rfl; exact rfl; exact bz_eql)
    | ((with_reducible apply Sy.un (op := .not)); exact rfl; exact rfl; exact un_notT)
    | ((with_reducible apply Sy.un (op := .not)); exact rfl; exact rfl; exact un_notF)
    | ((with_reducible apply Sy.un (op := .not)); exact rfl; exact rfl; exact un_notD)
    | ((with_reducible apply Sy.un (op := .not)); exact rfl; exact rfl; exact un_not)
    | ((with_reducible apply Sy.pickT); exact rfl; exact rfl; exact rfl)
    | ((with_reducible apply Sy.pickF); exact rfl; exact rfl; exact rfl)
    | ((with_reducible apply Sy.call0 (k := 107)); exact rfl; exact rfl; exact en107; exact rfl; (intro H' hp; exact c_Contains _ l zeroH H' (hl.of hp) hn))
    | (with_reducible refine Sy.exit ?_)
    | (with_reducible refine Sy.ret ?_)
    | (with_reducible refine Sy.aex ?_)
    | ((with_reducible apply Sy.iex); exact rfl)
    | (with_reducible refine Sy.rex ?_)
    | ((with_reducible apply Sy.no); exact rfl)
    | ((with_reducible apply Sy.goG); exact rfl; exact rfl; exact rfl)
    | ((with_reducible apply Sy.noG); exact rfl; exact rfl; exact rfl; exact rfl; exact rfl)
    | ((with_reducible apply Sy.caseG); (case hj => exact rfl); (case hx => exact rfl); all_goals (intro hc; try (exfalso; omega))))
    · refine .fin [_] (.inr rfl) ⟨rfl, trivial⟩ fun H' hp => ⟨congrArg Value.bool ?_, hp.less (List.nil_sublist _)⟩
      simp [rightB, hc]
    · refine .fin [_] (.inr rfl) ⟨rfl, trivial⟩ fun H' hp => ⟨congrArg Value.bool ?_, hp.less (List.nil_sublist _)⟩
      simp [rightB, hc]
end Go.Proofs.YtjimjolfnimimaaDoor

/- Layer 06: the reference's bits; the root behind a proof. -/
namespace Go.Proofs.YtjimjolfnimimaaDoor
open Go Go.Am
set_option maxRecDepth 100000
set_option linter.unusedVariables false

def bitTo (m : Hsh) : Nat → Nat
  | 0 => 0
  | i + 1 => bitTo m i + bitOf m i
theorem bit_le (m : Hsh) (i : Nat) : bitOf m i ≤ 1 := Nat.and_le_right
theorem bitTo_le (m : Hsh) : ∀ i, bitTo m i ≤ i
  | 0 => Nat.le_refl _
  | i + 1 => by have := bitTo_le m i; have := bit_le m i; simp only [bitTo]; omega
theorem bitTo_pop (m : Hsh) : ∀ j, bitTo m (8 * j) = popTo m j
  | 0 => rfl
  | j + 1 => by
    have e : ∀ c, c < 8 → bitOf m (8 * j + c) = m.at j >>> (7 - c) &&& 1 := fun c hc => by
      unfold bitOf; rw [show (8 * j + c) / 8 = j by omega, show (8 * j + c) % 8 = c by omega]
    have e0 := e 0 (by decide)
    rw [Nat.add_zero] at e0
    rw [show 8 * (j + 1) = 8 * j + 7 + 1 by omega]
    simp only [bitTo, popTo, popN, bitTo_pop m j, e0, e 1 (by decide), e 2 (by decide), e 3 (by decide), e 4 (by decide), e 5 (by decide), e 6 (by decide), e 7 (by decide)]
    simp only [Nat.reduceSub]
    omega
theorem bitTo_mono (m : Hsh) {i j : Nat} (h : i ≤ j) : bitTo m i ≤ bitTo m j := by
  induction h with
  | refl => exact Nat.le_refl _
  | step _ ih => simp only [bitTo]; omega
theorem c_Bit (h : Hsh) (n : Nat) (hn : n < 256) (H : AHeap) :
    CallR Tryd.prog noPrims 108 [hV h, .int .i64 n] H (fun v H' => v = .int .i64 ((bitOf h n : Nat) : Int) ∧ Hp H 0 0 H' [] []) := by
  have h1 := h.at_lt (n / 8)
  have h2 : h.at (n / 8) >>> (7 - n % 8) < 256 := shr_lt h1
  have e : bitOf h n = (h.at (n / 8) >>> (7 - n % 8)) % 2 := Nat.and_one_is_mod _
  rw [e]
  refine CallR.sy (n := 16) Tryd.func108 rfl rfl rfl ?_
  repeat' (first
    | (with_reducible refine Sy.seq ?_)
    | (with_reducible refine Sy.regionL ?_)
    | (with_reducible refine Sy.opsnil ?_)
    | (with_reducible refine Sy.go ?_)
    | (with_reducible refine Sy.nrm ?_)
    | ((with_reducible apply Sy.assign); exact rfl; exact rfl)
    | ((with_reducible apply Sy.move); exact rfl; exact rfl)
    | ((with_reducible apply Sy.bin (op := .quo) (t := 3)); exact rfl; exact rfl; exact rfl; exact (b_quo (by omega) (by omega)))
    | ((with_reducible apply Sy.ia (t := 44)); exact rfl; exact rfl; exact rfl; exact (ia_ar10 Tryd.underlying44 sz5 (by omega)))
    | ((with_reducible apply Sy.ia (t := 44)); exact rfl; exact rfl; exact rfl; exact (ia_ar1 Tryd.underlying44 sz5 (by omega)))
    | ((with_reducible apply Sy.ldN (t := 5)); exact rfl; exact rfl; exact hasT; (· first | ((with_reducible refine ld_hash ag5 ?_); omega)))
    | ((with_reducible apply Sy.bin (op := .rem) (t := 3)); exact rfl; exact rfl; exact rfl; exact (b_rem (by omega)))
    | ((with_reducible apply Sy.bin (op := .sub) (t := 3)); exact rfl; exact rfl; exact rfl; exact (b_sub (by omega) (by omega)))
    | ((with_reducible apply Sy.bin (op := .sub) (t := 3)); exact rfl; exact rfl; exact rfl; exact (bz_sub (by omega) (by omega)))
    | ((with_reducible apply Sy.conv (D := 0) (T := .bool)); exact rfl; exact Tryd.underlying3; exact Tryd.underlying171; exact rfl; exact (wrap_u64x (by omega)))
    | ((with_reducible apply Sy.conv (D := 0) (T := .bool)); exact rfl; exact Tryd.underlying3; exact Tryd.underlying171; exact rfl; exact wrap_u64 _)
    | ((with_reducible apply Sy.bin (op := .shr) (t := 5)); exact rfl; exact rfl; exact rfl; exact (b_shr8 (by omega)))
    | ((with_reducible apply Sy.conv (D := 0) (T := .bool)); exact rfl; exact Tryd.underlying5; exact Tryd.underlying3; exact rfl; exact (wrap_i64 (by omega)))
    | ((with_reducible apply Sy.conv (D := 0) (T := .bool)); exact rfl; exact Tryd.underlying5; exact Tryd.underlying3; exact rfl; exact (wrap_i64z (by omega) (by omega)))
    | ((with_reducible apply Sy.newY (o := ⟨some 2, .box 44 _, _, _, _, _⟩)); exact rfl; exact rfl; exact nbH rfl; intro q2)
    | ((with_reducible apply Sy.newY (o := ⟨some 2, .box 44 _, _, _, _, _⟩)); exact rfl; exact rfl; exact nb1 rfl rfl; intro q2)
    | ((with_reducible apply Sy.newY (o := ⟨some 2, .box 44 _, _, _, _, _⟩)); exact rfl; exact rfl; exact nbA rfl; intro q2)
    | (with_reducible refine Sy.ret ?_))
  exact .fin [_] (.inr rfl) ⟨rfl, trivial⟩ fun H' hp => ⟨rfl, hp.less (List.nil_sublist _)⟩
theorem c_pbit (h : Hsh) (n : Nat) (hn : n < 256) (H : AHeap) :
    CallR Tryd.prog noPrims 131 [hV h, .int .i64 n] H (fun v H' => v = .bool (decide (bitOf h n = 1)) ∧ Hp H 0 0 H' [] []) := by
  have h1 := h.at_lt (n / 8)
  have h2 : h.at (n / 8) >>> (7 - n % 8) < 256 := shr_lt h1
  have h3 := and1_lt (h.at (n / 8) >>> (7 - n % 8))
  refine CallR.sy (n := 15) Tryd.func131 rfl rfl rfl ?_
  repeat' (first
    | (with_reducible refine Sy.seq ?_)
    | (with_reducible refine Sy.regionL ?_)
    | (with_reducible refine Sy.opsnil ?_)
    | (with_reducible refine Sy.go ?_)
    | (with_reducible refine Sy.nrm ?_)
    | ((with_reducible apply Sy.assign); exact rfl; exact rfl)
    | ((with_reducible apply Sy.move); exact rfl; exact rfl)
    | ((with_reducible apply Sy.bin (op := .quo) (t := 3)); exact rfl; exact rfl; exact rfl; exact (b_quo (by omega) (by omega)))
    | ((with_reducible apply Sy.ia (t := 44)); exact rfl; exact rfl; exact rfl; exact (ia_ar10 Tryd.underlying44 sz5 (by omega)))
    | ((with_reducible apply Sy.ia (t := 44)); exact rfl; exact rfl; exact rfl; exact (ia_ar1 Tryd.underlying44 sz5 (by omega)))
    | ((with_reducible apply Sy.ldN (t := 5)); exact rfl; exact rfl; exact hasT; (· first | ((with_reducible refine ld_hash ag5 ?_); omega)))
    | ((with_reducible apply Sy.bin (op := .rem) (t := 3)); exact rfl; exact rfl; exact rfl; exact (b_rem (by omega)))
    | ((with_reducible apply Sy.bin (op := .sub) (t := 3)); exact rfl; exact rfl; exact rfl; exact (b_sub (by omega) (by omega)))
    | ((with_reducible apply Sy.bin (op := .sub) (t := 3)); exact rfl; exact rfl; exact rfl; exact (bz_sub (by omega) (by omega)))
    | ((with_reducible apply Sy.bin (op := .shr) (t := 5)); exact rfl; exact rfl; exact rfl; exact (b_shr8 (by omega)))
    | ((with_reducible apply Sy.bin (op := .and) (t := 5)); exact rfl; exact rfl; exact rfl; (· exact (u8_and (by first | with_reducible assumption | omega) (by first | with_reducible assumption | omega))))
    | ((with_reducible apply Sy.bin (op := .eql) (t := 5)); exact rfl; exact rfl; exact rfl; exact b_eql)
    | ((with_reducible apply Sy.bin (op := .eql) (t := 5)); exact rfl; exact rfl; exact rfl; exact bz_eql)
    | ((with_reducible apply Sy.newY (o := ⟨some 2, .box 44 _, _, _, _, _⟩)); exact rfl; exact rfl; exact nbH rfl; intro q2)
    | ((with_reducible apply Sy.newY (o := ⟨some 2, .box 44 _, _, _, _, _⟩)); exact rfl; exact rfl; exact nb1 rfl rfl; intro q2)
    | ((with_reducible apply Sy.newY (o := ⟨some 2, .box 44 _, _, _, _, _⟩)); exact rfl; exact rfl; exact nbA rfl; intro q2)
    | (with_reducible refine Sy.ret ?_))
  exact .fin [_] (.inr rfl) ⟨rfl, trivial⟩ fun H' hp => ⟨rfl, hp.less (List.nil_sublist _)⟩
theorem c_rRight (mask : Hsh) (v : Value) (l : List Hsh) (H : AHeap) (hl : HsAt H v l) (hn : l.length ≤ 4398046511104) : CallR Tryd.prog noPrims 64 [prV mask v] H (fun u H' => u = .bool (rightB mask l) ∧ Hp H 0 0 H' [] []) := by
  obtain ⟨a, c, rfl, hl0⟩ := hl
  unfold prV
  refine CallR.sy (n := 33) Tryd.func64 rfl rfl rfl ?_
  repeat' (first
    | (with_reducible refine Sy.seq ?_)
    | (with_reducible refine Sy.regionL ?_)
    | (with_reducible refine Sy.opsnil ?_)
    | (with_reducible refine Sy.go ?_)
    | (with_reducible refine Sy.nrm ?_)
    | ((with_reducible apply Sy.assign); exact rfl; exact rfl)
    | ((with_reducible apply Sy.newY (o := ⟨some 1, .box 121 _, _, _, _, _⟩)); exact rfl; exact rfl; exact nbA rfl; intro q1)
    | (with_reducible refine Sy.block ?_))
  refine Sy.loop (ι := Nat) (fun i => 256 - i) (fun i => [(1, .pointer (some ⟨q1, 0, none⟩)), (3, .int .i64 ((bitTo mask i : Nat) : Int)), (4, .int .i64 (i : Nat))]) (fun _ => []) (fun _ => [(q1, .cells (hC mask ++ [.slice a l.length c]) 121 true)]) (fun i => i ≤ 256) 0 (Nat.zero_le _) ⟨rfl, rfl, rfl, trivial⟩ (fun H h => h) ?_
  intro i hi
  have hpt := bitTo_le mask i
  have hpn := bit_le mask i
  by_cases hlt : i < 256
  · repeat' (first
    | (with_reducible refine Sy.seq ?_)
    | (with_reducible refine Sy.regionL ?_)
    | (with_reducible refine Sy.opsnil ?_)
    | (with_reducible refine Sy.go ?_)
    | (with_reducible refine Sy.nrm ?_)
    | ((with_reducible apply Sy.assign); exact rfl; exact rfl)
    | ((with_reducible apply Sy.move); exact rfl; exact rfl)
    | ((with_reducible apply Sy.bin (op := .lss) (t := 3)); exact rfl; exact rfl; exact rfl; exact b_lss)
    | ((with_reducible apply Sy.bin (op := .lss) (t := 3)); exact rfl; exact rfl; exact rfl; exact bz_lss)
    | ((with_reducible apply Sy.fa (t := 121) (i := 0)); exact rfl; exact rfl; exact fa121_0 _ _)
    | ((with_reducible apply Sy.ldN (t := 44)); exact rfl; exact rfl; exact hasT; (· first | exact ld_agg (cs' := hC _) ag44 sz44 (by simp; done) (by first | exact cut_here (by simp; done))))
    | ((with_reducible apply Sy.bin (op := .add) (t := 3)); exact rfl; exact rfl; exact rfl; exact (b_add (by omega)))
    | ((with_reducible apply Sy.bin (op := .add) (t := 3)); exact rfl; exact rfl; exact rfl; exact (bz_add (by omega) (by omega)))
    | ((with_reducible apply Sy.fa (t := 121) (i := 1)); exact rfl; exact rfl; exact fa121_1 _ _)
    | ((with_reducible apply Sy.ldN (t := 114)); exact rfl; exact rfl; exact hasT; (· first | exact ld_one ag114 rfl | with_reducible assumption | exact ld_one ag114 (by with_reducible assumption) | exact ld_one ag114 (by simp [List.drop_append, List.take_append, List.getElem?_append, lay, hC_length, ints_length, ints_drop, ints_take, ints_append, List.drop_of_length_le, List.take_of_length_le, List.map_append, List.set_append, Value.cells]; done)))
    | ((with_reducible apply Sy.call0 (k := 108)); exact rfl; exact rfl; exact en108; exact rfl; (intro H' hp; exact c_Bit mask _ hlt H'))
    | (with_reducible refine Sy.skip ?_)
    | (with_reducible refine Sy.block ?_)
    | (with_reducible refine Sy.inrm ?_)
    | ((with_reducible apply Sy.ite); (case hx => exact rfl); all_goals (intro hc; try (exfalso; omega))))
    exact Sy.rnrm (i + 1) (by omega) (by omega) ⟨rfl, rfl, rfl, trivial⟩ (fun H h => h)
  · obtain rfl : i = 256 := by omega
    have hpop : bitTo mask 256 = popTo mask 32 := bitTo_pop mask 32
    repeat' (first
    | (with_reducible refine Sy.seq ?_)
    | (with_reducible refine Sy.regionL ?_)
    | (with_reducible refine Sy.opsnil ?_)
    | (with_reducible refine Sy.go ?_)
    | (with_reducible refine Sy.nrm ?_)
    | ((with_reducible refine Sy.ldN (t := 114) rfl rfl (by repeat (first | exact Has.here | apply Has.there | apply Has.app)) ldS ?_))
    | ((with_reducible apply Sy.assign); exact rfl; exact rfl)
    | ((with_reducible apply Sy.move); exact rfl; exact rfl)
    | ((with_reducible apply Sy.bin (op := .lss) (t := 3)); exact rfl; exact rfl; exact rfl; exact b_lss)
    | ((with_reducible apply Sy.bin (op := .lss) (t := 3)); exact rfl; exact rfl; exact rfl; exact bz_lss)
    | ((with_reducible apply Sy.fa (t := 121) (i := 0)); exact rfl; exact rfl; exact fa121_0 _ _)
    | ((with_reducible apply Sy.fa (t := 121) (i := 1)); exact rfl; exact rfl; exact fa121_1 _ _)
    | ((with_reducible apply Sy.lenS); exact rfl; exact Tryd.underlying114; exact rfl)
    | ((with_reducible apply Sy.bin (op := .neq) (t := 3)); exact rfl; exact rfl; exact rfl; exact b_neq)
    | ((with_reducible apply Sy.bin (op := .neq) (t := 3)); exact rfl; exact rfl; exact rfl; exact bz_neq)
    | (with_reducible refine Sy.skip ?_)
    | (with_reducible refine Sy.exit ?_)
    | (with_reducible refine Sy.ret ?_)
    | (with_reducible refine Sy.block ?_)
    | (with_reducible refine Sy.aex ?_)
    | (with_reducible refine Sy.aret ?_)
    | ((with_reducible apply Sy.iex); exact rfl)
    | (with_reducible refine Sy.rex ?_)
    | ((with_reducible apply Sy.no); exact rfl)
    | ((with_reducible apply Sy.ite); (case hx => exact rfl); all_goals (intro hc; try (exfalso; omega))))
    · refine .fin [_] (.inr rfl) ⟨rfl, trivial⟩ fun H' hp => ⟨congrArg Value.bool ?_, hp.less (List.nil_sublist _)⟩
      simp only [rightB]; rw [hpop] at hc; simp [hc]
    refine Sy.loop (ι := Nat) (fun i => l.length - i) (fun i => [(1, .pointer (some ⟨q1, 0, none⟩)), (3, .int .i64 ((bitTo mask 256 : Nat) : Int)), (5, .int .i64 (i : Nat))]) (fun _ => []) (fun _ => [(q1, .cells (hC mask ++ [.slice a l.length c]) 121 true)]) (fun i => i ≤ l.length ∧ zeroH ∉ l.take i) 0 ⟨Nat.zero_le _, by simp⟩ ⟨rfl, rfl, rfl, trivial⟩ (fun H h => h) ?_
    rintro i ⟨hi, hz⟩
    have hlen : bitTo mask 256 = l.length := by omega
    rw [hlen]
    by_cases hlt2 : i < l.length
    · obtain ⟨h, hh⟩ : ∃ h, l[i]? = some h := ⟨l[i], List.getElem?_eq_getElem hlt2⟩
      rcases hl0 with rfl | ⟨b, T, w, rfl, hb⟩
      · simp at hlt2
      repeat' (first
    | (with_reducible refine Sy.seq ?_)
    | (with_reducible refine Sy.regionL ?_)
    | (with_reducible refine Sy.opsnil ?_)
    | (with_reducible refine Sy.go ?_)
    | (with_reducible refine Sy.nrm ?_)
    | ((with_reducible refine Sy.ldN (t := 114) rfl rfl (by repeat (first | exact Has.here | apply Has.there | apply Has.app)) ldS ?_))
    | ((with_reducible refine Sy.build (t := 44) (ps := #[]) rfl rfl bvZ ?_))
    | ((with_reducible apply Sy.assign); exact rfl; exact rfl)
    | ((with_reducible apply Sy.move); exact rfl; exact rfl)
    | ((with_reducible apply Sy.bin (op := .lss) (t := 3)); exact rfl; exact rfl; exact rfl; exact b_lss)
    | ((with_reducible apply Sy.bin (op := .lss) (t := 3)); exact rfl; exact rfl; exact rfl; exact bz_lss)
    | ((with_reducible apply Sy.fa (t := 121) (i := 0)); exact rfl; exact rfl; exact fa121_0 _ _)
    | ((with_reducible apply Sy.bin (op := .add) (t := 3)); exact rfl; exact rfl; exact rfl; exact (b_add (by omega)))
    | ((with_reducible apply Sy.bin (op := .add) (t := 3)); exact rfl; exact rfl; exact rfl; exact (bz_add (by omega) (by omega)))
    | ((with_reducible apply Sy.fa (t := 121) (i := 1)); exact rfl; exact rfl; exact fa121_1 _ _)
    | ((with_reducible apply Sy.ia (t := 114)); exact rfl; exact rfl; exact rfl; exact (ia_sl Tryd.underlying114 sz44 (by omega)))
    | ((with_reducible apply Sy.bin (op := .eql) (t := 44)); exact rfl; exact rfl; exact rfl; exact eq44)
    | (with_reducible refine Sy.ld0 (t := 44) rfl rfl hb rfl (by simp only [List.forall_mem_cons, List.not_mem_nil, false_implies, implies_true, and_true, ne_eq]; first | done | omega | (repeat (first | with_reducible assumption | (refine And.intro ?_ ?_)))) (hcs_k hh (by omega)) ?_)
    | (with_reducible refine Sy.skip ?_)
    | (with_reducible refine Sy.ret ?_)
    | (with_reducible refine Sy.block ?_)
    | (with_reducible refine Sy.aret ?_)
    | (with_reducible refine Sy.inrm ?_)
    | (with_reducible refine Sy.iret ?_)
    | (with_reducible refine Sy.rret ?_)
    | ((with_reducible apply Sy.ite); (case hx => exact rfl); all_goals (intro hc; try (exfalso; omega))))
      · refine .fin [_] (.inr rfl) ⟨rfl, trivial⟩ fun H' hp => ⟨congrArg Value.bool ?_, hp.less (List.nil_sublist _)⟩
        have hm : zeroH ∈ l := by rw [← hc]; exact List.mem_of_getElem? hh
        simp [rightB, hm]
      · refine Sy.rnrm (i + 1) ⟨by omega, ?_⟩ (by omega) ⟨rfl, rfl, rfl, trivial⟩ (fun H h => h)
        rw [List.take_add_one, hh]
        simp only [Option.toList_some, List.mem_append, List.mem_singleton, not_or]
        exact ⟨hz, fun e => hc e.symm⟩
    · rw [List.take_of_length_le (by omega)] at hz
      repeat' (first
    | (with_reducible refine Sy.seq ?_)
    | (with_reducible refine Sy.regionL ?_)
    | (with_reducible refine Sy.opsnil ?_)
    | (with_reducible refine Sy.go ?_)
    | (with_reducible refine Sy.nrm ?_)
    | ((with_reducible apply Sy.assign); exact rfl; exact rfl)
    | ((with_reducible apply Sy.move); exact rfl; exact rfl)
    | ((with_reducible apply Sy.bin (op := .lss) (t := 3)); exact rfl; exact rfl; exact rfl; exact b_lss)
    | ((with_reducible apply Sy.bin (op := .lss) (t := 3)); exact rfl; exact rfl; exact rfl; exact bz_lss)
    | (with_reducible refine Sy.exit ?_)
    | (with_reducible refine Sy.ret ?_)
    | (with_reducible refine Sy.aex ?_)
    | ((with_reducible apply Sy.iex); exact rfl)
    | (with_reducible refine Sy.rex ?_)
    | ((with_reducible apply Sy.ite); (case hx => exact rfl); all_goals (intro hc; try (exfalso; omega))))
      refine .fin [_] (.inr rfl) ⟨rfl, trivial⟩ fun H' hp => ⟨congrArg Value.bool ?_, hp.less (List.nil_sublist _)⟩
      have : popTo mask 32 = l.length := by omega
      simp [rightB, hz, this]

/-- The root behind a proof: i bits from the leaf up. -/
def sideH (mask : Hsh) (l : List Hsh) (d : Nat) : Hsh := if bitOf mask d = 1 then l.getD (bitTo mask d) zeroH else zeroH
def rootH (key mask : Hsh) (l : List Hsh) (h0 : Hsh) : Nat → Hsh
  | 0 => h0
  | i + 1 => if bitOf key (255 - i) = 1 then aboveH (sideH mask l (255 - i)) (rootH key mask l h0 i) else aboveH (rootH key mask l h0 i) (sideH mask l (255 - i))
def rootV (key v mask : Hsh) (l : List Hsh) : Hsh × Nat := if rightB mask l = true then (rootH key mask l (leafH key v) 256, 0) else (zeroH, 21)
theorem right_len {mask : Hsh} {l : List Hsh} (h : rightB mask l = true) : bitTo mask 256 = l.length := by
  unfold rightB at h
  simp only [Bool.and_eq_true, decide_eq_true_eq] at h
  rw [← h.1]; exact bitTo_pop mask 32

theorem rootH_step {key mask : Hsh} {l : List Hsh} {h0 : Hsh} {e : Nat} (he : e < 256) : rootH key mask l h0 (256 - e) = if bitOf key e = 1 then aboveH (sideH mask l e) (rootH key mask l h0 (256 - (e + 1))) else aboveH (rootH key mask l h0 (256 - (e + 1))) (sideH mask l e) := by
  rw [show 256 - e = (256 - (e + 1)) + 1 by omega, rootH, show 255 - (256 - (e + 1)) = e by omega]
theorem c_pbit1 (h : Hsh) (n : Nat) (b : Bool) (hb : decide (bitOf h n = 1) = b) (hn : n < 256) (H : AHeap) : CallR Tryd.prog noPrims 131 [hV h, .int .i64 n] H (fun v H' => v = .bool b ∧ Hp H 0 0 H' [] []) := by
  subst hb; exact c_pbit h n hn H
set_option maxHeartbeats 4000000 in
theorem c_Root (key v mask : Hsh) (sv : Value) (l : List Hsh) (H : AHeap) (g : Gl H) (hl : HsAt H sv l) (hn : l.length ≤ 4398046511104) : CallR Tryd.prog noPrims 114 [hV key, hV v, prV mask sv] H (fun u H' => u = .tuple ⟨[hV (rootV key v mask l).1, .int .i64 (((rootV key v mask l).2 : Nat) : Int)]⟩ ∧ Hp H 0 0 H' [] []) := by
  obtain ⟨a, c, rfl, hl0⟩ := hl
  have hl : HsAt H (.slice a l.length c) l := ⟨a, c, rfl, hl0⟩
  have epr : prV mask (.slice a l.length c) = .agg ⟨hC mask ++ [.slice a l.length c]⟩ := rfl
  rw [epr]
  refine CallR.sy (n := 50) Tryd.func114 rfl rfl rfl ?_
  repeat' (first
    | (with_reducible refine Sy.seq ?_)
    | (with_reducible refine Sy.regionL ?_)
    | (with_reducible refine Sy.opsnil ?_)
    | (with_reducible refine Sy.go ?_)
    | (with_reducible refine Sy.nrm ?_)
    | ((with_reducible refine Sy.build (t := 44) (ps := #[]) rfl rfl bvZ ?_))
    | ((with_reducible refine Sy.ldN (t := 114) rfl rfl (by repeat (first | exact Has.here | apply Has.there | apply Has.app)) ldS ?_))
    | ((with_reducible apply Sy.drawL (id := 3) 8 [(4, 2), (4, 6)] (fun hi h => h = q5)); (case hp => kernel_rfl); (case hN => exact rfl); intro base hbase hM)
    | ((with_reducible apply Sy.assign); exact rfl; exact rfl)
    | ((with_reducible apply Sy.ldN (t := 116)); exact rfl; exact rfl; exact hasT; (· first | exact ld_all ag116 (by first | (simp [sz116, *]; done))))
    | ((with_reducible apply Sy.un (op := .not)); exact rfl; exact rfl; exact un_notT)
    | ((with_reducible apply Sy.un (op := .not)); exact rfl; exact rfl; exact un_notF)
    | ((with_reducible apply Sy.un (op := .not)); exact rfl; exact rfl; exact un_notD)
    | ((with_reducible apply Sy.un (op := .not)); exact rfl; exact rfl; exact un_not)
    | ((with_reducible apply Sy.stNa (t := 44)); exact rfl; exact rfl; exact sz44; (· first | exact hC_length _ | (simp; done)); (· first | exact hC_one _); exact turnT; (· first | (simp; done)); (· first | exact lay_all (by first | (simp; done))))
    | ((with_reducible apply Sy.ldN (t := 44)); exact rfl; exact rfl; exact hasT; (· first | exact ld_hV ag44 sz44))
    | ((with_reducible apply Sy.fa (t := 116) (i := 1)); exact rfl; exact rfl; exact fa116_1 _ _)
    | ((with_reducible apply Sy.ldN (t := 114)); exact rfl; exact rfl; exact hasT; (· first | exact ld_one ag114 rfl | with_reducible assumption | exact ld_one ag114 (by with_reducible assumption) | exact ld_one ag114 (by simp [List.drop_append, List.take_append, List.getElem?_append, lay, hC_length, ints_length, ints_drop, ints_take, ints_append, List.drop_of_length_le, List.take_of_length_le, List.map_append, List.set_append, Value.cells]; done)))
    | ((with_reducible apply Sy.fa (t := 116) (i := 0)); exact rfl; exact rfl; exact fa116_0 _ _)
    | ((with_reducible apply Sy.call0 (k := 60)); exact rfl; exact rfl; exact en60; exact rfl; (intro H' hp; exact c_Right mask _ l H' (hl.of hp) hn))
    | ((with_reducible apply Sy.call0 (k := 130)); exact rfl; exact rfl; exact en130; exact rfl; (intro H' hp; exact c_Leaf key v H' (g.of hp (by simp))))
    | ((with_reducible apply Sy.dwr (SK := [(q5, .cells (hC mask ++ [.slice a l.length c]) 116 true)])); (case hw => first | exact wantY_none); (case hc => intro hcls; cases hcls); (case h1 => exact rfl); (case hS => intro h hh; subst hh; exact ⟨_, List.mem_singleton.2 rfl⟩); (case hk => exact .consN (by repeat (first | exact Has.here | apply Has.there | apply Has.app)) .nil))
    | ((with_reducible apply Sy.dand); (case hk => exact .consN (by repeat (first | exact Has.here | apply Has.there | apply Has.app)) .nil))
    | ((with_reducible apply Sy.newY (o := ⟨some 3, .box 44 _, _, _, _, _⟩)); exact rfl; exact rfl; exact nbH rfl; intro q3)
    | ((with_reducible apply Sy.newY (o := ⟨some 3, .box 44 _, _, _, _, _⟩)); exact rfl; exact rfl; exact nb1 rfl rfl; intro q3)
    | ((with_reducible apply Sy.newY (o := ⟨some 3, .box 44 _, _, _, _, _⟩)); exact rfl; exact rfl; exact nbA rfl; intro q3)
    | ((with_reducible apply Sy.newY (o := ⟨some 4, .box 44 _, _, _, _, _⟩)); exact rfl; exact rfl; exact nbH rfl; intro q4)
    | ((with_reducible apply Sy.newY (o := ⟨some 4, .box 44 _, _, _, _, _⟩)); exact rfl; exact rfl; exact nb1 rfl rfl; intro q4)
    | ((with_reducible apply Sy.newY (o := ⟨some 4, .box 44 _, _, _, _, _⟩)); exact rfl; exact rfl; exact nbA rfl; intro q4)
    | ((with_reducible apply Sy.newY (o := ⟨some 5, .box 116 _, _, _, _, _⟩)); exact rfl; exact rfl; exact nbA rfl; intro q5)
    | ((with_reducible apply Sy.newY (o := ⟨some 6, .alloc 44, _, _, _, _⟩)); exact rfl; exact rfl; exact nwz44; intro q6)
    | ((with_reducible apply Sy.dnew (o := ⟨some 8, .alloc 44, _, _, _, _⟩)); (· first | exact wantY_none); exact rfl; exact rfl; exact rfl; exact rfl; exact rfl; exact nwz44; intro q8 hq8)
    | ((with_reducible apply Sy.newY (o := ⟨some 11, .alloc 44, _, _, _, _⟩)); exact rfl; exact rfl; exact nwz44; intro q11)
    | (with_reducible refine Sy.skip ?_)
    | (with_reducible refine Sy.ret ?_)
    | (with_reducible refine Sy.label ?_)
    | (with_reducible refine Sy.block ?_)
    | (with_reducible refine Sy.scope ?_)
    | (with_reducible refine Sy.aret ?_)
    | (with_reducible refine Sy.sret ?_)
    | (with_reducible refine Sy.dend ?_)
    | ((with_reducible apply Sy.dld); (· first | exact wantY_none); exact rfl; (· first | omega | exact rfl); exact rfl)
    | ((with_reducible apply Sy.iteB); (case hx => exact rfl); all_goals intro hc))
  · refine .fin [_, _] (.inr rfl) ⟨⟨q6, 0, _, rfl, (by repeat (first | exact Has.here | apply Has.there | apply Has.app)), ld_hV ag44 sz44⟩, rfl, trivial⟩ fun H' hp => ⟨?_, hp.less (List.nil_sublist _)⟩
    have : ¬ rightB mask l = true := by simpa using hc
    rw [rootV, if_neg this]; rfl
  have hr : rightB mask l = true := by simpa using hc
  have hlen := right_len hr
  have hv : rootV key v mask l = (rootH key mask l (leafH key v) 256, 0) := by rw [rootV, if_pos hr]
  rw [hv]
  generalize leafH key v = h0
  refine Sy.loop (ι := Nat × Nat) (fun d => d.1) (fun d => [(3, .pointer (some ⟨q3, 0, none⟩)), (5, .pointer (some ⟨q5, 0, none⟩)), (6, .pointer (some ⟨q6, 0, none⟩)), (8, .pointer (some ⟨q8, 0, none⟩)), (9, .slice a (bitTo mask d.1) d.2), (10, .int .i64 (d.1 : Nat))]) (fun _ => [])
    (fun d => [(q8, .cells (hC (rootH key mask l h0 (256 - d.1))) 44 true), (q6, .cells (hC zeroH) 44 true), (q5, .cells (hC mask ++ [.slice a l.length c]) 116 true), (q3, .cells (hC key) 44 true)]) (fun d => d.1 ≤ 256) (256, c) (Nat.le_refl _) ⟨rfl, rfl, rfl, rfl, by rw [hlen]; rfl, rfl, trivial⟩ (fun H h => h.less (.cons_cons _ (.cons_cons _ (.cons_cons _ (.cons _ (.refl _)))))) ?_
  rintro ⟨d, cp⟩ hd
  dsimp only at hd ⊢
  by_cases h0d : d = 0
  · subst h0d
    repeat' (first
    | (with_reducible refine Sy.seq ?_)
    | (with_reducible refine Sy.regionL ?_)
    | (with_reducible refine Sy.opsnil ?_)
    | (with_reducible refine Sy.go ?_)
    | (with_reducible refine Sy.nrm ?_)
    | ((with_reducible apply Sy.assign); exact rfl; exact rfl)
    | ((with_reducible apply Sy.ldN (t := 116)); exact rfl; exact rfl; exact hasT; (· first | exact ld_all ag116 (by first | exact sz116 | (simp [sz116, *]; done)) | exact ld_agg ag116 sz116 (by first | (simp; done) | (simp; omega)) (by first | with_reducible exact cut_kids | rfl | (simp [List.drop_append, List.take_append, List.getElem?_append, lay, hC_length, ints_length, ints_drop, ints_take, ints_append, List.drop_of_length_le, List.take_of_length_le, List.map_append, List.set_append, Value.cells]; done))))
    | ((with_reducible apply Sy.stNa (t := 44)); exact rfl; exact rfl; exact sz44; (· first | exact hC_length _ | (simp; done)); (· first | exact hC_one _); exact turnT; (· first | (simp; done)); (· first | exact lay_all (by first | (simp; done))))
    | ((with_reducible apply Sy.ldN (t := 44)); exact rfl; exact rfl; exact hasT; (· first | exact ld_hV ag44 sz44))
    | ((with_reducible apply Sy.ldN (t := 114)); exact rfl; exact rfl; exact hasT; (· first | exact ld_one ag114 rfl | with_reducible assumption | exact ld_one ag114 (by with_reducible assumption) | exact ld_one ag114 (by simp [List.drop_append, List.take_append, List.getElem?_append, lay, hC_length, ints_length, ints_drop, ints_take, ints_append, List.drop_of_length_le, List.take_of_length_le, List.map_append, List.set_append, Value.cells]; done)))
    | ((with_reducible apply Sy.move); exact rfl; exact rfl)
    | ((with_reducible apply Sy.bin (op := .gtr) (t := 3)); exact rfl; exact rfl; exact rfl; exact b_gtr)
    | ((with_reducible apply Sy.bin (op := .gtr) (t := 3)); exact rfl; exact rfl; exact rfl; exact bz_gtr)
    | (with_reducible refine Sy.exit ?_)
    | (with_reducible refine Sy.ret ?_)
    | (with_reducible refine Sy.aex ?_)
    | ((with_reducible apply Sy.iex); exact rfl)
    | (with_reducible refine Sy.sret ?_)
    | (with_reducible refine Sy.rex ?_)
    | ((with_reducible apply Sy.no); exact rfl))
    exact .fin [_, _] (.inr rfl) ⟨⟨q6, 0, _, rfl, (by repeat (first | exact Has.here | apply Has.there | apply Has.app)), ld_hV ag44 sz44⟩, rfl, trivial⟩ fun H' hp => ⟨rfl, hp.less (List.nil_sublist _)⟩
  · obtain ⟨e, rfl⟩ : ∃ e, d = e + 1 := ⟨d - 1, by omega⟩
    have hbe := bit_le mask e
    have hbk := bit_le key e
    have hs : bitTo mask (e + 1) = bitTo mask e + bitOf mask e := rfl
    have hm := bitTo_mono mask (i := e + 1) (j := 256) (by omega)
    have hstep := rootH_step (key := key) (mask := mask) (l := l) (h0 := h0) (e := e) (by omega)
    rw [hs] at hm ⊢
    by_cases hb1 : bitOf mask e = 1
    · obtain ⟨x, hx⟩ : ∃ x, l[bitTo mask e]? = some x := ⟨l[bitTo mask e]'(by omega), List.getElem?_eq_getElem (by omega)⟩
      have hside : sideH mask l e = x := by rw [sideH, if_pos hb1]; simp [List.getD, hx]
      rw [hside] at hstep
      rcases hl0 with rfl | ⟨b, T, w, rfl, hb⟩
      · simp at hx
      rw [hb1] at hm ⊢
      by_cases hk1 : bitOf key e = 1
      · rw [if_pos hk1] at hstep
        repeat' (first
    | (with_reducible refine Sy.seq ?_)
    | (with_reducible refine Sy.regionL ?_)
    | (with_reducible refine Sy.opsnil ?_)
    | (with_reducible refine Sy.go ?_)
    | (with_reducible refine Sy.nrm ?_)
    | ((with_reducible apply Sy.assign); exact rfl; exact rfl)
    | ((with_reducible apply Sy.ldN (t := 116)); exact rfl; exact rfl; exact hasT; (· first | exact ld_all ag116 (by first | exact sz116 | (simp [sz116, *]; done)) | exact ld_agg ag116 sz116 (by first | (simp; done) | (simp; omega)) (by first | with_reducible exact cut_kids | rfl | (simp [List.drop_append, List.take_append, List.getElem?_append, lay, hC_length, ints_length, ints_drop, ints_take, ints_append, List.drop_of_length_le, List.take_of_length_le, List.map_append, List.set_append, Value.cells]; done))))
    | ((with_reducible apply Sy.stNa (t := 44)); exact rfl; exact rfl; exact sz44; (· first | exact hC_length _ | (simp; done)); (· first | exact hC_one _); exact turnT; (· first | (simp; done)); (· first | exact lay_all (by first | (simp; done))))
    | ((with_reducible apply Sy.ldN (t := 44)); exact rfl; exact rfl; exact hasT; (· first | exact ld_hV ag44 sz44 | exact ld_agg (cs' := hC _) ag44 sz44 (by simp; done) (by first | exact cut_here (by simp; done))))
    | ((with_reducible apply Sy.fa (t := 116) (i := 1)); exact rfl; exact rfl; exact fa116_1 _ _)
    | ((with_reducible apply Sy.ldN (t := 114)); exact rfl; exact rfl; exact hasT; (· first | exact ld_one ag114 rfl | with_reducible assumption | exact ld_one ag114 (by with_reducible assumption) | exact ld_one ag114 (by simp [List.drop_append, List.take_append, List.getElem?_append, lay, hC_length, ints_length, ints_drop, ints_take, ints_append, List.drop_of_length_le, List.take_of_length_le, List.map_append, List.set_append, Value.cells]; done)))
    | ((with_reducible apply Sy.move); exact rfl; exact rfl)
    | ((with_reducible apply Sy.bin (op := .gtr) (t := 3)); exact rfl; exact rfl; exact rfl; exact b_gtr)
    | ((with_reducible apply Sy.bin (op := .gtr) (t := 3)); exact rfl; exact rfl; exact rfl; exact bz_gtr)
    | ((with_reducible apply Sy.bin (op := .sub) (t := 3)); exact rfl; exact rfl; exact rfl; exact (b_sub (by omega) (by omega)))
    | ((with_reducible apply Sy.bin (op := .sub) (t := 3)); exact rfl; exact rfl; exact rfl; exact (bz_sub (by omega) (by omega)))
    | ((with_reducible apply Sy.fa (t := 116) (i := 0)); exact rfl; exact rfl; exact fa116_0 _ _)
    | ((with_reducible apply Sy.lenS); exact rfl; exact Tryd.underlying114; exact rfl)
    | ((with_reducible apply Sy.ia (t := 114)); exact rfl; exact rfl; exact rfl; exact (ia_sl Tryd.underlying114 sz44 (by omega)))
    | ((with_reducible apply Sy.sl (t := 114)); exact rfl; exact rfl; exact rfl; exact rfl; exact rfl; exact (sl_to Tryd.underlying114 sz44 (by omega)))
    | ((with_reducible apply Sy.sl (t := 114)); exact rfl; exact rfl; exact rfl; exact rfl; exact rfl; exact (sl_more Tryd.underlying114 sz44 (by omega) (by decide) (by decide)))
    | ((with_reducible apply Sy.call0 (k := 131)); exact rfl; exact rfl; exact en131; exact rfl; (intro H' hp; exact c_pbit1 mask e true (by simp [hb1]) (by omega) H'))
    | ((with_reducible apply Sy.call0 (k := 131)); exact rfl; exact rfl; exact en131; exact rfl; (intro H' hp; exact c_pbit1 key e true (by simp [hk1]) (by omega) H'))
    | (with_reducible refine Sy.ld0 (t := 44) rfl rfl hb rfl (by simp only [List.forall_mem_cons, List.not_mem_nil, false_implies, implies_true, and_true, ne_eq]; first | done | omega | (repeat (first | with_reducible assumption | (refine And.intro ?_ ?_)))) (hcs_k hx (by omega)) ?_)
    | ((with_reducible apply Sy.call0 (k := 132)); exact rfl; exact rfl; exact en132; exact rfl; (intro H' hp; exact c_Above _ _ H' (g.of hp (by simp))))
    | ((with_reducible apply Sy.newY (o := ⟨some 6, .alloc 44, _, _, _, _⟩)); exact rfl; exact rfl; exact nwz44; intro q6)
    | ((with_reducible apply Sy.newY (o := ⟨some 11, .alloc 44, _, _, _, _⟩)); exact rfl; exact rfl; exact nwz44; intro q11)
    | (with_reducible refine Sy.skip ?_)
    | (with_reducible refine Sy.exit ?_)
    | (with_reducible refine Sy.block ?_)
    | (with_reducible refine Sy.aex ?_)
    | ((with_reducible apply Sy.iex); exact rfl)
    | ((with_reducible apply Sy.drawL (id := 10) 9 [] (fun hi h => h < hi)); (case hp => kernel_rfl); (case hN => exact rfl); intro base hbase hM; try simp only [List.forall_mem_cons, List.forall_mem_append, List.not_mem_nil, false_implies, implies_true, and_true] at hM)
    | ((with_reducible apply Sy.yes); exact rfl)
    | (with_reducible refine Sy.dend ?_)
    | ((with_reducible apply Sy.dgo); (· first | exact wantY_none); (· intro hcls; cases hcls); exact rfl; exact rfl))
        refine Sy.rnrm (e, _) (by dsimp only; omega) (by dsimp only; omega) ⟨rfl, rfl, rfl, rfl, rfl, rfl, trivial⟩ (fun H1 h => ?_)
        dsimp only
        rw [hstep]
        exact h.less (.cons _ (.refl _))
      · rw [if_neg hk1] at hstep
        repeat' (first
    | (with_reducible refine Sy.seq ?_)
    | (with_reducible refine Sy.regionL ?_)
    | (with_reducible refine Sy.opsnil ?_)
    | (with_reducible refine Sy.go ?_)
    | (with_reducible refine Sy.nrm ?_)
    | ((with_reducible apply Sy.assign); exact rfl; exact rfl)
    | ((with_reducible apply Sy.ldN (t := 116)); exact rfl; exact rfl; exact hasT; (· first | exact ld_all ag116 (by first | exact sz116 | (simp [sz116, *]; done)) | exact ld_agg ag116 sz116 (by first | (simp; done) | (simp; omega)) (by first | with_reducible exact cut_kids | rfl | (simp [List.drop_append, List.take_append, List.getElem?_append, lay, hC_length, ints_length, ints_drop, ints_take, ints_append, List.drop_of_length_le, List.take_of_length_le, List.map_append, List.set_append, Value.cells]; done))))
    | ((with_reducible apply Sy.stNa (t := 44)); exact rfl; exact rfl; exact sz44; (· first | exact hC_length _ | (simp; done)); (· first | exact hC_one _); exact turnT; (· first | (simp; done)); (· first | exact lay_all (by first | (simp; done))))
    | ((with_reducible apply Sy.ldN (t := 44)); exact rfl; exact rfl; exact hasT; (· first | exact ld_hV ag44 sz44 | exact ld_agg (cs' := hC _) ag44 sz44 (by simp; done) (by first | exact cut_here (by simp; done))))
    | ((with_reducible apply Sy.fa (t := 116) (i := 1)); exact rfl; exact rfl; exact fa116_1 _ _)
    | ((with_reducible apply Sy.ldN (t := 114)); exact rfl; exact rfl; exact hasT; (· first | exact ld_one ag114 rfl | with_reducible assumption | exact ld_one ag114 (by with_reducible assumption) | exact ld_one ag114 (by simp [List.drop_append, List.take_append, List.getElem?_append, lay, hC_length, ints_length, ints_drop, ints_take, ints_append, List.drop_of_length_le, List.take_of_length_le, List.map_append, List.set_append, Value.cells]; done)))
    | ((with_reducible apply Sy.move); exact rfl; exact rfl)
    | ((with_reducible apply Sy.bin (op := .gtr) (t := 3)); exact rfl; exact rfl; exact rfl; exact b_gtr)
    | ((with_reducible apply Sy.bin (op := .gtr) (t := 3)); exact rfl; exact rfl; exact rfl; exact bz_gtr)
    | ((with_reducible apply Sy.bin (op := .sub) (t := 3)); exact rfl; exact rfl; exact rfl; exact (b_sub (by omega) (by omega)))
    | ((with_reducible apply Sy.bin (op := .sub) (t := 3)); exact rfl; exact rfl; exact rfl; exact (bz_sub (by omega) (by omega)))
    | ((with_reducible apply Sy.fa (t := 116) (i := 0)); exact rfl; exact rfl; exact fa116_0 _ _)
    | ((with_reducible apply Sy.lenS); exact rfl; exact Tryd.underlying114; exact rfl)
    | ((with_reducible apply Sy.ia (t := 114)); exact rfl; exact rfl; exact rfl; exact (ia_sl Tryd.underlying114 sz44 (by omega)))
    | ((with_reducible apply Sy.sl (t := 114)); exact rfl; exact rfl; exact rfl; exact rfl; exact rfl; exact (sl_to Tryd.underlying114 sz44 (by omega)))
    | ((with_reducible apply Sy.sl (t := 114)); exact rfl; exact rfl; exact rfl; exact rfl; exact rfl; exact (sl_more Tryd.underlying114 sz44 (by omega) (by decide) (by decide)))
    | ((with_reducible apply Sy.call0 (k := 131)); exact rfl; exact rfl; exact en131; exact rfl; (intro H' hp; exact c_pbit1 mask e true (by simp [hb1]) (by omega) H'))
    | ((with_reducible apply Sy.call0 (k := 131)); exact rfl; exact rfl; exact en131; exact rfl; (intro H' hp; exact c_pbit1 key e false (by simp [hk1]) (by omega) H'))
    | (with_reducible refine Sy.ld0 (t := 44) rfl rfl hb rfl (by simp only [List.forall_mem_cons, List.not_mem_nil, false_implies, implies_true, and_true, ne_eq]; first | done | omega | (repeat (first | with_reducible assumption | (refine And.intro ?_ ?_)))) (hcs_k hx (by omega)) ?_)
    | ((with_reducible apply Sy.call0 (k := 132)); exact rfl; exact rfl; exact en132; exact rfl; (intro H' hp; exact c_Above _ _ H' (g.of hp (by simp))))
    | ((with_reducible apply Sy.newY (o := ⟨some 6, .alloc 44, _, _, _, _⟩)); exact rfl; exact rfl; exact nwz44; intro q6)
    | ((with_reducible apply Sy.newY (o := ⟨some 11, .alloc 44, _, _, _, _⟩)); exact rfl; exact rfl; exact nwz44; intro q11)
    | (with_reducible refine Sy.skip ?_)
    | (with_reducible refine Sy.block ?_)
    | (with_reducible refine Sy.inrm ?_)
    | ((with_reducible apply Sy.drawL (id := 10) 9 [] (fun hi h => h < hi)); (case hp => kernel_rfl); (case hN => exact rfl); intro base hbase hM; try simp only [List.forall_mem_cons, List.forall_mem_append, List.not_mem_nil, false_implies, implies_true, and_true] at hM)
    | ((with_reducible apply Sy.yes); exact rfl)
    | ((with_reducible apply Sy.no); exact rfl)
    | (with_reducible refine Sy.dend ?_)
    | ((with_reducible apply Sy.dgo); (· first | exact wantY_none); (· intro hcls; cases hcls); exact rfl; exact rfl))
        refine Sy.rnrm (e, _) (by dsimp only; omega) (by dsimp only; omega) ⟨rfl, rfl, rfl, rfl, rfl, rfl, trivial⟩ (fun H1 h => ?_)
        dsimp only
        rw [hstep]
        exact h.less (.cons _ (.refl _))
    · have hside : sideH mask l e = zeroH := by rw [sideH, if_neg hb1]
      rw [hside] at hstep
      have hb0 : bitOf mask e = 0 := by omega
      rw [hb0, Nat.add_zero] at hm ⊢
      by_cases hk1 : bitOf key e = 1
      · rw [if_pos hk1] at hstep
        repeat' (first
    | (with_reducible refine Sy.seq ?_)
    | (with_reducible refine Sy.regionL ?_)
    | (with_reducible refine Sy.opsnil ?_)
    | (with_reducible refine Sy.go ?_)
    | (with_reducible refine Sy.nrm ?_)
    | ((with_reducible apply Sy.assign); exact rfl; exact rfl)
    | ((with_reducible apply Sy.ldN (t := 116)); exact rfl; exact rfl; exact hasT; (· first | exact ld_all ag116 (by first | exact sz116 | (simp [sz116, *]; done)) | exact ld_agg ag116 sz116 (by first | (simp; done) | (simp; omega)) (by first | with_reducible exact cut_kids | rfl | (simp [List.drop_append, List.take_append, List.getElem?_append, lay, hC_length, ints_length, ints_drop, ints_take, ints_append, List.drop_of_length_le, List.take_of_length_le, List.map_append, List.set_append, Value.cells]; done))))
    | ((with_reducible apply Sy.stNa (t := 44)); exact rfl; exact rfl; exact sz44; (· first | exact hC_length _ | (simp; done)); (· first | exact hC_one _); exact turnT; (· first | (simp; done)); (· first | exact lay_all (by first | (simp; done))))
    | ((with_reducible apply Sy.ldN (t := 44)); exact rfl; exact rfl; exact hasT; (· first | exact ld_hV ag44 sz44 | exact ld_agg (cs' := hC _) ag44 sz44 (by simp; done) (by first | exact cut_here (by simp; done))))
    | ((with_reducible apply Sy.fa (t := 116) (i := 1)); exact rfl; exact rfl; exact fa116_1 _ _)
    | ((with_reducible apply Sy.ldN (t := 114)); exact rfl; exact rfl; exact hasT; (· first | exact ld_one ag114 rfl | with_reducible assumption | exact ld_one ag114 (by with_reducible assumption) | exact ld_one ag114 (by simp [List.drop_append, List.take_append, List.getElem?_append, lay, hC_length, ints_length, ints_drop, ints_take, ints_append, List.drop_of_length_le, List.take_of_length_le, List.map_append, List.set_append, Value.cells]; done)))
    | ((with_reducible apply Sy.move); exact rfl; exact rfl)
    | ((with_reducible apply Sy.bin (op := .gtr) (t := 3)); exact rfl; exact rfl; exact rfl; exact b_gtr)
    | ((with_reducible apply Sy.bin (op := .gtr) (t := 3)); exact rfl; exact rfl; exact rfl; exact bz_gtr)
    | ((with_reducible apply Sy.bin (op := .sub) (t := 3)); exact rfl; exact rfl; exact rfl; exact (b_sub (by omega) (by omega)))
    | ((with_reducible apply Sy.bin (op := .sub) (t := 3)); exact rfl; exact rfl; exact rfl; exact (bz_sub (by omega) (by omega)))
    | ((with_reducible apply Sy.fa (t := 116) (i := 0)); exact rfl; exact rfl; exact fa116_0 _ _)
    | ((with_reducible apply Sy.call0 (k := 131)); exact rfl; exact rfl; exact en131; exact rfl; (intro H' hp; exact c_pbit1 mask e false (by simp [hb1]) (by omega) H'))
    | ((with_reducible apply Sy.call0 (k := 131)); exact rfl; exact rfl; exact en131; exact rfl; (intro H' hp; exact c_pbit1 key e true (by simp [hk1]) (by omega) H'))
    | ((with_reducible apply Sy.call0 (k := 132)); exact rfl; exact rfl; exact en132; exact rfl; (intro H' hp; exact c_Above _ _ H' (g.of hp (by simp))))
    | ((with_reducible apply Sy.newY (o := ⟨some 6, .alloc 44, _, _, _, _⟩)); exact rfl; exact rfl; exact nwz44; intro q6)
    | ((with_reducible apply Sy.newY (o := ⟨some 11, .alloc 44, _, _, _, _⟩)); exact rfl; exact rfl; exact nwz44; intro q11)
    | (with_reducible refine Sy.skip ?_)
    | (with_reducible refine Sy.exit ?_)
    | (with_reducible refine Sy.block ?_)
    | (with_reducible refine Sy.aex ?_)
    | ((with_reducible apply Sy.iex); exact rfl)
    | ((with_reducible apply Sy.yes); exact rfl)
    | ((with_reducible apply Sy.no); exact rfl))
        refine Sy.rnrm (e, _) (by dsimp only; omega) (by dsimp only; omega) ⟨rfl, rfl, rfl, rfl, rfl, rfl, trivial⟩ (fun H1 h => ?_)
        dsimp only
        rw [hstep]
        exact h.less (.cons _ (.refl _))
      · rw [if_neg hk1] at hstep
        repeat' (first
    | (with_reducible refine Sy.seq ?_)
    | (with_reducible refine Sy.regionL ?_)
    | (with_reducible refine Sy.opsnil ?_)
    | (with_reducible refine Sy.go ?_)
    | (with_reducible refine Sy.nrm ?_)
    | ((with_reducible apply Sy.assign); exact rfl; exact rfl)
    | ((with_reducible apply Sy.ldN (t := 116)); exact rfl; exact rfl; exact hasT; (· first | exact ld_all ag116 (by first | exact sz116 | (simp [sz116, *]; done)) | exact ld_agg ag116 sz116 (by first | (simp; done) | (simp; omega)) (by first | with_reducible exact cut_kids | rfl | (simp [List.drop_append, List.take_append, List.getElem?_append, lay, hC_length, ints_length, ints_drop, ints_take, ints_append, List.drop_of_length_le, List.take_of_length_le, List.map_append, List.set_append, Value.cells]; done))))
    | ((with_reducible apply Sy.stNa (t := 44)); exact rfl; exact rfl; exact sz44; (· first | exact hC_length _ | (simp; done)); (· first | exact hC_one _); exact turnT; (· first | (simp; done)); (· first | exact lay_all (by first | (simp; done))))
    | ((with_reducible apply Sy.ldN (t := 44)); exact rfl; exact rfl; exact hasT; (· first | exact ld_hV ag44 sz44 | exact ld_agg (cs' := hC _) ag44 sz44 (by simp; done) (by first | exact cut_here (by simp; done))))
    | ((with_reducible apply Sy.fa (t := 116) (i := 1)); exact rfl; exact rfl; exact fa116_1 _ _)
    | ((with_reducible apply Sy.ldN (t := 114)); exact rfl; exact rfl; exact hasT; (· first | exact ld_one ag114 rfl | with_reducible assumption | exact ld_one ag114 (by with_reducible assumption) | exact ld_one ag114 (by simp [List.drop_append, List.take_append, List.getElem?_append, lay, hC_length, ints_length, ints_drop, ints_take, ints_append, List.drop_of_length_le, List.take_of_length_le, List.map_append, List.set_append, Value.cells]; done)))
    | ((with_reducible apply Sy.move); exact rfl; exact rfl)
    | ((with_reducible apply Sy.bin (op := .gtr) (t := 3)); exact rfl; exact rfl; exact rfl; exact b_gtr)
    | ((with_reducible apply Sy.bin (op := .gtr) (t := 3)); exact rfl; exact rfl; exact rfl; exact bz_gtr)
    | ((with_reducible apply Sy.bin (op := .sub) (t := 3)); exact rfl; exact rfl; exact rfl; exact (b_sub (by omega) (by omega)))
    | ((with_reducible apply Sy.bin (op := .sub) (t := 3)); exact rfl; exact rfl; exact rfl; exact (bz_sub (by omega) (by omega)))
    | ((with_reducible apply Sy.fa (t := 116) (i := 0)); exact rfl; exact rfl; exact fa116_0 _ _)
    | ((with_reducible apply Sy.call0 (k := 131)); exact rfl; exact rfl; exact en131; exact rfl; (intro H' hp; exact c_pbit1 mask e false (by simp [hb1]) (by omega) H'))
    | ((with_reducible apply Sy.call0 (k := 131)); exact rfl; exact rfl; exact en131; exact rfl; (intro H' hp; exact c_pbit1 key e false (by simp [hk1]) (by omega) H'))
    | ((with_reducible apply Sy.call0 (k := 132)); exact rfl; exact rfl; exact en132; exact rfl; (intro H' hp; exact c_Above _ _ H' (g.of hp (by simp))))
    | ((with_reducible apply Sy.newY (o := ⟨some 6, .alloc 44, _, _, _, _⟩)); exact rfl; exact rfl; exact nwz44; intro q6)
    | ((with_reducible apply Sy.newY (o := ⟨some 11, .alloc 44, _, _, _, _⟩)); exact rfl; exact rfl; exact nwz44; intro q11)
    | (with_reducible refine Sy.skip ?_)
    | (with_reducible refine Sy.block ?_)
    | (with_reducible refine Sy.inrm ?_)
    | ((with_reducible apply Sy.yes); exact rfl)
    | ((with_reducible apply Sy.no); exact rfl))
        refine Sy.rnrm (e, _) (by dsimp only; omega) (by dsimp only; omega) ⟨rfl, rfl, rfl, rfl, rfl, rfl, trivial⟩ (fun H1 h => ?_)
        dsimp only
        rw [hstep]
        exact h.less (.cons _ (.refl _))
end Go.Proofs.YtjimjolfnimimaaDoor

/- Layer 06: the reference's root; Check, Update. -/
namespace Go.Proofs.YtjimjolfnimimaaDoor
open Go Go.Am
set_option maxRecDepth 100000
set_option linter.unusedVariables false

end Go.Proofs.YtjimjolfnimimaaDoor

/- Layer 06: Check, Update, proofs that are copied and compared. -/
namespace Go.Proofs.YtjimjolfnimimaaDoor
open Go Go.Am
set_option maxRecDepth 100000
set_option linter.unusedVariables false

def tupR (r : Hsh × Nat) : Value := .tuple ⟨[hV r.1, .int .i64 ((r.2 : Nat) : Int)]⟩
theorem root_e (key v mask : Hsh) (l : List Hsh) : (rootV key v mask l).2 ≤ 21 := by unfold rootV; split <;> simp
def chkV (root key v mask : Hsh) (l : List Hsh) : Bool := decide ((rootV key v mask l).2 = 0) && decide ((rootV key v mask l).1 = root)
def updV (root key old now mask : Hsh) (l : List Hsh) : Hsh × Nat :=
  if (rootV key old mask l).2 ≠ 0 then (zeroH, (rootV key old mask l).2) else if (rootV key old mask l).1 ≠ root then (zeroH, 22) else rootV key now mask l

theorem c_Check (root key v mask : Hsh) (sv : Value) (l : List Hsh) (H : AHeap) (g : Gl H) (hl : HsAt H sv l) (hn : l.length ≤ 4398046511104) : CallR Tryd.prog noPrims 75 [hV root, hV key, hV v, prV mask sv] H (fun u H' => u = .bool (chkV root key v mask l) ∧ Hp H 0 0 H' [] []) := by
  have hR : ∀ {H' : AHeap} {lo hi : Nat} {Mn : Hm}, Hp H lo hi H' [] Mn → CallR Tryd.prog noPrims 114 [hV key, hV v, prV mask sv] H' (fun u H2 => u = tupR (rootV key v mask l) ∧ Hp H' 0 0 H2 [] []) := fun hp => c_Root key v mask sv l _ (g.of hp (by simp)) (hl.of hp) hn
  have hE := root_e key v mask l
  unfold chkV
  generalize rootV key v mask l = r at *
  obtain ⟨x, e⟩ := r
  dsimp only at hE ⊢
  refine CallR.sy (n := 25) Tryd.func75 rfl rfl rfl ?_
  repeat' (first
    | (with_reducible refine Sy.seq ?_)
    | (with_reducible refine Sy.regionL ?_)
    | (with_reducible refine Sy.opsnil ?_)
    | (with_reducible refine Sy.go ?_)
    | (with_reducible refine Sy.nrm ?_)
    | ((with_reducible apply Sy.assign); exact rfl; exact rfl)
    | ((with_reducible apply Sy.ldN (t := 44)); exact rfl; exact rfl; exact hasT; (· first | exact ld_hV ag44 sz44))
    | ((with_reducible apply Sy.ldN (t := 116)); exact rfl; exact rfl; exact hasT; (· first | exact ld_all ag116 (by first | (simp [sz116, *]; done))))
    | ((with_reducible apply Sy.move); exact rfl; exact rfl)
    | ((with_reducible apply Sy.ext); exact rfl; exact rfl; exact rfl)
    | ((with_reducible apply Sy.stNa (t := 44)); exact rfl; exact rfl; exact sz44; (· first | exact hC_length _ | (simp; done)); (· first | exact hC_one _); exact turnT; (· first | (simp; done)); (· first | exact lay_all (by first | (simp; done))))
    | ((with_reducible apply Sy.bin (op := .eql) (t := 32)); exact rfl; exact rfl; exact rfl; exact b_eql)
    | ((with_reducible apply Sy.bin (op := .eql) (t := 32)); exact rfl; exact rfl; exact rfl; exact bz_eql)
    | ((with_reducible apply Sy.bin (op := .eql) (t := 44)); exact rfl; exact rfl; exact rfl; exact eq44)
    | ((with_reducible apply Sy.pickT); exact rfl; exact rfl; exact rfl)
    | ((with_reducible apply Sy.pickF); exact rfl; exact rfl; exact rfl)
    | ((with_reducible apply Sy.call0 (k := 114)); exact rfl; exact rfl; exact en114; exact rfl; (intro H' hp; exact hR hp))
    | ((with_reducible apply Sy.newY (o := ⟨some 4, .box 44 _, _, _, _, _⟩)); exact rfl; exact rfl; exact nbH rfl; intro q4)
    | ((with_reducible apply Sy.newY (o := ⟨some 4, .box 44 _, _, _, _, _⟩)); exact rfl; exact rfl; exact nb1 rfl rfl; intro q4)
    | ((with_reducible apply Sy.newY (o := ⟨some 4, .box 44 _, _, _, _, _⟩)); exact rfl; exact rfl; exact nbA rfl; intro q4)
    | ((with_reducible apply Sy.newY (o := ⟨some 5, .box 44 _, _, _, _, _⟩)); exact rfl; exact rfl; exact nbH rfl; intro q5)
    | ((with_reducible apply Sy.newY (o := ⟨some 5, .box 44 _, _, _, _, _⟩)); exact rfl; exact rfl; exact nb1 rfl rfl; intro q5)
    | ((with_reducible apply Sy.newY (o := ⟨some 5, .box 44 _, _, _, _, _⟩)); exact rfl; exact rfl; exact nbA rfl; intro q5)
    | ((with_reducible apply Sy.newY (o := ⟨some 6, .box 44 _, _, _, _, _⟩)); exact rfl; exact rfl; exact nbH rfl; intro q6)
    | ((with_reducible apply Sy.newY (o := ⟨some 6, .box 44 _, _, _, _, _⟩)); exact rfl; exact rfl; exact nb1 rfl rfl; intro q6)
    | ((with_reducible apply Sy.newY (o := ⟨some 6, .box 44 _, _, _, _, _⟩)); exact rfl; exact rfl; exact nbA rfl; intro q6)
    | ((with_reducible apply Sy.newY (o := ⟨some 7, .box 116 _, _, _, _, _⟩)); exact rfl; exact rfl; exact nbA rfl; intro q7)
    | ((with_reducible apply Sy.newY (o := ⟨some 9, .alloc 44, _, _, _, _⟩)); exact rfl; exact rfl; exact nwz44; intro q9)
    | (with_reducible refine Sy.ret ?_)
    | ((with_reducible apply Sy.goG); exact rfl; exact rfl; exact rfl)
    | ((with_reducible apply Sy.noG); exact rfl; exact rfl; exact rfl; exact rfl; exact rfl)
    | ((with_reducible apply Sy.caseG); (case hj => exact rfl); (case hx => exact rfl); all_goals (intro hc; try (exfalso; omega))))
  all_goals (refine .fin [_] (.inr rfl) ⟨rfl, trivial⟩ fun H' hp => ⟨congrArg Value.bool ?_, hp.less (List.nil_sublist _)⟩; (try dsimp only at hc); simp [hc])
theorem c_Update (root key old now mask : Hsh) (sv : Value) (l : List Hsh) (H : AHeap) (g : Gl H) (hl : HsAt H sv l) (hn : l.length ≤ 4398046511104) : CallR Tryd.prog noPrims 73 [hV root, hV key, hV old, hV now, prV mask sv] H (fun u H' => u = tupR (updV root key old now mask l) ∧ Hp H 0 0 H' [] []) := by
  have hR : ∀ {H' : AHeap} {lo hi : Nat} {Mn : Hm}, Hp H lo hi H' [] Mn → CallR Tryd.prog noPrims 114 [hV key, hV old, prV mask sv] H' (fun u H2 => u = tupR (rootV key old mask l) ∧ Hp H' 0 0 H2 [] []) := fun hp => c_Root key old mask sv l _ (g.of hp (by simp)) (hl.of hp) hn
  have hR2 : ∀ {H' : AHeap} {lo hi : Nat} {Mn : Hm}, Hp H lo hi H' [] Mn → CallR Tryd.prog noPrims 114 [hV key, hV now, prV mask sv] H' (fun u H2 => u = tupR (rootV key now mask l) ∧ Hp H' 0 0 H2 [] []) := fun hp => c_Root key now mask sv l _ (g.of hp (by simp)) (hl.of hp) hn
  have hE := root_e key old mask l
  unfold updV
  generalize rootV key old mask l = r at *
  generalize rootV key now mask l = r2 at *
  obtain ⟨x, e⟩ := r
  obtain ⟨x2, e2⟩ := r2
  dsimp only at hE ⊢
  refine CallR.sy (n := 37) Tryd.func73 rfl rfl rfl ?_
  repeat' (first
    | (with_reducible refine Sy.seq ?_)
    | (with_reducible refine Sy.regionL ?_)
    | (with_reducible refine Sy.opsnil ?_)
    | (with_reducible refine Sy.go ?_)
    | (with_reducible refine Sy.nrm ?_)
    | ((with_reducible refine Sy.build (t := 44) (ps := #[]) rfl rfl bvZ ?_))
    | ((with_reducible apply Sy.assign); exact rfl; exact rfl)
    | ((with_reducible apply Sy.ldN (t := 44)); exact rfl; exact rfl; exact hasT; (· first | exact ld_hV ag44 sz44))
    | ((with_reducible apply Sy.ldN (t := 116)); exact rfl; exact rfl; exact hasT; (· first | exact ld_all ag116 (by first | (simp [sz116, *]; done))))
    | ((with_reducible apply Sy.move); exact rfl; exact rfl)
    | ((with_reducible apply Sy.ext); exact rfl; exact rfl; exact rfl)
    | ((with_reducible apply Sy.stNa (t := 44)); exact rfl; exact rfl; exact sz44; (· first | exact hC_length _ | (simp; done)); (· first | exact hC_one _); exact turnT; (· first | (simp; done)); (· first | exact lay_all (by first | (simp; done))))
    | ((with_reducible apply Sy.bin (op := .neq) (t := 32)); exact rfl; exact rfl; exact rfl; exact b_neq)
    | ((with_reducible apply Sy.bin (op := .neq) (t := 32)); exact rfl; exact rfl; exact rfl; exact bz_neq)
    | ((with_reducible apply Sy.bin (op := .neq) (t := 44)); exact rfl; exact rfl; exact rfl; exact ne44)
    | ((with_reducible apply Sy.call0 (k := 114)); exact rfl; exact rfl; exact en114; exact rfl; (intro H' hp; exact hR hp))
    | ((with_reducible apply Sy.call0 (k := 114)); exact rfl; exact rfl; exact en114; exact rfl; (intro H' hp; exact hR2 hp))
    | ((with_reducible apply Sy.newY (o := ⟨some 5, .box 44 _, _, _, _, _⟩)); exact rfl; exact rfl; exact nbH rfl; intro q5)
    | ((with_reducible apply Sy.newY (o := ⟨some 5, .box 44 _, _, _, _, _⟩)); exact rfl; exact rfl; exact nb1 rfl rfl; intro q5)
    | ((with_reducible apply Sy.newY (o := ⟨some 5, .box 44 _, _, _, _, _⟩)); exact rfl; exact rfl; exact nbA rfl; intro q5)
    | ((with_reducible apply Sy.newY (o := ⟨some 6, .box 44 _, _, _, _, _⟩)); exact rfl; exact rfl; exact nbH rfl; intro q6)
    | ((with_reducible apply Sy.newY (o := ⟨some 6, .box 44 _, _, _, _, _⟩)); exact rfl; exact rfl; exact nb1 rfl rfl; intro q6)
    | ((with_reducible apply Sy.newY (o := ⟨some 6, .box 44 _, _, _, _, _⟩)); exact rfl; exact rfl; exact nbA rfl; intro q6)
    | ((with_reducible apply Sy.newY (o := ⟨some 7, .box 44 _, _, _, _, _⟩)); exact rfl; exact rfl; exact nbH rfl; intro q7)
    | ((with_reducible apply Sy.newY (o := ⟨some 7, .box 44 _, _, _, _, _⟩)); exact rfl; exact rfl; exact nb1 rfl rfl; intro q7)
    | ((with_reducible apply Sy.newY (o := ⟨some 7, .box 44 _, _, _, _, _⟩)); exact rfl; exact rfl; exact nbA rfl; intro q7)
    | ((with_reducible apply Sy.newY (o := ⟨some 8, .box 44 _, _, _, _, _⟩)); exact rfl; exact rfl; exact nbH rfl; intro q8)
    | ((with_reducible apply Sy.newY (o := ⟨some 8, .box 44 _, _, _, _, _⟩)); exact rfl; exact rfl; exact nb1 rfl rfl; intro q8)
    | ((with_reducible apply Sy.newY (o := ⟨some 8, .box 44 _, _, _, _, _⟩)); exact rfl; exact rfl; exact nbA rfl; intro q8)
    | ((with_reducible apply Sy.newY (o := ⟨some 9, .box 116 _, _, _, _, _⟩)); exact rfl; exact rfl; exact nbA rfl; intro q9)
    | ((with_reducible apply Sy.newY (o := ⟨some 10, .alloc 44, _, _, _, _⟩)); exact rfl; exact rfl; exact nwz44; intro q10)
    | ((with_reducible apply Sy.newY (o := ⟨some 12, .alloc 44, _, _, _, _⟩)); exact rfl; exact rfl; exact nwz44; intro q12)
    | (with_reducible refine Sy.skip ?_)
    | (with_reducible refine Sy.ret ?_)
    | (with_reducible refine Sy.block ?_)
    | (with_reducible refine Sy.aret ?_)
    | (with_reducible refine Sy.inrm ?_)
    | (with_reducible refine Sy.iret ?_)
    | ((with_reducible apply Sy.ite); (case hx => exact rfl); all_goals (intro hc; try (exfalso; omega))))
  all_goals (try dsimp only at *)
  all_goals first
    | (refine .fin [_, _] (.inr rfl) ⟨⟨q10, 0, _, rfl, (by repeat (first | exact Has.here | apply Has.there | apply Has.app)), ld_hV ag44 sz44⟩, rfl, trivial⟩ fun H' hp => ⟨?_, hp.less (List.nil_sublist _)⟩; rw [if_pos (by with_reducible assumption)]; rfl)
    | (refine .fin [_, _] (.inr rfl) ⟨⟨q10, 0, _, rfl, (by repeat (first | exact Has.here | apply Has.there | apply Has.app)), ld_hV ag44 sz44⟩, rfl, trivial⟩ fun H' hp => ⟨?_, hp.less (List.nil_sublist _)⟩; rw [if_neg (by with_reducible assumption), if_pos (by with_reducible assumption)]; rfl)
    | (refine .fin [_, _] (.inr rfl) ⟨⟨q10, 0, _, rfl, (by repeat (first | exact Has.here | apply Has.there | apply Has.app)), ld_hV ag44 sz44⟩, rfl, trivial⟩ fun H' hp => ⟨?_, hp.less (List.nil_sublist _)⟩; rw [if_neg (by with_reducible assumption), if_neg (by with_reducible assumption)]; rfl)
end Go.Proofs.YtjimjolfnimimaaDoor

/- Layer 06: proofs that are copied and compared. -/
namespace Go.Proofs.YtjimjolfnimimaaDoor
open Go Go.Am
set_option maxRecDepth 100000
set_option linter.unusedVariables false

/-- A slice of hashes, whole. -/
def HsS (H : AHeap) (v : Value) (l : List Hsh) : Prop := (v = .slice none 0 0 ∧ l = []) ∨ ∃ b c T w, v = .slice (some ⟨b, 0, none⟩) l.length c ∧ H.get b = .cells (hcs l) T w
theorem HsS.at {H : AHeap} {v : Value} {l : List Hsh} (h : HsS H v l) : HsAt H v l := by
  rcases h with ⟨rfl, rfl⟩ | ⟨b, c, T, w, rfl, h⟩
  · exact ⟨none, 0, rfl, .inl rfl⟩
  · exact ⟨_, c, rfl, .inr ⟨b, T, w, rfl, h⟩⟩
theorem HsS.of {H H1 : AHeap} {lo hi : Nat} {Mn : Hm} {v : Value} {l : List Hsh} (h : HsS H v l) (hp : Hp H lo hi H1 [] Mn) : HsS H1 v l := by
  rcases h with h | ⟨b, c, T, w, e, h⟩
  · exact .inl h
  · exact .inr ⟨b, c, T, w, e, hp.get0 h rfl (by simp)⟩
theorem hcs_one (l : List Hsh) : oneL (hcs l) = true := by
  induction l with
  | nil => rfl
  | cons a l ih => simp only [hcs, List.map_cons, List.flatten_cons] at ih ⊢; rw [oneL_append, hC_one, ih]; rfl
theorem bvPr {mask : Hsh} {v : Value} (hv : v.cells.toList = [v]) : buildV Tryd.prog 116 [(0, hV mask), (1, v)] = some (.agg ⟨hC mask ++ [v]⟩) := bv116 (by
  simp only [fillL, plc, hV_cells, hv]
  have e1 : lay (hC zeroH ++ [Value.slice none 0 0]) 0 (hC mask) = hC mask ++ [Value.slice none 0 0] := lay_here (by simp)
  have e2 : lay (hC mask ++ [Value.slice none 0 0]) 32 [v] = hC mask ++ [v] := by
    have := lay_there (a := hC mask) (b := [Value.slice none 0 0]) (v := [v]) (o := 32) (k := 0) (by simp)
    rw [Nat.add_zero] at this
    rw [this]; rfl
  simp [e1, e2])

theorem setPr {m m' : Hsh} {x y : Value} : lay (hC m ++ [x]) 0 (hC m' ++ [y]) = hC m' ++ [y] := lay_all (by simp)
theorem c_Proof (mask : Hsh) (sv : Value) (l : List Hsh) (H : AHeap) (hl : HsS H sv l) (hn : l.length ≤ 4398046511104) : CallR Tryd.prog noPrims 62 [prV mask sv] H (fun u H' => ∃ i : Nat × Nat, True ∧ u = prV mask (.slice (some ⟨i.1, 0, none⟩) l.length i.2) ∧ Hp H 0 0 H' [] [(i.1, .cells (hcs l) 44 true)]) := by
  have hone : ∃ a c, sv = .slice a l.length c := by
    obtain ⟨a, c, e, _⟩ := hl.at
    exact ⟨a, c, e⟩
  obtain ⟨a, c, rfl⟩ := hone
  have epr : prV mask (.slice a l.length c) = .agg ⟨hC mask ++ [.slice a l.length c]⟩ := rfl
  rw [epr]
  refine CallR.sy (n := 10) Tryd.func62 rfl rfl rfl ?_
  repeat' (first
    | (with_reducible refine Sy.seq ?_)
    | (with_reducible refine Sy.regionL ?_)
    | (with_reducible refine Sy.opsnil ?_)
    | (with_reducible refine Sy.go ?_)
    | (with_reducible refine Sy.nrm ?_)
    | ((with_reducible apply Sy.drawL (id := 1) 8 [(1, 5)] (fun hi h => h = q1)); (case hp => kernel_rfl); (case hN => exact rfl); intro base hbase hM)
    | ((with_reducible refine Sy.ldN (t := 114) rfl rfl (by repeat (first | exact Has.here | apply Has.there | apply Has.app)) ldS ?_))
    | ((with_reducible apply Sy.fa (t := 121) (i := 0)); exact rfl; exact rfl; exact fa121_0 _ _)
    | ((with_reducible apply Sy.ldN (t := 44)); exact rfl; exact rfl; exact hasT; (· first | exact ld_agg (cs' := hC _) ag44 sz44 (by simp; done) (by first | exact cut_here (by simp; done))))
    | ((with_reducible apply Sy.fa (t := 121) (i := 1)); exact rfl; exact rfl; exact fa121_1 _ _)
    | ((with_reducible apply Sy.ldN (t := 114)); exact rfl; exact rfl; exact hasT; (· first | exact ld_one ag114 rfl | with_reducible assumption | exact ld_one ag114 (by with_reducible assumption) | exact ld_one ag114 (by simp [List.drop_append, List.take_append, List.getElem?_append, lay, hC_length, ints_length, ints_drop, ints_take, ints_append, List.drop_of_length_le, List.take_of_length_le, List.map_append, List.set_append, Value.cells]; done)))
    | ((with_reducible apply Sy.dwr (SK := [(q1, .cells (hC mask ++ [.slice a l.length c]) 121 true)])); (case hw => first | exact wantY_none); (case hc => intro hcls; cases hcls); (case h1 => exact rfl); (case hS => intro h hh; subst hh; exact ⟨_, List.mem_singleton.2 rfl⟩); (case hk => exact .consN (by repeat (first | exact Has.here | apply Has.there | apply Has.app)) .nil))
    | ((with_reducible apply Sy.dand); (case hk => exact .consN (by repeat (first | exact Has.here | apply Has.there | apply Has.app)) .nil))
    | ((with_reducible apply Sy.newY (o := ⟨some 1, .box 121 _, _, _, _, _⟩)); exact rfl; exact rfl; exact nbA rfl; intro q1)
    | ((with_reducible apply Sy.newY (o := ⟨some 2, .alloc 116, _, _, _, _⟩)); exact rfl; exact rfl; exact nwz116; intro q2)
    | ((with_reducible apply Sy.dnew (o := ⟨some 5, .buildSlice 114 _ _, _, _, _, _⟩)); (· first | exact wantY_none); exact rfl; exact rfl; exact rfl; exact rfl; exact rfl; exact (nbs0 Tryd.underlying114 sz44 zr44 rfl (by decide) rfl); intro q5 hq5)
    | ((with_reducible apply Sy.dnew (o := ⟨some 5, .buildSlice 114 _ _, _, _, _, _⟩)); (· first | exact wantY_none); exact rfl; exact rfl; exact rfl; exact rfl; exact rfl; (· exact (newY_bs Tryd.underlying114 sz44 zr44 rfl (by decide) rfl (by first | rfl | (simp [List.drop_append, List.take_append, List.getElem?_append, lay, hC_length, ints_length, ints_drop, ints_take, ints_append, List.drop_of_length_le, List.take_of_length_le, List.map_append, List.set_append, Value.cells]; done)))); intro q5 hq5)
    | ((with_reducible apply Sy.dld); (· first | exact wantY_none); exact rfl; (· first | omega | exact rfl); exact rfl))
  rcases hl with ⟨he, rfl⟩ | ⟨b, c', T, w, he, hb⟩
  · simp only [List.length_nil, Value.slice.injEq, true_and] at he
    obtain ⟨rfl, rfl⟩ := he
    refine Sy.appZ (t := 114) (xt := 114) (ap114_114 zr44 rfl) rfl rfl rfl (.inl ⟨_, _, _, _, rfl⟩) SrcY.nil rfl ?_
    refine Sy.dand (.consN (by repeat (first | exact Has.here | apply Has.there | apply Has.app)) .nil) ?_
    repeat' (first
    | (with_reducible refine Sy.nrm ?_)
    | ((with_reducible refine Sy.build (t := 116) rfl rfl (bvPr rfl) ?_))
    | ((with_reducible refine Sy.stNa (t := 116) rfl rfl sz116 (by simp) (by simp [oneL_append, hC_one, oneL_cons, oneL_nil, Value.oneCell']) (by repeat (first | exact Turn.here | apply Turn.there | apply Turn.app)) (by simp) setPr ?_))
    | (with_reducible refine Sy.ret ?_)
    | (with_reducible refine Sy.dend ?_)
    | ((with_reducible apply Sy.dgo); (· first | exact wantY_none); (· intro hcls; cases hcls); exact rfl; exact rfl))
    exact .fin [_] (.inr rfl) ⟨⟨q2, 0, _, rfl, (by repeat (first | exact Has.here | apply Has.there | apply Has.app)), ld_all ag116 (by simp [sz116])⟩, trivial⟩ fun H' hp => ⟨(q5, 0), trivial, rfl, hp.less (.cons_cons _ (List.nil_sublist _))⟩
  · simp only [Value.slice.injEq, true_and] at he
    obtain ⟨rfl, rfl⟩ := he
    have hsrc : ∀ {lo hi : Nat} {Mn : Hm}, SrcY H lo hi [] Mn 32 (.slice (some ⟨b, 0, none⟩) l.length c) l.length (hcs l) := fun {lo hi Mn} => (SrcY.of0 hb (by simp) (by rw [hcs_length]; omega)).eq (by rw [List.drop_zero, List.take_of_length_le (by rw [hcs_length]; omega)])
    by_cases hl0 : l = []
    · subst hl0
      refine Sy.appZ (t := 114) (xt := 114) (ap114_114 zr44 rfl) rfl rfl rfl (.inl ⟨_, _, _, _, rfl⟩) hsrc rfl ?_
      refine Sy.dand (.consN (by repeat (first | exact Has.here | apply Has.there | apply Has.app)) .nil) ?_
      repeat' (first
    | (with_reducible refine Sy.nrm ?_)
    | ((with_reducible refine Sy.build (t := 116) rfl rfl (bvPr rfl) ?_))
    | ((with_reducible refine Sy.stNa (t := 116) rfl rfl sz116 (by simp) (by simp [oneL_append, hC_one, oneL_cons, oneL_nil, Value.oneCell']) (by repeat (first | exact Turn.here | apply Turn.there | apply Turn.app)) (by simp) setPr ?_))
    | (with_reducible refine Sy.ret ?_)
    | (with_reducible refine Sy.dend ?_)
    | ((with_reducible apply Sy.dgo); (· first | exact wantY_none); (· intro hcls; cases hcls); exact rfl; exact rfl))
      exact .fin [_] (.inr rfl) ⟨⟨q2, 0, _, rfl, (by repeat (first | exact Has.here | apply Has.there | apply Has.app)), ld_all ag116 (by simp [sz116])⟩, trivial⟩ fun H' hp => ⟨(q5, 0), trivial, rfl, hp.less (.cons_cons _ (List.nil_sublist _))⟩
    · refine Sy.appF (t := 114) (xt := 114) (ap114_114 zr44 rfl) rfl rfl rfl hsrc (hcs_one l) (by simpa using hl0) (by omega) (fun H1 hH => hH.getN (by repeat (first | exact Has.here | apply Has.there | apply Has.app))) (by simp) (old := []) rfl ?_
      intro b2
      refine Sy.dand (.consN (by repeat (first | exact Has.here | apply Has.there | apply Has.app)) .nil) ?_
      repeat' (first
    | (with_reducible refine Sy.nrm ?_)
    | ((with_reducible refine Sy.build (t := 116) rfl rfl (bvPr rfl) ?_))
    | ((with_reducible refine Sy.stNa (t := 116) rfl rfl sz116 (by simp) (by simp [oneL_append, hC_one, oneL_cons, oneL_nil, Value.oneCell']) (by repeat (first | exact Turn.here | apply Turn.there | apply Turn.app)) (by simp) setPr ?_))
    | (with_reducible refine Sy.ret ?_)
    | (with_reducible refine Sy.dend ?_)
    | ((with_reducible apply Sy.dgo); (· first | exact wantY_none); (· intro hcls; cases hcls); exact rfl; exact rfl))
      exact .fin [_] (.inr rfl) ⟨⟨q2, 0, _, rfl, (by repeat (first | exact Has.here | apply Has.there | apply Has.app)), ld_all ag116 (by simp [sz116])⟩, trivial⟩ fun H' hp => ⟨(b2, 0 + l.length + 2 + 32), trivial, by rw [Nat.zero_add]; rfl, hp.less (.cons_cons _ (List.nil_sublist _))⟩
end Go.Proofs.YtjimjolfnimimaaDoor

/- Layer 06: proofs compared; New of one pair; knows. -/
namespace Go.Proofs.YtjimjolfnimimaaDoor
open Go Go.Am
set_option maxRecDepth 100000
set_option linter.unusedVariables false

theorem c_Same (mask : Hsh) (v1 v2 : Value) (l : List Hsh) (H : AHeap) (h1 : HsAt H v1 l) (h2 : HsAt H v2 l) (hn : l.length ≤ 4398046511104) : CallR Tryd.prog noPrims 71 [prV mask v1, prV mask v2] H (fun u H' => u = .bool true ∧ Hp H 0 0 H' [] []) := by
  obtain ⟨a1, c1, rfl, h1⟩ := h1
  obtain ⟨a2, c2, rfl, h2⟩ := h2
  unfold prV
  refine CallR.sy (n := 38) Tryd.func71 rfl rfl rfl ?_
  repeat' (first
    | (with_reducible refine Sy.seq ?_)
    | (with_reducible refine Sy.regionL ?_)
    | (with_reducible refine Sy.opsnil ?_)
    | (with_reducible refine Sy.go ?_)
    | (with_reducible refine Sy.nrm ?_)
    | ((with_reducible refine Sy.ldN (t := 114) rfl rfl (by repeat (first | exact Has.here | apply Has.there | apply Has.app)) ldS ?_))
    | ((with_reducible apply Sy.assign); exact rfl; exact rfl)
    | ((with_reducible apply Sy.fa (t := 116) (i := 0)); exact rfl; exact rfl; exact fa116_0 _ _)
    | ((with_reducible apply Sy.ldN (t := 44)); exact rfl; exact rfl; exact hasT; (· first | exact ld_agg (cs' := hC _) ag44 sz44 (by simp; done) (by first | exact cut_here (by simp; done))))
    | ((with_reducible apply Sy.fa (t := 121) (i := 0)); exact rfl; exact rfl; exact fa121_0 _ _)
    | ((with_reducible apply Sy.bin (op := .neq) (t := 44)); exact rfl; exact rfl; exact rfl; exact ne44)
    | ((with_reducible apply Sy.move); exact rfl; exact rfl)
    | ((with_reducible apply Sy.fa (t := 116) (i := 1)); exact rfl; exact rfl; exact fa116_1 _ _)
    | ((with_reducible apply Sy.ldN (t := 114)); exact rfl; exact rfl; exact hasT; (· first | exact ld_one ag114 rfl | with_reducible assumption | exact ld_one ag114 (by with_reducible assumption) | exact ld_one ag114 (by simp [List.drop_append, List.take_append, List.getElem?_append, lay, hC_length, ints_length, ints_drop, ints_take, ints_append, List.drop_of_length_le, List.take_of_length_le, List.map_append, List.set_append, Value.cells]; done)))
    | ((with_reducible apply Sy.lenS); exact rfl; exact Tryd.underlying114; exact rfl)
    | ((with_reducible apply Sy.fa (t := 121) (i := 1)); exact rfl; exact rfl; exact fa121_1 _ _)
    | ((with_reducible apply Sy.bin (op := .neq) (t := 3)); exact rfl; exact rfl; exact rfl; exact b_neq)
    | ((with_reducible apply Sy.bin (op := .neq) (t := 3)); exact rfl; exact rfl; exact rfl; exact bz_neq)
    | ((with_reducible apply Sy.pickT); exact rfl; exact rfl; exact rfl)
    | ((with_reducible apply Sy.pickF); exact rfl; exact rfl; exact rfl)
    | ((with_reducible apply Sy.newY (o := ⟨some 2, .box 116 _, _, _, _, _⟩)); exact rfl; exact rfl; exact nbA rfl; intro q2)
    | ((with_reducible apply Sy.newY (o := ⟨some 3, .box 121 _, _, _, _, _⟩)); exact rfl; exact rfl; exact nbA rfl; intro q3)
    | (with_reducible refine Sy.skip ?_)
    | (with_reducible refine Sy.ret ?_)
    | (with_reducible refine Sy.block ?_)
    | (with_reducible refine Sy.aret ?_)
    | ((with_reducible apply Sy.yes); exact rfl)
    | ((with_reducible apply Sy.goG); exact rfl; exact rfl; exact rfl)
    | ((with_reducible apply Sy.noG); exact rfl; exact rfl; exact rfl; exact rfl; exact rfl)
    | ((with_reducible apply Sy.caseG); (case hj => exact rfl); (case hx => exact rfl); all_goals (intro hc; try (exfalso; omega)))
    | ((with_reducible apply Sy.ite); (case hx => exact rfl); all_goals (intro hc; try (exfalso; omega))))
  all_goals (try exact absurd rfl hc)
  refine Sy.loop (ι := Nat) (fun i => l.length - i) (fun i => [(2, .pointer (some ⟨q2, 0, none⟩)), (3, .pointer (some ⟨q3, 0, none⟩)), (5, .int .i64 (i : Nat))]) (fun _ => []) (fun _ => [(q3, .cells (hC mask ++ [.slice a2 l.length c2]) 121 true), (q2, .cells (hC mask ++ [.slice a1 l.length c1]) 116 true)]) (fun i => i ≤ l.length) 0 (Nat.zero_le _) ⟨rfl, rfl, rfl, trivial⟩ (fun H h => h) ?_
  intro i hi
  by_cases hlt : i < l.length
  · obtain ⟨x, hx⟩ : ∃ x, l[i]? = some x := ⟨l[i], List.getElem?_eq_getElem hlt⟩
    rcases h1 with rfl | ⟨b1, T1, w1, rfl, hb1⟩
    · simp at hlt
    rcases h2 with rfl | ⟨b2, T2, w2, rfl, hb2⟩
    · simp at hlt
    repeat' (first
    | (with_reducible refine Sy.seq ?_)
    | (with_reducible refine Sy.regionL ?_)
    | (with_reducible refine Sy.opsnil ?_)
    | (with_reducible refine Sy.go ?_)
    | (with_reducible refine Sy.nrm ?_)
    | ((with_reducible refine Sy.ldN (t := 114) rfl rfl (by repeat (first | exact Has.here | apply Has.there | apply Has.app)) ldS ?_))
    | ((with_reducible apply Sy.assign); exact rfl; exact rfl)
    | ((with_reducible apply Sy.fa (t := 116) (i := 0)); exact rfl; exact rfl; exact fa116_0 _ _)
    | ((with_reducible apply Sy.fa (t := 121) (i := 0)); exact rfl; exact rfl; exact fa121_0 _ _)
    | ((with_reducible apply Sy.bin (op := .neq) (t := 44)); exact rfl; exact rfl; exact rfl; exact ne44)
    | ((with_reducible apply Sy.move); exact rfl; exact rfl)
    | ((with_reducible apply Sy.fa (t := 116) (i := 1)); exact rfl; exact rfl; exact fa116_1 _ _)
    | ((with_reducible apply Sy.lenS); exact rfl; exact Tryd.underlying114; exact rfl)
    | ((with_reducible apply Sy.fa (t := 121) (i := 1)); exact rfl; exact rfl; exact fa121_1 _ _)
    | ((with_reducible apply Sy.bin (op := .neq) (t := 3)); exact rfl; exact rfl; exact rfl; exact b_neq)
    | ((with_reducible apply Sy.bin (op := .neq) (t := 3)); exact rfl; exact rfl; exact rfl; exact bz_neq)
    | ((with_reducible apply Sy.bin (op := .lss) (t := 3)); exact rfl; exact rfl; exact rfl; exact b_lss)
    | ((with_reducible apply Sy.bin (op := .lss) (t := 3)); exact rfl; exact rfl; exact rfl; exact bz_lss)
    | ((with_reducible apply Sy.ia (t := 114)); exact rfl; exact rfl; exact rfl; exact (ia_sl Tryd.underlying114 sz44 (by omega)))
    | ((with_reducible apply Sy.bin (op := .add) (t := 3)); exact rfl; exact rfl; exact rfl; exact (b_add (by omega)))
    | ((with_reducible apply Sy.bin (op := .add) (t := 3)); exact rfl; exact rfl; exact rfl; exact (bz_add (by omega) (by omega)))
    | (with_reducible refine Sy.ld0 (t := 44) rfl rfl hb1 rfl (by simp only [List.forall_mem_cons, List.not_mem_nil, false_implies, implies_true, and_true, ne_eq]; first | done | omega | (repeat (first | with_reducible assumption | (refine And.intro ?_ ?_)))) (hcs_k hx (by omega)) ?_)
    | (with_reducible refine Sy.ld0 (t := 44) rfl rfl hb2 rfl (by simp only [List.forall_mem_cons, List.not_mem_nil, false_implies, implies_true, and_true, ne_eq]; first | done | omega | (repeat (first | with_reducible assumption | (refine And.intro ?_ ?_)))) (hcs_k hx (by omega)) ?_)
    | (with_reducible refine Sy.skip ?_)
    | (with_reducible refine Sy.ret ?_)
    | (with_reducible refine Sy.block ?_)
    | (with_reducible refine Sy.aret ?_)
    | (with_reducible refine Sy.inrm ?_)
    | (with_reducible refine Sy.iret ?_)
    | (with_reducible refine Sy.rret ?_)
    | ((with_reducible apply Sy.drawL (id := 6) 11 [] (fun hi h => h < hi)); (case hp => kernel_rfl); (case hN => exact rfl); intro base hbase hM; try simp only [List.forall_mem_cons, List.forall_mem_append, List.not_mem_nil, false_implies, implies_true, and_true] at hM)
    | (with_reducible refine Sy.dend ?_)
    | ((with_reducible apply Sy.dgo); (· first | exact wantY_none); (· intro hcls; cases hcls); exact rfl; exact rfl)
    | ((with_reducible apply Sy.ite); (case hx => exact rfl); all_goals (intro hc; try (exfalso; omega))))
    all_goals first
      | exact absurd rfl hc
      | exact Sy.rnrm (i + 1) (by omega) (by omega) ⟨rfl, rfl, rfl, trivial⟩ (fun H h => h)
  · repeat' (first
    | (with_reducible refine Sy.seq ?_)
    | (with_reducible refine Sy.regionL ?_)
    | (with_reducible refine Sy.opsnil ?_)
    | (with_reducible refine Sy.go ?_)
    | (with_reducible refine Sy.nrm ?_)
    | ((with_reducible refine Sy.ldN (t := 114) rfl rfl (by repeat (first | exact Has.here | apply Has.there | apply Has.app)) ldS ?_))
    | ((with_reducible apply Sy.assign); exact rfl; exact rfl)
    | ((with_reducible apply Sy.fa (t := 116) (i := 0)); exact rfl; exact rfl; exact fa116_0 _ _)
    | ((with_reducible apply Sy.fa (t := 121) (i := 0)); exact rfl; exact rfl; exact fa121_0 _ _)
    | ((with_reducible apply Sy.move); exact rfl; exact rfl)
    | ((with_reducible apply Sy.fa (t := 116) (i := 1)); exact rfl; exact rfl; exact fa116_1 _ _)
    | ((with_reducible apply Sy.lenS); exact rfl; exact Tryd.underlying114; exact rfl)
    | ((with_reducible apply Sy.fa (t := 121) (i := 1)); exact rfl; exact rfl; exact fa121_1 _ _)
    | ((with_reducible apply Sy.bin (op := .lss) (t := 3)); exact rfl; exact rfl; exact rfl; exact b_lss)
    | ((with_reducible apply Sy.bin (op := .lss) (t := 3)); exact rfl; exact rfl; exact rfl; exact bz_lss)
    | (with_reducible refine Sy.exit ?_)
    | (with_reducible refine Sy.ret ?_)
    | (with_reducible refine Sy.aex ?_)
    | ((with_reducible apply Sy.iex); exact rfl)
    | (with_reducible refine Sy.rex ?_)
    | ((with_reducible apply Sy.ite); (case hx => exact rfl); all_goals (intro hc; try (exfalso; omega))))
    exact .fin [_] (.inr rfl) ⟨rfl, trivial⟩ fun H' hp => ⟨rfl, hp.less (List.nil_sublist _)⟩
theorem c_num6 (e : Nat) (H : AHeap) : CallR Tryd.prog noPrims 29 [.int .i64 ((e : Nat) : Int)] H (fun u H' => u = .int .i64 ((e : Nat) : Int) ∧ Hp H 0 0 H' [] []) := by
  refine CallR.sy (n := 4) Tryd.func29 rfl rfl rfl ?_
  repeat' (first
    | (with_reducible refine Sy.seq ?_)
    | (with_reducible refine Sy.regionL ?_)
    | (with_reducible refine Sy.opsnil ?_)
    | (with_reducible refine Sy.go ?_)
    | (with_reducible refine Sy.nrm ?_)
    | ((with_reducible apply Sy.assign); exact rfl; exact rfl)
    | ((with_reducible apply Sy.move); exact rfl; exact rfl)
    | (with_reducible refine Sy.ret ?_))
  exact .fin [.int .i64 ((e : Nat) : Int)] (.inr rfl) ⟨rfl, trivial⟩ fun H' hp => ⟨rfl, hp⟩

theorem plain_ints6 (k : IntKind) (l : List Nat) : plainL (ints k l) = true := by
  induction l with
  | nil => rfl
  | cons a l ih => simpa [ints, plainL, plainV] using ih
theorem keyH (h : Hsh) : keyOK Tryd.prog 44 (hV h) = true := by
  have hl : (hC h).length = 32 := hC_length h
  have hp : plainL (hC h) = true := plain_ints6 _ _
  simp [keyOK, hV, ek44, ag44, hl, hp]
theorem eqHH (h : Hsh) : eqV Tryd.prog 44 (hV h) (hV h) = some true := by
  have := eq44 (a := h) (b := h)
  simpa [binV] using this
theorem c_PutNil {m : Nat} (k v : Hsh) (H : AHeap) (g : Gl H) (hm0 : m ≠ 0) (hm1 : m ≠ 1) (hm : H.get m = .cells (mapC none ((0 : Nat) : Int) true) 181 true) :
    CallR Tryd.prog noPrims 113 [.pointer (some ⟨m, 0, none⟩), hV k, hV v] H (fun u H' => ∃ i : Option Addr × Hm, (∀ H1, TreeL H1 0 i.2 i.1 (Put1 k v .nil ((0 : Nat) : Int)).1) ∧ u = .int .i64 (((Put1 k v .nil ((0 : Nat) : Int)).2.2 : Nat) : Int) ∧ Hp H 0 0 H' [(m, .cells (mapC i.1 (Put1 k v .nil ((0 : Nat) : Int)).2.1 true) 181 true)] i.2) := by
  refine (c_Put (B := 0) (t := .nil) (k := k) (v := v) H g hm0 hm1 hm .nil (Nat.zero_le _) (lv_nil _) (by omega) (by omega)).mono ?_
  rintro u H' ⟨i, hT, hu, hp⟩
  exact ⟨i, fun H1 => hT.move fun a _ _ _ ha => absurd ha (Nat.not_lt_zero a), hu, hp⟩
set_option maxHeartbeats 2000000 in
theorem c_New1 (k v : Hsh) (b c : Nat) (w : Bool) (H : AHeap) (g : Gl H) (hb : H.get b = .cells (hC k ++ hC v) 138 w) : CallR Tryd.prog noPrims 72 [.slice (some ⟨b, 0, none⟩) 1 c] H (fun u H' => ∃ i : Nat × Option Addr × Hm, (∀ H1, TreeL H1 0 i.2.2 i.2.1 (Put1 k v .nil ((0 : Nat) : Int)).1) ∧ u = .tuple ⟨[.pointer (some ⟨i.1, 0, none⟩), .int .i64 ((0 : Nat) : Int)]⟩ ∧ Hp H 0 0 H' [] (i.2.2 ++ [(i.1, .cells (mapC i.2.1 (Put1 k v .nil ((0 : Nat) : Int)).2.1 true) 181 true)])) := by
  have h2n := g.two
  have hpair : ∀ {o : Nat}, o = 0 → aLoad Tryd.prog 138 (.cells (hC k ++ hC v) 138 w) o = some (.agg ⟨hC k ++ hC v⟩) := fun ho => by subst ho; exact ld_all ag138 (by rw [sz138]; simp)
  refine CallR.sy (n := 53) Tryd.func72 rfl rfl rfl ?_
  repeat' (first
    | (with_reducible refine Sy.seq ?_)
    | (with_reducible refine Sy.regionL ?_)
    | (with_reducible refine Sy.opsnil ?_)
    | (with_reducible refine Sy.go ?_)
    | (with_reducible refine Sy.nrm ?_)
    | ((with_reducible apply Sy.assign); exact rfl; exact rfl)
    | ((with_reducible apply Sy.move); exact rfl; exact rfl)
    | ((with_reducible apply Sy.lenS); exact rfl; exact Tryd.underlying177; exact rfl)
    | ((with_reducible apply Sy.bin (op := .gtr) (t := 3)); exact rfl; exact rfl; exact rfl; exact b_gtr)
    | ((with_reducible apply Sy.bin (op := .gtr) (t := 3)); exact rfl; exact rfl; exact rfl; exact bz_gtr)
    | ((with_reducible apply Sy.build (t := 181)); exact rfl; exact rfl; (· exact (bv181 (by first | rfl))))
    | ((with_reducible apply Sy.newY (o := ⟨some 14, .makeMap 178 _, _, _, _, _⟩)); exact rfl; exact rfl; exact newY_map; intro q14)
    | ((with_reducible apply Sy.newY (o := ⟨some 16, .box 181 _, _, _, _, _⟩)); exact rfl; exact rfl; exact nbA rfl; intro q16)
    | (with_reducible refine Sy.skip ?_)
    | (with_reducible refine Sy.block ?_)
    | ((with_reducible apply Sy.no); exact rfl))
  refine Sy.loop (ι := Nat) (fun i => 1 - i) (fun i => [(0, .slice (some ⟨b, 0, none⟩) 1 c), (4, .map (some q14)), (5, .pointer (some ⟨q16, 0, none⟩)), (17, .slice (some ⟨b, 0, none⟩) 1 c), (18, .int .i64 ((1 : Nat) : Int)), (19, .int .i64 (i : Nat))]) (fun _ => []) (fun i => [(q16, .cells (mapC none ((0 : Nat) : Int) true) 181 true), (q14, if i = 0 then .map [] 0 else .map [⟨hV k, .bool true, 0⟩] 1)]) (fun i => i ≤ 1) 0 (Nat.zero_le _) ⟨rfl, rfl, rfl, rfl, rfl, rfl, trivial⟩ (fun H h => h) ?_
  intro i hi
  by_cases h0 : i = 0
  · subst h0
    simp only [if_true]
    repeat' (first
    | (with_reducible refine Sy.seq ?_)
    | (with_reducible refine Sy.regionL ?_)
    | (with_reducible refine Sy.opsnil ?_)
    | (with_reducible refine Sy.go ?_)
    | (with_reducible refine Sy.nrm ?_)
    | ((with_reducible apply Sy.move); exact rfl; exact rfl)
    | ((with_reducible apply Sy.bin (op := .lss) (t := 3)); exact rfl; exact rfl; exact rfl; exact b_lss)
    | ((with_reducible apply Sy.bin (op := .lss) (t := 3)); exact rfl; exact rfl; exact rfl; exact bz_lss)
    | ((with_reducible apply Sy.ia (t := 177)); exact rfl; exact rfl; exact rfl; exact (ia_sl Tryd.underlying177 sz138 (by omega)))
    | ((with_reducible apply Sy.ldN (t := 138)); exact rfl; exact rfl; exact hasT; (· first | exact ld_all ag138 (by first | exact sz138 | (simp [sz138, *]; done)) | exact ld_agg ag138 sz138 (by first | (simp; done) | (simp; omega)) (by first | with_reducible exact cut_kids | rfl | (simp [List.drop_append, List.take_append, List.getElem?_append, lay, hC_length, ints_length, ints_drop, ints_take, ints_append, List.drop_of_length_le, List.take_of_length_le, List.map_append, List.set_append, Value.cells]; done))))
    | ((with_reducible apply Sy.ld0 (t := 138)); exact rfl; exact rfl; (· with_reducible assumption); exact rfl; exact notM; (· first | exact ld_all ag138 (by first | (simp [sz138, *]; done))))
    | ((with_reducible apply Sy.stNa (t := 138)); exact rfl; exact rfl; exact sz138; (· first | (simp; done)); (· first | (simp [oneL_append, oneL_cons, oneL_nil, hC_one, oneL_ints]; done)); exact turnT; (· first | (simp; done)); (· first | exact lay_all (by first | (simp; done))))
    | ((with_reducible apply Sy.fa (t := 138) (i := 0)); exact rfl; exact rfl; exact fa138_0 _ _)
    | ((with_reducible apply Sy.ldN (t := 44)); exact rfl; exact rfl; exact hasT; (· first | exact ld_agg (cs' := hC _) ag44 sz44 (by simp; done) (by first | exact cut_here (by simp; done))))
    | ((with_reducible apply Sy.ld0 (t := 44)); exact rfl; exact rfl; (· with_reducible assumption); exact rfl; exact notM; (· first | exact ld_hV ag44 sz44 | exact ld_agg (cs' := hC _) ag44 sz44 (by simp; done) (by first | rfl | exact cut_here (by simp; done) | exact cut_all (by simp; done) | (simp [List.drop_append, List.take_append, List.getElem?_append, lay, hC_length, ints_length, ints_drop, ints_take, ints_append, List.drop_of_length_le, List.take_of_length_le, List.map_append, List.set_append, Value.cells]; done))))
    | ((with_reducible apply Sy.bin (op := .add) (t := 3)); exact rfl; exact rfl; exact rfl; exact (b_add (by omega)))
    | ((with_reducible apply Sy.bin (op := .add) (t := 3)); exact rfl; exact rfl; exact rfl; exact (bz_add (by omega) (by omega)))
    | ((with_reducible apply Sy.stNa (t := 44)); exact rfl; exact rfl; exact sz44; (· first | (simp; done)); (· first | (simp [oneL_append, oneL_cons, oneL_nil, hC_one, oneL_ints]; done)); exact turnT; (· first | (simp; done)); (· first | exact lay_all (by first | (simp; done))))
    | ((with_reducible apply Sy.fa (t := 138) (i := 1)); exact rfl; exact rfl; exact fa138_1 _ _)
    | ((with_reducible refine Sy.lookup0 (v := .bool false) rfl Tryd.underlying178 rfl rfl (keyH k) (by repeat (first | exact Has.here | apply Has.there | apply Has.app)) (by kernel_rfl) ?_))
    | ((with_reducible refine Sy.mapUp0 rfl Tryd.underlying178 rfl rfl rfl (keyH k) (by repeat (first | exact Turn.here | apply Turn.there | apply Turn.app)) ?_))
    | ((with_reducible apply Sy.newY (o := ⟨some 7, .alloc 138, _, _, _, _⟩)); exact rfl; exact rfl; exact nwz138; intro q7)
    | ((with_reducible apply Sy.newY (o := ⟨some 8, .alloc 44, _, _, _, _⟩)); exact rfl; exact rfl; exact nwz44; intro q8)
    | ((with_reducible apply Sy.newY (o := ⟨some 10, .alloc 138, _, _, _, _⟩)); exact rfl; exact rfl; exact nwz138; intro q10)
    | (with_reducible refine Sy.skip ?_)
    | (with_reducible refine Sy.block ?_)
    | (with_reducible refine Sy.inrm ?_)
    | ((with_reducible apply Sy.yes); exact rfl)
    | ((with_reducible apply Sy.no); exact rfl))
    exact Sy.rnrm 1 (Nat.le_refl _) (by omega) ⟨rfl, rfl, rfl, rfl, rfl, rfl, trivial⟩ (fun H h => h.less (.cons _ (.refl _)))
  · obtain rfl : i = 1 := by omega
    rw [if_neg (by decide)]
    repeat' (first
    | (with_reducible refine Sy.seq ?_)
    | (with_reducible refine Sy.regionL ?_)
    | (with_reducible refine Sy.opsnil ?_)
    | (with_reducible refine Sy.go ?_)
    | (with_reducible refine Sy.nrm ?_)
    | ((with_reducible apply Sy.move); exact rfl; exact rfl)
    | ((with_reducible apply Sy.bin (op := .lss) (t := 3)); exact rfl; exact rfl; exact rfl; exact b_lss)
    | ((with_reducible apply Sy.bin (op := .lss) (t := 3)); exact rfl; exact rfl; exact rfl; exact bz_lss)
    | ((with_reducible refine Sy.rangeM (t := 178) rfl Tryd.underlying178 rfl (by repeat (first | exact Has.here | apply Has.there | apply Has.app)) ?_); intro q32)
    | (with_reducible refine Sy.exit ?_)
    | (with_reducible refine Sy.block ?_)
    | (with_reducible refine Sy.aex ?_)
    | ((with_reducible apply Sy.iex); exact rfl)
    | (with_reducible refine Sy.rex ?_)
    | ((with_reducible apply Sy.no); exact rfl))
    refine Sy.loop (ι := Nat) (fun i => 1 - i) (fun i => [(0, .slice (some ⟨b, 0, none⟩) 1 c), (4, .map (some q14)), (5, .pointer (some ⟨q16, 0, none⟩)), (32, .pointer (some ⟨q32, 0, none⟩))]) (fun _ => []) (fun i => [(q32, if i = 0 then .miter (some q14) 1 [] 1 else .miter (some q14) 1 [0] 1), (q16, .cells (mapC none ((0 : Nat) : Int) true) 181 true), (q14, if i = 0 then .map [⟨hV k, .bool true, 0⟩] 1 else .map [] 1)]) (fun i => i ≤ 1) 0 (Nat.zero_le _) ⟨rfl, rfl, rfl, rfl, trivial⟩ (fun H h => h) ?_
    intro i hi
    by_cases h0 : i = 0
    · subst h0
      simp only [if_true]
      repeat' (first
    | (with_reducible refine Sy.seq ?_)
    | (with_reducible refine Sy.regionL ?_)
    | (with_reducible refine Sy.opsnil ?_)
    | (with_reducible refine Sy.go ?_)
    | (with_reducible refine Sy.nrm ?_)
    | ((with_reducible apply Sy.move); exact rfl; exact rfl)
    | ((with_reducible apply Sy.ldN (t := 138)); exact rfl; exact rfl; exact hasT; (· first | exact ld_all ag138 (by first | exact sz138 | (simp [sz138, *]; done)) | exact ld_agg ag138 sz138 (by first | (simp; done) | (simp; omega)) (by first | with_reducible exact cut_kids | rfl | (simp [List.drop_append, List.take_append, List.getElem?_append, lay, hC_length, ints_length, ints_drop, ints_take, ints_append, List.drop_of_length_le, List.take_of_length_le, List.map_append, List.set_append, Value.cells]; done))))
    | ((with_reducible apply Sy.stNa (t := 138)); exact rfl; exact rfl; exact sz138; (· first | exact hC_length _ | (simp; done)); (· first | exact hC_one _); exact turnT; (· first | (simp; done)); (· first | exact lay_all (by first | (simp; done))))
    | ((with_reducible apply Sy.ldN (t := 44)); exact rfl; exact rfl; exact hasT; (· first | exact ld_hV ag44 sz44))
    | ((with_reducible apply Sy.ext); exact rfl; exact rfl; exact rfl)
    | ((with_reducible apply Sy.stNa (t := 44)); exact rfl; exact rfl; exact sz44; (· first | exact hC_length _ | (simp; done)); (· first | exact hC_one _); exact turnT; (· first | (simp; done)); (· first | exact lay_all (by first | (simp; done))))
    | (with_reducible refine Sy.next1 rfl rfl (by repeat (first | exact Turn.here | apply Turn.there | apply Turn.app)) (by repeat (first | exact Has.here | apply Has.there | apply Has.app)) (by decide) ?_)
    | (with_reducible refine Sy.entry1 rfl rfl (by repeat (first | exact Has.here | apply Has.there | apply Has.app)) (by repeat (first | exact Has.here | apply Has.there | apply Has.app)) ?_)
    | (with_reducible refine Sy.del1 rfl rfl Tryd.underlying178 rfl rfl (keyH k) (eqHH k) (by repeat (first | exact Turn.here | apply Turn.there | apply Turn.app)) ?_)
    | ((with_reducible apply Sy.newY (o := ⟨some 7, .alloc 138, _, _, _, _⟩)); exact rfl; exact rfl; exact nwz138; intro q7)
    | ((with_reducible apply Sy.newY (o := ⟨some 8, .alloc 44, _, _, _, _⟩)); exact rfl; exact rfl; exact nwz44; intro q8)
    | ((with_reducible apply Sy.newY (o := ⟨some 10, .alloc 138, _, _, _, _⟩)); exact rfl; exact rfl; exact nwz138; intro q10)
    | (with_reducible refine Sy.skip ?_)
    | (with_reducible refine Sy.block ?_)
    | (with_reducible refine Sy.inrm ?_)
    | ((with_reducible apply Sy.yes); exact rfl))
      exact Sy.rnrm 1 (Nat.le_refl _) (by omega) ⟨rfl, rfl, rfl, rfl, trivial⟩ (fun H h => h.less (.cons _ (.refl _)))
    · obtain rfl : i = 1 := by omega
      rw [if_neg (by decide), if_neg (by decide)]
      repeat' (first
    | (with_reducible refine Sy.seq ?_)
    | (with_reducible refine Sy.regionL ?_)
    | (with_reducible refine Sy.opsnil ?_)
    | (with_reducible refine Sy.go ?_)
    | (with_reducible refine Sy.nrm ?_)
    | ((with_reducible apply Sy.move); exact rfl; exact rfl)
    | ((with_reducible apply Sy.lenS); exact rfl; exact Tryd.underlying177; exact rfl)
    | ((with_reducible apply Sy.ext); exact rfl; exact rfl; exact rfl)
    | (with_reducible refine Sy.nextE rfl rfl (by repeat (first | exact Has.here | apply Has.there | apply Has.app)) (by repeat (first | exact Has.here | apply Has.there | apply Has.app)) ?_)
    | (with_reducible refine Sy.exit ?_)
    | (with_reducible refine Sy.block ?_)
    | (with_reducible refine Sy.aex ?_)
    | ((with_reducible apply Sy.iex); exact rfl)
    | (with_reducible refine Sy.rex ?_)
    | ((with_reducible apply Sy.no); exact rfl))
      refine Sy.loop (ι := Option (Option Addr × Hm)) (fun i => if i.isNone then 1 else 0) (fun i => [(5, .pointer (some ⟨q16, 0, none⟩)), (39, .slice (some ⟨b, 0, none⟩) 1 c), (40, .int .i64 ((1 : Nat) : Int)), (41, .int .i64 (((if i.isNone then 0 else 1 : Nat) : Nat) : Int))]) (fun _ => []) (fun i => match i with | none => [(q16, .cells (mapC none ((0 : Nat) : Int) true) 181 true)] | some x => x.2 ++ [(q16, .cells (mapC x.1 (Put1 k v .nil ((0 : Nat) : Int)).2.1 true) 181 true)])
        (fun i => match i with | none => True | some x => ∀ H1, TreeL H1 0 x.2 x.1 (Put1 k v .nil ((0 : Nat) : Int)).1) none trivial ⟨rfl, rfl, rfl, rfl, trivial⟩ (fun H h => h.less (.cons _ (.cons_cons _ (List.nil_sublist _)))) ?_
      intro i hI
      cases i with
      | none =>
        simp only [Option.isNone_none, if_true]
        (try dsimp only)
        repeat' (first
    | (with_reducible refine Sy.seq ?_)
    | (with_reducible refine Sy.regionL ?_)
    | (with_reducible refine Sy.opsnil ?_)
    | (with_reducible refine Sy.go ?_)
    | (with_reducible refine Sy.nrm ?_)
    | ((with_reducible refine Sy.ldN (t := 44) rfl rfl (by repeat (first | exact Has.here | apply Has.there | apply Has.app)) ldv ?_))
    | ((with_reducible apply Sy.move); exact rfl; exact rfl)
    | ((with_reducible apply Sy.bin (op := .lss) (t := 3)); exact rfl; exact rfl; exact rfl; exact b_lss)
    | ((with_reducible apply Sy.bin (op := .lss) (t := 3)); exact rfl; exact rfl; exact rfl; exact bz_lss)
    | ((with_reducible apply Sy.ia (t := 177)); exact rfl; exact rfl; exact rfl; exact (ia_sl Tryd.underlying177 sz138 (by omega)))
    | ((with_reducible apply Sy.ldN (t := 138)); exact rfl; exact rfl; exact hasT; (· first | exact ld_all ag138 (by first | exact sz138 | (simp [sz138, *]; done)) | exact ld_agg ag138 sz138 (by first | (simp; done) | (simp; omega)) (by first | with_reducible exact cut_kids | rfl | (simp [List.drop_append, List.take_append, List.getElem?_append, lay, hC_length, ints_length, ints_drop, ints_take, ints_append, List.drop_of_length_le, List.take_of_length_le, List.map_append, List.set_append, Value.cells]; done))))
    | ((with_reducible apply Sy.ld0 (t := 138)); exact rfl; exact rfl; (· with_reducible assumption); exact rfl; exact notM; (· first | exact ld_all ag138 (by first | (simp [sz138, *]; done))))
    | ((with_reducible apply Sy.stNa (t := 138)); exact rfl; exact rfl; exact sz138; (· first | (simp; done)); (· first | (simp [oneL_append, oneL_cons, oneL_nil, hC_one, oneL_ints]; done)); exact turnT; (· first | (simp; done)); (· first | exact lay_all (by first | (simp; done))))
    | ((with_reducible apply Sy.fa (t := 138) (i := 0)); exact rfl; exact rfl; exact fa138_0 _ _)
    | ((with_reducible apply Sy.ldN (t := 44)); exact rfl; exact rfl; exact hasT; (· first | exact ld_agg (cs' := hC _) ag44 sz44 (by simp; done) (by first | exact cut_here (by simp; done))))
    | ((with_reducible apply Sy.ld0 (t := 44)); exact rfl; exact rfl; (· with_reducible assumption); exact rfl; exact notM; (· first | exact ld_hV ag44 sz44 | exact ld_agg (cs' := hC _) ag44 sz44 (by simp; done) (by first | rfl | exact cut_here (by simp; done) | exact cut_all (by simp; done) | (simp [List.drop_append, List.take_append, List.getElem?_append, lay, hC_length, ints_length, ints_drop, ints_take, ints_append, List.drop_of_length_le, List.take_of_length_le, List.map_append, List.set_append, Value.cells]; done))))
    | ((with_reducible apply Sy.bin (op := .add) (t := 3)); exact rfl; exact rfl; exact rfl; exact (b_add (by omega)))
    | ((with_reducible apply Sy.bin (op := .add) (t := 3)); exact rfl; exact rfl; exact rfl; exact (bz_add (by omega) (by omega)))
    | ((with_reducible apply Sy.stNa (t := 44)); exact rfl; exact rfl; exact sz44; (· first | (simp; done)); (· first | (simp [oneL_append, oneL_cons, oneL_nil, hC_one, oneL_ints]; done)); exact turnT; (· first | (simp; done)); (· first | exact lay_all (by first | (simp; done))))
    | ((with_reducible apply Sy.fa (t := 138) (i := 1)); exact rfl; exact rfl; exact fa138_1 _ _)
    | ((with_reducible apply Sy.callTN (k := 113)); exact rfl; exact rfl; exact en113; exact rfl; (case hc => intro H' hp; exact c_PutNil k v H' (g.of hp (by simp)) (by have := (hp.new_lt (h := q16) (by repeat (first | exact Has.here | apply Has.there | apply Has.app))).1; omega) (by have := (hp.new_lt (h := q16) (by repeat (first | exact Has.here | apply Has.there | apply Has.app))).1; omega) (hp.getN (by repeat (first | exact Has.here | apply Has.there | apply Has.app)))); (intro i; exact turnT); rintro ⟨r, L⟩ hT)
    | ((with_reducible apply Sy.newY (o := ⟨some 7, .alloc 138, _, _, _, _⟩)); exact rfl; exact rfl; exact nwz138; intro q7)
    | ((with_reducible apply Sy.newY (o := ⟨some 8, .alloc 44, _, _, _, _⟩)); exact rfl; exact rfl; exact nwz44; intro q8)
    | ((with_reducible apply Sy.newY (o := ⟨some 10, .alloc 138, _, _, _, _⟩)); exact rfl; exact rfl; exact nwz138; intro q10)
    | (with_reducible refine Sy.skip ?_)
    | (with_reducible refine Sy.block ?_)
    | (with_reducible refine Sy.inrm ?_)
    | ((with_reducible apply Sy.yes); exact rfl))
        exact Sy.rnrm (some (r, L)) hT (by simp) ⟨rfl, rfl, rfl, rfl, trivial⟩ (fun H h => h.less ((List.Sublist.refl L).append (.cons _ (.refl _))))
      | some x =>
        simp only [Option.isNone_some, Bool.false_eq_true, if_false] at hI ⊢
        repeat' (first
    | (with_reducible refine Sy.seq ?_)
    | (with_reducible refine Sy.regionL ?_)
    | (with_reducible refine Sy.opsnil ?_)
    | (with_reducible refine Sy.go ?_)
    | (with_reducible refine Sy.nrm ?_)
    | ((with_reducible apply Sy.assign); exact rfl; exact rfl)
    | ((with_reducible apply Sy.move); exact rfl; exact rfl)
    | ((with_reducible apply Sy.bin (op := .lss) (t := 3)); exact rfl; exact rfl; exact rfl; exact b_lss)
    | ((with_reducible apply Sy.bin (op := .lss) (t := 3)); exact rfl; exact rfl; exact rfl; exact bz_lss)
    | (with_reducible refine Sy.exit ?_)
    | (with_reducible refine Sy.ret ?_)
    | (with_reducible refine Sy.aex ?_)
    | ((with_reducible apply Sy.iex); exact rfl)
    | (with_reducible refine Sy.rex ?_)
    | ((with_reducible apply Sy.no); exact rfl))
        exact .fin [_, _] (.inr rfl) ⟨rfl, rfl, trivial⟩ fun H' hp => ⟨(q16, x), hI, rfl, hp⟩
end Go.Proofs.YtjimjolfnimimaaDoor

/- Layer 06: knows. -/
namespace Go.Proofs.YtjimjolfnimimaaDoor
open Go Go.Am
set_option maxRecDepth 100000
set_option linter.unusedVariables false

theorem bit_zero (d : Nat) : bitOf zeroH d = 0 := by
  have : ∀ j, zeroH.at j = 0 := fun j => by
    unfold Hsh.at zeroH
    rw [List.getD, List.getElem?_replicate]
    split <;> rfl
  unfold bitOf
  rw [this]; simp
theorem side_nil (d : Nat) : sideH zeroH [] d = zeroH := by rw [sideH, bit_zero, if_neg (by decide)]
theorem right_nil : rightB zeroH [] = true := by
  have h : ∀ i, popTo zeroH i = 0 := fun i => by
    induction i with
    | zero => rfl
    | succ i ih =>
      have e : zeroH.at i = 0 := by
        unfold Hsh.at zeroH
        rw [List.getD, List.getElem?_replicate]
        split <;> rfl
      rw [popTo, ih, e]; rfl
  simp [rightB, h]
theorem root_nil (k : Hsh) : ∀ i, rootH k zeroH [] zeroH i = zeroH
  | 0 => rfl
  | i + 1 => by
    have e : aboveH zeroH zeroH = zeroH := by rw [aboveH, if_pos ⟨rfl, rfl⟩]
    rw [rootH, side_nil, root_nil k i, e]; split <;> rfl
theorem root_tput (k v : Hsh) (hv : v ≠ zeroH) : ∀ i, i ≤ 256 → rootH k zeroH [] (leafH k v) i = (tput k v i .nil).hash
  | 0, _ => by rw [tput, if_neg hv]; rfl
  | i + 1, hi => by
    rw [rootH, side_nil, root_tput k v hv i (by omega), tput, show 256 - (i + 1) = 255 - i by omega]
    have hb := bit_le k (255 - i)
    by_cases h1 : bitOf k (255 - i) = 1
    · rw [if_pos h1, if_neg (by omega), mk_hash]; rfl
    · rw [if_neg h1, if_pos (by omega), mk_hash]; rfl
theorem rootV_put (k v : Hsh) (hv : v ≠ zeroH) : rootV k v zeroH [] = ((tput k v 256 .nil).hash, 0) := by
  rw [rootV, if_pos right_nil, root_tput k v hv 256 (Nat.le_refl _)]
theorem rootV_zero (k : Hsh) : rootV k zeroH zeroH [] = (zeroH, 0) := by
  rw [rootV, if_pos right_nil, leafH, if_pos rfl, root_nil]
theorem hs_nil (H : AHeap) : HsAt H (.slice none 0 0) [] := ⟨none, 0, rfl, .inl rfl⟩
theorem bvPr0 : buildV Tryd.prog 116 [] = some (prV zeroH (.slice none 0 0)) := bv116 rfl

set_option maxHeartbeats 4000000 in
theorem c_knows60 (t : Tree) (e : t = tput h1 h2 256 .nil) (hn : t.hash ≠ zeroH) (H : AHeap) (g : Gl H) : CallR Tryd.prog noPrims 31 [] H (fun u H' => u = .bool true ∧ Hp H 0 0 H' [] []) := by
  have h2n := g.two
  have hp1 : Put1 h1 h2 .nil ((0 : Nat) : Int) = (t, ((0 : Nat) : Int) + 1, 0) := by rw [e]; exact put1_new (by rw [tget_nil]; exact Ne.symm h2_ne) h2_ne tget_nil (by omega)
  have hr1 : rootV h1 h2 zeroH [] = (t.hash, 0) := by rw [e]; exact rootV_put h1 h2 h2_ne
  have hr0 := rootV_zero h1
  have hu : updV zeroH h1 zeroH h2 zeroH [] = (t.hash, 0) := by
    unfold updV; rw [hr0]; simp [hr1]
  have hc1 : chkV t.hash h1 h2 zeroH [] = true := by unfold chkV; rw [hr1]; simp
  have hc0 : chkV t.hash h1 zeroH zeroH [] = false := by
    unfold chkV; rw [hr0]; simp; exact fun h => hn h.symm
  have cU : ∀ {H' : AHeap} {lo hi : Nat} {Mn : Hm}, Hp H lo hi H' [] Mn → CallR Tryd.prog noPrims 73 [hV zeroH, hV h1, hV zeroH, hV h2, prV zeroH (.slice none 0 0)] H' (fun u H2 => u = tupR (t.hash, 0) ∧ Hp H' 0 0 H2 [] []) := fun hp => by
    have q := c_Update zeroH h1 zeroH h2 zeroH (.slice none 0 0) [] _ (g.of hp (by simp)) (hs_nil _) (by simp)
    rw [hu] at q; exact q
  have cC1 : ∀ {H' : AHeap} {lo hi : Nat} {Mn : Hm}, Hp H lo hi H' [] Mn → CallR Tryd.prog noPrims 75 [hV t.hash, hV h1, hV h2, prV zeroH (.slice none 0 0)] H' (fun u H2 => u = .bool true ∧ Hp H' 0 0 H2 [] []) := fun hp => by
    have q := c_Check t.hash h1 h2 zeroH (.slice none 0 0) [] _ (g.of hp (by simp)) (hs_nil _) (by simp)
    rw [hc1] at q; exact q
  have cC0 : ∀ {H' : AHeap} {lo hi : Nat} {Mn : Hm}, Hp H lo hi H' [] Mn → CallR Tryd.prog noPrims 75 [hV t.hash, hV h1, hV zeroH, prV zeroH (.slice none 0 0)] H' (fun u H2 => u = .bool false ∧ Hp H' 0 0 H2 [] []) := fun hp => by
    have q := c_Check t.hash h1 zeroH zeroH (.slice none 0 0) [] _ (g.of hp (by simp)) (hs_nil _) (by simp)
    rw [hc0] at q; exact q
  have cN : ∀ {H' : AHeap} {lo hi b c : Nat} {w : Bool} {Mn : Hm}, Hp H lo hi H' [] Mn → H'.get b = .cells (hC h1 ++ hC h2) 138 w → CallR Tryd.prog noPrims 72 [.slice (some ⟨b, 0, none⟩) 1 c] H' (fun u H2 => ∃ i : Nat × Option Addr × Hm, (∀ H1, TreeL H1 0 i.2.2 i.2.1 t) ∧ u = .tuple ⟨[.pointer (some ⟨i.1, 0, none⟩), .int .i64 ((0 : Nat) : Int)]⟩ ∧ Hp H' 0 0 H2 [] ((i.1, .cells (mapC i.2.1 (((0 : Nat) : Int) + 1) true) 181 true) :: i.2.2)) := fun {H' lo hi b c w Mn} hp hb => by
    have q := c_New1 h1 h2 b c w H' (g.of hp (by simp)) hb
    rw [hp1] at q; exact q.mono fun u H2 ⟨i, a1, a2, a3⟩ => ⟨i, a1, a2, a3.perm (List.perm_append_singleton _ _).symm⟩
  clear hp1 hr1 hr0 hu hc1 hc0 e
  refine CallR.sy (n := 54) Tryd.func31 rfl rfl rfl ?_
  repeat' (first
    | (with_reducible refine Sy.seq ?_)
    | (with_reducible refine Sy.regionL ?_)
    | (with_reducible refine Sy.opsnil ?_)
    | (with_reducible refine Sy.go ?_)
    | (with_reducible refine Sy.nrm ?_)
    | ((with_reducible refine Sy.build rfl rfl bvB1 ?_))
    | ((with_reducible refine Sy.build rfl rfl bvB2 ?_))
    | ((with_reducible refine Sy.build (t := 44) (ps := #[]) rfl rfl bvZ ?_))
    | ((with_reducible refine Sy.build (t := 116) (ps := #[]) rfl rfl bvPr0 ?_))
    | ((with_reducible refine Sy.build (t := 138) rfl rfl (bvP _ _) ?_))
    | ((with_reducible apply Sy.assign); exact rfl; exact rfl)
    | ((with_reducible apply Sy.move); exact rfl; exact rfl)
    | ((with_reducible apply Sy.ext); exact rfl; exact rfl; exact rfl)
    | ((with_reducible apply Sy.stNa (t := 44)); exact rfl; exact rfl; exact sz44; (· first | exact hC_length _ | (simp; done)); (· first | exact hC_one _); exact turnT; (· first | (simp; done)); (· first | exact lay_all (by first | (simp; done))))
    | ((with_reducible apply Sy.bin (op := .add) (t := 3)); exact rfl; exact rfl; exact rfl; exact (b_add (by omega)))
    | ((with_reducible apply Sy.bin (op := .add) (t := 3)); exact rfl; exact rfl; exact rfl; exact (bz_add (by omega) (by omega)))
    | ((with_reducible apply Sy.bin (op := .eql) (t := 3)); exact rfl; exact rfl; exact rfl; exact b_eql)
    | ((with_reducible apply Sy.bin (op := .eql) (t := 3)); exact rfl; exact rfl; exact rfl; exact bz_eql)
    | ((with_reducible apply Sy.ldN (t := 44)); exact rfl; exact rfl; exact hasT; (· first | exact ld_hV ag44 sz44))
    | ((with_reducible apply Sy.bin (op := .eql) (t := 44)); exact rfl; exact rfl; exact rfl; exact eq44)
    | ((with_reducible apply Sy.pickT); exact rfl; exact rfl; exact rfl)
    | ((with_reducible apply Sy.pickF); exact rfl; exact rfl; exact rfl)
    | ((with_reducible apply Sy.bin (op := .neq) (t := 44)); exact rfl; exact rfl; exact rfl; exact ne44)
    | ((with_reducible apply Sy.un (op := .not)); exact rfl; exact rfl; exact un_notT)
    | ((with_reducible apply Sy.un (op := .not)); exact rfl; exact rfl; exact un_notF)
    | ((with_reducible apply Sy.un (op := .not)); exact rfl; exact rfl; exact un_notD)
    | ((with_reducible apply Sy.un (op := .not)); exact rfl; exact rfl; exact un_not)
    | ((with_reducible apply Sy.callN (k := 72)); exact rfl; exact rfl; exact en72; exact rfl; (intro H' hp; exact cN hp (hp.getN (by repeat (first | exact Has.here | apply Has.there | apply Has.app)))); rintro ⟨m, r, L⟩ hT)
    | ((with_reducible apply Sy.call0 (k := 73)); exact rfl; exact rfl; exact en73; exact rfl; (intro H' hp; exact cU hp))
    | ((with_reducible apply Sy.dcall0 (k := 73)); (first | exact wantY_none | exact wantY_some rfl rfl rfl); exact rfl; (intro h hh; first | exact hh | (subst hh; omega)); exact rfl; exact rfl; exact rfl; exact en73; exact rfl; (intro H' hp; exact cU hp))
    | ((with_reducible apply Sy.call0 (k := 75)); exact rfl; exact rfl; exact en75; exact rfl; (intro H' hp; exact cC1 hp))
    | ((with_reducible apply Sy.dcall0 (k := 75)); (first | exact wantY_none | exact wantY_some rfl rfl rfl); exact rfl; (intro h hh; first | exact hh | (subst hh; omega)); exact rfl; exact rfl; exact rfl; exact en75; exact rfl; (intro H' hp; exact cC1 hp))
    | ((with_reducible apply Sy.call0 (k := 75)); exact rfl; exact rfl; exact en75; exact rfl; (intro H' hp; exact cC0 hp))
    | ((with_reducible apply Sy.dcall0 (k := 75)); (first | exact wantY_none | exact wantY_some rfl rfl rfl); exact rfl; (intro h hh; first | exact hh | (subst hh; omega)); exact rfl; exact rfl; exact rfl; exact en75; exact rfl; (intro H' hp; exact cC0 hp))
    | ((with_reducible apply Sy.call0 (k := 29)); exact rfl; exact rfl; exact en29; exact rfl; (intro H' hp; exact c_num6 0 H'))
    | ((with_reducible apply Sy.dcall0 (k := 29)); (first | exact wantY_none | exact wantY_some rfl rfl rfl); exact rfl; (intro h hh; first | exact hh | (subst hh; omega)); exact rfl; exact rfl; exact rfl; exact en29; exact rfl; (intro H' hp; exact c_num6 0 H'))
    | ((with_reducible apply Sy.call0 (k := 74)); exact rfl; exact rfl; exact en74; exact rfl; (intro H' hp; exact c_root (t := t) H' (hp.getN (by repeat (first | exact Has.here | apply Has.there | apply Has.app))) (TreeL.at (hT H) hp (fun p h => by simp only [List.mem_append, List.mem_cons, h, true_or, or_true]) (Nat.zero_le _)) (Nat.le_refl _)))
    | ((with_reducible apply Sy.dcall0 (k := 74)); (first | exact wantY_none | exact wantY_some rfl rfl rfl); exact rfl; (intro h hh; first | exact hh | (subst hh; omega)); exact rfl; exact rfl; exact rfl; exact en74; exact rfl; (intro H' hp; exact c_root (t := t) H' (hp.getN (by repeat (first | exact Has.here | apply Has.there | apply Has.app))) (TreeL.at (hT H) hp (fun p h => by simp only [List.mem_append, List.mem_cons, h, true_or, or_true]) (Nat.zero_le _)) (Nat.le_refl _)))
    | ((with_reducible apply Sy.newY (o := ⟨some 9, .buildSlice 177 _ _, _, _, _, _⟩)); exact rfl; exact rfl; (· exact (nba1 Tryd.underlying177 sz138 zr138 rfl (by decide) rfl (by first | exact rfl))); intro q9)
    | ((with_reducible apply Sy.newY (o := ⟨some 9, .buildSlice 177 _ _, _, _, _, _⟩)); exact rfl; exact rfl; (· exact (newY_bs Tryd.underlying177 sz138 zr138 rfl (by decide) rfl (by first | rfl | (simp [List.drop_append, List.take_append, List.getElem?_append, lay, hC_length, ints_length, ints_drop, ints_take, ints_append, List.drop_of_length_le, List.take_of_length_le, List.map_append, List.set_append, Value.cells]; done)))); intro q9)
    | ((with_reducible apply Sy.newY (o := ⟨some 3, .alloc 44, _, _, _, _⟩)); exact rfl; exact rfl; exact nwz44; intro q3)
    | (with_reducible refine Sy.ret ?_)
    | ((with_reducible apply Sy.drawL (id := 3) 33 [(7, 9)] (fun hi h => h < hi)); (case hp => kernel_rfl); (case hN => exact rfl); intro base hbase hM; try simp only [List.forall_mem_cons, List.forall_mem_append, List.not_mem_nil, false_implies, implies_true, and_true] at hM)
    | (with_reducible refine Sy.dend ?_)
    | ((with_reducible apply Sy.dgo); (· first | exact wantY_none | exact wantY_some rfl rfl rfl); (· intro hcls; cases hcls); exact rfl; exact rfl)
    | ((with_reducible apply Sy.dld); (· first | exact wantY_some rfl rfl rfl); exact rfl; (· first | omega | exact rfl); exact rfl)
    | ((with_reducible apply Sy.dno); exact rfl; exact rfl; exact rfl; exact rfl; exact rfl)
    | ((with_reducible apply Sy.dcaseG); (case hj => exact rfl); (case hx => exact rfl); all_goals (intro hc; try (exfalso; omega))))
  all_goals first
    | exact absurd rfl hc
    | exact absurd hn hc
    | exact .fin [.bool true] (.inr rfl) ⟨rfl, trivial⟩ fun H' hp => ⟨rfl, hp.less (List.nil_sublist _)⟩
theorem c_knows6 (H : AHeap) (g : Gl H) : CallR Tryd.prog noPrims 31 [] H (fun u H' => u = .bool true ∧ Hp H 0 0 H' [] []) := by
  have hn := knows_val
  generalize e : tput h1 h2 256 .nil = t at hn
  exact c_knows60 t e.symm hn H g
end Go.Proofs.YtjimjolfnimimaaDoor

/- Layer 06: equal tests. -/
namespace Go.Proofs.YtjimjolfnimimaaDoor
open Go Go.Am
set_option maxRecDepth 100000

end Go.Proofs.YtjimjolfnimimaaDoor
