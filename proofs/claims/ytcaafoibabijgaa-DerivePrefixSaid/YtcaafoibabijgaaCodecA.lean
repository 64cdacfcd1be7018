/- The codec: bytes of numbers, readers. -/
import Derived.Test.YtcaafoibabijgaaWalkA
import Derived.Test.YtcaafoibabijgaaSy
set_option linter.unusedSimpArgs false
set_option linter.unusedVariables false
/- Rows of hashes. -/
namespace Go.Proofs.Ytcaafoibabijgaa
open Go Go.Am
set_option maxRecDepth 100000
set_option linter.unusedVariables false

/-- Hashes, one behind the other. -/
def hcs (l : List Hsh) : List Value := (l.map hC).flatten
/-- A slice of hashes, read. -/
def HsAt (H : AHeap) (v : Value) (l : List Hsh) : Prop := ∃ a c, v = .slice a l.length c ∧ (l = [] ∨ ∃ b T w, a = some ⟨b, 0, none⟩ ∧ H.get b = .cells (hcs l) T w)
theorem HsAt.of {H H1 : AHeap} {lo hi : Nat} {Mn : Hm} {v : Value} {l : List Hsh} (h : HsAt H v l) (hp : Hp H lo hi H1 [] Mn) : HsAt H1 v l := by
  obtain ⟨a, c, e, h⟩ := h
  refine ⟨a, c, e, h.imp id ?_⟩
  rintro ⟨b, T, w, e1, e2⟩
  exact ⟨b, T, w, e1, hp.get0 e2 rfl (by simp)⟩
end Go.Proofs.Ytcaafoibabijgaa

/- Layer 03: numbers as bytes. -/
namespace Go.Proofs.Ytcaafoibabijgaa
open Go Go.Am
set_option maxRecDepth 100000
set_option linter.unusedVariables false

/-- A number's first bytes. -/
def beP (n : Nat) : Nat → List Nat
  | 0 => []
  | i + 1 => beP n i ++ [(n >>> (56 - 8 * i)) % 256]
@[simp] theorem beP_length (n : Nat) : ∀ i, (beP n i).length = i
  | 0 => rfl
  | i + 1 => by simp [beP, beP_length n i]
theorem beP_8 (n : Nat) : beP n 8 = be64 n := rfl
theorem be64_lt (n : Nat) : ∀ x ∈ be64 n, x < 256 := beN_lt n 8
theorem c_ceight (n : Nat) (hn : n < 18446744073709551616) (H : AHeap) :
    CallR Try.prog noPrims 91 [.int .u64 n] H (fun v H' => ∃ b : Nat, True ∧ v = .slice (some ⟨b, 0, none⟩) 8 8 ∧ Hp H 0 0 H' [] [(b, .cells (ints .u8 (be64 n)) 5 true)]) := by
  refine CallR.sy (n := 22) Try.func91 rfl rfl rfl ?_
  repeat' (first
    | (with_reducible refine Sy.seq ?_)
    | (with_reducible refine Sy.regionL ?_)
    | (with_reducible refine Sy.opsnil ?_)
    | (with_reducible refine Sy.go ?_)
    | (with_reducible refine Sy.nrm ?_)
    | ((with_reducible apply Sy.assign); exact rfl; exact rfl)
    | ((with_reducible apply Sy.move); exact rfl; exact rfl)
    | ((with_reducible apply Sy.lenS); exact rfl; exact Try.underlying23; exact rfl)
    | ((with_reducible apply Sy.newY (o := ⟨some 5, .makeSlice 23 _ _, _, _, _, _⟩)); exact rfl; exact rfl; exact (newY_mkI Try.underlying23 sz5 bs5 zr5 rfl rfl (by decide) (by omega)); intro q5)
    | ((with_reducible apply Sy.newY (o := ⟨some 5, .makeSlice 23 _ _, _, _, _, _⟩)); exact rfl; exact rfl; exact (newY_mk1 Try.underlying23 sz5 bs5 zr5 rfl rfl (by decide) (by omega) (by decide) (by rfl)); intro q5)
    | (with_reducible refine Sy.block ?_))
  refine Sy.loop (ι := Nat) (fun i => 8 - i) (fun i => [(0, .int .u64 n), (3, .slice (some ⟨q5, 0, none⟩) 8 8), (7, .int .i64 (8 : Nat)), (8, .int .i64 (i : Nat))]) (fun _ => []) (fun i => [(q5, .cells (ints .u8 (beN n i)) 5 true)]) (fun i => i ≤ 8) 0 (by omega) ⟨rfl, rfl, rfl, rfl, trivial⟩ (fun H h => h) ?_
  intro i hi
  have hl : (beN n i).length = 8 := beN_length n i
  repeat' (first
    | (with_reducible refine Sy.seq ?_)
    | (with_reducible refine Sy.regionL ?_)
    | (with_reducible refine Sy.opsnil ?_)
    | (with_reducible refine Sy.go ?_)
    | (with_reducible refine Sy.nrm ?_)
    | ((with_reducible apply Sy.assign); exact rfl; exact rfl)
    | ((with_reducible apply Sy.move); exact rfl; exact rfl)
    | ((with_reducible apply Sy.bin (op := .lss) (t := 3)); exact rfl; exact rfl; exact rfl; exact b_lss)
    | ((with_reducible apply Sy.bin (op := .lss) (t := 3)); exact rfl; exact rfl; exact rfl; exact bz_lss)
    | ((with_reducible apply Sy.bin (op := .mul) (t := 3)); exact rfl; exact rfl; exact rfl; exact (b_mul (by omega)))
    | ((with_reducible apply Sy.bin (op := .sub) (t := 3)); exact rfl; exact rfl; exact rfl; exact (b_sub (by omega) (by omega)))
    | ((with_reducible apply Sy.bin (op := .sub) (t := 3)); exact rfl; exact rfl; exact rfl; exact (bz_sub (by omega) (by omega)))
    | ((with_reducible apply Sy.bin (op := .shr) (t := 53)); exact rfl; exact rfl; exact rfl; exact (b_shr64 (by omega)))
    | ((with_reducible apply Sy.conv (D := 0) (T := .bool)); exact rfl; exact Try.underlying53; exact Try.underlying5; exact rfl; exact (wrap_u8x (by omega)))
    | ((with_reducible apply Sy.conv (D := 0) (T := .bool)); exact rfl; exact Try.underlying53; exact Try.underlying5; exact rfl; exact wrap_u8 _)
    | ((with_reducible apply Sy.ia (t := 23)); exact rfl; exact rfl; exact rfl; exact (ia_sl10 Try.underlying23 sz5 (by omega)))
    | ((with_reducible apply Sy.ia (t := 23)); exact rfl; exact rfl; exact rfl; exact (ia_sl1 Try.underlying23 sz5 (by omega)))
    | ((with_reducible apply Sy.stN1 (t := 5)); exact rfl; exact rfl; exact sz5; (· first | exact rfl); (· first | exact rfl); exact turnT; (· first | (simp; omega)); (· first | with_reducible exact ints_set _ _ _ _))
    | ((with_reducible apply Sy.bin (op := .add) (t := 3)); exact rfl; exact rfl; exact rfl; exact (b_add (by omega)))
    | ((with_reducible apply Sy.bin (op := .add) (t := 3)); exact rfl; exact rfl; exact rfl; exact (bz_add (by omega) (by omega)))
    | (with_reducible refine Sy.skip ?_)
    | (with_reducible refine Sy.exit ?_)
    | (with_reducible refine Sy.ret ?_)
    | (with_reducible refine Sy.block ?_)
    | (with_reducible refine Sy.aex ?_)
    | (with_reducible refine Sy.inrm ?_)
    | ((with_reducible apply Sy.iex); exact rfl)
    | (with_reducible refine Sy.rex ?_)
    | ((with_reducible apply Sy.ite); (case hx => exact rfl); all_goals (intro hc; try (exfalso; omega))))
  · exact Sy.rnrm (i + 1) (by omega) (by omega) ⟨rfl, rfl, rfl, rfl, trivial⟩ (fun H h => h)
  · obtain rfl : i = 8 := by omega
    exact .fin [_] (.inr rfl) ⟨rfl, trivial⟩ fun H' hp => ⟨q5, trivial, rfl, hp⟩

/-- Four words. -/
structure Wd where
  l : List Nat
  len : l.length = 4
  lt : ∀ x ∈ l, x < 18446744073709551616
theorem Wd.ext' {a b : Wd} (h : a.l = b.l) : a = b := by cases a; cases b; simp at h; subst h; rfl
instance : DecidableEq Wd := fun a b => if h : a.l = b.l then .isTrue (Wd.ext' h) else .isFalse (fun e => h (by rw [e]))
def wC (w : Wd) : List Value := ints .u64 w.l
def wV (w : Wd) : Value := .agg ⟨wC w⟩
@[simp] theorem wC_length (w : Wd) : (wC w).length = 4 := by rw [wC, ints_length, w.len]
def Wd.at (w : Wd) (i : Nat) : Nat := w.l.getD i 0
theorem Wd.at_lt (w : Wd) (i : Nat) : w.at i < 18446744073709551616 := by
  unfold Wd.at
  by_cases h : i < w.l.length
  · have e : w.l.getD i 0 = w.l[i] := by simp [List.getD, h]
    rw [e]; exact w.lt _ (List.getElem_mem h)
  · have e : w.l.getD i 0 = 0 := by simp [List.getD, List.getElem?_eq_none (by omega : w.l.length ≤ i)]
    rw [e]; decide
@[simp] theorem Wd.len' (w : Wd) : w.l.length = 4 := w.len
def zeroW : Wd := ⟨List.replicate 4 0, by simp, by intro x hx; rw [List.eq_of_mem_replicate hx]; decide⟩
theorem wC_one (w : Wd) : oneL (wC w) = true := oneL_ints _ _
/-- A wide number's bytes, the greatest first. -/
def be256 (w : Wd) : List Nat := be64 (w.at 3) ++ be64 (w.at 2) ++ be64 (w.at 1) ++ be64 (w.at 0)
@[simp] theorem be256_length (w : Wd) : (be256 w).length = 32 := by simp [be256]
theorem be256_lt (w : Wd) : ∀ x ∈ be256 w, x < 256 := by
  intro x hx
  simp only [be256, List.mem_append] at hx
  rcases hx with ((hx | hx) | hx) | hx <;> exact be64_lt _ _ hx
/-- As the program lays them: from the last. -/
def wbN (w : Wd) : Nat → List Nat
  | 0 => List.replicate 32 0
  | i + 1 => (wbN w i).set (31 - i) ((w.at (i / 8) >>> (8 * (i % 8))) % 256)
@[simp] theorem wbN_length (w : Wd) : ∀ i, (wbN w i).length = 32
  | 0 => rfl
  | i + 1 => by simp [wbN, wbN_length w i]
theorem wbN_32 (w : Wd) : wbN w 32 = be256 w := by simp [wbN, be256, be64, beN, List.replicate]
theorem c_wBytes (w : Wd) (H : AHeap) :
    CallR Try.prog noPrims 93 [wV w] H (fun v H' => ∃ b : Nat, True ∧ v = .slice (some ⟨b, 0, none⟩) 32 32 ∧ Hp H 0 0 H' [] [(b, .cells (ints .u8 (be256 w)) 5 true)]) := by
  refine CallR.sy (n := 26) Try.func93 rfl rfl rfl ?_
  have hw := w.len
  repeat' (first
    | (with_reducible refine Sy.seq ?_)
    | (with_reducible refine Sy.regionL ?_)
    | (with_reducible refine Sy.opsnil ?_)
    | (with_reducible refine Sy.go ?_)
    | (with_reducible refine Sy.nrm ?_)
    | ((with_reducible apply Sy.assign); exact rfl; exact rfl)
    | ((with_reducible apply Sy.move); exact rfl; exact rfl)
    | ((with_reducible apply Sy.lenS); exact rfl; exact Try.underlying23; exact rfl)
    | ((with_reducible apply Sy.newY (o := ⟨some 1, .box 55 _, _, _, _, _⟩)); exact rfl; exact rfl; exact nbA rfl; intro q1)
    | ((with_reducible apply Sy.newY (o := ⟨some 5, .makeSlice 23 _ _, _, _, _, _⟩)); exact rfl; exact rfl; exact (newY_mkI Try.underlying23 sz5 bs5 zr5 rfl rfl (by decide) (by omega)); intro q5)
    | ((with_reducible apply Sy.newY (o := ⟨some 5, .makeSlice 23 _ _, _, _, _, _⟩)); exact rfl; exact rfl; exact (newY_mk1 Try.underlying23 sz5 bs5 zr5 rfl rfl (by decide) (by omega) (by decide) (by rfl)); intro q5)
    | (with_reducible refine Sy.block ?_))
  refine Sy.loop (ι := Nat) (fun i => 32 - i) (fun i => [(1, .pointer (some ⟨q1, 0, none⟩)), (3, .slice (some ⟨q5, 0, none⟩) 32 32), (7, .int .i64 (32 : Nat)), (8, .int .i64 (i : Nat))]) (fun _ => []) (fun i => [(q5, .cells (ints .u8 (wbN w i)) 5 true), (q1, .cells (ints .u64 w.l) 55 true)]) (fun i => i ≤ 32) 0 (by omega) ⟨rfl, rfl, rfl, rfl, trivial⟩ (fun H h => h) ?_
  intro i hi
  have hl : (wbN w i).length = 32 := wbN_length w i
  have hat := w.at_lt (i / 8)
  unfold Wd.at at hat
  repeat' (first
    | (with_reducible refine Sy.seq ?_)
    | (with_reducible refine Sy.regionL ?_)
    | (with_reducible refine Sy.opsnil ?_)
    | (with_reducible refine Sy.go ?_)
    | (with_reducible refine Sy.nrm ?_)
    | ((with_reducible apply Sy.assign); exact rfl; exact rfl)
    | ((with_reducible apply Sy.move); exact rfl; exact rfl)
    | ((with_reducible apply Sy.bin (op := .lss) (t := 3)); exact rfl; exact rfl; exact rfl; exact b_lss)
    | ((with_reducible apply Sy.bin (op := .lss) (t := 3)); exact rfl; exact rfl; exact rfl; exact bz_lss)
    | ((with_reducible apply Sy.bin (op := .sub) (t := 3)); exact rfl; exact rfl; exact rfl; exact (b_sub (by omega) (by omega)))
    | ((with_reducible apply Sy.bin (op := .sub) (t := 3)); exact rfl; exact rfl; exact rfl; exact (bz_sub (by omega) (by omega)))
    | ((with_reducible apply Sy.bin (op := .quo) (t := 3)); exact rfl; exact rfl; exact rfl; exact (b_quo (by omega) (by omega)))
    | ((with_reducible apply Sy.ia (t := 55)); exact rfl; exact rfl; exact rfl; exact (ia_ar10 Try.underlying55 sz53 (by omega)))
    | ((with_reducible apply Sy.ia (t := 55)); exact rfl; exact rfl; exact rfl; exact (ia_ar1 Try.underlying55 sz53 (by omega)))
    | ((with_reducible apply Sy.ldN (t := 53)); exact rfl; exact rfl; exact hasT; (· first | ((with_reducible refine ld_int ag53 ?_); first | omega)))
    | ((with_reducible apply Sy.bin (op := .rem) (t := 3)); exact rfl; exact rfl; exact rfl; exact (b_rem (by omega)))
    | ((with_reducible apply Sy.bin (op := .mul) (t := 3)); exact rfl; exact rfl; exact rfl; exact (b_mul (by omega)))
    | ((with_reducible apply Sy.bin (op := .shr) (t := 53)); exact rfl; exact rfl; exact rfl; exact (b_shr64 (by omega)))
    | ((with_reducible apply Sy.conv (D := 0) (T := .bool)); exact rfl; exact Try.underlying53; exact Try.underlying5; exact rfl; exact (wrap_u8x (by omega)))
    | ((with_reducible apply Sy.conv (D := 0) (T := .bool)); exact rfl; exact Try.underlying53; exact Try.underlying5; exact rfl; exact wrap_u8 _)
    | ((with_reducible apply Sy.ia (t := 23)); exact rfl; exact rfl; exact rfl; exact (ia_sl10 Try.underlying23 sz5 (by omega)))
    | ((with_reducible apply Sy.ia (t := 23)); exact rfl; exact rfl; exact rfl; exact (ia_sl1 Try.underlying23 sz5 (by omega)))
    | ((with_reducible apply Sy.stN1 (t := 5)); exact rfl; exact rfl; exact sz5; (· first | exact rfl); (· first | exact rfl); exact turnT; (· first | (simp; omega)); (· first | with_reducible exact ints_set _ _ _ _))
    | ((with_reducible apply Sy.bin (op := .add) (t := 3)); exact rfl; exact rfl; exact rfl; exact (b_add (by omega)))
    | ((with_reducible apply Sy.bin (op := .add) (t := 3)); exact rfl; exact rfl; exact rfl; exact (bz_add (by omega) (by omega)))
    | (with_reducible refine Sy.skip ?_)
    | (with_reducible refine Sy.exit ?_)
    | (with_reducible refine Sy.ret ?_)
    | (with_reducible refine Sy.block ?_)
    | (with_reducible refine Sy.aex ?_)
    | (with_reducible refine Sy.inrm ?_)
    | ((with_reducible apply Sy.iex); exact rfl)
    | (with_reducible refine Sy.rex ?_)
    | ((with_reducible apply Sy.ite); (case hx => exact rfl); all_goals (intro hc; try (exfalso; omega))))
  · exact Sy.rnrm (i + 1) (by omega) (by omega) ⟨rfl, rfl, rfl, rfl, trivial⟩ (fun H h => h)
  · obtain rfl : i = 32 := by omega
    rw [wbN_32]
    exact .fin [_] (.inr rfl) ⟨rfl, trivial⟩ fun H' hp => ⟨q5, trivial, rfl, hp.less (.cons_cons _ (List.nil_sublist _))⟩

/-- As the document lays them: word by word, byte by byte. -/
def wordsP (w : Wd) : Nat → List Nat
  | 0 => []
  | i + 1 => wordsP w i ++ be64 (w.at (3 - i))
@[simp] theorem wordsP_length (w : Wd) : ∀ i, (wordsP w i).length = 8 * i
  | 0 => rfl
  | i + 1 => by simp [wordsP, wordsP_length w i]; omega
theorem wordsP_4 (w : Wd) : wordsP w 4 = be256 w := rfl
end Go.Proofs.Ytcaafoibabijgaa

/- Layer 03: the program's reader. -/
namespace Go.Proofs.Ytcaafoibabijgaa
open Go Go.Am
set_option maxRecDepth 100000
set_option linter.unusedVariables false

/-- A stretch of a block of bytes. -/
def Vw (c : Nat) (lb : List Nat) (v : Value) (l : List Nat) : Prop := (v = .slice none 0 0 ∧ l = []) ∨ ∃ o cap, v = .slice (some ⟨c, o, none⟩) l.length cap ∧ o + l.length ≤ lb.length ∧ (lb.drop o).take l.length = l
theorem Vw.slr {c : Nat} {lb l : List Nat} {v : Value} {H : AHeap} {T : TypeId} {w : Bool} (h : Vw c lb v l) (hg : H.get c = .cells (ints .u8 lb) T w) : SlR H 1 v l.length (ints .u8 l) := by
  rcases h with ⟨rfl, rfl⟩ | ⟨o, cap, rfl, hl, ht⟩
  · exact .nil
  · exact .mk hg (by simpa using hl) (by rw [Nat.mul_one, ints_drop, ints_take, ht])
theorem Vw.slr' {c : Nat} {lb l : List Nat} {v : Value} {H : AHeap} {T : TypeId} {w : Bool} (h : Vw c lb v l) (hg : lb ≠ [] → H.get c = .cells (ints .u8 lb) T w) : SlR H 1 v l.length (ints .u8 l) := by
  by_cases hb : lb = []
  · rcases h with ⟨rfl, rfl⟩ | ⟨o, cap, rfl, hl, ht⟩
    · exact .nil
    · subst hb
      obtain rfl : l = [] := List.length_eq_zero_iff.1 (by simpa using Nat.le_trans (Nat.le_add_left _ _) hl)
      exact .emp
  · exact h.slr (hg hb)
theorem Vw.slice {c : Nat} {lb l : List Nat} {v : Value} (h : Vw c lb v l) : ∃ a cap, v = .slice a l.length cap := by
  rcases h with ⟨rfl, rfl⟩ | ⟨o, cap, rfl, _, _⟩
  · exact ⟨_, _, rfl⟩
  · exact ⟨_, _, rfl⟩
theorem Vw.one {c : Nat} {lb l : List Nat} {v : Value} (h : Vw c lb v l) : v.cells.toList = [v] ∧ v.oneCell' = true := by
  obtain ⟨a, cap, rfl⟩ := h.slice; exact ⟨rfl, rfl⟩
theorem Vw.take {c o cap k : Nat} {lb l : List Nat} (hl : o + l.length ≤ lb.length) (ht : (lb.drop o).take l.length = l) (hk : k ≤ l.length) : Vw c lb (.slice (some ⟨c, o, none⟩) k cap) (l.take k) := by
  have e : (l.take k).length = k := by simp; omega
  refine .inr ⟨o, cap, by rw [e], by omega, ?_⟩
  rw [e]; conv => rhs; rw [← ht]
  rw [List.take_take]; congr 1; omega
theorem Vw.drop {c o cap k : Nat} {lb l : List Nat} (hl : o + l.length ≤ lb.length) (ht : (lb.drop o).take l.length = l) (hk : k ≤ l.length) : Vw c lb (.slice (some ⟨c, o + k, none⟩) (l.length - k) cap) (l.drop k) := by
  have e : (l.drop k).length = l.length - k := by simp
  refine .inr ⟨o + k, cap, by rw [e], by omega, ?_⟩
  rw [e]; conv => rhs; rw [← ht]
  rw [List.drop_take, List.drop_drop]
theorem Vw.lt {c : Nat} {lb l : List Nat} {v : Value} (h : Vw c lb v l) (h256 : ∀ x ∈ lb, x < 256) : ∀ x ∈ l, x < 256 := by
  rcases h with ⟨_, rfl⟩ | ⟨o, cap, _, _, ht⟩
  · simp
  · intro x hx; rw [← ht] at hx; exact h256 x (List.mem_of_mem_drop (List.mem_of_mem_take hx))

abbrev rdC (v : Value) (e : Nat) : List Value := [v, .bool true, .int .i64 ((e : Nat) : Int)]
set_option maxHeartbeats 1000000 in
/-- take, where there is enough. -/
theorem c_take_ok (p c k : Nat) (lb l : List Nat) (v : Value) (H : AHeap) (hp0 : H.get p = .cells (rdC v 0) 127 true) (hv : Vw c lb v l) (hk : k ≤ l.length) (hl : l.length ≤ 4611686018427387904) :
    CallR Try.prog noPrims 62 [.pointer (some ⟨p, 0, none⟩), .int .i64 (k : Nat)] H (fun u H' => ∃ i : Value × Value, (Vw c lb i.1 (l.take k) ∧ Vw c lb i.2 (l.drop k)) ∧ u = i.1 ∧ Hp H 0 0 H' [(p, .cells (rdC i.2 0) 127 true)] []) := by
  rcases hv with ⟨rfl, rfl⟩ | ⟨o, cap, rfl, hlb, ht⟩
  · obtain rfl : k = 0 := by simpa using hk
    refine CallR.sy (n := 60) Try.func62 rfl rfl rfl ?_
    repeat' (first
    | (with_reducible refine Sy.seq ?_)
    | (with_reducible refine Sy.regionL ?_)
    | (with_reducible refine Sy.opsnil ?_)
    | (with_reducible refine Sy.go ?_)
    | (with_reducible refine Sy.nrm ?_)
    | ((with_reducible apply Sy.assign); exact rfl; exact rfl)
    | ((with_reducible apply Sy.move); exact rfl; exact rfl)
    | ((with_reducible apply Sy.bin (op := .eql) (t := 114)); exact rfl; exact rfl; exact rfl; exact p_eq0 kd114)
    | ((with_reducible apply Sy.bin (op := .eql) (t := 114)); exact rfl; exact rfl; exact rfl; exact p_eq1 kd114)
    | ((with_reducible apply Sy.bin (op := .eql) (t := 114)); exact rfl; exact rfl; exact rfl; exact p_eq2 kd114)
    | ((with_reducible apply Sy.nilC); exact rfl; exact rfl; exact rfl)
    | ((with_reducible apply Sy.fa (t := 127) (i := 0)); exact rfl; exact rfl; exact fa127_0 _ _)
    | ((with_reducible apply Sy.fa (t := 124) (i := 1)); exact rfl; exact rfl; exact fa124_1 _ _)
    | ((with_reducible apply Sy.ld0 (t := 4)); exact rfl; exact rfl; (· with_reducible assumption); exact rfl; exact notM; (· first | exact ld_one ag4 rfl))
    | ((with_reducible apply Sy.un (op := .not)); exact rfl; exact rfl; exact un_notT)
    | ((with_reducible apply Sy.un (op := .not)); exact rfl; exact rfl; exact un_notF)
    | ((with_reducible apply Sy.un (op := .not)); exact rfl; exact rfl; exact un_notD)
    | ((with_reducible apply Sy.un (op := .not)); exact rfl; exact rfl; exact un_not)
    | ((with_reducible apply Sy.pickF); exact rfl; exact rfl; exact rfl)
    | ((with_reducible apply Sy.fa (t := 124) (i := 2)); exact rfl; exact rfl; exact fa124_2 _ _)
    | ((with_reducible apply Sy.ld0 (t := 27)); exact rfl; exact rfl; (· with_reducible assumption); exact rfl; exact notM; (· first | exact ld_one ag27 rfl))
    | ((with_reducible apply Sy.bin (op := .neq) (t := 27)); exact rfl; exact rfl; exact rfl; exact b_neq)
    | ((with_reducible apply Sy.bin (op := .neq) (t := 27)); exact rfl; exact rfl; exact rfl; exact bz_neq)
    | ((with_reducible apply Sy.fa (t := 124) (i := 0)); exact rfl; exact rfl; exact fa124_0 _ _)
    | ((with_reducible apply Sy.ld0 (t := 23)); exact rfl; exact rfl; (· with_reducible assumption); exact rfl; exact notM; (· first | exact ld_one ag23 rfl))
    | ((with_reducible apply Sy.lenS); exact rfl; exact Try.underlying23; exact rfl)
    | ((with_reducible apply Sy.bin (op := .gtr) (t := 3)); exact rfl; exact rfl; exact rfl; exact b_gtr)
    | ((with_reducible apply Sy.bin (op := .gtr) (t := 3)); exact rfl; exact rfl; exact rfl; exact bz_gtr)
    | ((with_reducible apply Sy.st01 (t := 27)); exact rfl; exact rfl; exact sz27; (· first | exact rfl); (· first | exact rfl); (· with_reducible assumption); exact notM; (· first | (simp; done)); (· first | rfl))
    | ((with_reducible apply Sy.st01 (t := 23)); exact rfl; exact rfl; exact sz23; (· first | exact rfl); (· first | exact rfl); (· with_reducible assumption); exact notM; (· first | (simp; done)); (· first | rfl))
    | ((with_reducible apply Sy.sl (t := 23)); exact rfl; exact rfl; exact rfl; exact rfl; exact rfl; exact sl_nil3 Try.underlying23 sz5)
    | ((with_reducible apply Sy.sl (t := 23)); exact rfl; exact rfl; exact rfl; exact rfl; exact rfl; exact sl_nil_from Try.underlying23 sz5)
    | (with_reducible refine Sy.skip ?_)
    | (with_reducible refine Sy.ret ?_)
    | ((with_reducible apply Sy.no); exact rfl)
    | ((with_reducible apply Sy.goG); exact rfl; exact rfl; exact rfl))
    exact .fin [_] (.inr rfl) ⟨rfl, trivial⟩ fun H' hp => ⟨(_, _), ⟨.inl ⟨rfl, rfl⟩, .inl ⟨rfl, rfl⟩⟩, rfl, hp⟩
  · refine CallR.sy (n := 60) Try.func62 rfl rfl rfl ?_
    repeat' (first
    | (with_reducible refine Sy.seq ?_)
    | (with_reducible refine Sy.regionL ?_)
    | (with_reducible refine Sy.opsnil ?_)
    | (with_reducible refine Sy.go ?_)
    | (with_reducible refine Sy.nrm ?_)
    | ((with_reducible apply Sy.assign); exact rfl; exact rfl)
    | ((with_reducible apply Sy.move); exact rfl; exact rfl)
    | ((with_reducible apply Sy.bin (op := .eql) (t := 114)); exact rfl; exact rfl; exact rfl; exact p_eq0 kd114)
    | ((with_reducible apply Sy.bin (op := .eql) (t := 114)); exact rfl; exact rfl; exact rfl; exact p_eq1 kd114)
    | ((with_reducible apply Sy.bin (op := .eql) (t := 114)); exact rfl; exact rfl; exact rfl; exact p_eq2 kd114)
    | ((with_reducible apply Sy.nilC); exact rfl; exact rfl; exact rfl)
    | ((with_reducible apply Sy.fa (t := 127) (i := 0)); exact rfl; exact rfl; exact fa127_0 _ _)
    | ((with_reducible apply Sy.fa (t := 124) (i := 1)); exact rfl; exact rfl; exact fa124_1 _ _)
    | ((with_reducible apply Sy.ld0 (t := 4)); exact rfl; exact rfl; (· with_reducible assumption); exact rfl; exact notM; (· first | exact ld_one ag4 rfl))
    | ((with_reducible apply Sy.un (op := .not)); exact rfl; exact rfl; exact un_notT)
    | ((with_reducible apply Sy.un (op := .not)); exact rfl; exact rfl; exact un_notF)
    | ((with_reducible apply Sy.un (op := .not)); exact rfl; exact rfl; exact un_notD)
    | ((with_reducible apply Sy.un (op := .not)); exact rfl; exact rfl; exact un_not)
    | ((with_reducible apply Sy.pickF); exact rfl; exact rfl; exact rfl)
    | ((with_reducible apply Sy.fa (t := 124) (i := 2)); exact rfl; exact rfl; exact fa124_2 _ _)
    | ((with_reducible apply Sy.ld0 (t := 27)); exact rfl; exact rfl; (· with_reducible assumption); exact rfl; exact notM; (· first | exact ld_one ag27 rfl))
    | ((with_reducible apply Sy.bin (op := .neq) (t := 27)); exact rfl; exact rfl; exact rfl; exact b_neq)
    | ((with_reducible apply Sy.bin (op := .neq) (t := 27)); exact rfl; exact rfl; exact rfl; exact bz_neq)
    | ((with_reducible apply Sy.fa (t := 124) (i := 0)); exact rfl; exact rfl; exact fa124_0 _ _)
    | ((with_reducible apply Sy.ld0 (t := 23)); exact rfl; exact rfl; (· with_reducible assumption); exact rfl; exact notM; (· first | exact ld_one ag23 rfl))
    | ((with_reducible apply Sy.lenS); exact rfl; exact Try.underlying23; exact rfl)
    | ((with_reducible apply Sy.bin (op := .gtr) (t := 3)); exact rfl; exact rfl; exact rfl; exact b_gtr)
    | ((with_reducible apply Sy.bin (op := .gtr) (t := 3)); exact rfl; exact rfl; exact rfl; exact bz_gtr)
    | ((with_reducible apply Sy.st01 (t := 27)); exact rfl; exact rfl; exact sz27; (· first | exact rfl); (· first | exact rfl); (· with_reducible assumption); exact notM; (· first | (simp; done)); (· first | rfl))
    | ((with_reducible apply Sy.sl (t := 23)); exact rfl; exact rfl; exact rfl; exact rfl; exact rfl; exact (sl_cap Try.underlying23 sz5 (by omega)))
    | ((with_reducible apply Sy.sl (t := 23)); exact rfl; exact rfl; exact rfl; exact rfl; exact rfl; exact (sl_from Try.underlying23 sz5 (by omega)))
    | ((with_reducible apply Sy.st01 (t := 23)); exact rfl; exact rfl; exact sz23; (· first | exact rfl); (· first | exact rfl); (· with_reducible assumption); exact notM; (· first | (simp; done)); (· first | rfl))
    | (with_reducible refine Sy.skip ?_)
    | (with_reducible refine Sy.ret ?_)
    | ((with_reducible apply Sy.no); exact rfl)
    | ((with_reducible apply Sy.goG); exact rfl; exact rfl; exact rfl)
    | ((with_reducible apply Sy.ite); (case hx => exact rfl); all_goals (intro hc; try (exfalso; omega))))
    rw [Nat.mul_one]
    exact .fin [_] (.inr rfl) ⟨rfl, trivial⟩ fun H' hp => ⟨(_, _), ⟨Vw.take hlb ht hk, Vw.drop hlb ht hk⟩, rfl, hp⟩

set_option maxHeartbeats 1000000 in
/-- take, where there is not enough, or an error already: noughts. -/
theorem c_take_bad (p k e : Nat) (l : List Nat) (v : Value) (a : Option Addr) (cap : Nat) (H : AHeap) (hp0 : H.get p = .cells (rdC v e) 127 true) (hv : v = .slice a l.length cap) (hk : e ≠ 0 ∨ l.length < k) (hk2 : k ≤ 1000000) (hl : l.length ≤ 4611686018427387904) :
    CallR Try.prog noPrims 62 [.pointer (some ⟨p, 0, none⟩), .int .i64 (k : Nat)] H (fun u H' => ∃ b : Nat, True ∧ u = .slice (some ⟨b, 0, none⟩) k k ∧ Hp H 0 0 H' [(p, .cells (rdC v (if e = 0 then 20 else e)) 127 true)] [(b, .cells (ints .u8 (List.replicate k 0)) 5 true)]) := by
  subst hv
  refine CallR.sy (n := 60) Try.func62 rfl rfl rfl ?_
  repeat' (first
    | (with_reducible refine Sy.seq ?_)
    | (with_reducible refine Sy.regionL ?_)
    | (with_reducible refine Sy.opsnil ?_)
    | (with_reducible refine Sy.go ?_)
    | (with_reducible refine Sy.nrm ?_)
    | ((with_reducible apply Sy.assign); exact rfl; exact rfl)
    | ((with_reducible apply Sy.move); exact rfl; exact rfl)
    | ((with_reducible apply Sy.bin (op := .eql) (t := 114)); exact rfl; exact rfl; exact rfl; exact p_eq0 kd114)
    | ((with_reducible apply Sy.bin (op := .eql) (t := 114)); exact rfl; exact rfl; exact rfl; exact p_eq1 kd114)
    | ((with_reducible apply Sy.bin (op := .eql) (t := 114)); exact rfl; exact rfl; exact rfl; exact p_eq2 kd114)
    | ((with_reducible apply Sy.nilC); exact rfl; exact rfl; exact rfl)
    | ((with_reducible apply Sy.fa (t := 127) (i := 0)); exact rfl; exact rfl; exact fa127_0 _ _)
    | ((with_reducible apply Sy.fa (t := 124) (i := 1)); exact rfl; exact rfl; exact fa124_1 _ _)
    | ((with_reducible apply Sy.ld0 (t := 4)); exact rfl; exact rfl; (· with_reducible assumption); exact rfl; exact notM; (· first | exact ld_one ag4 rfl))
    | ((with_reducible apply Sy.un (op := .not)); exact rfl; exact rfl; exact un_notT)
    | ((with_reducible apply Sy.un (op := .not)); exact rfl; exact rfl; exact un_notF)
    | ((with_reducible apply Sy.un (op := .not)); exact rfl; exact rfl; exact un_notD)
    | ((with_reducible apply Sy.un (op := .not)); exact rfl; exact rfl; exact un_not)
    | ((with_reducible apply Sy.pickF); exact rfl; exact rfl; exact rfl)
    | ((with_reducible apply Sy.fa (t := 124) (i := 2)); exact rfl; exact rfl; exact fa124_2 _ _)
    | ((with_reducible apply Sy.ld0 (t := 27)); exact rfl; exact rfl; (· with_reducible assumption); exact rfl; exact notM; (· first | exact ld_one ag27 rfl))
    | ((with_reducible apply Sy.bin (op := .neq) (t := 27)); exact rfl; exact rfl; exact rfl; exact b_neq)
    | ((with_reducible apply Sy.bin (op := .neq) (t := 27)); exact rfl; exact rfl; exact rfl; exact bz_neq)
    | ((with_reducible apply Sy.fa (t := 124) (i := 0)); exact rfl; exact rfl; exact fa124_0 _ _)
    | ((with_reducible apply Sy.ld0 (t := 23)); exact rfl; exact rfl; (· with_reducible assumption); exact rfl; exact notM; (· first | exact ld_one ag23 rfl))
    | ((with_reducible apply Sy.lenS); exact rfl; exact Try.underlying23; exact rfl)
    | ((with_reducible apply Sy.bin (op := .gtr) (t := 3)); exact rfl; exact rfl; exact rfl; exact b_gtr)
    | ((with_reducible apply Sy.bin (op := .gtr) (t := 3)); exact rfl; exact rfl; exact rfl; exact bz_gtr)
    | ((with_reducible apply Sy.st01 (t := 27)); exact rfl; exact rfl; exact sz27; (· first | exact rfl); (· first | exact rfl); (· with_reducible assumption); exact notM; (· first | (simp; done)); (· first | rfl))
    | ((with_reducible apply Sy.st01 (t := 23)); exact rfl; exact rfl; exact sz23; (· first | exact rfl); (· first | exact rfl); (· with_reducible assumption); exact notM; (· first | (simp; done)); (· first | rfl))
    | ((with_reducible apply Sy.newY (o := ⟨some 25, .makeSlice 23 _ _, _, _, _, _⟩)); exact rfl; exact rfl; exact (newY_mkI Try.underlying23 sz5 bs5 zr5 rfl rfl (by decide) (by omega)); intro q25)
    | ((with_reducible apply Sy.newY (o := ⟨some 25, .makeSlice 23 _ _, _, _, _, _⟩)); exact rfl; exact rfl; exact (newY_mk1 Try.underlying23 sz5 bs5 zr5 rfl rfl (by decide) (by omega) (by decide) (by rfl)); intro q25)
    | ((with_reducible apply Sy.newY (o := ⟨some 39, .makeSlice 23 _ _, _, _, _, _⟩)); exact rfl; exact rfl; exact (newY_mkI Try.underlying23 sz5 bs5 zr5 rfl rfl (by decide) (by omega)); intro q39)
    | ((with_reducible apply Sy.newY (o := ⟨some 39, .makeSlice 23 _ _, _, _, _, _⟩)); exact rfl; exact rfl; exact (newY_mk1 Try.underlying23 sz5 bs5 zr5 rfl rfl (by decide) (by omega) (by decide) (by rfl)); intro q39)
    | (with_reducible refine Sy.skip ?_)
    | (with_reducible refine Sy.ret ?_)
    | (with_reducible refine Sy.aret ?_)
    | ((with_reducible apply Sy.goG); exact rfl; exact rfl; exact rfl)
    | ((with_reducible apply Sy.ite); (case hx => exact rfl); all_goals (intro hc; try (exfalso; omega))))
  · rw [if_neg hc]
    exact .fin [_] (.inr rfl) ⟨rfl, trivial⟩ fun H' hp => ⟨_, trivial, rfl, hp.sameO hp0 rfl (by simp)⟩
  · have he : e = 0 := by omega
    subst he
    exact .fin [_] (.inr rfl) ⟨rfl, trivial⟩ fun H' hp => ⟨_, trivial, rfl, hp⟩

/-- A row's number, the greatest byte first. -/
def beV (x : List Nat) : Nat := x.foldl (fun n c => n * 256 + c) 0
theorem beV_snoc (x : List Nat) (c : Nat) : beV (x ++ [c]) = beV x * 256 + c := by simp [beV]
theorem snoc_ind {P : List Nat → Prop} (h0 : P []) (h : ∀ x c, P x → P (x ++ [c])) : ∀ x, P x := fun x => by
  have : ∀ n (x : List Nat), x.length = n → P x := fun n => by
    induction n with
    | zero => intro x hx; rw [List.length_eq_zero_iff.1 hx]; exact h0
    | succ n ih =>
      intro x hx
      have hne : x ≠ [] := fun e => by subst e; simp at hx
      rw [← List.dropLast_concat_getLast hne]
      exact h _ _ (ih _ (by simp; omega))
  exact this _ x rfl
theorem beV_lt (x : List Nat) (h : ∀ c ∈ x, c < 256) : beV x < 256 ^ x.length := by
  induction x using snoc_ind with
  | h0 => simp [beV]
  | h x c ih =>
    have h1 := ih fun c hc => h c (List.mem_append_left _ hc)
    have h2 := h c (by simp)
    rw [beV_snoc, List.length_append, List.length_singleton, Nat.pow_succ]
    omega
theorem beV_zero (k : Nat) : beV (List.replicate k 0) = 0 := by
  induction k with
  | zero => rfl
  | succ k ih => rw [List.replicate_succ', beV_snoc, ih]
theorem beV_take {x : List Nat} {i c : Nat} (h : x[i]? = some c) : beV (x.take (i + 1)) = beV (x.take i) * 256 + c := by
  rw [List.take_add_one, h]; exact beV_snoc _ _
theorem beV_lt8 {x : List Nat} (h : ∀ c ∈ x, c < 256) {i : Nat} (hi : i < 8) : beV (x.take i) < 72057594037927936 := by
  have h1 := beV_lt (x.take i) fun c hc => h c (List.mem_of_mem_take hc)
  have h2 : (x.take i).length ≤ 7 := by simp; omega
  exact Nat.lt_of_lt_of_le h1 (Nat.le_trans (Nat.pow_le_pow_right (by decide) h2) (by decide))
theorem or_step {n c : Nat} (hn : n < 72057594037927936) (hc : c < 256) : (n <<< 8) % 18446744073709551616 ||| c = n * 256 + c := by
  rw [Nat.mod_eq_of_lt (by rw [Nat.shiftLeft_eq]; omega), ← Nat.shiftLeft_add_eq_or_of_lt (i := 8) (by simpa using hc), Nat.shiftLeft_eq]
/-- What reading does to a row and an error. -/
structure Rd where
  l : List Nat
  e : Nat
def Rd.ok (r : Rd) (k : Nat) : Prop := r.e = 0 ∧ k ≤ r.l.length
instance (r : Rd) (k : Nat) : Decidable (r.ok k) := inferInstanceAs (Decidable (_ ∧ _))
def Rd.bad (r : Rd) : Rd := ⟨r.l, if r.e = 0 then 20 else r.e⟩
def Rd.next (r : Rd) (k : Nat) : Rd := if r.ok k then ⟨r.l.drop k, 0⟩ else r.bad
def Rd.got (r : Rd) (k : Nat) : List Nat := if r.ok k then r.l.take k else List.replicate k 0
def rdU (r : Rd) : Nat := beV (r.got 8)
end Go.Proofs.Ytcaafoibabijgaa

/- Layer 03: the program's reader: numbers. -/
namespace Go.Proofs.Ytcaafoibabijgaa
open Go Go.Am
set_option maxRecDepth 100000
set_option linter.unusedVariables false

theorem getD_of {x lb : List Nat} {o i : Nat} {c : Nat} (h : (lb.drop o).take x.length = x) (hi : x[i]? = some c) : lb.getD (o + i) 0 = c := by
  rw [← h] at hi
  rw [List.getElem?_take] at hi
  split at hi
  · rw [List.getElem?_drop] at hi
    simp [List.getD, hi]
  · cases hi
theorem ints_noB {k : IntKind} {l : List Nat} {v : Value} {b : Bool} {r : List Value} (h : ints k l = v :: .bool b :: r) : False := by
  match l with
  | [] => simp [ints] at h
  | [x] => simp [ints] at h
  | x :: y :: l => simp [ints] at h
set_option maxHeartbeats 2000000 in
theorem c_rdUint (p c : Nat) (lb : List Nat) (r : Rd) (v : Value) (Tc : TypeId) (w : Bool) (H : AHeap) (hp0 : H.get p = .cells (rdC v r.e) 127 true) (hv : Vw c lb v r.l) (hg : r.l ≠ [] → H.get c = .cells (ints .u8 lb) Tc w) (h256 : ∀ x ∈ lb, x < 256) (hl : r.l.length ≤ 4611686018427387904) :
    CallR Try.prog noPrims 53 [.pointer (some ⟨p, 0, none⟩)] H (fun u H' => ∃ v' : Value, Vw c lb v' (r.next 8).l ∧ u = .int .u64 ((rdU r : Nat) : Int) ∧ Hp H 0 0 H' [(p, .cells (rdC v' (r.next 8).e) 127 true)] []) := by
  obtain ⟨l, e⟩ := r
  dsimp only at hp0 hv hg hl
  have h256l := hv.lt h256
  by_cases hok : e = 0 ∧ 8 ≤ l.length
  · obtain ⟨rfl, h8⟩ := hok
    have hok' : (⟨l, 0⟩ : Rd).ok 8 := ⟨rfl, h8⟩
    have hnx : (⟨l, 0⟩ : Rd).next 8 = ⟨l.drop 8, 0⟩ := by rw [Rd.next, if_pos hok']
    have hgt : rdU ⟨l, 0⟩ = beV (l.take 8) := by rw [rdU, Rd.got, if_pos hok']
    rw [hnx, hgt]
    have hgc := hg (fun h => by subst h; simp at h8)
    refine CallR.sy (n := 19) Try.func53 rfl rfl rfl ?_
    repeat' (first
    | (with_reducible refine Sy.seq ?_)
    | (with_reducible refine Sy.regionL ?_)
    | (with_reducible refine Sy.opsnil ?_)
    | (with_reducible refine Sy.go ?_)
    | (with_reducible refine Sy.nrm ?_)
    | ((with_reducible apply Sy.assign); exact rfl; exact rfl)
    | ((with_reducible apply Sy.move); exact rfl; exact rfl)
    | ((with_reducible apply Sy.callTX (k := 62)); exact rfl; exact rfl; exact en62; exact rfl; (case hc => intro H' hp; exact c_take_ok p c 8 lb l v H' (hp.get0 hp0 rfl (by simp)) hv h8 hl); exact get_live_lt (by rw [hp0]; rfl); exact notM; rintro ⟨u, v2⟩ ⟨hu, hv2⟩))
    dsimp only at hu hv2 ⊢
    have hlen : (l.take 8).length = 8 := by simp; omega
    rcases hu with ⟨_, h0⟩ | ⟨o, cap, rfl, hob, hot⟩
    · rw [h0] at hlen; simp at hlen
    have h256t : ∀ c ∈ l.take 8, c < 256 := fun c hc => h256l c (List.mem_of_mem_take hc)
    generalize l.take 8 = x at *
    have hpc : c ≠ p := fun h => by subst h; rw [hgc] at hp0; injection hp0 with h1 _ _; exact ints_noB h1
    repeat' (first
    | (with_reducible refine Sy.opsnil ?_)
    | (with_reducible refine Sy.go ?_)
    | (with_reducible refine Sy.nrm ?_)
    | ((with_reducible apply Sy.move); exact rfl; exact rfl)
    | ((with_reducible apply Sy.lenS); exact rfl; exact Try.underlying23; exact rfl)
    | (with_reducible refine Sy.block ?_))
    refine Sy.loop (ι := Nat) (fun i => 8 - i) (fun i => [(2, .int .u64 ((beV (x.take i) : Nat) : Int)), (6, .slice (some ⟨c, o, none⟩) x.length cap), (7, .int .i64 (8 : Nat)), (8, .int .i64 (i : Nat))]) (fun _ => [(p, .cells (rdC v2 0) 127 true)]) (fun i => []) (fun i => i ≤ 8) 0 (by omega) ⟨rfl, rfl, by rw [hlen]; rfl, rfl, trivial⟩ (fun H h => h) ?_
    intro i hi
    by_cases hlt : i < 8
    · obtain ⟨y, hy⟩ : ∃ y, x[i]? = some y := ⟨x[i]'(by omega), List.getElem?_eq_getElem (by omega)⟩
      have hyl := h256t y (List.mem_of_getElem? hy)
      have hyv := getD_of hot hy
      have hst := or_step (beV_lt8 h256t hlt) hyl
      have hb8 := beV_lt8 h256t hlt
      have htk := beV_take hy
      generalize beV (x.take i) = n at *
      repeat' (first
    | (with_reducible refine Sy.seq ?_)
    | (with_reducible refine Sy.regionL ?_)
    | (with_reducible refine Sy.opsnil ?_)
    | (with_reducible refine Sy.go ?_)
    | (with_reducible refine Sy.nrm ?_)
    | ((with_reducible apply Sy.assign); exact rfl; exact rfl)
    | ((with_reducible apply Sy.move); exact rfl; exact rfl)
    | ((with_reducible apply Sy.bin (op := .lss) (t := 3)); exact rfl; exact rfl; exact rfl; exact b_lss)
    | ((with_reducible apply Sy.bin (op := .lss) (t := 3)); exact rfl; exact rfl; exact rfl; exact bz_lss)
    | ((with_reducible apply Sy.ia (t := 23)); exact rfl; exact rfl; exact rfl; exact (ia_sl10 Try.underlying23 sz5 (by omega)))
    | ((with_reducible apply Sy.ia (t := 23)); exact rfl; exact rfl; exact rfl; exact (ia_sl1 Try.underlying23 sz5 (by omega)))
    | ((with_reducible apply Sy.ld0 (t := 5)); exact rfl; exact rfl; (· with_reducible assumption); exact rfl; exact notM; (· first | ((with_reducible refine ld_int ag5 ?_); first | omega)))
    | ((with_reducible apply Sy.bin (op := .shl) (t := 53)); exact rfl; exact rfl; exact rfl; exact (u64_shl (by omega)))
    | ((with_reducible apply Sy.conv (D := 0) (T := .bool)); exact rfl; exact Try.underlying5; exact Try.underlying53; exact rfl; exact (wrap_u64x (by omega)))
    | ((with_reducible apply Sy.conv (D := 0) (T := .bool)); exact rfl; exact Try.underlying5; exact Try.underlying53; exact rfl; exact wrap_u64 _)
    | ((with_reducible apply Sy.bin (op := .or) (t := 53)); exact rfl; exact rfl; exact rfl; (· exact (u64_or (by first | omega) (by first | omega))))
    | ((with_reducible apply Sy.bin (op := .add) (t := 3)); exact rfl; exact rfl; exact rfl; exact (b_add (by omega)))
    | ((with_reducible apply Sy.bin (op := .add) (t := 3)); exact rfl; exact rfl; exact rfl; exact (bz_add (by omega) (by omega)))
    | (with_reducible refine Sy.skip ?_)
    | (with_reducible refine Sy.block ?_)
    | (with_reducible refine Sy.inrm ?_)
    | ((with_reducible apply Sy.ite); (case hx => exact rfl); all_goals (intro hc; try (exfalso; omega))))
      refine Sy.rnrm (i + 1) (by omega) (by omega) ⟨?_, rfl, rfl, rfl, trivial⟩ (fun H h => h)
      show some (Value.int .u64 _) = _
      rw [hyv, hst, htk]
    · obtain rfl : i = 8 := by omega
      rw [List.take_of_length_le (by omega)]
      repeat' (first
    | (with_reducible refine Sy.seq ?_)
    | (with_reducible refine Sy.regionL ?_)
    | (with_reducible refine Sy.opsnil ?_)
    | (with_reducible refine Sy.go ?_)
    | (with_reducible refine Sy.nrm ?_)
    | ((with_reducible apply Sy.assign); exact rfl; exact rfl)
    | ((with_reducible apply Sy.move); exact rfl; exact rfl)
    | ((with_reducible apply Sy.bin (op := .lss) (t := 3)); exact rfl; exact rfl; exact rfl; exact b_lss)
    | ((with_reducible apply Sy.bin (op := .lss) (t := 3)); exact rfl; exact rfl; exact rfl; exact bz_lss)
    | (with_reducible refine Sy.exit ?_)
    | (with_reducible refine Sy.ret ?_)
    | (with_reducible refine Sy.aex ?_)
    | ((with_reducible apply Sy.iex); exact rfl)
    | (with_reducible refine Sy.rex ?_)
    | ((with_reducible apply Sy.no); exact rfl))
      exact .fin [_] (.inr rfl) ⟨rfl, trivial⟩ fun H' hp => ⟨v2, hv2, rfl, hp⟩
  · have hok' : ¬ (⟨l, e⟩ : Rd).ok 8 := hok
    have hnx : (⟨l, e⟩ : Rd).next 8 = ⟨l, if e = 0 then 20 else e⟩ := by rw [Rd.next, if_neg hok']; rfl
    have hgt : rdU ⟨l, e⟩ = 0 := by rw [rdU, Rd.got, if_neg hok', beV_zero]
    rw [hnx, hgt]
    have hbad : e ≠ 0 ∨ l.length < 8 := by omega
    obtain ⟨a, cap, rfl⟩ := hv.slice
    refine CallR.sy (n := 19) Try.func53 rfl rfl rfl ?_
    repeat' (first
    | (with_reducible refine Sy.seq ?_)
    | (with_reducible refine Sy.regionL ?_)
    | (with_reducible refine Sy.opsnil ?_)
    | (with_reducible refine Sy.go ?_)
    | (with_reducible refine Sy.nrm ?_)
    | ((with_reducible apply Sy.assign); exact rfl; exact rfl)
    | ((with_reducible apply Sy.move); exact rfl; exact rfl)
    | ((with_reducible apply Sy.lenS); exact rfl; exact Try.underlying23; exact rfl)
    | ((with_reducible apply Sy.callTX (k := 62)); exact rfl; exact rfl; exact en62; exact rfl; (case hc => intro H' hp; exact c_take_bad p 8 e l _ a cap H' (hp.get0 hp0 rfl (by simp)) rfl hbad (by decide) hl); exact get_live_lt (by rw [hp0]; rfl); exact notM; rintro b -)
    | (with_reducible refine Sy.block ?_))
    refine Sy.loop (ι := Nat) (fun i => 8 - i) (fun i => [(2, .int .u64 ((0 : Nat) : Int)), (6, .slice (some ⟨b, 0, none⟩) 8 8), (7, .int .i64 (8 : Nat)), (8, .int .i64 (i : Nat))]) (fun _ => [(p, .cells (rdC (.slice a l.length cap) (if e = 0 then 20 else e)) 127 true)]) (fun i => [(b, .cells (ints .u8 (List.replicate 8 0)) 5 true)]) (fun i => i ≤ 8) 0 (by omega) ⟨rfl, rfl, rfl, rfl, trivial⟩ (fun H h => h) ?_
    intro i hi
    have h0 : (List.replicate 8 0).getD i 0 = 0 := by
      rw [List.getD, List.getElem?_replicate]; split <;> rfl
    repeat' (first
    | (with_reducible refine Sy.seq ?_)
    | (with_reducible refine Sy.regionL ?_)
    | (with_reducible refine Sy.opsnil ?_)
    | (with_reducible refine Sy.go ?_)
    | (with_reducible refine Sy.nrm ?_)
    | ((with_reducible apply Sy.assign); exact rfl; exact rfl)
    | ((with_reducible apply Sy.move); exact rfl; exact rfl)
    | ((with_reducible apply Sy.bin (op := .lss) (t := 3)); exact rfl; exact rfl; exact rfl; exact b_lss)
    | ((with_reducible apply Sy.bin (op := .lss) (t := 3)); exact rfl; exact rfl; exact rfl; exact bz_lss)
    | ((with_reducible apply Sy.ia (t := 23)); exact rfl; exact rfl; exact rfl; exact (ia_sl10 Try.underlying23 sz5 (by omega)))
    | ((with_reducible apply Sy.ia (t := 23)); exact rfl; exact rfl; exact rfl; exact (ia_sl1 Try.underlying23 sz5 (by omega)))
    | ((with_reducible apply Sy.ldN (t := 5)); exact rfl; exact rfl; exact hasT; (· first | ((with_reducible refine ld_int ag5 ?_); first | (simp; omega))))
    | ((with_reducible apply Sy.bin (op := .shl) (t := 53)); exact rfl; exact rfl; exact rfl; exact (u64_shl (by omega)))
    | ((with_reducible apply Sy.conv (D := 0) (T := .bool)); exact rfl; exact Try.underlying5; exact Try.underlying53; exact rfl; exact (wrap_u64x (by omega)))
    | ((with_reducible apply Sy.conv (D := 0) (T := .bool)); exact rfl; exact Try.underlying5; exact Try.underlying53; exact rfl; exact wrap_u64 _)
    | ((with_reducible apply Sy.bin (op := .or) (t := 53)); exact rfl; exact rfl; exact rfl; (· exact (u64_or (by first | omega) (by first | omega))))
    | ((with_reducible apply Sy.bin (op := .add) (t := 3)); exact rfl; exact rfl; exact rfl; exact (b_add (by omega)))
    | ((with_reducible apply Sy.bin (op := .add) (t := 3)); exact rfl; exact rfl; exact rfl; exact (bz_add (by omega) (by omega)))
    | (with_reducible refine Sy.skip ?_)
    | (with_reducible refine Sy.exit ?_)
    | (with_reducible refine Sy.ret ?_)
    | (with_reducible refine Sy.block ?_)
    | (with_reducible refine Sy.aex ?_)
    | (with_reducible refine Sy.inrm ?_)
    | ((with_reducible apply Sy.iex); exact rfl)
    | (with_reducible refine Sy.rex ?_)
    | ((with_reducible apply Sy.ite); (case hx => exact rfl); all_goals (intro hc; try (exfalso; omega))))
    · refine Sy.rnrm (i + 1) (by omega) (by omega) ⟨?_, rfl, rfl, rfl, trivial⟩ (fun H h => h)
      show some (Value.int .u64 _) = _
      rw [h0]; rfl
    · exact .fin [_] (.inr rfl) ⟨rfl, trivial⟩ fun H' hp => ⟨_, hv, rfl, hp.less (List.nil_sublist _)⟩
end Go.Proofs.Ytcaafoibabijgaa

/- Layer 03: wide numbers out of bytes. -/
namespace Go.Proofs.Ytcaafoibabijgaa
open Go Go.Am
set_option maxRecDepth 100000
set_option linter.unusedVariables false

theorem beV_go (ys : List Nat) : ∀ n, ys.foldl (fun n c => n * 256 + c) n = n * 256 ^ ys.length + beV ys := by
  induction ys with
  | nil => intro n; simp [beV]
  | cons c ys ih =>
    intro n
    simp only [List.foldl_cons, List.length_cons, beV]
    rw [ih, ih, Nat.add_mul, Nat.pow_succ]
    simp only [Nat.zero_mul, Nat.zero_add]
    rw [Nat.mul_assoc, Nat.mul_comm 256, ← Nat.add_assoc]
theorem beV_cons (c : Nat) (ys : List Nat) : beV (c :: ys) = c * 256 ^ ys.length + beV ys := by
  have := beV_go ys c
  simp only [beV, List.foldl_cons] at this ⊢
  simpa using this
/-- A word's bytes. -/
def segN (x : List Nat) (j : Nat) : List Nat := (x.drop ((3 - j) * 8)).take 8
theorem segN_get {x : List Nat} {j t : Nat} (ht : t < 8) : (segN x j)[t]? = x[(3 - j) * 8 + t]? := by
  rw [segN, List.getElem?_take, if_pos ht, List.getElem?_drop]
theorem segN_len {x : List Nat} {j : Nat} (hx : x.length = 32) (hj : j < 4) : (segN x j).length = 8 := by simp [segN]; omega
theorem segN_lt {x : List Nat} {j : Nat} (h : ∀ c ∈ x, c < 256) : ∀ c ∈ segN x j, c < 256 := fun c hc => h c (List.mem_of_mem_drop (List.mem_of_mem_take hc))
def wdL (x : List Nat) : List Nat := [beV (segN x 0) % 18446744073709551616, beV (segN x 1) % 18446744073709551616, beV (segN x 2) % 18446744073709551616, beV (segN x 3) % 18446744073709551616]
/-- A wide number out of bytes. -/
def wdOf (x : List Nat) : Wd := ⟨wdL x, rfl, by intro y hy; simp only [wdL, List.mem_cons, List.not_mem_nil, or_false] at hy; rcases hy with rfl | rfl | rfl | rfl <;> exact Nat.mod_lt _ (by decide)⟩
theorem seg_small {x : List Nat} {j : Nat} (hx : x.length = 32) (h : ∀ c ∈ x, c < 256) (hj : j < 4) : beV (segN x j) % 18446744073709551616 = beV (segN x j) := by
  have := beV_lt _ (segN_lt (j := j) h)
  rw [segN_len hx hj] at this
  exact Nat.mod_eq_of_lt this
/-- As the program goes: from the last byte. -/
def wfL (x : List Nat) (i : Nat) : List Nat := [beV ((segN x 0).drop (8 - i)), beV ((segN x 1).drop (16 - i)), beV ((segN x 2).drop (24 - i)), beV ((segN x 3).drop (32 - i))]
theorem wfL_0 {x : List Nat} (hx : x.length = 32) : wfL x 0 = List.replicate 4 0 := by
  have e : ∀ j k, j < 4 → 8 ≤ k → (segN x j).drop k = [] := fun j k hj hk => List.drop_of_length_le (by rw [segN_len hx hj]; exact hk)
  rw [wfL, e 0 _ (by decide) (by decide), e 1 _ (by decide) (by decide), e 2 _ (by decide) (by decide), e 3 _ (by decide) (by decide)]; rfl
theorem wfL_32 {x : List Nat} (hx : x.length = 32) (h : ∀ c ∈ x, c < 256) : wfL x 32 = (wdOf x).l := by
  show wfL x 32 = wdL x
  rw [wfL, wdL, seg_small hx h (by decide), seg_small hx h (by decide), seg_small hx h (by decide), seg_small hx h (by decide)]; rfl
theorem wfL_at {x : List Nat} {i : Nat} (hx : x.length = 32) (hi : i < 32) : (wfL x i).getD (i / 8) 0 = beV ((segN x (i / 8)).drop (8 - i % 8)) := by
  have e : ∀ j k k', j < 4 → k = k' → beV ((segN x j).drop k) = beV ((segN x j).drop k') := fun j k k' _ h => by rw [h]
  have : i / 8 = 0 ∨ i / 8 = 1 ∨ i / 8 = 2 ∨ i / 8 = 3 := by omega
  rcases this with h | h | h | h <;> rw [h] <;> simp [wfL, List.getD] <;> congr 2 <;> omega
theorem wfL_step {x : List Nat} {i c : Nat} (hx : x.length = 32) (h256 : ∀ c ∈ x, c < 256) (hi : i < 32) (hc : x[31 - i]? = some c) :
    (wfL x i).set (i / 8) ((wfL x i).getD (i / 8) 0 ||| c <<< (8 * (i % 8)) % 18446744073709551616) = wfL x (i + 1) := by
  rw [wfL_at hx hi]
  have hj : i / 8 < 4 := by omega
  have hsl := segN_len (j := i / 8) hx hj
  have hg : (segN x (i / 8))[7 - i % 8]? = some c := by rw [segN_get (by omega), ← hc]; congr 1; omega
  have hd : (segN x (i / 8)).drop (7 - i % 8) = c :: (segN x (i / 8)).drop (8 - i % 8) := by
    obtain ⟨h1, h2⟩ := List.getElem?_eq_some_iff.1 hg
    rw [List.drop_eq_getElem_cons h1, h2]; congr 2; omega
  have hl : ((segN x (i / 8)).drop (8 - i % 8)).length = i % 8 := by rw [List.length_drop, hsl]; omega
  have hlt := beV_lt ((segN x (i / 8)).drop (8 - i % 8)) fun c hc => segN_lt h256 c (List.mem_of_mem_drop hc)
  rw [hl] at hlt
  have hc2 := h256 c (List.mem_of_getElem? hc)
  have p256 : 256 ^ (i % 8) = 2 ^ (8 * (i % 8)) := by rw [Nat.pow_mul]
  have hv : (beV ((segN x (i / 8)).drop (8 - i % 8)) ||| c <<< (8 * (i % 8)) % 18446744073709551616) = beV ((segN x (i / 8)).drop (7 - i % 8)) := by
    rw [hd, beV_cons, hl, p256] 
    rw [p256] at hlt
    have hsh : c <<< (8 * (i % 8)) < 18446744073709551616 := by
      rw [Nat.shiftLeft_eq]
      have : (2 : Nat) ^ (8 * (i % 8)) ≤ 2 ^ 56 := Nat.pow_le_pow_right (by decide) (by omega)
      exact Nat.lt_of_lt_of_le ((Nat.mul_lt_mul_right (Nat.two_pow_pos _)).2 hc2) (Nat.le_trans (Nat.mul_le_mul_left _ this) (by decide))
    rw [Nat.mod_eq_of_lt hsh, Nat.or_comm, ← Nat.shiftLeft_add_eq_or_of_lt hlt, Nat.shiftLeft_eq]
  rw [hv]
  have none : ∀ j k k', j < 4 → 8 ≤ k → 8 ≤ k' → (segN x j).drop k = (segN x j).drop k' := fun j k k' hj hk hk' => by
    rw [List.drop_of_length_le (by rw [segN_len hx hj]; exact hk), List.drop_of_length_le (by rw [segN_len hx hj]; exact hk')]
  have cases4 : i / 8 = 0 ∨ i / 8 = 1 ∨ i / 8 = 2 ∨ i / 8 = 3 := by omega
  rcases cases4 with h | h | h | h <;> rw [h] <;> simp only [wfL]
  · have e1 : 7 - i % 8 = 8 - (i + 1) := by omega
    rw [e1, none 1 (16 - i) (16 - (i + 1)) (by decide) (by omega) (by omega), none 2 (24 - i) (24 - (i + 1)) (by decide) (by omega) (by omega), none 3 (32 - i) (32 - (i + 1)) (by decide) (by omega) (by omega)]; rfl
  · have e1 : 7 - i % 8 = 16 - (i + 1) := by omega
    have e2 : 8 - i = 8 - (i + 1) := by omega
    rw [e1, e2, none 2 (24 - i) (24 - (i + 1)) (by decide) (by omega) (by omega), none 3 (32 - i) (32 - (i + 1)) (by decide) (by omega) (by omega)]; rfl
  · have e1 : 7 - i % 8 = 24 - (i + 1) := by omega
    have e2 : 8 - i = 8 - (i + 1) := by omega
    have e3 : 16 - i = 16 - (i + 1) := by omega
    rw [e1, e2, e3, none 3 (32 - i) (32 - (i + 1)) (by decide) (by omega) (by omega)]; rfl
  · have e1 : 7 - i % 8 = 32 - (i + 1) := by omega
    have e2 : 8 - i = 8 - (i + 1) := by omega
    have e3 : 16 - i = 16 - (i + 1) := by omega
    have e4 : 24 - i = 24 - (i + 1) := by omega
    rw [e1, e2, e3, e4]; rfl
end Go.Proofs.Ytcaafoibabijgaa

/- Layer 03: wide numbers out of bytes, walked; the rest of the program's reader. -/
namespace Go.Proofs.Ytcaafoibabijgaa
open Go Go.Am
set_option maxRecDepth 100000
set_option linter.unusedVariables false

theorem ld_wV {w : Wd} {T : TypeId} {b : Bool} : aLoad Try.prog 55 (.cells (wC w) T b) 0 = some (wV w) := load_all ag55 sz55 (by simp)
theorem wfL_length (x : List Nat) (i : Nat) : (wfL x i).length = 4 := rfl
set_option maxHeartbeats 2000000 in
theorem c_wFrom (c o cap : Nat) (lb x : List Nat) (Tc : TypeId) (w : Bool) (H : AHeap) (hg : H.get c = .cells (ints .u8 lb) Tc w) (hx : x.length = 32) (hb : o + 32 ≤ lb.length) (ht : (lb.drop o).take 32 = x) (h256 : ∀ c ∈ x, c < 256) :
    CallR Try.prog noPrims 69 [.slice (some ⟨c, o, none⟩) 32 cap] H (fun u H' => u = .tuple ⟨[wV (wdOf x), .int .i64 ((0 : Nat) : Int)]⟩ ∧ Hp H 0 0 H' [] []) := by
  refine CallR.sy (n := 32) Try.func69 rfl rfl rfl ?_
  repeat' (first
    | (with_reducible refine Sy.seq ?_)
    | (with_reducible refine Sy.regionL ?_)
    | (with_reducible refine Sy.opsnil ?_)
    | (with_reducible refine Sy.go ?_)
    | (with_reducible refine Sy.nrm ?_)
    | ((with_reducible apply Sy.assign); exact rfl; exact rfl)
    | ((with_reducible apply Sy.move); exact rfl; exact rfl)
    | ((with_reducible apply Sy.lenS); exact rfl; exact Try.underlying23; exact rfl)
    | ((with_reducible apply Sy.bin (op := .neq) (t := 3)); exact rfl; exact rfl; exact rfl; exact b_neq)
    | ((with_reducible apply Sy.bin (op := .neq) (t := 3)); exact rfl; exact rfl; exact rfl; exact bz_neq)
    | ((with_reducible apply Sy.newY (o := ⟨some 2, .alloc 55, _, _, _, _⟩)); exact rfl; exact rfl; exact nwz55; intro q2)
    | (with_reducible refine Sy.skip ?_)
    | (with_reducible refine Sy.block ?_)
    | ((with_reducible apply Sy.no); exact rfl))
  refine Sy.loop (ι := Nat) (fun i => 32 - i) (fun i => [(0, .slice (some ⟨c, o, none⟩) 32 cap), (2, .pointer (some ⟨q2, 0, none⟩)), (10, .int .i64 (32 : Nat)), (11, .int .i64 (i : Nat))]) (fun _ => []) (fun i => [(q2, .cells (ints .u64 (wfL x i)) 55 true)]) (fun i => i ≤ 32) 0 (by omega) ⟨rfl, rfl, rfl, rfl, trivial⟩ (fun H h => by rw [wfL_0 hx]; exact h) ?_
  intro i hi
  have hfl := wfL_length x i
  by_cases hlt : i < 32
  · obtain ⟨y, hy⟩ : ∃ y, x[31 - i]? = some y := ⟨x[31 - i]'(by omega), List.getElem?_eq_getElem (by omega)⟩
    have hyl := h256 y (List.mem_of_getElem? hy)
    have hyv := getD_of (o := o) (by rw [hx]; exact ht) hy
    have hst := wfL_step hx h256 hlt hy
    have hwl : (wfL x i).getD (i / 8) 0 < 18446744073709551616 := by
      rw [wfL_at hx hlt]
      have h1 := beV_lt ((segN x (i / 8)).drop (8 - i % 8)) fun c hc => segN_lt h256 c (List.mem_of_mem_drop hc)
      refine Nat.lt_of_lt_of_le h1 (Nat.le_trans (Nat.pow_le_pow_right (by decide) (?_ : _ ≤ 8)) (by decide))
      have := segN_len (j := i / 8) hx (by omega)
      simp; omega
    generalize hW : wfL x i = W at *
    repeat' (first
    | (with_reducible refine Sy.seq ?_)
    | (with_reducible refine Sy.regionL ?_)
    | (with_reducible refine Sy.opsnil ?_)
    | (with_reducible refine Sy.go ?_)
    | (with_reducible refine Sy.nrm ?_)
    | ((with_reducible apply Sy.assign); exact rfl; exact rfl)
    | ((with_reducible apply Sy.move); exact rfl; exact rfl)
    | ((with_reducible apply Sy.ldN (t := 55)); exact rfl; exact rfl; exact hasT; (· first | exact ld_all ag55 (by first | exact sz55 | (simp [sz55, *]; done)) | exact ld_agg ag55 sz55 (by first | (simp; done) | (simp; omega)) (by first | with_reducible exact cut_kids | rfl | (simp [List.drop_append, List.take_append, List.getElem?_append, lay, hC_length, ints_length, ints_drop, ints_take, ints_append, List.drop_of_length_le, List.take_of_length_le, List.map_append, List.set_append, Value.cells]; done))))
    | ((with_reducible apply Sy.ld0 (t := 55)); exact rfl; exact rfl; (· with_reducible assumption); exact rfl; exact notM; (· first | exact ld_all ag55 (by first | exact sz55 | (simp [sz55, *]; done)) | exact ld_agg ag55 sz55 (by first | (simp; done) | (simp; omega)) (by first | with_reducible exact cut_kids | rfl | (simp [List.drop_append, List.take_append, List.getElem?_append, lay, hC_length, ints_length, ints_drop, ints_take, ints_append, List.drop_of_length_le, List.take_of_length_le, List.map_append, List.set_append, Value.cells]; done))))
    | ((with_reducible apply Sy.bin (op := .lss) (t := 3)); exact rfl; exact rfl; exact rfl; exact b_lss)
    | ((with_reducible apply Sy.bin (op := .lss) (t := 3)); exact rfl; exact rfl; exact rfl; exact bz_lss)
    | ((with_reducible apply Sy.bin (op := .quo) (t := 3)); exact rfl; exact rfl; exact rfl; exact (b_quo (by omega) (by omega)))
    | ((with_reducible apply Sy.ia (t := 55)); exact rfl; exact rfl; exact rfl; exact (ia_ar10 Try.underlying55 sz53 (by omega)))
    | ((with_reducible apply Sy.ia (t := 55)); exact rfl; exact rfl; exact rfl; exact (ia_ar1 Try.underlying55 sz53 (by omega)))
    | ((with_reducible apply Sy.ldN (t := 53)); exact rfl; exact rfl; exact hasT; (· first | ((with_reducible refine ld_int ag53 ?_); first | omega)))
    | ((with_reducible apply Sy.ld0 (t := 53)); exact rfl; exact rfl; (· with_reducible assumption); exact rfl; exact notM; (· first | ((with_reducible refine ld_int ag53 ?_); first | omega)))
    | ((with_reducible apply Sy.bin (op := .sub) (t := 3)); exact rfl; exact rfl; exact rfl; exact (b_sub (by omega) (by omega)))
    | ((with_reducible apply Sy.bin (op := .sub) (t := 3)); exact rfl; exact rfl; exact rfl; exact (bz_sub (by omega) (by omega)))
    | ((with_reducible apply Sy.ia (t := 23)); exact rfl; exact rfl; exact rfl; exact (ia_sl10 Try.underlying23 sz5 (by omega)))
    | ((with_reducible apply Sy.ia (t := 23)); exact rfl; exact rfl; exact rfl; exact (ia_sl1 Try.underlying23 sz5 (by omega)))
    | ((with_reducible apply Sy.ldN (t := 5)); exact rfl; exact rfl; exact hasT; (· first | ((with_reducible refine ld_int ag5 ?_); first | omega)))
    | ((with_reducible apply Sy.ld0 (t := 5)); exact rfl; exact rfl; (· with_reducible assumption); exact rfl; exact notM; (· first | ((with_reducible refine ld_int ag5 ?_); first | omega)))
    | ((with_reducible apply Sy.conv (D := 0) (T := .bool)); exact rfl; exact Try.underlying5; exact Try.underlying53; exact rfl; exact (wrap_u64x (by omega)))
    | ((with_reducible apply Sy.conv (D := 0) (T := .bool)); exact rfl; exact Try.underlying5; exact Try.underlying53; exact rfl; exact wrap_u64 _)
    | ((with_reducible apply Sy.bin (op := .rem) (t := 3)); exact rfl; exact rfl; exact rfl; exact (b_rem (by omega)))
    | ((with_reducible apply Sy.bin (op := .mul) (t := 3)); exact rfl; exact rfl; exact rfl; exact (b_mul (by omega)))
    | ((with_reducible apply Sy.bin (op := .shl) (t := 53)); exact rfl; exact rfl; exact rfl; exact (u64_shl (by omega)))
    | ((with_reducible apply Sy.bin (op := .or) (t := 53)); exact rfl; exact rfl; exact rfl; (· exact (u64_or (by first | with_reducible assumption | omega) (by first | with_reducible assumption | omega))))
    | ((with_reducible apply Sy.stN1 (t := 53)); exact rfl; exact rfl; exact sz53; (· first | exact rfl); (· first | exact rfl); exact turnT; (· first | (simp; omega)); (· first | with_reducible exact ints_set _ _ _ _))
    | ((with_reducible apply Sy.bin (op := .add) (t := 3)); exact rfl; exact rfl; exact rfl; exact (b_add (by omega)))
    | ((with_reducible apply Sy.bin (op := .add) (t := 3)); exact rfl; exact rfl; exact rfl; exact (bz_add (by omega) (by omega)))
    | (with_reducible refine Sy.skip ?_)
    | (with_reducible refine Sy.block ?_)
    | (with_reducible refine Sy.inrm ?_)
    | ((with_reducible apply Sy.drawL (id := 6) 17 [] (fun hi h => h < hi)); (case hp => kernel_rfl); (case hN => exact rfl); intro base hbase hM; try simp only [List.forall_mem_cons, List.forall_mem_append, List.not_mem_nil, false_implies, implies_true, and_true] at hM)
    | (with_reducible refine Sy.dend ?_)
    | ((with_reducible apply Sy.dgo); (· first | exact wantY_none); (· intro hcls; cases hcls); exact rfl; exact rfl)
    | ((with_reducible apply Sy.ite); (case hx => exact rfl); all_goals (intro hc; try (exfalso; omega))))
    refine Sy.rnrm (i + 1) (by omega) (by omega) ⟨rfl, rfl, rfl, rfl, trivial⟩ (fun H h => ?_)
    rw [← hst]; rw [hyv] at h; exact h
  · obtain rfl : i = 32 := by omega
    rw [wfL_32 hx h256]
    repeat' (first
    | (with_reducible refine Sy.seq ?_)
    | (with_reducible refine Sy.regionL ?_)
    | (with_reducible refine Sy.opsnil ?_)
    | (with_reducible refine Sy.go ?_)
    | (with_reducible refine Sy.nrm ?_)
    | ((with_reducible apply Sy.assign); exact rfl; exact rfl)
    | ((with_reducible apply Sy.ldN (t := 55)); exact rfl; exact rfl; exact hasT; (· first | exact ld_all ag55 (by first | exact sz55)))
    | ((with_reducible apply Sy.stNa (t := 55)); exact rfl; exact rfl; exact sz55; (· first | exact rfl | (simp; done)); (· first | exact oneL_ints _ _ | exact rfl); exact turnT; (· first | (simp; done)); (· first | exact lay_all (by first | (simp; done)) | exact rfl))
    | ((with_reducible apply Sy.bin (op := .lss) (t := 3)); exact rfl; exact rfl; exact rfl; exact b_lss)
    | ((with_reducible apply Sy.bin (op := .lss) (t := 3)); exact rfl; exact rfl; exact rfl; exact bz_lss)
    | ((with_reducible apply Sy.ldN (t := 53)); exact rfl; exact rfl; exact hasT; (· first | ((with_reducible refine ld_hash ag53 ?_); omega) | ((with_reducible refine ld_int ag53 ?_); first | omega | (simp; done) | (simp; omega)) | exact ld_one ag53 rfl | with_reducible assumption | exact ld_one ag53 (by with_reducible assumption) | exact ld_one ag53 (by simp [List.drop_append, List.take_append, List.getElem?_append, lay, hC_length, ints_length, ints_drop, ints_take, ints_append, List.drop_of_length_le, List.take_of_length_le, List.map_append, List.set_append, Value.cells]; done)))
    | ((with_reducible apply Sy.ldN (t := 5)); exact rfl; exact rfl; exact hasT; (· first | ((with_reducible refine ld_hash ag5 ?_); omega) | ((with_reducible refine ld_int ag5 ?_); first | omega | (simp; done) | (simp; omega)) | exact ld_one ag5 rfl | with_reducible assumption | exact ld_one ag5 (by with_reducible assumption) | exact ld_one ag5 (by simp [List.drop_append, List.take_append, List.getElem?_append, lay, hC_length, ints_length, ints_drop, ints_take, ints_append, List.drop_of_length_le, List.take_of_length_le, List.map_append, List.set_append, Value.cells]; done)))
    | (with_reducible refine Sy.exit ?_)
    | (with_reducible refine Sy.ret ?_)
    | (with_reducible refine Sy.aex ?_)
    | ((with_reducible apply Sy.iex); exact rfl)
    | (with_reducible refine Sy.rex ?_)
    | ((with_reducible apply Sy.no); exact rfl))
    exact .fin [_, _] (.inr rfl) ⟨⟨q2, 0, _, rfl, (by repeat (first | exact Has.here | apply Has.there | apply Has.app)), ld_wV⟩, rfl, trivial⟩ fun H' hp => ⟨rfl, hp.less (List.nil_sublist _)⟩

end Go.Proofs.Ytcaafoibabijgaa

/- Layer 03: the program's reader, what it reads. -/
namespace Go.Proofs.Ytcaafoibabijgaa
open Go Go.Am
set_option maxRecDepth 100000
set_option linter.unusedVariables false

/-- A block of bytes. -/
structure RdK (H : AHeap) (c : Nat) (lb : List Nat) : Prop where
  blk : lb ≠ [] → ∃ T w, H.get c = .cells (ints .u8 lb) T w
  lt : ∀ x ∈ lb, x < 256
  len : lb.length ≤ 140737488355328
/-- A reader at a block. -/
structure RdAt (H : AHeap) (p c : Nat) (lb : List Nat) (r : Rd) (v : Value) : Prop where
  obj : H.get p = .cells (rdC v r.e) 127 true
  vw : Vw c lb v r.l
  k : RdK H c lb
theorem Vw.le {c : Nat} {lb l : List Nat} {v : Value} (h : Vw c lb v l) : l.length ≤ lb.length := by
  rcases h with ⟨_, rfl⟩ | ⟨o, cap, _, h, _⟩
  · simp
  · omega
theorem RdAt.len {H : AHeap} {p c : Nat} {lb : List Nat} {r : Rd} {v : Value} (h : RdAt H p c lb r v) : r.l.length ≤ 4611686018427387904 := by have := h.vw.le; have := h.k.len; omega
theorem RdAt.lt {H : AHeap} {p c : Nat} {lb : List Nat} {r : Rd} {v : Value} (h : RdAt H p c lb r v) : p < H.next := get_live_lt (by rw [h.obj]; rfl)
theorem RdAt.blk {H : AHeap} {p c : Nat} {lb : List Nat} {r : Rd} {v : Value} (h : RdAt H p c lb r v) (hl : r.l ≠ []) : ∃ T w, H.get c = .cells (ints .u8 lb) T w := h.k.blk fun e => by
  have := h.vw.le
  rw [e] at this
  exact hl (List.length_eq_zero_iff.1 (by simpa using this))
theorem RdAt.ne {H : AHeap} {p c : Nat} {lb : List Nat} {r : Rd} {v : Value} (h : RdAt H p c lb r v) (hl : lb ≠ []) : p ≠ c := fun e => by
  obtain ⟨T, w, hg⟩ := h.k.blk hl
  subst e
  rw [h.obj] at hg
  injection hg with h1 _ _
  exact ints_noB h1.symm
/-- An old reader, later. -/
theorem RdAt.o1 {H0 H : AHeap} {lo hi p c : Nat} {Mn : Hm} {lb : List Nat} {r0 r : Rd} {v0 v : Value} (h0 : RdAt H0 p c lb r0 v0) (hp : Hp H0 lo hi H [(p, .cells (rdC v r.e) 127 true)] Mn) (hv : Vw c lb v r.l) : RdAt H p c lb r v :=
  ⟨hp.getO .here, hv, fun hl => by
    obtain ⟨T, w, hg⟩ := h0.k.blk hl
    exact ⟨T, w, hp.get0 hg rfl (by simpa using h0.ne hl)⟩, h0.k.lt, h0.k.len⟩
theorem RdAt.of {H0 H : AHeap} {lo hi p c : Nat} {Mo Mn : Hm} {lb : List Nat} {r : Rd} {v : Value} (h0 : RdAt H0 p c lb r v) (hp : Hp H0 lo hi H Mo Mn) (hn : ∀ q ∈ Mo, q.1 ≠ p ∧ q.1 ≠ c) : RdAt H p c lb r v :=
  ⟨hp.get0 h0.obj rfl fun q hq => (hn q hq).1, h0.vw, fun hl => by
    obtain ⟨T, w, hg⟩ := h0.k.blk hl
    exact ⟨T, w, hp.get0 hg rfl fun q hq => (hn q hq).2⟩, h0.k.lt, h0.k.len⟩
/-- A new one. -/
theorem RdAt.n1 {H0 H : AHeap} {lo hi p c : Nat} {Mo Mn : Hm} {lb : List Nat} {r : Rd} {v : Value} {T : TypeId} {w : Bool} (hp : Hp H0 lo hi H Mo Mn) (hm : Has Mn p (.cells (rdC v r.e) 127 true)) (hv : Vw c lb v r.l) (hb : lb ≠ [] → Has Mn c (.cells (ints .u8 lb) T w)) (lt : ∀ x ∈ lb, x < 256) (len : lb.length ≤ 140737488355328) : RdAt H p c lb r v :=
  ⟨hp.getN hm, hv, fun hl => ⟨T, w, hp.getN (hb hl)⟩, lt, len⟩

theorem k_rdUint {p c : Nat} {lb : List Nat} {r : Rd} {v : Value} {H : AHeap} (h : RdAt H p c lb r v) :
    CallR Try.prog noPrims 53 [.pointer (some ⟨p, 0, none⟩)] H (fun u H' => ∃ v' : Value, Vw c lb v' (r.next 8).l ∧ u = .int .u64 ((rdU r : Nat) : Int) ∧ Hp H 0 0 H' [(p, .cells (rdC v' (r.next 8).e) 127 true)] []) := by
  by_cases hl : r.l = []
  · exact c_rdUint p c lb r v 0 true H h.obj h.vw (fun x => absurd hl x) h.k.lt h.len
  · obtain ⟨T, w, hg⟩ := h.blk hl
    exact c_rdUint p c lb r v T w H h.obj h.vw (fun _ => hg) h.k.lt h.len

def rdW (r : Rd) : Wd := wdOf (r.got 32)
theorem zeros_lt (n : Nat) : ∀ x ∈ List.replicate n 0, x < 256 := fun x hx => by rw [List.eq_of_mem_replicate hx]; decide
theorem next_ok {l : List Nat} {k : Nat} (h : k ≤ l.length) : (⟨l, 0⟩ : Rd).next k = ⟨l.drop k, 0⟩ := by rw [Rd.next, if_pos ⟨rfl, h⟩]
theorem next_bad {l : List Nat} {e k : Nat} (h : ¬ (e = 0 ∧ k ≤ l.length)) : (⟨l, e⟩ : Rd).next k = ⟨l, if e = 0 then 20 else e⟩ := by rw [Rd.next, if_neg (show ¬ (⟨l, e⟩ : Rd).ok k from h)]; rfl
theorem got_ok {l : List Nat} {k : Nat} (h : k ≤ l.length) : (⟨l, 0⟩ : Rd).got k = l.take k := by rw [Rd.got, if_pos ⟨rfl, h⟩]
theorem got_bad {l : List Nat} {e k : Nat} (h : ¬ (e = 0 ∧ k ≤ l.length)) : (⟨l, e⟩ : Rd).got k = List.replicate k 0 := by rw [Rd.got, if_neg (show ¬ (⟨l, e⟩ : Rd).ok k from h)]

set_option maxHeartbeats 1000000 in
theorem k_rdWide {p c : Nat} {lb : List Nat} {r : Rd} {v : Value} {H : AHeap} (h : RdAt H p c lb r v) :
    CallR Try.prog noPrims 64 [.pointer (some ⟨p, 0, none⟩)] H (fun u H' => ∃ v' : Value, Vw c lb v' (r.next 32).l ∧ u = wV (rdW r) ∧ Hp H 0 0 H' [(p, .cells (rdC v' (r.next 32).e) 127 true)] []) := by
  have hlen := h.len
  have hplt := h.lt
  obtain ⟨l, e⟩ := r
  have hp0 := h.obj
  dsimp only at hp0 hlen
  by_cases hok : e = 0 ∧ 32 ≤ l.length
  · obtain ⟨rfl, h8⟩ := hok
    rw [next_ok h8, rdW, got_ok h8]
    obtain ⟨Tc, wc, hgc⟩ := h.blk (fun h => by dsimp only at h; rw [h] at h8; simp at h8)
    refine CallR.sy (n := 12) Try.func64 rfl rfl rfl ?_
    repeat' (first
    | (with_reducible refine Sy.seq ?_)
    | (with_reducible refine Sy.regionL ?_)
    | (with_reducible refine Sy.opsnil ?_)
    | (with_reducible refine Sy.go ?_)
    | (with_reducible refine Sy.nrm ?_)
    | ((with_reducible apply Sy.move); exact rfl; exact rfl)
    | ((with_reducible apply Sy.callTX (k := 62)); exact rfl; exact rfl; exact en62; exact rfl; (case hc => intro H' hp; exact c_take_ok p c 32 lb l v H' (hp.get0 hp0 rfl (by simp)) h.vw h8 hlen); exact hplt; exact notM; rintro ⟨u, v2⟩ ⟨hu, hv2⟩)
    | ((with_reducible apply Sy.newY (o := ⟨some 2, .alloc 55, _, _, _, _⟩)); exact rfl; exact rfl; exact nwz55; intro q2)
    | ((with_reducible apply Sy.newY (o := ⟨some 3, .alloc 55, _, _, _, _⟩)); exact rfl; exact rfl; exact nwz55; intro q3))
    dsimp only at hu hv2 ⊢
    have hl32 : (l.take 32).length = 32 := by simp; omega
    rcases hu with ⟨_, h0⟩ | ⟨o, cap, rfl, hob, hot⟩
    · rw [h0] at hl32; simp at hl32
    have h256t : ∀ x ∈ l.take 32, x < 256 := fun x hx => h.vw.lt h.k.lt x (List.mem_of_mem_take hx)
    have hpc : p ≠ c := fun e => by
      subst e; rw [hp0] at hgc; injection hgc with h1 _ _; exact ints_noB h1.symm
    generalize l.take 32 = x at *
    rw [hl32] at hob hot ⊢
    repeat' (first
    | (with_reducible refine Sy.seq ?_)
    | (with_reducible refine Sy.regionL ?_)
    | (with_reducible refine Sy.opsnil ?_)
    | (with_reducible refine Sy.go ?_)
    | (with_reducible refine Sy.nrm ?_)
    | ((with_reducible apply Sy.move); exact rfl; exact rfl)
    | ((with_reducible apply Sy.ext); exact rfl; exact rfl; exact rfl)
    | ((with_reducible apply Sy.stNa (t := 55)); exact rfl; exact rfl; exact sz55; (· first | exact rfl | (simp; done)); (· first | exact oneL_ints _ _ | exact rfl); exact turnT; (· first | (simp; done)); (· first | exact lay_all (by first | (simp; done)) | exact rfl))
    | ((with_reducible apply Sy.assign); exact rfl; exact rfl)
    | ((with_reducible apply Sy.ldN (t := 55)); exact rfl; exact rfl; exact hasT; (· first | exact ld_all ag55 (by first | exact sz55)))
    | ((with_reducible apply Sy.call0 (k := 69)); exact rfl; exact rfl; exact en69; exact rfl; (intro H' hp; exact c_wFrom c o cap lb x Tc wc H' (hp.get0 hgc rfl (by simpa using hpc)) hl32 hob hot h256t))
    | ((with_reducible apply Sy.newY (o := ⟨some 2, .alloc 55, _, _, _, _⟩)); exact rfl; exact rfl; exact nwz55; intro q2)
    | ((with_reducible apply Sy.newY (o := ⟨some 3, .alloc 55, _, _, _, _⟩)); exact rfl; exact rfl; exact nwz55; intro q3)
    | (with_reducible refine Sy.ret ?_))
    exact .fin [_] (.inr rfl) ⟨⟨q2, 0, _, rfl, (by repeat (first | exact Has.here | apply Has.there | apply Has.app)), ld_wV⟩, trivial⟩ fun H' hp => ⟨v2, hv2, rfl, hp.less (List.nil_sublist _)⟩
  · rw [next_bad hok, rdW, got_bad hok]
    have hbad : e ≠ 0 ∨ l.length < 32 := by omega
    obtain ⟨a, cap, rfl⟩ := h.vw.slice
    refine CallR.sy (n := 12) Try.func64 rfl rfl rfl ?_
    repeat' (first
    | (with_reducible refine Sy.seq ?_)
    | (with_reducible refine Sy.regionL ?_)
    | (with_reducible refine Sy.opsnil ?_)
    | (with_reducible refine Sy.go ?_)
    | (with_reducible refine Sy.nrm ?_)
    | ((with_reducible apply Sy.move); exact rfl; exact rfl)
    | ((with_reducible apply Sy.ext); exact rfl; exact rfl; exact rfl)
    | ((with_reducible apply Sy.stNa (t := 55)); exact rfl; exact rfl; exact sz55; (· first | exact rfl | (simp; done)); (· first | exact oneL_ints _ _ | exact rfl); exact turnT; (· first | (simp; done)); (· first | exact lay_all (by first | (simp; done)) | exact rfl))
    | ((with_reducible apply Sy.assign); exact rfl; exact rfl)
    | ((with_reducible apply Sy.ldN (t := 55)); exact rfl; exact rfl; exact hasT; (· first | exact ld_all ag55 (by first | exact sz55)))
    | ((with_reducible apply Sy.callTX (k := 62)); exact rfl; exact rfl; exact en62; exact rfl; (case hc => intro H' hp; exact c_take_bad p 32 e l _ a cap H' (hp.get0 hp0 rfl (by simp)) rfl hbad (by decide) hlen); exact hplt; exact notM; rintro b -)
    | ((with_reducible apply Sy.call0 (k := 69)); exact rfl; exact rfl; exact en69; exact rfl; (intro H' hp; exact c_wFrom b 0 32 (List.replicate 32 0) (List.replicate 32 0) _ true H' (hp.getN hasT) (by simp) (by simp) (by simp) (zeros_lt 32)))
    | ((with_reducible apply Sy.newY (o := ⟨some 2, .alloc 55, _, _, _, _⟩)); exact rfl; exact rfl; exact nwz55; intro q2)
    | ((with_reducible apply Sy.newY (o := ⟨some 3, .alloc 55, _, _, _, _⟩)); exact rfl; exact rfl; exact nwz55; intro q3)
    | (with_reducible refine Sy.ret ?_))
    exact .fin [_] (.inr rfl) ⟨⟨q2, 0, _, rfl, (by repeat (first | exact Has.here | apply Has.there | apply Has.app)), ld_wV⟩, trivial⟩ fun H' hp => ⟨_, h.vw, rfl, hp.less (List.nil_sublist _)⟩

/-- What Count and Blob read. -/
def rdCnt (most : Nat) (r : Rd) : Nat × Rd := if (r.next 8).e = 0 ∧ most < rdU r then (0, ⟨r.l, 21⟩) else if (r.next 8).e ≠ 0 then (0, ⟨r.l, (r.next 8).e⟩) else (rdU r, r.next 8)
def rdBlob (r : Rd) : List Nat × Rd := if (r.next 8).e = 0 ∧ 65536 < rdU r then ([], ⟨r.l, 21⟩) else if (r.next 8).e ≠ 0 then ([], ⟨r.l, (r.next 8).e⟩) else if rdU r ≤ (r.next 8).l.length then ((r.next 8).l.take (rdU r), ⟨(r.next 8).l.drop (rdU r), 0⟩) else ([], ⟨r.l, 20⟩)
theorem rdU_lt {r : Rd} (h : ∀ x ∈ r.l, x < 256) : rdU r < 18446744073709551616 := by
  unfold rdU Rd.got
  split
  · rename_i hok
    have h1 := beV_lt (r.l.take 8) fun c hc => h c (List.mem_of_mem_take hc)
    have h2 : (r.l.take 8).length ≤ 8 := by simp; omega
    exact Nat.lt_of_lt_of_le h1 (Nat.le_trans (Nat.pow_le_pow_right (by decide) h2) (by decide))
  · rw [beV_zero]; decide
set_option maxHeartbeats 1000000 in
theorem k_countF {p c most : Nat} {lb : List Nat} {r : Rd} {v : Value} {H : AHeap} (h : RdAt H p c lb r v) (hm : most < 9223372036854775808) :
    CallR Try.prog noPrims 63 [.pointer (some ⟨p, 0, none⟩), .int .i64 (most : Nat), .bool false] H (fun u H' => ∃ v' : Value, Vw c lb v' (rdCnt most r).2.l ∧ u = .tuple ⟨[.int .i64 (((rdCnt most r).1 : Nat) : Int), .slice none 0 0]⟩ ∧ Hp H 0 0 H' [(p, .cells (rdC v' (rdCnt most r).2.e) 127 true)] []) := by
  have hlen := h.len
  have hplt := h.lt
  have hp0 := h.obj
  have hU := rdU_lt (r := r) (h.vw.lt h.k.lt)
  have hvw := h.vw
  obtain ⟨a, cap, rfl⟩ := hvw.slice
  refine CallR.sy (n := 82) Try.func63 rfl rfl rfl ?_
  repeat' (first
    | (with_reducible refine Sy.seq ?_)
    | (with_reducible refine Sy.regionL ?_)
    | (with_reducible refine Sy.opsnil ?_)
    | (with_reducible refine Sy.go ?_)
    | (with_reducible refine Sy.nrm ?_)
    | ((with_reducible apply Sy.assign); exact rfl; exact rfl)
    | ((with_reducible apply Sy.move); exact rfl; exact rfl)
    | ((with_reducible apply Sy.bin (op := .eql) (t := 114)); exact rfl; exact rfl; exact rfl; exact p_eq0 kd114)
    | ((with_reducible apply Sy.bin (op := .eql) (t := 114)); exact rfl; exact rfl; exact rfl; exact p_eq1 kd114)
    | ((with_reducible apply Sy.bin (op := .eql) (t := 114)); exact rfl; exact rfl; exact rfl; exact p_eq2 kd114)
    | ((with_reducible apply Sy.nilC); exact rfl; exact rfl; exact rfl)
    | ((with_reducible apply Sy.fa (t := 127) (i := 0)); exact rfl; exact rfl; exact fa127_0 _ _)
    | ((with_reducible apply Sy.fa (t := 124) (i := 0)); exact rfl; exact rfl; exact fa124_0 _ _)
    | ((with_reducible apply Sy.ldO (t := 23)); exact rfl; exact rfl; exact hasT; (· first | exact ld_one ag23 rfl))
    | ((with_reducible apply Sy.ld0 (t := 23)); exact rfl; exact rfl; (· with_reducible assumption); exact rfl; exact notM; (· first | exact ld_one ag23 rfl))
    | ((with_reducible apply Sy.fa (t := 124) (i := 2)); exact rfl; exact rfl; exact fa124_2 _ _)
    | ((with_reducible apply Sy.ldO (t := 27)); exact rfl; exact rfl; exact hasT; (· first | exact ld_one ag27 rfl))
    | ((with_reducible apply Sy.ld0 (t := 27)); exact rfl; exact rfl; (· with_reducible assumption); exact rfl; exact notM; (· first | exact ld_one ag27 rfl))
    | ((with_reducible apply Sy.bin (op := .eql) (t := 27)); exact rfl; exact rfl; exact rfl; exact b_eql)
    | ((with_reducible apply Sy.bin (op := .eql) (t := 27)); exact rfl; exact rfl; exact rfl; exact bz_eql)
    | ((with_reducible apply Sy.bin (op := .lss) (t := 3)); exact rfl; exact rfl; exact rfl; exact b_lss)
    | ((with_reducible apply Sy.bin (op := .lss) (t := 3)); exact rfl; exact rfl; exact rfl; exact bz_lss)
    | ((with_reducible apply Sy.conv (D := 0) (T := .bool)); exact rfl; exact Try.underlying3; exact Try.underlying53; exact rfl; exact (wrap_u64x (by omega)))
    | ((with_reducible apply Sy.conv (D := 0) (T := .bool)); exact rfl; exact Try.underlying3; exact Try.underlying53; exact rfl; exact wrap_u64 _)
    | ((with_reducible apply Sy.bin (op := .gtr) (t := 53)); exact rfl; exact rfl; exact rfl; exact b_gtr)
    | ((with_reducible apply Sy.bin (op := .gtr) (t := 53)); exact rfl; exact rfl; exact rfl; exact bz_gtr)
    | ((with_reducible apply Sy.pickT); exact rfl; exact rfl; exact rfl)
    | ((with_reducible apply Sy.pickF); exact rfl; exact rfl; exact rfl)
    | ((with_reducible apply Sy.stO1 (t := 27)); exact rfl; exact rfl; exact sz27; (· first | exact rfl); (· first | exact rfl); exact turnT; (· first | (simp; done)); (· first | rfl))
    | ((with_reducible apply Sy.fa (t := 124) (i := 1)); exact rfl; exact rfl; exact fa124_1 _ _)
    | ((with_reducible apply Sy.ldO (t := 4)); exact rfl; exact rfl; exact hasT; (· first | exact ld_one ag4 rfl))
    | ((with_reducible apply Sy.ld0 (t := 4)); exact rfl; exact rfl; (· with_reducible assumption); exact rfl; exact notM; (· first | exact ld_one ag4 rfl))
    | ((with_reducible apply Sy.conv (D := 0) (T := .bool)); exact rfl; exact Try.underlying53; exact Try.underlying3; exact rfl; exact (wrap_i64 (by omega)))
    | ((with_reducible apply Sy.conv (D := 0) (T := .bool)); exact rfl; exact Try.underlying53; exact Try.underlying3; exact rfl; exact (wrap_i64z (by omega) (by omega)))
    | ((with_reducible apply Sy.bin (op := .neq) (t := 27)); exact rfl; exact rfl; exact rfl; exact b_neq)
    | ((with_reducible apply Sy.bin (op := .neq) (t := 27)); exact rfl; exact rfl; exact rfl; exact bz_neq)
    | ((with_reducible apply Sy.un (op := .not)); exact rfl; exact rfl; exact un_notT)
    | ((with_reducible apply Sy.un (op := .not)); exact rfl; exact rfl; exact un_notF)
    | ((with_reducible apply Sy.un (op := .not)); exact rfl; exact rfl; exact un_notD)
    | ((with_reducible apply Sy.un (op := .not)); exact rfl; exact rfl; exact un_not)
    | ((with_reducible apply Sy.stO1 (t := 23)); exact rfl; exact rfl; exact sz23; (· first | exact rfl); (· first | exact rfl); exact turnT; (· first | (simp; done)); (· first | rfl))
    | ((with_reducible apply Sy.callTX (k := 53)); exact rfl; exact rfl; exact en53; exact rfl; (case hc => intro H' hp; exact k_rdUint (h.of hp (by simp))); exact hplt; exact notM; rintro v2 hv2)
    | (with_reducible refine Sy.skip ?_)
    | (with_reducible refine Sy.ret ?_)
    | (with_reducible refine Sy.aret ?_)
    | ((with_reducible apply Sy.yes); exact rfl)
    | ((with_reducible apply Sy.no); exact rfl)
    | ((with_reducible apply Sy.goG); exact rfl; exact rfl; exact rfl)
    | ((with_reducible apply Sy.noG); exact rfl; exact rfl; exact rfl; exact rfl; exact rfl)
    | ((with_reducible apply Sy.noGu); exact rfl; exact rfl; exact rfl)
    | ((with_reducible apply Sy.caseG); (case hj => exact rfl); (case hx => exact rfl); all_goals (intro hc; try (exfalso; omega)))
    | ((with_reducible apply Sy.ite); (case hx => exact rfl); all_goals (intro hc; try (exfalso; omega))))
  · rename_i hc0
    have e : rdCnt most r = (0, ⟨r.l, 21⟩) := by rw [rdCnt, if_pos ⟨hc0, hc⟩]
    rw [e]
    exact .fin [_, _] (.inr rfl) ⟨rfl, rfl, trivial⟩ fun H' hp => ⟨_, hvw, rfl, hp⟩
  · rename_i hc1 hc0
    have e : rdCnt most r = (rdU r, r.next 8) := by rw [rdCnt, if_neg (by omega), if_neg (by omega)]
    rw [e]
    exact .fin [_, _] (.inr rfl) ⟨rfl, rfl, trivial⟩ fun H' hp => ⟨v2, hv2, rfl, hp⟩
  · have e : rdCnt most r = (0, ⟨r.l, (r.next 8).e⟩) := by rw [rdCnt, if_neg (by omega), if_pos hc]
    rw [e]
    exact .fin [_, _] (.inr rfl) ⟨rfl, rfl, trivial⟩ fun H' hp => ⟨_, hvw, rfl, hp⟩
theorem k_rdCount {p c most : Nat} {lb : List Nat} {r : Rd} {v : Value} {H : AHeap} (h : RdAt H p c lb r v) (hm : most < 9223372036854775808) :
    CallR Try.prog noPrims 54 [.pointer (some ⟨p, 0, none⟩), .int .i64 (most : Nat)] H (fun u H' => ∃ v' : Value, Vw c lb v' (rdCnt most r).2.l ∧ u = .int .i64 (((rdCnt most r).1 : Nat) : Int) ∧ Hp H 0 0 H' [(p, .cells (rdC v' (rdCnt most r).2.e) 127 true)] []) := by
  have hplt := h.lt
  refine CallR.sy (n := 14) Try.func54 rfl rfl rfl ?_
  repeat' (first
    | (with_reducible refine Sy.seq ?_)
    | (with_reducible refine Sy.regionL ?_)
    | (with_reducible refine Sy.opsnil ?_)
    | (with_reducible refine Sy.go ?_)
    | (with_reducible refine Sy.nrm ?_)
    | ((with_reducible apply Sy.assign); exact rfl; exact rfl)
    | ((with_reducible apply Sy.move); exact rfl; exact rfl)
    | ((with_reducible apply Sy.ext); exact rfl; exact rfl; exact rfl)
    | ((with_reducible apply Sy.callTX (k := 63)); exact rfl; exact rfl; exact en63; exact rfl; (case hc => intro H' hp; exact k_countF (h.of hp (by simp)) hm); exact hplt; exact notM; rintro v2 hv2)
    | (with_reducible refine Sy.ret ?_))
  exact .fin [_] (.inr rfl) ⟨rfl, trivial⟩ fun H' hp => ⟨v2, hv2, rfl, hp⟩
theorem next_len {r : Rd} {k : Nat} : (r.next k).l.length ≤ r.l.length := by
  unfold Rd.next; split
  · simp
  · exact Nat.le_refl _
set_option maxHeartbeats 1000000 in
theorem k_countT {p c : Nat} {lb : List Nat} {r : Rd} {v : Value} {H : AHeap} (h : RdAt H p c lb r v) :
    CallR Try.prog noPrims 63 [.pointer (some ⟨p, 0, none⟩), .int .i64 ((65536 : Nat) : Int), .bool true] H (fun u H' => ∃ i : Value × Value × Nat, (Vw c lb i.1 (rdBlob r).2.l ∧ Vw c lb i.2.1 (rdBlob r).1) ∧ u = .tuple ⟨[.int .i64 ((i.2.2 : Nat) : Int), i.2.1]⟩ ∧ Hp H 0 0 H' [(p, .cells (rdC i.1 (rdBlob r).2.e) 127 true)] []) := by
  have hlen := h.len
  have hplt := h.lt
  have hp0 := h.obj
  have hU := rdU_lt (r := r) (h.vw.lt h.k.lt)
  have hvw := h.vw
  have hnl := next_len (r := r) (k := 8)
  obtain ⟨a, cap, rfl⟩ := hvw.slice
  refine CallR.sy (n := 82) Try.func63 rfl rfl rfl ?_
  repeat' (first
    | (with_reducible refine Sy.seq ?_)
    | (with_reducible refine Sy.regionL ?_)
    | (with_reducible refine Sy.opsnil ?_)
    | (with_reducible refine Sy.go ?_)
    | (with_reducible refine Sy.nrm ?_)
    | ((with_reducible apply Sy.assign); exact rfl; exact rfl)
    | ((with_reducible apply Sy.move); exact rfl; exact rfl)
    | ((with_reducible apply Sy.bin (op := .eql) (t := 114)); exact rfl; exact rfl; exact rfl; exact p_eq0 kd114)
    | ((with_reducible apply Sy.bin (op := .eql) (t := 114)); exact rfl; exact rfl; exact rfl; exact p_eq1 kd114)
    | ((with_reducible apply Sy.bin (op := .eql) (t := 114)); exact rfl; exact rfl; exact rfl; exact p_eq2 kd114)
    | ((with_reducible apply Sy.nilC); exact rfl; exact rfl; exact rfl)
    | ((with_reducible apply Sy.fa (t := 127) (i := 0)); exact rfl; exact rfl; exact fa127_0 _ _)
    | ((with_reducible apply Sy.fa (t := 124) (i := 0)); exact rfl; exact rfl; exact fa124_0 _ _)
    | ((with_reducible apply Sy.ldO (t := 23)); exact rfl; exact rfl; exact hasT; (· first | exact ld_one ag23 rfl))
    | ((with_reducible apply Sy.ld0 (t := 23)); exact rfl; exact rfl; (· with_reducible assumption); exact rfl; exact notM; (· first | exact ld_one ag23 rfl))
    | ((with_reducible apply Sy.fa (t := 124) (i := 2)); exact rfl; exact rfl; exact fa124_2 _ _)
    | ((with_reducible apply Sy.ldO (t := 27)); exact rfl; exact rfl; exact hasT; (· first | exact ld_one ag27 rfl))
    | ((with_reducible apply Sy.ld0 (t := 27)); exact rfl; exact rfl; (· with_reducible assumption); exact rfl; exact notM; (· first | exact ld_one ag27 rfl))
    | ((with_reducible apply Sy.bin (op := .eql) (t := 27)); exact rfl; exact rfl; exact rfl; exact b_eql)
    | ((with_reducible apply Sy.bin (op := .eql) (t := 27)); exact rfl; exact rfl; exact rfl; exact bz_eql)
    | ((with_reducible apply Sy.bin (op := .lss) (t := 3)); exact rfl; exact rfl; exact rfl; exact b_lss)
    | ((with_reducible apply Sy.bin (op := .lss) (t := 3)); exact rfl; exact rfl; exact rfl; exact bz_lss)
    | ((with_reducible apply Sy.conv (D := 0) (T := .bool)); exact rfl; exact Try.underlying3; exact Try.underlying53; exact rfl; exact (wrap_u64x (by omega)))
    | ((with_reducible apply Sy.conv (D := 0) (T := .bool)); exact rfl; exact Try.underlying3; exact Try.underlying53; exact rfl; exact wrap_u64 _)
    | ((with_reducible apply Sy.bin (op := .gtr) (t := 53)); exact rfl; exact rfl; exact rfl; exact b_gtr)
    | ((with_reducible apply Sy.bin (op := .gtr) (t := 53)); exact rfl; exact rfl; exact rfl; exact bz_gtr)
    | ((with_reducible apply Sy.pickT); exact rfl; exact rfl; exact rfl)
    | ((with_reducible apply Sy.pickF); exact rfl; exact rfl; exact rfl)
    | ((with_reducible apply Sy.stO1 (t := 27)); exact rfl; exact rfl; exact sz27; (· first | exact rfl); (· first | exact rfl); exact turnT; (· first | (simp; done)); (· first | rfl))
    | ((with_reducible apply Sy.fa (t := 124) (i := 1)); exact rfl; exact rfl; exact fa124_1 _ _)
    | ((with_reducible apply Sy.ldO (t := 4)); exact rfl; exact rfl; exact hasT; (· first | exact ld_one ag4 rfl))
    | ((with_reducible apply Sy.ld0 (t := 4)); exact rfl; exact rfl; (· with_reducible assumption); exact rfl; exact notM; (· first | exact ld_one ag4 rfl))
    | ((with_reducible apply Sy.conv (D := 0) (T := .bool)); exact rfl; exact Try.underlying53; exact Try.underlying3; exact rfl; exact (wrap_i64 (by omega)))
    | ((with_reducible apply Sy.conv (D := 0) (T := .bool)); exact rfl; exact Try.underlying53; exact Try.underlying3; exact rfl; exact (wrap_i64z (by omega) (by omega)))
    | ((with_reducible apply Sy.bin (op := .neq) (t := 27)); exact rfl; exact rfl; exact rfl; exact b_neq)
    | ((with_reducible apply Sy.bin (op := .neq) (t := 27)); exact rfl; exact rfl; exact rfl; exact bz_neq)
    | ((with_reducible apply Sy.stO1 (t := 23)); exact rfl; exact rfl; exact sz23; (· first | exact rfl); (· first | exact rfl); exact turnT; (· first | (simp; done)); (· first | rfl))
    | ((with_reducible apply Sy.callTX (k := 53)); exact rfl; exact rfl; exact en53; exact rfl; (case hc => intro H' hp; exact k_rdUint (h.of hp (by simp))); exact hplt; exact notM; rintro v2 hv2)
    | (with_reducible refine Sy.skip ?_)
    | (with_reducible refine Sy.ret ?_)
    | (with_reducible refine Sy.aret ?_)
    | ((with_reducible apply Sy.yes); exact rfl)
    | ((with_reducible apply Sy.no); exact rfl)
    | ((with_reducible apply Sy.goG); exact rfl; exact rfl; exact rfl)
    | ((with_reducible apply Sy.noG); exact rfl; exact rfl; exact rfl; exact rfl; exact rfl)
    | ((with_reducible apply Sy.noGu); exact rfl; exact rfl; exact rfl)
    | ((with_reducible apply Sy.caseG); (case hj => exact rfl); (case hx => exact rfl); all_goals (intro hc; try (exfalso; omega)))
    | ((with_reducible apply Sy.ite); (case hx => exact rfl); all_goals (intro hc; try (exfalso; omega))))
  · rename_i hc0
    have e : rdBlob r = ([], ⟨r.l, 21⟩) := by rw [rdBlob, if_pos ⟨hc0, hc⟩]
    rw [e]
    exact .fin [_, _] (.inr rfl) ⟨rfl, rfl, trivial⟩ fun H' hp => ⟨(_, _, 0), ⟨hvw, .inl ⟨rfl, rfl⟩⟩, rfl, hp⟩
  · rename_i hc1 hc0
    have h2 : ∀ {H' : AHeap} {lo hi : Nat} {Mn : Hm}, Hp H lo hi H' [(p, .cells (rdC v2 (r.next 8).e) 127 true)] Mn → H'.get p = .cells (rdC v2 0) 127 true := fun hp => by have := hp.getO .here; rwa [hc] at this
    by_cases hfit : rdU r ≤ (r.next 8).l.length
    · have e : rdBlob r = ((r.next 8).l.take (rdU r), ⟨(r.next 8).l.drop (rdU r), 0⟩) := by rw [rdBlob, if_neg (by omega), if_neg (by omega), if_pos hfit]
      rw [e]
      repeat' (first
    | (with_reducible refine Sy.seq ?_)
    | (with_reducible refine Sy.regionL ?_)
    | (with_reducible refine Sy.opsnil ?_)
    | (with_reducible refine Sy.go ?_)
    | (with_reducible refine Sy.nrm ?_)
    | ((with_reducible apply Sy.assign); exact rfl; exact rfl)
    | ((with_reducible apply Sy.move); exact rfl; exact rfl)
    | ((with_reducible apply Sy.nilC); exact rfl; exact rfl; exact rfl)
    | ((with_reducible apply Sy.fa (t := 127) (i := 0)); exact rfl; exact rfl; exact fa127_0 _ _)
    | ((with_reducible apply Sy.fa (t := 124) (i := 0)); exact rfl; exact rfl; exact fa124_0 _ _)
    | ((with_reducible apply Sy.ldO (t := 23)); exact rfl; exact rfl; exact hasT; (· first | exact ld_one ag23 rfl))
    | ((with_reducible apply Sy.fa (t := 124) (i := 2)); exact rfl; exact rfl; exact fa124_2 _ _)
    | ((with_reducible apply Sy.ldO (t := 27)); exact rfl; exact rfl; exact hasT; (· first | exact ld_one ag27 rfl))
    | ((with_reducible apply Sy.conv (D := 0) (T := .bool)); exact rfl; exact Try.underlying3; exact Try.underlying53; exact rfl; exact (wrap_u64x (by omega)))
    | ((with_reducible apply Sy.conv (D := 0) (T := .bool)); exact rfl; exact Try.underlying3; exact Try.underlying53; exact rfl; exact wrap_u64 _)
    | ((with_reducible apply Sy.pickF); exact rfl; exact rfl; exact rfl)
    | ((with_reducible apply Sy.fa (t := 124) (i := 1)); exact rfl; exact rfl; exact fa124_1 _ _)
    | ((with_reducible apply Sy.ldO (t := 4)); exact rfl; exact rfl; exact hasT; (· first | exact ld_one ag4 rfl))
    | ((with_reducible apply Sy.conv (D := 0) (T := .bool)); exact rfl; exact Try.underlying53; exact Try.underlying3; exact rfl; exact (wrap_i64 (by omega)))
    | ((with_reducible apply Sy.conv (D := 0) (T := .bool)); exact rfl; exact Try.underlying53; exact Try.underlying3; exact rfl; exact (wrap_i64z (by omega) (by omega)))
    | ((with_reducible apply Sy.bin (op := .neq) (t := 27)); exact rfl; exact rfl; exact rfl; exact b_neq)
    | ((with_reducible apply Sy.bin (op := .neq) (t := 27)); exact rfl; exact rfl; exact rfl; exact bz_neq)
    | ((with_reducible apply Sy.un (op := .not)); exact rfl; exact rfl; exact un_notT)
    | ((with_reducible apply Sy.un (op := .not)); exact rfl; exact rfl; exact un_notF)
    | ((with_reducible apply Sy.un (op := .not)); exact rfl; exact rfl; exact un_notD)
    | ((with_reducible apply Sy.un (op := .not)); exact rfl; exact rfl; exact un_not)
    | ((with_reducible apply Sy.callTO (k := 62)); exact rfl; exact rfl; exact en62; exact rfl; (case hc => intro H' hp; exact c_take_ok p c _ lb _ v2 H' (h2 hp) hv2 hfit (by omega)); (intro i; exact turnT); rintro ⟨u, v3⟩ ⟨hu, hv3⟩)
    | (with_reducible refine Sy.skip ?_)
    | (with_reducible refine Sy.ret ?_)
    | ((with_reducible apply Sy.no); exact rfl)
    | ((with_reducible apply Sy.goG); exact rfl; exact rfl; exact rfl))
      exact .fin [_, _] (.inr rfl) ⟨rfl, rfl, trivial⟩ fun H' hp => ⟨(v3, u, rdU r), ⟨hv3, hu⟩, rfl, hp⟩
    · have e : rdBlob r = ([], ⟨r.l, 20⟩) := by rw [rdBlob, if_neg (by omega), if_neg (by omega), if_neg hfit]
      rw [e]
      obtain ⟨a2, cap2, hv2e⟩ := hv2.slice
      repeat' (first
    | (with_reducible refine Sy.seq ?_)
    | (with_reducible refine Sy.regionL ?_)
    | (with_reducible refine Sy.opsnil ?_)
    | (with_reducible refine Sy.go ?_)
    | (with_reducible refine Sy.nrm ?_)
    | ((with_reducible apply Sy.assign); exact rfl; exact rfl)
    | ((with_reducible apply Sy.move); exact rfl; exact rfl)
    | ((with_reducible apply Sy.nilC); exact rfl; exact rfl; exact rfl)
    | ((with_reducible apply Sy.fa (t := 127) (i := 0)); exact rfl; exact rfl; exact fa127_0 _ _)
    | ((with_reducible apply Sy.fa (t := 124) (i := 0)); exact rfl; exact rfl; exact fa124_0 _ _)
    | ((with_reducible apply Sy.ldO (t := 23)); exact rfl; exact rfl; exact hasT; (· first | exact ld_one ag23 rfl))
    | ((with_reducible apply Sy.fa (t := 124) (i := 2)); exact rfl; exact rfl; exact fa124_2 _ _)
    | ((with_reducible apply Sy.ldO (t := 27)); exact rfl; exact rfl; exact hasT; (· first | exact ld_one ag27 rfl))
    | ((with_reducible apply Sy.pickT); exact rfl; exact rfl; exact rfl)
    | ((with_reducible apply Sy.stO1 (t := 27)); exact rfl; exact rfl; exact sz27; (· first | exact rfl); (· first | exact rfl); exact turnT; (· first | (simp; done)); (· first | rfl))
    | ((with_reducible apply Sy.fa (t := 124) (i := 1)); exact rfl; exact rfl; exact fa124_1 _ _)
    | ((with_reducible apply Sy.ldO (t := 4)); exact rfl; exact rfl; exact hasT; (· first | exact ld_one ag4 rfl))
    | ((with_reducible apply Sy.bin (op := .neq) (t := 27)); exact rfl; exact rfl; exact rfl; exact b_neq)
    | ((with_reducible apply Sy.bin (op := .neq) (t := 27)); exact rfl; exact rfl; exact rfl; exact bz_neq)
    | ((with_reducible apply Sy.stO1 (t := 23)); exact rfl; exact rfl; exact sz23; (· first | exact rfl); (· first | exact rfl); exact turnT; (· first | (simp; done)); (· first | rfl))
    | ((with_reducible apply Sy.callTO (k := 62)); exact rfl; exact rfl; exact en62; exact rfl; (case hc => intro H' hp; exact c_take_bad p _ 0 _ v2 a2 cap2 H' (h2 hp) hv2e (by omega) (by omega) (by omega)); (intro i; exact turnT); rintro b -)
    | (with_reducible refine Sy.ret ?_)
    | (with_reducible refine Sy.aret ?_)
    | ((with_reducible apply Sy.yes); exact rfl)
    | ((with_reducible apply Sy.noG); exact rfl; exact rfl; exact rfl; exact rfl; exact rfl))
      exact .fin [_, _] (.inr rfl) ⟨rfl, rfl, trivial⟩ fun H' hp => ⟨(_, _, 0), ⟨hvw, .inl ⟨rfl, rfl⟩⟩, rfl, hp.less (List.nil_sublist _)⟩
  · have e : rdBlob r = ([], ⟨r.l, (r.next 8).e⟩) := by rw [rdBlob, if_neg (by omega), if_pos hc]
    rw [e]
    exact .fin [_, _] (.inr rfl) ⟨rfl, rfl, trivial⟩ fun H' hp => ⟨(_, _, 0), ⟨hvw, .inl ⟨rfl, rfl⟩⟩, rfl, hp⟩
theorem k_rdBlob {p c : Nat} {lb : List Nat} {r : Rd} {v : Value} {H : AHeap} (h : RdAt H p c lb r v) :
    CallR Try.prog noPrims 65 [.pointer (some ⟨p, 0, none⟩)] H (fun u H' => ∃ i : Value × Value, (Vw c lb i.1 (rdBlob r).2.l ∧ Vw c lb i.2 (rdBlob r).1) ∧ u = i.2 ∧ Hp H 0 0 H' [(p, .cells (rdC i.1 (rdBlob r).2.e) 127 true)] []) := by
  have hplt := h.lt
  refine CallR.sy (n := 11) Try.func65 rfl rfl rfl ?_
  repeat' (first
    | (with_reducible refine Sy.seq ?_)
    | (with_reducible refine Sy.regionL ?_)
    | (with_reducible refine Sy.opsnil ?_)
    | (with_reducible refine Sy.go ?_)
    | (with_reducible refine Sy.nrm ?_)
    | ((with_reducible apply Sy.assign); exact rfl; exact rfl)
    | ((with_reducible apply Sy.move); exact rfl; exact rfl)
    | ((with_reducible apply Sy.ext); exact rfl; exact rfl; exact rfl)
    | ((with_reducible apply Sy.callTX (k := 63)); exact rfl; exact rfl; exact en63; exact rfl; (case hc => intro H' hp; exact k_countT (h.of hp (by simp))); exact hplt; exact notM; rintro ⟨v2, u, k⟩ hv2)
    | (with_reducible refine Sy.ret ?_))
  exact .fin [_] (.inr rfl) ⟨rfl, trivial⟩ fun H' hp => ⟨(v2, u), hv2, rfl, hp⟩
theorem k_rdLeft {p c : Nat} {lb : List Nat} {r : Rd} {v : Value} {H : AHeap} (h : RdAt H p c lb r v) :
    CallR Try.prog noPrims 55 [.pointer (some ⟨p, 0, none⟩)] H (fun u H' => u = .int .i64 ((r.l.length : Nat) : Int) ∧ Hp H 0 0 H' [] []) := by
  have hp0 := h.obj
  have hvw := h.vw
  obtain ⟨a, cap, rfl⟩ := hvw.slice
  refine CallR.sy (n := 11) Try.func55 rfl rfl rfl ?_
  repeat' (first
    | (with_reducible refine Sy.seq ?_)
    | (with_reducible refine Sy.regionL ?_)
    | (with_reducible refine Sy.opsnil ?_)
    | (with_reducible refine Sy.go ?_)
    | (with_reducible refine Sy.nrm ?_)
    | ((with_reducible apply Sy.assign); exact rfl; exact rfl)
    | ((with_reducible apply Sy.move); exact rfl; exact rfl)
    | ((with_reducible apply Sy.bin (op := .eql) (t := 114)); exact rfl; exact rfl; exact rfl; exact p_eq0 kd114)
    | ((with_reducible apply Sy.bin (op := .eql) (t := 114)); exact rfl; exact rfl; exact rfl; exact p_eq1 kd114)
    | ((with_reducible apply Sy.bin (op := .eql) (t := 114)); exact rfl; exact rfl; exact rfl; exact p_eq2 kd114)
    | ((with_reducible apply Sy.nilC); exact rfl; exact rfl; exact rfl)
    | ((with_reducible apply Sy.fa (t := 127) (i := 0)); exact rfl; exact rfl; exact fa127_0 _ _)
    | ((with_reducible apply Sy.fa (t := 124) (i := 0)); exact rfl; exact rfl; exact fa124_0 _ _)
    | ((with_reducible apply Sy.ld0 (t := 23)); exact rfl; exact rfl; (· with_reducible assumption); exact rfl; exact notM; (· first | exact ld_one ag23 rfl))
    | ((with_reducible apply Sy.lenS); exact rfl; exact Try.underlying23; exact rfl)
    | (with_reducible refine Sy.skip ?_)
    | (with_reducible refine Sy.ret ?_)
    | ((with_reducible apply Sy.no); exact rfl))
  exact .fin [_] (.inr rfl) ⟨rfl, trivial⟩ fun H' hp => ⟨rfl, hp⟩
def rdDone (r : Rd) : Nat := if r.e = 0 ∧ 0 < r.l.length then 21 else r.e
theorem k_rdDone {p c : Nat} {lb : List Nat} {r : Rd} {v : Value} {H : AHeap} (h : RdAt H p c lb r v) :
    CallR Try.prog noPrims 66 [.pointer (some ⟨p, 0, none⟩)] H (fun u H' => u = .int .i64 ((rdDone r : Nat) : Int) ∧ Hp H 0 0 H' [] []) := by
  have hp0 := h.obj
  have hvw := h.vw
  obtain ⟨a, cap, rfl⟩ := hvw.slice
  refine CallR.sy (n := 35) Try.func66 rfl rfl rfl ?_
  repeat' (first
    | (with_reducible refine Sy.seq ?_)
    | (with_reducible refine Sy.regionL ?_)
    | (with_reducible refine Sy.opsnil ?_)
    | (with_reducible refine Sy.go ?_)
    | (with_reducible refine Sy.nrm ?_)
    | ((with_reducible apply Sy.assign); exact rfl; exact rfl)
    | ((with_reducible apply Sy.move); exact rfl; exact rfl)
    | ((with_reducible apply Sy.bin (op := .eql) (t := 114)); exact rfl; exact rfl; exact rfl; exact p_eq0 kd114)
    | ((with_reducible apply Sy.bin (op := .eql) (t := 114)); exact rfl; exact rfl; exact rfl; exact p_eq1 kd114)
    | ((with_reducible apply Sy.bin (op := .eql) (t := 114)); exact rfl; exact rfl; exact rfl; exact p_eq2 kd114)
    | ((with_reducible apply Sy.nilC); exact rfl; exact rfl; exact rfl)
    | ((with_reducible apply Sy.fa (t := 127) (i := 0)); exact rfl; exact rfl; exact fa127_0 _ _)
    | ((with_reducible apply Sy.fa (t := 124) (i := 1)); exact rfl; exact rfl; exact fa124_1 _ _)
    | ((with_reducible apply Sy.ld0 (t := 4)); exact rfl; exact rfl; (· with_reducible assumption); exact rfl; exact notM; (· first | exact ld_one ag4 rfl))
    | ((with_reducible apply Sy.un (op := .not)); exact rfl; exact rfl; exact un_notT)
    | ((with_reducible apply Sy.un (op := .not)); exact rfl; exact rfl; exact un_notF)
    | ((with_reducible apply Sy.un (op := .not)); exact rfl; exact rfl; exact un_notD)
    | ((with_reducible apply Sy.un (op := .not)); exact rfl; exact rfl; exact un_not)
    | ((with_reducible apply Sy.pickT); exact rfl; exact rfl; exact rfl)
    | ((with_reducible apply Sy.pickF); exact rfl; exact rfl; exact rfl)
    | ((with_reducible apply Sy.fa (t := 124) (i := 2)); exact rfl; exact rfl; exact fa124_2 _ _)
    | ((with_reducible apply Sy.ld0 (t := 27)); exact rfl; exact rfl; (· with_reducible assumption); exact rfl; exact notM; (· first | exact ld_one ag27 rfl))
    | ((with_reducible apply Sy.bin (op := .eql) (t := 27)); exact rfl; exact rfl; exact rfl; exact b_eql)
    | ((with_reducible apply Sy.bin (op := .eql) (t := 27)); exact rfl; exact rfl; exact rfl; exact bz_eql)
    | ((with_reducible apply Sy.fa (t := 124) (i := 0)); exact rfl; exact rfl; exact fa124_0 _ _)
    | ((with_reducible apply Sy.ld0 (t := 23)); exact rfl; exact rfl; (· with_reducible assumption); exact rfl; exact notM; (· first | exact ld_one ag23 rfl))
    | ((with_reducible apply Sy.lenS); exact rfl; exact Try.underlying23; exact rfl)
    | ((with_reducible apply Sy.bin (op := .gtr) (t := 3)); exact rfl; exact rfl; exact rfl; exact b_gtr)
    | ((with_reducible apply Sy.bin (op := .gtr) (t := 3)); exact rfl; exact rfl; exact rfl; exact bz_gtr)
    | (with_reducible refine Sy.skip ?_)
    | (with_reducible refine Sy.ret ?_)
    | (with_reducible refine Sy.block ?_)
    | (with_reducible refine Sy.aret ?_)
    | (with_reducible refine Sy.inrm ?_)
    | (with_reducible refine Sy.iret ?_)
    | ((with_reducible apply Sy.no); exact rfl)
    | ((with_reducible apply Sy.goG); exact rfl; exact rfl; exact rfl)
    | ((with_reducible apply Sy.noG); exact rfl; exact rfl; exact rfl; exact rfl; exact rfl)
    | ((with_reducible apply Sy.caseG); (case hj => exact rfl); (case hx => exact rfl); all_goals (intro hc; try (exfalso; omega)))
    | ((with_reducible apply Sy.ite); (case hx => exact rfl); all_goals (intro hc; try (exfalso; omega))))
  · rename_i hc0
    exact .fin [_] (.inr rfl) ⟨rfl, trivial⟩ fun H' hp => ⟨by rw [rdDone, if_pos ⟨hc0, hc⟩]; rfl, hp⟩
  · rename_i hc0
    exact .fin [_] (.inr rfl) ⟨rfl, trivial⟩ fun H' hp => ⟨by rw [rdDone, if_neg (by omega)]; rfl, hp⟩
  · exact .fin [_] (.inr rfl) ⟨rfl, trivial⟩ fun H' hp => ⟨by rw [rdDone, if_neg (by omega)]; rfl, hp⟩
end Go.Proofs.Ytcaafoibabijgaa

/- Layer 03: new readers. -/
namespace Go.Proofs.Ytcaafoibabijgaa
open Go Go.Am
set_option maxRecDepth 100000
set_option linter.unusedVariables false

abbrev bufM (l : List Nat) (b : Nat) : Hm := accM 5 (ints .u8 l) l.length b
theorem bufM_has {l : List Nat} {c : Nat} {M : Hm} (h : l ≠ []) : Has (bufM l c ++ M) c (.cells (ints .u8 l) 5 true) := by
  have : ¬ l.length = 0 := fun e => h (List.length_eq_zero_iff.1 e)
  simp only [accM, if_neg this]; exact .here
theorem bufM_has' {l : List Nat} {c : Nat} (h : l ≠ []) : Has (bufM l c) c (.cells (ints .u8 l) 5 true) := by
  have := bufM_has (c := c) (M := []) h; rwa [List.append_nil] at this
theorem k_Clone (v : Value) (l : List Nat) (H : AHeap) (hv : SlR H 1 v l.length (ints .u8 l)) (hl : l.length ≤ 140737488355328) :
    CallR Try.prog noPrims 27 [v] H (fun u H' => ∃ i : Nat × Value, Vw i.1 l i.2 l ∧ u = i.2 ∧ Hp H 0 0 H' [] (bufM l i.1)) := by
  rcases hv.two with ⟨rfl, hz, _⟩ | ⟨b, o, c, rfl⟩
  · obtain rfl := List.length_eq_zero_iff.1 hz
    refine CallR.sy (n := 8) Try.func27 rfl rfl rfl ?_
    repeat' (first
    | (with_reducible refine Sy.seq ?_)
    | (with_reducible refine Sy.regionL ?_)
    | (with_reducible refine Sy.opsnil ?_)
    | (with_reducible refine Sy.go ?_)
    | (with_reducible refine Sy.nrm ?_)
    | ((with_reducible apply Sy.assign); exact rfl; exact rfl)
    | ((with_reducible apply Sy.move); exact rfl; exact rfl)
    | ((with_reducible apply Sy.bin (op := .eql) (t := 23)); exact rfl; exact rfl; exact rfl; exact s_eq0 kd23)
    | ((with_reducible apply Sy.bin (op := .eql) (t := 23)); exact rfl; exact rfl; exact rfl; exact s_eq1 kd23)
    | (with_reducible refine Sy.ret ?_)
    | (with_reducible refine Sy.aret ?_)
    | ((with_reducible apply Sy.yes); exact rfl))
    exact .fin [_] (.inr rfl) ⟨rfl, trivial⟩ fun H' hp => ⟨(0, _), .inl ⟨rfl, rfl⟩, rfl, hp⟩
  · refine CallR.sy (n := 8) Try.func27 rfl rfl rfl ?_
    by_cases h0 : l = []
    · subst h0
      have hv0 : SlR H 1 (.slice (some ⟨b, o, none⟩) 0 c) 0 [] := hv
      show Sy _ _ _ _ (envOf 0 [.slice (some ⟨b, o, none⟩) 0 c]) _ _ _
      clear hv
      repeat' (first
    | (with_reducible refine Sy.seq ?_)
    | (with_reducible refine Sy.regionL ?_)
    | (with_reducible refine Sy.opsnil ?_)
    | (with_reducible refine Sy.go ?_)
    | (with_reducible refine Sy.nrm ?_)
    | ((with_reducible apply Sy.appZ (t := 23) (xt := 23)); exact (ap23_23 zr5 rfl); exact rfl; exact rfl; exact rfl; exact .inl ⟨_, _, _, _, rfl⟩; exact SrcY.ofR (by with_reducible assumption) rfl; exact rfl)
    | ((with_reducible apply Sy.assign); exact rfl; exact rfl)
    | ((with_reducible apply Sy.move); exact rfl; exact rfl)
    | ((with_reducible apply Sy.bin (op := .eql) (t := 23)); exact rfl; exact rfl; exact rfl; exact s_eq0 kd23)
    | ((with_reducible apply Sy.bin (op := .eql) (t := 23)); exact rfl; exact rfl; exact rfl; exact s_eq1 kd23)
    | ((with_reducible apply Sy.newY (o := ⟨some 5, .buildSlice 23 _ _, _, _, _, _⟩)); exact rfl; exact rfl; exact (nbs0 Try.underlying23 sz5 zr5 rfl (by decide) rfl); intro q5)
    | ((with_reducible apply Sy.newY (o := ⟨some 5, .buildSlice 23 _ _, _, _, _, _⟩)); exact rfl; exact rfl; (· exact (newY_bs Try.underlying23 sz5 zr5 rfl (by decide) rfl (by first | rfl | (simp [List.drop_append, List.take_append, List.getElem?_append, lay, hC_length, ints_length, ints_drop, ints_take, ints_append, List.drop_of_length_le, List.take_of_length_le, List.map_append, List.set_append, Value.cells]; done)))); intro q5)
    | (with_reducible refine Sy.skip ?_)
    | (with_reducible refine Sy.ret ?_)
    | ((with_reducible apply Sy.no); exact rfl))
      exact .fin [_] (.inr rfl) ⟨rfl, trivial⟩ fun H' hp => ⟨(_, _), .inr ⟨0, 0, rfl, by simp, by simp⟩, rfl, hp.less (List.nil_sublist _)⟩
    · have hne : l.length ≠ 0 := fun e => h0 (List.length_eq_zero_iff.1 e)
      repeat' (first
    | (with_reducible refine Sy.seq ?_)
    | (with_reducible refine Sy.regionL ?_)
    | (with_reducible refine Sy.opsnil ?_)
    | (with_reducible refine Sy.go ?_)
    | (with_reducible refine Sy.nrm ?_)
    | ((with_reducible apply Sy.assign); exact rfl; exact rfl)
    | ((with_reducible apply Sy.move); exact rfl; exact rfl)
    | ((with_reducible apply Sy.bin (op := .eql) (t := 23)); exact rfl; exact rfl; exact rfl; exact s_eq0 kd23)
    | ((with_reducible apply Sy.bin (op := .eql) (t := 23)); exact rfl; exact rfl; exact rfl; exact s_eq1 kd23)
    | ((with_reducible apply Sy.appFN (t := 23) (xt := 23)); exact ap23_23 zr5 rfl; exact rfl; exact rfl; exact rfl; (· first | exact SrcY.ofR (by with_reducible assumption) rfl); (· first | exact oneL_ints _ _ | exact rfl); (· first | omega); (· first | omega); exact hasT; (· first | omega); (· first | exact rfl); (· first | exact rfl); intro q7)
    | ((with_reducible apply Sy.newY (o := ⟨some 5, .buildSlice 23 _ _, _, _, _, _⟩)); exact rfl; exact rfl; exact (nbs0 Try.underlying23 sz5 zr5 rfl (by decide) rfl); intro q5)
    | ((with_reducible apply Sy.newY (o := ⟨some 5, .buildSlice 23 _ _, _, _, _, _⟩)); exact rfl; exact rfl; (· exact (newY_bs Try.underlying23 sz5 zr5 rfl (by decide) rfl (by first | rfl | (simp [List.drop_append, List.take_append, List.getElem?_append, lay, hC_length, ints_length, ints_drop, ints_take, ints_append, List.drop_of_length_le, List.take_of_length_le, List.map_append, List.set_append, Value.cells]; done)))); intro q5)
    | (with_reducible refine Sy.skip ?_)
    | (with_reducible refine Sy.ret ?_)
    | ((with_reducible apply Sy.no); exact rfl))
      rw [Nat.zero_add, show List.take (0 * 1) (List.drop 0 ([] : List Value)) ++ ints .u8 l = ints .u8 l by simp]
      exact .fin [_] (.inr rfl) ⟨rfl, trivial⟩ fun H' hp => ⟨(q7, _), .inr ⟨0, _, rfl, by simp, by simp⟩, rfl, by
        simp only [accM, if_neg hne]; exact hp.less (.cons_cons _ (List.nil_sublist _))⟩
theorem CopyV.vw {b : Nat} {v : Value} {l : List Nat} {k : Nat} (h : CopyV 1 k b v) (e : l.length = k) : ∃ b', Vw b' l v l ∧ bufM l b' = accM 5 (ints .u8 l) k b := by
  subst e
  rcases h with rfl | ⟨h0, b', rfl⟩
  · exact ⟨b, .inr ⟨0, _, rfl, by omega, by rw [List.drop_zero, List.take_length]⟩, rfl⟩
  · obtain rfl := List.length_eq_zero_iff.1 h0
    exact ⟨b', .inr ⟨0, 0, rfl, by simp, rfl⟩, rfl⟩
theorem k_NewReader (v : Value) (l : List Nat) (H : AHeap) (hv : SlR H 1 v l.length (ints .u8 l)) (hl : l.length ≤ 140737488355328) :
    CallR Try.prog noPrims 52 [v] H (fun u H' => ∃ i : Nat × Nat × Value, Vw i.2.1 l i.2.2 l ∧ u = .pointer (some ⟨i.1, 0, none⟩) ∧ Hp H 0 0 H' [] ((i.1, .cells (rdC i.2.2 0) 127 true) :: bufM l i.2.1)) := by
  refine CallR.sy (n := 8) Try.func52 rfl rfl rfl ?_
  repeat' (first
    | (with_reducible refine Sy.seq ?_)
    | (with_reducible refine Sy.regionL ?_)
    | (with_reducible refine Sy.opsnil ?_)
    | (with_reducible refine Sy.go ?_)
    | (with_reducible refine Sy.nrm ?_)
    | ((with_reducible apply Sy.assign); exact rfl; exact rfl)
    | ((with_reducible apply Sy.move); exact rfl; exact rfl)
    | ((with_reducible apply Sy.callN (k := 27)); exact rfl; exact rfl; exact en27; exact rfl; (intro H' hp; exact k_Clone v l H' (hv.of hp) hl); rintro ⟨c, v'⟩ hv'))
  dsimp only at hv' ⊢
  obtain ⟨a, cap, rfl⟩ := hv'.slice
  repeat' (first
    | (with_reducible refine Sy.opsnil ?_)
    | (with_reducible refine Sy.go ?_)
    | (with_reducible refine Sy.nrm ?_)
    | ((with_reducible apply Sy.assign); exact rfl; exact rfl)
    | ((with_reducible apply Sy.build (t := 124)); exact rfl; exact rfl; (· exact (bv124 (by first | rfl))))
    | ((with_reducible apply Sy.build (t := 127)); exact rfl; exact rfl; (· exact (bv127 (by first | rfl))))
    | ((with_reducible apply Sy.newY (o := ⟨some 7, .box 127 _, _, _, _, _⟩)); exact rfl; exact rfl; exact nbA rfl; intro q7)
    | (with_reducible refine Sy.ret ?_))
  rw [List.append_nil]
  exact .fin [_] (.inr rfl) ⟨rfl, trivial⟩ fun H' hp => ⟨(q7, c, _), hv', rfl, hp⟩
/-- A new reader, among new things. -/
theorem RdAt.new {H0 H : AHeap} {lo hi p c : Nat} {Mo Mn : Hm} {l : List Nat} {v : Value} (hp : Hp H0 lo hi H Mo Mn) (hm : Has Mn p (.cells (rdC v 0) 127 true)) (hc : l ≠ [] → Has Mn c (.cells (ints .u8 l) 5 true)) (hv : Vw c l v l) (lt : ∀ x ∈ l, x < 256) (len : l.length ≤ 140737488355328) : RdAt H p c l ⟨l, 0⟩ v :=
  .n1 hp hm hv hc lt len
end Go.Proofs.Ytcaafoibabijgaa

/- Layer 03: the document's reader. -/
namespace Go.Proofs.Ytcaafoibabijgaa
open Go Go.Am
set_option maxRecDepth 100000
set_option linter.unusedVariables false

abbrev rrC (v : Value) (at_ e : Nat) : List Value := [v, .int .i64 ((at_ : Nat) : Int), .int .i64 ((e : Nat) : Int)]
/-- The document's reader at a block. -/
structure RrAt (H : AHeap) (p c : Nat) (lb : List Nat) (r : Rd) (v : Value) (a : Nat) : Prop where
  obj : H.get p = .cells (rrC v a r.e) 94 true
  vw : ∃ cap, v = .slice (some ⟨c, 0, none⟩) lb.length cap
  k : RdK H c lb
  le : a ≤ lb.length
  eq : lb.drop a = r.l
section
variable {H0 H : AHeap} {p c a : Nat} {lb : List Nat} {r : Rd} {v : Value}
theorem RrAt.lt (h : RrAt H p c lb r v a) : p < H.next := get_live_lt (by rw [h.obj]; rfl)
theorem RrAt.len (h : RrAt H p c lb r v a) : r.l.length = lb.length - a := by rw [← h.eq, List.length_drop]
theorem RrAt.ne (h : RrAt H p c lb r v a) (hl : lb ≠ []) : p ≠ c := fun e => by
  obtain ⟨T, w, hg⟩ := h.k.blk hl
  subst e
  rw [h.obj] at hg
  injection hg with h1 _ _
  have h2 : (rrC v a r.e)[1]? = (ints .u8 lb)[1]? := by rw [h1]
  cases lb with
  | nil => exact hl rfl
  | cons x l => cases l <;> simp [ints, rrC] at h2
theorem RrAt.of {lo hi : Nat} {Mo Mn : Hm} (h0 : RrAt H0 p c lb r v a) (hp : Hp H0 lo hi H Mo Mn) (hn : ∀ q ∈ Mo, q.1 ≠ p ∧ q.1 ≠ c) : RrAt H p c lb r v a :=
  ⟨hp.get0 h0.obj rfl fun q hq => (hn q hq).1, h0.vw, ⟨fun hl => by
    obtain ⟨T, w, hg⟩ := h0.k.blk hl
    exact ⟨T, w, hp.get0 hg rfl fun q hq => (hn q hq).2⟩, h0.k.lt, h0.k.len⟩, h0.le, h0.eq⟩
theorem RrAt.o1 {lo hi a' : Nat} {Mn : Hm} {r' : Rd} (h0 : RrAt H0 p c lb r v a) (hp : Hp H0 lo hi H [(p, .cells (rrC v a' r'.e) 94 true)] Mn) (hv : a' ≤ lb.length ∧ lb.drop a' = r'.l) : RrAt H p c lb r' v a' :=
  ⟨hp.getO .here, h0.vw, ⟨fun hl => by
    obtain ⟨T, w, hg⟩ := h0.k.blk hl
    exact ⟨T, w, hp.get0 hg rfl (by simpa using h0.ne hl)⟩, h0.k.lt, h0.k.len⟩, hv.1, hv.2⟩
theorem RrAt.n1 {lo hi : Nat} {Mo Mn : Hm} {T : TypeId} {w : Bool} (hp : Hp H0 lo hi H Mo Mn) (hm : Has Mn p (.cells (rrC v a r.e) 94 true)) (hv : ∃ cap, v = .slice (some ⟨c, 0, none⟩) lb.length cap) (hb : lb ≠ [] → Has Mn c (.cells (ints .u8 lb) T w)) (lt : ∀ x ∈ lb, x < 256) (len : lb.length ≤ 140737488355328) (ha : a ≤ lb.length ∧ lb.drop a = r.l) : RrAt H p c lb r v a :=
  ⟨hp.getN hm, hv, ⟨fun hl => ⟨T, w, hp.getN (hb hl)⟩, lt, len⟩, ha.1, ha.2⟩
end
end Go.Proofs.Ytcaafoibabijgaa
