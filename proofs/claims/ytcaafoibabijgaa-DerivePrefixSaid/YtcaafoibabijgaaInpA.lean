/- Inputs as bytes and back. -/
import Derived.Test.YtcaafoibabijgaaBatC
set_option linter.unusedSimpArgs false
set_option linter.unusedVariables false
/- Layer 09: inputs, what they are; as bytes and back. -/
namespace Go.Proofs.Ytcaafoibabijgaa
open Go Go.Am
set_option maxRecDepth 100000
set_option linter.unusedVariables false

structure Inp where
  b : Bool
  w : Wd
  m : Msg
  t : Txn
structure Inp.ok (x : Inp) : Prop where
  m : x.m.ok
  t : x.t.ok
def zeroI : Inp := ⟨false, zeroW, zeroM, zeroT⟩
theorem zeroT_ok : zeroT.ok := ⟨by decide, by decide, by decide, by decide, by decide, by simp [zeroT]⟩
end Go.Proofs.Ytcaafoibabijgaa

/- Layer 09: inputs as values; which may be. -/
namespace Go.Proofs.Ytcaafoibabijgaa
open Go Go.Am
set_option maxRecDepth 100000
set_option linter.unusedVariables false

theorem take_at {α : Type} {l m : List α} {i : Nat} (h : i = l.length) : (l ++ m).take i = l := by subst h; rw [List.take_left]
theorem drop_at' {α : Type} {l m : List α} {i : Nat} (h : i = l.length) : (l ++ m).drop i = m := by subst h; rw [List.drop_left]
def inC (x : Inp) (v1 v2 : Value) : List Value := .bool x.b :: (wC x.w ++ (msgC x.m v1 ++ txC x.t v2))
abbrev inV (x : Inp) (v1 v2 : Value) : Value := .agg ⟨inC x v1 v2⟩
@[simp] theorem inC_length (x : Inp) (v1 v2 : Value) : (inC x v1 v2).length = 24 := by simp [inC]
@[simp] theorem inC_oneS (x : Inp) (a a' : Option Addr) (k c k' c' : Nat) : oneL (inC x (.slice a k c) (.slice a' k' c')) = true := by
  simp only [inC, oneL_cons, oneL_append, wC_one, msgC_oneS, txC_oneS]; rfl
theorem cut_iw {x : Inp} {v1 v2 : Value} : ((inC x v1 v2).drop (0 + 1)).take 4 = wC x.w := by
  show (wC x.w ++ (msgC x.m v1 ++ txC x.t v2)).take 4 = _
  exact take_at (by simp)
theorem cut_im {x : Inp} {v1 v2 : Value} : ((inC x v1 v2).drop (0 + 5)).take 9 = msgC x.m v1 := by
  show ((wC x.w ++ (msgC x.m v1 ++ txC x.t v2)).drop 4).take 9 = _
  rw [drop_at' (by simp)]
  exact take_at (by simp)
theorem cut_it {x : Inp} {v1 v2 : Value} : ((inC x v1 v2).drop (0 + 14)).take 10 = txC x.t v2 := by
  show ((wC x.w ++ (msgC x.m v1 ++ txC x.t v2)).drop 13).take 10 = _
  rw [← List.append_assoc, drop_at' (by simp)]
  exact List.take_of_length_le (by simp)
section
variable {x : Inp} {v1 v2 : Value} {T : TypeId} {b : Bool}
theorem ld_riall : aLoad Try.prog 86 (.cells (inC x v1 v2) T b) 0 = some (inV x v1 v2) := load_all ag86 sz86 (by simp)
theorem ld_iw : aLoad Try.prog 55 (.cells (inC x v1 v2) T b) (0 + 1) = some (wV x.w) := ld_agg (cs' := wC x.w) ag55 sz55 (by simp) cut_iw
theorem ld_im : aLoad Try.prog 57 (.cells (inC x v1 v2) T b) (0 + 5) = some (msgV x.m v1) := ld_agg (cs' := msgC x.m v1) ag57 sz57 (by simp) cut_im
theorem ld_it : aLoad Try.prog 59 (.cells (inC x v1 v2) T b) (0 + 14) = some (txV x.t v2) := ld_agg (cs' := txC x.t v2) ag59 sz59 (by simp) cut_it
theorem ld_rim : aLoad Try.prog 66 (.cells (inC x v1 v2) T b) (0 + 5) = some (msgV x.m v1) := ld_agg (cs' := msgC x.m v1) ag66 sz66 (by simp) cut_im
theorem ld_rit : aLoad Try.prog 84 (.cells (inC x v1 v2) T b) (0 + 14) = some (txV x.t v2) := ld_agg (cs' := txC x.t v2) ag84 sz84 (by simp) cut_it
end
end Go.Proofs.Ytcaafoibabijgaa

/- Layer 09: the bytes of an input. -/
namespace Go.Proofs.Ytcaafoibabijgaa
open Go Go.Am
set_option maxRecDepth 100000
set_option linter.unusedVariables false

end Go.Proofs.Ytcaafoibabijgaa

/- Layer 09: an input out of bytes. -/
namespace Go.Proofs.Ytcaafoibabijgaa
open Go Go.Am
set_option maxRecDepth 100000
set_option linter.unusedVariables false

theorem lay_mid {a b b' d : List Value} {o : Nat} (ho : o = a.length) (hb : b.length = b'.length) : lay (a ++ (b ++ d)) o b' = a ++ (b' ++ d) := by
  have h1 := lay_there (a := a) (b := b ++ d) (o := a.length) (k := 0) (v := b') rfl
  rw [Nat.add_zero, lay_here hb] at h1
  rw [ho]; exact h1
theorem setIw {x : Inp} {v1 v2 : Value} {w : Wd} : lay (inC x v1 v2) (0 + 1) (wC w) = inC ⟨x.b, w, x.m, x.t⟩ v1 v2 := lay_mid (a := [.bool x.b]) rfl (by simp)
theorem setIm {x : Inp} {v1 v2 v : Value} {m : Msg} : lay (inC x v1 v2) (0 + 5) (msgC m v) = inC ⟨x.b, x.w, m, x.t⟩ v v2 := by
  have := lay_mid (a := .bool x.b :: wC x.w) (b := msgC x.m v1) (b' := msgC m v) (d := txC x.t v2) (o := 0 + 5) (by simp) (by simp)
  exact this
theorem setIt {x : Inp} {v1 v2 v : Value} {t : Txn} : lay (inC x v1 v2) (0 + 14) (txC t v) = inC ⟨x.b, x.w, x.m, t⟩ v1 v := by
  have := lay_mid (a := .bool x.b :: (wC x.w ++ msgC x.m v1)) (b := txC x.t v2) (b' := txC t v) (d := []) (o := 0 + 14) (by simp) (by simp)
  simp only [List.append_nil] at this
  simpa [inC] using this
end Go.Proofs.Ytcaafoibabijgaa

/- Layer 09: the laws' inputs; the same input. -/
namespace Go.Proofs.Ytcaafoibabijgaa
open Go Go.Am
set_option maxRecDepth 100000
set_option linter.unusedVariables false

theorem fill_inp {x : Inp} {v1 v2 : Value} : fillL (plc [(0, 1), (1, 4), (5, 9), (14, 10)]) (inC zeroI (.slice none 0 0) (.slice none 0 0)) [(0, .bool x.b), (1, wV x.w), (2, msgV x.m v1), (3, txV x.t v2)] = some (inC x v1 v2) := by
  have e1 : (Value.bool x.b).cells.toList = [.bool x.b] := rfl
  have e2 : (wV x.w).cells.toList = wC x.w := rfl
  have e3 : (msgV x.m v1).cells.toList = msgC x.m v1 := rfl
  have e4 : (txV x.t v2).cells.toList = txC x.t v2 := rfl
  have s0 : lay (inC zeroI (.slice none 0 0) (.slice none 0 0)) 0 [.bool x.b] = inC ⟨x.b, zeroW, zeroM, zeroT⟩ (.slice none 0 0) (.slice none 0 0) := rfl
  have s1 : lay (inC ⟨x.b, zeroW, zeroM, zeroT⟩ (.slice none 0 0) (.slice none 0 0)) 1 (wC x.w) = inC ⟨x.b, x.w, zeroM, zeroT⟩ (.slice none 0 0) (.slice none 0 0) := setIw
  have s2 : lay (inC ⟨x.b, x.w, zeroM, zeroT⟩ (.slice none 0 0) (.slice none 0 0)) 5 (msgC x.m v1) = inC ⟨x.b, x.w, x.m, zeroT⟩ v1 (.slice none 0 0) := setIm
  have s3 : lay (inC ⟨x.b, x.w, x.m, zeroT⟩ v1 (.slice none 0 0)) 14 (txC x.t v2) = inC x v1 v2 := setIt
  have p0 : plc [(0, 1), (1, 4), (5, 9), (14, 10)] 0 = some (0, 1) := rfl
  have p1 : plc [(0, 1), (1, 4), (5, 9), (14, 10)] 1 = some (1, 4) := rfl
  have p2 : plc [(0, 1), (1, 4), (5, 9), (14, 10)] 2 = some (5, 9) := rfl
  have p3 : plc [(0, 1), (1, 4), (5, 9), (14, 10)] 3 = some (14, 10) := rfl
  rw [fillL, p0]
  dsimp only
  rw [if_pos ⟨by rw [e1]; rfl, by rw [e1]; simp⟩, e1, s0, fillL, p1]
  dsimp only
  rw [if_pos ⟨by rw [e2]; simp, by rw [e2]; simp⟩, e2, s1, fillL, p2]
  dsimp only
  rw [if_pos ⟨by rw [e3]; simp, by rw [e3]; simp⟩, e3, s2, fillL, p3]
  dsimp only
  rw [if_pos ⟨by rw [e4]; simp, by rw [e4]; simp⟩, e4, s3, fillL]
theorem bvRI4 {x : Inp} {v1 v2 : Value} : buildV Try.prog 86 [(0, .bool x.b), (1, wV x.w), (2, msgV x.m v1), (3, txV x.t v2)] = some (inV x v1 v2) := bv86 fill_inp
set_option maxHeartbeats 1000000 in
theorem k_lRef (x : Inp) (a a' : Option Addr) (c c' : Nat) (H : AHeap) (ho : x.ok) (hv1 : SlR H 1 (.slice a x.m.d.length c) x.m.d.length (ints .u8 x.m.d)) (hv2 : SlR H 1 (.slice a' x.t.d.length c') x.t.d.length (ints .u8 x.t.d)) (h1 : x.m.d.length ≤ 1000000) (h2 : x.t.d.length ≤ 1000000) :
    CallR Try.prog noPrims 30 [inV x (.slice a x.m.d.length c) (.slice a' x.t.d.length c')] H (fun u H' => ∃ i : (Nat × Nat) × Nat × Nat, True ∧ u = inV x (.slice (some ⟨i.1.1, 0, none⟩) x.m.d.length i.1.2) (.slice (some ⟨i.2.1, 0, none⟩) x.t.d.length i.2.2) ∧ Hp H 0 0 H' [] [(i.2.1, .cells (ints .u8 x.t.d) 5 true), (i.1.1, .cells (ints .u8 x.m.d) 5 true)]) := by
  refine CallR.sy (n := 14) Try.func30 rfl rfl rfl ?_
  repeat' (first
    | (with_reducible refine Sy.seq ?_)
    | (with_reducible refine Sy.regionL ?_)
    | (with_reducible refine Sy.opsnil ?_)
    | (with_reducible refine Sy.go ?_)
    | (with_reducible refine Sy.nrm ?_)
    | ((with_reducible apply Sy.drawL (id := 1) 12 [(1, 6), (3, 6), (8, 6), (1, 9), (3, 9)] (fun hi h => h = q1)); (case hp => kernel_rfl); (case hN => exact rfl); intro base hbase hM; try simp only [List.forall_mem_cons, List.forall_mem_append, List.not_mem_nil, false_implies, implies_true, and_true] at hM)
    | ((with_reducible refine Sy.ldN (t := 55) rfl rfl (by repeat (first | exact Has.here | apply Has.there | apply Has.app)) ld_iw ?_))
    | ((with_reducible refine Sy.ldN (t := 57) rfl rfl (by repeat (first | exact Has.here | apply Has.there | apply Has.app)) ld_im ?_))
    | ((with_reducible refine Sy.ldN (t := 59) rfl rfl (by repeat (first | exact Has.here | apply Has.there | apply Has.app)) ld_it ?_))
    | ((with_reducible refine Sy.build (t := 86) rfl rfl bvRI4 ?_))
    | ((with_reducible apply Sy.fa (t := 61) (i := 0)); exact rfl; exact rfl; exact fa61_0 _ _)
    | ((with_reducible apply Sy.ldN (t := 4)); exact rfl; exact rfl; exact hasT; (· first | exact ld_one ag4 rfl))
    | ((with_reducible apply Sy.fa (t := 61) (i := 1)); exact rfl; exact rfl; exact fa61_1 _ _)
    | ((with_reducible apply Sy.ldN (t := 55)); exact rfl; exact rfl; exact hasT; (· first | exact ld_all ag55 (by first | exact sz55 | (simp [sz55, *]; done)) | exact ld_agg ag55 sz55 (by first | (simp; done) | (simp; omega)) (by first | with_reducible exact cut_kids | rfl | (simp [List.drop_append, List.take_append, List.getElem?_append, lay, hC_length, ints_length, ints_drop, ints_take, ints_append, List.drop_of_length_le, List.take_of_length_le, List.map_append, List.set_append, Value.cells]; done))))
    | ((with_reducible apply Sy.fa (t := 61) (i := 2)); exact rfl; exact rfl; exact fa61_2 _ _)
    | ((with_reducible apply Sy.ldN (t := 57)); exact rfl; exact rfl; exact hasT; (· first | exact ld_all ag57 (by first | exact sz57 | (simp [sz57, *]; done)) | exact ld_agg ag57 sz57 (by first | (simp; done) | (simp; omega)) (by first | with_reducible exact cut_kids | rfl | (simp [List.drop_append, List.take_append, List.getElem?_append, lay, hC_length, ints_length, ints_drop, ints_take, ints_append, List.drop_of_length_le, List.take_of_length_le, List.map_append, List.set_append, Value.cells]; done))))
    | ((with_reducible apply Sy.fa (t := 61) (i := 3)); exact rfl; exact rfl; exact fa61_3 _ _)
    | ((with_reducible apply Sy.ldN (t := 59)); exact rfl; exact rfl; exact hasT; (· first | exact ld_all ag59 (by first | exact sz59 | (simp [sz59, *]; done)) | exact ld_agg ag59 sz59 (by first | (simp; done) | (simp; omega)) (by first | with_reducible exact cut_kids | rfl | (simp [List.drop_append, List.take_append, List.getElem?_append, lay, hC_length, ints_length, ints_drop, ints_take, ints_append, List.drop_of_length_le, List.take_of_length_le, List.map_append, List.set_append, Value.cells]; done))))
    | ((with_reducible apply Sy.stNa (t := 86)); exact rfl; exact rfl; exact sz86; (· first | (simp; done)); (· first | (simp [oneL_append, oneL_cons, oneL_nil, hC_one, oneL_ints]; done)); exact turnT; (· first | (simp; done)); (· first | exact lay_all (by first | (simp; done))))
    | ((with_reducible apply Sy.dgo); (· first | exact wantY_none); (· intro hcls; cases hcls); exact rfl; exact rfl)
    | ((with_reducible apply Sy.dwr); (case hw => first | exact wantY_none); (case hc => intro hcls; cases hcls); (case h1 => exact rfl); (case hk => exact .consN (b := q1) hasT .nil); (case hS => intro h hh; subst hh; exact ⟨_, List.mem_singleton.2 rfl⟩))
    | ((with_reducible apply Sy.dand); (case hk => exact .consN (b := q1) hasT .nil))
    | ((with_reducible apply Sy.callN (k := 23)); exact rfl; exact rfl; exact en23; exact rfl; (intro H' hp; exact k_lRefMessage x.m a c H' ho.m (hv1.of hp) h1); rintro ⟨b2, c2⟩ -)
    | ((with_reducible apply Sy.callN (k := 43)); exact rfl; exact rfl; exact en43; exact rfl; (intro H' hp; exact k_lRefTx x.t a' c' H' ho.t (hv2.of hp) (by omega)); rintro ⟨b3, c3⟩ -)
    | ((with_reducible apply Sy.newY (o := ⟨some 1, .box 61 _, _, _, _, _⟩)); exact rfl; exact rfl; exact nbA rfl; intro q1)
    | ((with_reducible apply Sy.newY (o := ⟨some 2, .alloc 86, _, _, _, _⟩)); exact rfl; exact rfl; exact nwz86; intro q2)
    | (with_reducible refine Sy.ret ?_)
    | (with_reducible refine Sy.dend ?_)
    | ((with_reducible apply Sy.dgo); (· first | exact wantY_none); (· intro hcls; cases hcls); exact rfl; exact rfl)
    | ((with_reducible apply Sy.dld); (· first | exact wantY_none); exact rfl; (· first | omega); exact rfl))
  exact .fin [inV x (.slice (some ⟨b2, 0, none⟩) x.m.d.length c2) (.slice (some ⟨b3, 0, none⟩) x.t.d.length c3)] (.inr rfl) ⟨⟨_, _, _, rfl, (by repeat (first | exact Has.here | apply Has.there | apply Has.app)), ld_riall⟩, trivial⟩ fun H' hp => ⟨((b2, c2), b3, c3), trivial, rfl, hp.less (.cons_cons _ (.cons_cons _ (List.nil_sublist _)))⟩
set_option maxHeartbeats 1000000 in
theorem k_SameI (x : Inp) (a a' b b' : Option Addr) (c c' d d' : Nat) (H : AHeap) (ho : x.ok) (hv1 : SlR H 1 (.slice a x.m.d.length c) x.m.d.length (ints .u8 x.m.d)) (hv2 : SlR H 1 (.slice a' x.t.d.length c') x.t.d.length (ints .u8 x.t.d)) (hw1 : SlR H 1 (.slice b x.m.d.length d) x.m.d.length (ints .u8 x.m.d)) (hw2 : SlR H 1 (.slice b' x.t.d.length d') x.t.d.length (ints .u8 x.t.d)) :
    CallR Try.prog noPrims 32 [inV x (.slice a x.m.d.length c) (.slice a' x.t.d.length c'), inV x (.slice b x.m.d.length d) (.slice b' x.t.d.length d')] H (fun u H' => u = .bool true ∧ Hp H 0 0 H' [] []) := by
  refine CallR.sy (n := 31) Try.func32 rfl rfl rfl ?_
  repeat' (first
    | (with_reducible refine Sy.seq ?_)
    | (with_reducible refine Sy.regionL ?_)
    | (with_reducible refine Sy.opsnil ?_)
    | (with_reducible refine Sy.go ?_)
    | (with_reducible refine Sy.nrm ?_)
    | ((with_reducible refine Sy.ldN (t := 55) rfl rfl (by repeat (first | exact Has.here | apply Has.there | apply Has.app)) ld_iw ?_))
    | ((with_reducible refine Sy.ldN (t := 66) rfl rfl (by repeat (first | exact Has.here | apply Has.there | apply Has.app)) ld_rim ?_))
    | ((with_reducible refine Sy.ldN (t := 84) rfl rfl (by repeat (first | exact Has.here | apply Has.there | apply Has.app)) ld_rit ?_))
    | ((with_reducible refine Sy.bin (op := .eql) (t := 4) rfl rfl rfl eqBS ?_))
    | ((with_reducible refine Sy.bin (op := .eql) (t := 55) rfl rfl rfl eqWS ?_))
    | ((with_reducible apply Sy.assign); exact rfl; exact rfl)
    | ((with_reducible apply Sy.fa (t := 86) (i := 0)); exact rfl; exact rfl; exact fa86_0 _ _)
    | ((with_reducible apply Sy.ldN (t := 4)); exact rfl; exact rfl; exact hasT; (· first | exact ld_one ag4 rfl))
    | ((with_reducible apply Sy.move); exact rfl; exact rfl)
    | ((with_reducible apply Sy.fa (t := 86) (i := 1)); exact rfl; exact rfl; exact fa86_1 _ _)
    | ((with_reducible apply Sy.ldN (t := 55)); exact rfl; exact rfl; exact hasT; (· first | exact ld_all ag55 (by first | exact sz55 | (simp [sz55, *]; done)) | exact ld_agg ag55 sz55 (by first | (simp; done) | (simp; omega)) (by first | with_reducible exact cut_kids | rfl | (simp [List.drop_append, List.take_append, List.getElem?_append, lay, hC_length, ints_length, ints_drop, ints_take, ints_append, List.drop_of_length_le, List.take_of_length_le, List.map_append, List.set_append, Value.cells]; done))))
    | ((with_reducible apply Sy.pickT); exact rfl; exact rfl; exact rfl)
    | ((with_reducible apply Sy.fa (t := 86) (i := 2)); exact rfl; exact rfl; exact fa86_2 _ _)
    | ((with_reducible apply Sy.ldN (t := 66)); exact rfl; exact rfl; exact hasT; (· first | exact ld_all ag66 (by first | exact sz66 | (simp [sz66, *]; done)) | exact ld_agg ag66 sz66 (by first | (simp; done) | (simp; omega)) (by first | with_reducible exact cut_kids | rfl | (simp [List.drop_append, List.take_append, List.getElem?_append, lay, hC_length, ints_length, ints_drop, ints_take, ints_append, List.drop_of_length_le, List.take_of_length_le, List.map_append, List.set_append, Value.cells]; done))))
    | ((with_reducible apply Sy.fa (t := 86) (i := 3)); exact rfl; exact rfl; exact fa86_3 _ _)
    | ((with_reducible apply Sy.ldN (t := 84)); exact rfl; exact rfl; exact hasT; (· first | exact ld_all ag84 (by first | exact sz84 | (simp [sz84, *]; done)) | exact ld_agg ag84 sz84 (by first | (simp; done) | (simp; omega)) (by first | with_reducible exact cut_kids | rfl | (simp [List.drop_append, List.take_append, List.getElem?_append, lay, hC_length, ints_length, ints_drop, ints_take, ints_append, List.drop_of_length_le, List.take_of_length_le, List.map_append, List.set_append, Value.cells]; done))))
    | ((with_reducible apply Sy.call0 (k := 22)); exact rfl; exact rfl; exact en22; exact rfl; (intro H' hp; exact k_Same x.m a b c d H' ho.m (hv1.of hp) (hw1.of hp)))
    | ((with_reducible apply Sy.call0 (k := 44)); exact rfl; exact rfl; exact en44; exact rfl; (intro H' hp; exact k_SameTx x.t a' b' c' d' H' ho.t (hv2.of hp) (hw2.of hp)))
    | ((with_reducible apply Sy.newY (o := ⟨some 2, .box 86 _, _, _, _, _⟩)); exact rfl; exact rfl; exact nbA rfl; intro q2)
    | ((with_reducible apply Sy.newY (o := ⟨some 3, .box 86 _, _, _, _, _⟩)); exact rfl; exact rfl; exact nbA rfl; intro q3)
    | (with_reducible refine Sy.ret ?_)
    | ((with_reducible apply Sy.goG); exact rfl; exact rfl; exact rfl))
  all_goals exact .fin [_] (.inr rfl) ⟨rfl, trivial⟩ fun H' hp => ⟨rfl, hp.less (List.nil_sublist _)⟩
end Go.Proofs.Ytcaafoibabijgaa
