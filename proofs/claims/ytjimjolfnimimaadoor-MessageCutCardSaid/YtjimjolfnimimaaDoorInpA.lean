/- Inputs as bytes and back. -/
import Derived.Test.YtjimjolfnimimaaDoorBatC
set_option linter.unusedSimpArgs false
set_option linter.unusedVariables false
/- Layer 09: inputs, what they are; as bytes and back. -/
namespace Go.Proofs.YtjimjolfnimimaaDoor
open Go Go.Am
set_option maxRecDepth 100000
set_option linter.unusedVariables false

structure Inp where
  b : Bool
  w : Wd
  m : Msg
  t : Txn
structure Inp.ok (x : Inp) : Prop where
  m : x.m.ok
  t : x.t.ok
def zeroI : Inp := ⟨false, zeroW, zeroM, zeroT⟩
theorem zeroT_ok : zeroT.ok := ⟨by decide, by decide, by decide, by decide, by decide, by simp [zeroT]⟩
theorem zeroI_ok : zeroI.ok := ⟨zeroM_ok, zeroT_ok⟩
def zmB (m : Msg) : Bool := decide ((m.n ||| m.s ||| m.t ||| m.g) = 0) && (decide (m.w = zeroW) && decide (m.d.length = 0))
def ztB (t : Txn) : Bool := decide (t.k = 0) && (decide ((t.f ||| t.n ||| t.t ||| t.g) = 0) && (decide (t.w = zeroW) && decide (t.d.length = 0)))
theorem zmB_eq {m : Msg} (h : zmB m = true) : m = zeroM := by
  obtain ⟨n, s, t, w, g, d⟩ := m
  simp only [zmB, Bool.and_eq_true, decide_eq_true_eq, Nat.or_eq_zero_iff, List.length_eq_zero_iff] at h
  obtain ⟨⟨⟨⟨rfl, rfl⟩, rfl⟩, rfl⟩, rfl, rfl⟩ := h
  rfl
theorem ztB_eq {m : Txn} (h : ztB m = true) : m = zeroT := by
  obtain ⟨k, f, n, t, w, g, d⟩ := m
  simp only [ztB, Bool.and_eq_true, decide_eq_true_eq, Nat.or_eq_zero_iff, List.length_eq_zero_iff] at h
  obtain ⟨rfl, ⟨⟨⟨rfl, rfl⟩, rfl⟩, rfl⟩, rfl, rfl⟩ := h
  rfl
def rightIB (x : Inp) : Bool := if x.b = true then rightMB x.m && ztB x.t else (decide (x.w = zeroW) && (zmB x.m && rightTB x.t))
def inpB (x : Inp) : List Nat := if x.b = true then be64 1 ++ (be256 x.w ++ msgB x.m) else be64 0 ++ txB x.t
def putI (x : Inp) : List Nat × Nat := if rightIB x = true then (inpB x, 0) else ([], 1)
def rdI (r : Rd) : Inp × Rd :=
  if (rdCnt 1 r).1 = 1 then (⟨true, rdW (rdCnt 1 r).2, (rdM ((rdCnt 1 r).2.next 32)).1, zeroT⟩, (rdM ((rdCnt 1 r).2.next 32)).2)
  else (⟨false, zeroW, zeroM, (rdT (rdCnt 1 r).2).1⟩, (rdT (rdCnt 1 r).2).2)
def getI (l : List Nat) : Inp × Nat := if rdDone (rdI ⟨l, 0⟩).2 = 0 ∧ rightIB (rdI ⟨l, 0⟩).1 = true then ((rdI ⟨l, 0⟩).1, 0) else (zeroI, 21)
theorem rdI_ok {r : Rd} (h : ∀ x ∈ r.l, x < 256) : (rdI r).1.ok := by
  have h0 := rdCnt_lt (m := 1) h
  unfold rdI
  split
  · exact ⟨(rdM_ok (Rd.next_lt (k := 32) h0)).1, zeroT_ok⟩
  · exact ⟨zeroM_ok, (rdT_ok h0).1⟩
theorem rdI_app {x : Inp} {r : List Nat} (ho : x.ok) (hr : rightIB x = true) : rdI ⟨inpB x ++ r, 0⟩ = (x, ⟨r, 0⟩) := by
  obtain ⟨b, w, m, t⟩ := x
  cases b with
  | true =>
    simp only [rightIB, if_pos, Bool.and_eq_true] at hr
    obtain ⟨h1, h2⟩ := hr
    have hd := (rightMB_d h1).2
    have h3 := ztB_eq h2
    subst h3
    have e : inpB ⟨true, w, m, zeroT⟩ ++ r = be64 1 ++ (be256 w ++ (msgB m ++ r)) := by simp [inpB]
    have e2 : rdM ⟨msgB m ++ r, 0⟩ = (m, ⟨r, 0⟩) := rdM_app ho.m (by omega)
    rw [e, rdI, rdCnt_app (by omega) (by omega)]
    dsimp only
    rw [if_pos rfl, rdW_app, next_w, e2]
  | false =>
    have hr : (decide (w = zeroW) && (zmB m && rightTB t)) = true := by simpa [rightIB] using hr
    simp only [Bool.and_eq_true, decide_eq_true_eq] at hr
    obtain ⟨rfl, h1, h2⟩ := hr
    have h3 := zmB_eq h1
    subst h3
    have h4 := rightTB_k h2
    have e : inpB ⟨false, zeroW, zeroM, t⟩ ++ r = be64 0 ++ (txB t ++ r) := by simp [inpB]
    have e2 : rdT ⟨txB t ++ r, 0⟩ = (t, ⟨r, 0⟩) := rdT_app ho.t ⟨h4.1, by omega⟩ (by omega)
    rw [e, rdI, rdCnt_app (by omega) (by omega)]
    dsimp only
    rw [if_neg (by omega), e2]
theorem get_inp {x : Inp} (ho : x.ok) (hr : rightIB x = true) : getI (inpB x) = (x, 0) := by
  have e : rdI ⟨inpB x, 0⟩ = (x, ⟨[], 0⟩) := by have := rdI_app (r := []) ho hr; rwa [List.append_nil] at this
  unfold getI
  rw [e]
  exact if_pos ⟨rdDone_ok rfl rfl, hr⟩
theorem can_I {l : List Nat} (hl : ∀ x ∈ l, x < 256) (h : (getI l).2 = 0) : l = inpB (getI l).1 ∧ rightIB (getI l).1 = true := by
  have h0 := rdCnt_lt (m := 1) (r := ⟨l, 0⟩) hl
  have hcc := can_cnt (m := 1) (r := ⟨l, 0⟩) (hl := hl)
  have hI : rdI ⟨l, 0⟩ = if (rdCnt 1 ⟨l, 0⟩).1 = 1 then (⟨true, rdW (rdCnt 1 ⟨l, 0⟩).2, (rdM ((rdCnt 1 ⟨l, 0⟩).2.next 32)).1, zeroT⟩, (rdM ((rdCnt 1 ⟨l, 0⟩).2.next 32)).2) else (⟨false, zeroW, zeroM, (rdT (rdCnt 1 ⟨l, 0⟩).2).1⟩, (rdT (rdCnt 1 ⟨l, 0⟩).2).2) := rfl
  unfold getI at h ⊢
  split
  · rename_i hc
    clear h
    obtain ⟨hd, hr⟩ := hc
    obtain ⟨h1, h2⟩ := rdDone_0 hd
    refine ⟨?_, hr⟩
    dsimp only
    generalize rdCnt 1 ⟨l, 0⟩ = C at *
    obtain ⟨n, r⟩ := C
    dsimp only at *
    split at hI
    · rename_i hn
      subst hn
      rw [hI] at h1 h2 ⊢
      dsimp only at h1 h2 ⊢
      obtain ⟨e1, c1⟩ := can_M h1 (Rd.next_lt (k := 32) h0)
      obtain ⟨e2, c2⟩ := can_w e1 h0
      obtain ⟨_, c3, _⟩ := hcc e2
      rw [h2, List.append_nil] at c1
      rw [c3, c2, c1]
      rfl
    · rename_i hn
      rw [hI] at h1 h2 ⊢
      dsimp only at h1 h2 ⊢
      obtain ⟨e1, c1⟩ := can_T h1 h0
      obtain ⟨_, c3, c4⟩ := hcc e1
      rw [h2, List.append_nil] at c1
      obtain rfl : n = 0 := by omega
      rw [c3, c1]
      rfl
  · rename_i hc
    rw [if_neg hc] at h
    simp at h
theorem getI_ok {l : List Nat} (hl : ∀ x ∈ l, x < 256) : (getI l).1.ok := by
  unfold getI
  split
  · exact rdI_ok hl
  · exact zeroI_ok
theorem inpB_lt {x : Inp} (ho : x.ok) : ∀ c ∈ inpB x, c < 256 := fun c hc => by
  unfold inpB at hc
  split at hc
  · rcases List.mem_append.1 hc with hc | hc
    · exact be64_lt _ c hc
    · rcases List.mem_append.1 hc with hc | hc
      · exact be256_lt _ c hc
      · exact msgB_lt ho.m c hc
  · rcases List.mem_append.1 hc with hc | hc
    · exact be64_lt _ c hc
    · unfold txB at hc
      rcases List.mem_append.1 hc with hc | hc
      · exact u64s_lt _ c hc
      · rcases List.mem_append.1 hc with hc | hc
        · exact be256_lt _ c hc
        · rcases List.mem_append.1 hc with hc | hc
          · exact be64_lt _ c hc
          · exact blobN_lt ho.t.d c hc
end Go.Proofs.YtjimjolfnimimaaDoor

/- Layer 09: inputs as values; which may be. -/
namespace Go.Proofs.YtjimjolfnimimaaDoor
open Go Go.Am
set_option maxRecDepth 100000
set_option linter.unusedVariables false

theorem take_at {α : Type} {l m : List α} {i : Nat} (h : i = l.length) : (l ++ m).take i = l := by subst h; rw [List.take_left]
theorem drop_at' {α : Type} {l m : List α} {i : Nat} (h : i = l.length) : (l ++ m).drop i = m := by subst h; rw [List.drop_left]
def inC (x : Inp) (v1 v2 : Value) : List Value := .bool x.b :: (wC x.w ++ (msgC x.m v1 ++ txC x.t v2))
abbrev inV (x : Inp) (v1 v2 : Value) : Value := .agg ⟨inC x v1 v2⟩
@[simp] theorem inC_length (x : Inp) (v1 v2 : Value) : (inC x v1 v2).length = 24 := by simp [inC]
@[simp] theorem inC_oneS (x : Inp) (a a' : Option Addr) (k c k' c' : Nat) : oneL (inC x (.slice a k c) (.slice a' k' c')) = true := by
  simp only [inC, oneL_cons, oneL_append, wC_one, msgC_oneS, txC_oneS]; rfl
theorem cut_iw {x : Inp} {v1 v2 : Value} : ((inC x v1 v2).drop (0 + 1)).take 4 = wC x.w := by
  show (wC x.w ++ (msgC x.m v1 ++ txC x.t v2)).take 4 = _
  exact take_at (by simp)
theorem cut_im {x : Inp} {v1 v2 : Value} : ((inC x v1 v2).drop (0 + 5)).take 9 = msgC x.m v1 := by
  show ((wC x.w ++ (msgC x.m v1 ++ txC x.t v2)).drop 4).take 9 = _
  rw [drop_at' (by simp)]
  exact take_at (by simp)
theorem cut_it {x : Inp} {v1 v2 : Value} : ((inC x v1 v2).drop (0 + 14)).take 10 = txC x.t v2 := by
  show ((wC x.w ++ (msgC x.m v1 ++ txC x.t v2)).drop 13).take 10 = _
  rw [← List.append_assoc, drop_at' (by simp)]
  exact List.take_of_length_le (by simp)
section
variable {x : Inp} {v1 v2 : Value} {T : TypeId} {b : Bool}
theorem ld_iall : aLoad Tryd.prog 87 (.cells (inC x v1 v2) T b) 0 = some (inV x v1 v2) := load_all ag87 sz87 (by simp)
theorem ld_riall : aLoad Tryd.prog 83 (.cells (inC x v1 v2) T b) 0 = some (inV x v1 v2) := load_all ag83 sz83 (by simp)
theorem ld_iw : aLoad Tryd.prog 24 (.cells (inC x v1 v2) T b) (0 + 1) = some (wV x.w) := ld_agg (cs' := wC x.w) ag24 sz24 (by simp) cut_iw
theorem ld_im : aLoad Tryd.prog 30 (.cells (inC x v1 v2) T b) (0 + 5) = some (msgV x.m v1) := ld_agg (cs' := msgC x.m v1) ag30 sz30 (by simp) cut_im
theorem ld_it : aLoad Tryd.prog 85 (.cells (inC x v1 v2) T b) (0 + 14) = some (txV x.t v2) := ld_agg (cs' := txC x.t v2) ag85 sz85 (by simp) cut_it
theorem ld_rim : aLoad Tryd.prog 27 (.cells (inC x v1 v2) T b) (0 + 5) = some (msgV x.m v1) := ld_agg (cs' := msgC x.m v1) ag27 sz27 (by simp) cut_im
theorem ld_rit : aLoad Tryd.prog 66 (.cells (inC x v1 v2) T b) (0 + 14) = some (txV x.t v2) := ld_agg (cs' := txC x.t v2) ag66 sz66 (by simp) cut_it
end
theorem or_lt64 {a b : Nat} (ha : a < 18446744073709551616) (hb : b < 18446744073709551616) : a ||| b < 18446744073709551616 := Nat.or_lt_two_pow (n := 64) ha hb
open MsgN in
set_option maxHeartbeats 1000000 in
theorem c_mzero (m : Msg) (a : Option Addr) (c : Nat) (H : AHeap) (ho : m.ok) : CallR Tryd.prog noPrims 167 [msgV m (.slice a m.d.length c)] H (fun u H' => u = .bool (zmB m) ∧ Hp H 0 0 H' [] []) := by
  have hmg := msgC_g m (.slice a m.d.length c)
  have hmd := msgC_d m (.slice a m.d.length c)
  have hn := ho.n; have hs := ho.s; have ht := ho.t; have hg := ho.g
  refine CallR.sy (n := 27) Tryd.func167 rfl rfl rfl ?_
  repeat' (first
    | (with_reducible refine Sy.seq ?_)
    | (with_reducible refine Sy.regionL ?_)
    | (with_reducible refine Sy.opsnil ?_)
    | (with_reducible refine Sy.go ?_)
    | (with_reducible refine Sy.nrm ?_)
    | ((with_reducible refine Sy.bin (op := .or) (t := 22) rfl rfl rfl (u64_or (by repeat (first | assumption | apply or_lt64)) (by repeat (first | assumption | apply or_lt64))) ?_))
    | ((with_reducible refine Sy.bin (op := .eql) (t := 24) rfl rfl rfl eqW ?_))
    | ((with_reducible refine Sy.build (t := 24) (ps := #[]) rfl rfl bvW0 ?_))
    | ((with_reducible apply Sy.assign); exact rfl; exact rfl)
    | ((with_reducible apply Sy.fa (t := 30) (i := 0)); exact rfl; exact rfl; exact fa30_0 _ _)
    | ((with_reducible apply Sy.ldN (t := 22)); exact rfl; exact rfl; exact hasT; (· first | exact ld_one ag22 rfl | exact ld_one ag22 (by with_reducible assumption)))
    | ((with_reducible apply Sy.fa (t := 30) (i := 1)); exact rfl; exact rfl; exact fa30_1 _ _)
    | ((with_reducible apply Sy.fa (t := 30) (i := 2)); exact rfl; exact rfl; exact fa30_2 _ _)
    | ((with_reducible apply Sy.fa (t := 30) (i := 4)); exact rfl; exact rfl; exact fa30_4 _ _)
    | ((with_reducible apply Sy.bin (op := .eql) (t := 22)); exact rfl; exact rfl; exact rfl; exact b_eql)
    | ((with_reducible apply Sy.bin (op := .eql) (t := 22)); exact rfl; exact rfl; exact rfl; exact bz_eql)
    | ((with_reducible apply Sy.move); exact rfl; exact rfl)
    | ((with_reducible apply Sy.fa (t := 30) (i := 3)); exact rfl; exact rfl; exact fa30_3 _ _)
    | ((with_reducible apply Sy.ldN (t := 24)); exact rfl; exact rfl; exact hasT; (· first | exact ld_agg ag24 sz24 (by first | (simp; done)) (by first | with_reducible exact cut_kids)))
    | ((with_reducible apply Sy.bin (op := .eql) (t := 24)); exact rfl; exact rfl; exact rfl; (· exact (eq24 (by first | rfl | assumption | (simp; done)) (by first | rfl | assumption | (simp; done)))))
    | ((with_reducible apply Sy.pickT); exact rfl; exact rfl; exact rfl)
    | ((with_reducible apply Sy.pickF); exact rfl; exact rfl; exact rfl)
    | ((with_reducible apply Sy.fa (t := 30) (i := 5)); exact rfl; exact rfl; exact fa30_5 _ _)
    | ((with_reducible apply Sy.ldN (t := 25)); exact rfl; exact rfl; exact hasT; (· first | exact ld_one ag25 rfl | exact ld_one ag25 (by with_reducible assumption)))
    | ((with_reducible apply Sy.lenS); exact rfl; exact Tryd.underlying25; exact rfl)
    | ((with_reducible apply Sy.bin (op := .eql) (t := 3)); exact rfl; exact rfl; exact rfl; exact b_eql)
    | ((with_reducible apply Sy.bin (op := .eql) (t := 3)); exact rfl; exact rfl; exact rfl; exact bz_eql)
    | ((with_reducible apply Sy.newY (o := ⟨some 1, .box 30 _, _, _, _, _⟩)); exact rfl; exact rfl; exact nbA rfl; intro q1)
    | (with_reducible refine Sy.ret ?_)
    | ((with_reducible apply Sy.goG); exact rfl; exact rfl; exact rfl)
    | ((with_reducible apply Sy.noG); exact rfl; exact rfl; exact rfl; exact rfl; exact rfl)
    | ((with_reducible apply Sy.caseG); (case hj => exact rfl); (case hx => exact rfl); all_goals (intro hc; try (exfalso; omega))))
  all_goals exact .fin [_] (.inr rfl) ⟨rfl, trivial⟩ fun H' hp => ⟨by refine congrArg Value.bool ?_; clear hmg hmd ho hp; simp_all [zmB], hp.less (List.nil_sublist _)⟩
open TxN in
set_option maxHeartbeats 1000000 in
theorem c_tzero (m : Txn) (a : Option Addr) (c : Nat) (H : AHeap) (ho : m.ok) : CallR Tryd.prog noPrims 166 [txV m (.slice a m.d.length c)] H (fun u H' => u = .bool (ztB m) ∧ Hp H 0 0 H' [] []) := by
  have hmg := txC_g m (.slice a m.d.length c)
  have hmd := txC_d m (.slice a m.d.length c)
  have hn := ho.n; have hf := ho.f; have ht := ho.t; have hg := ho.g
  refine CallR.sy (n := 32) Tryd.func166 rfl rfl rfl ?_
  repeat' (first
    | (with_reducible refine Sy.seq ?_)
    | (with_reducible refine Sy.regionL ?_)
    | (with_reducible refine Sy.opsnil ?_)
    | (with_reducible refine Sy.go ?_)
    | (with_reducible refine Sy.nrm ?_)
    | ((with_reducible refine Sy.bin (op := .or) (t := 22) rfl rfl rfl (u64_or (by repeat (first | assumption | apply or_lt64)) (by repeat (first | assumption | apply or_lt64))) ?_))
    | ((with_reducible refine Sy.bin (op := .eql) (t := 24) rfl rfl rfl eqW ?_))
    | ((with_reducible refine Sy.build (t := 24) (ps := #[]) rfl rfl bvW0 ?_))
    | ((with_reducible apply Sy.assign); exact rfl; exact rfl)
    | ((with_reducible apply Sy.fa (t := 85) (i := 0)); exact rfl; exact rfl; exact fa85_0 _ _)
    | ((with_reducible apply Sy.ldN (t := 3)); exact rfl; exact rfl; exact hasT; (· first | exact ld_one ag3 rfl | exact ld_one ag3 (by with_reducible assumption)))
    | ((with_reducible apply Sy.bin (op := .eql) (t := 3)); exact rfl; exact rfl; exact rfl; exact b_eql)
    | ((with_reducible apply Sy.bin (op := .eql) (t := 3)); exact rfl; exact rfl; exact rfl; exact bz_eql)
    | ((with_reducible apply Sy.move); exact rfl; exact rfl)
    | ((with_reducible apply Sy.fa (t := 85) (i := 1)); exact rfl; exact rfl; exact fa85_1 _ _)
    | ((with_reducible apply Sy.ldN (t := 22)); exact rfl; exact rfl; exact hasT; (· first | exact ld_one ag22 rfl | exact ld_one ag22 (by with_reducible assumption)))
    | ((with_reducible apply Sy.fa (t := 85) (i := 2)); exact rfl; exact rfl; exact fa85_2 _ _)
    | ((with_reducible apply Sy.fa (t := 85) (i := 3)); exact rfl; exact rfl; exact fa85_3 _ _)
    | ((with_reducible apply Sy.fa (t := 85) (i := 5)); exact rfl; exact rfl; exact fa85_5 _ _)
    | ((with_reducible apply Sy.bin (op := .eql) (t := 22)); exact rfl; exact rfl; exact rfl; exact b_eql)
    | ((with_reducible apply Sy.bin (op := .eql) (t := 22)); exact rfl; exact rfl; exact rfl; exact bz_eql)
    | ((with_reducible apply Sy.pickT); exact rfl; exact rfl; exact rfl)
    | ((with_reducible apply Sy.pickF); exact rfl; exact rfl; exact rfl)
    | ((with_reducible apply Sy.fa (t := 85) (i := 4)); exact rfl; exact rfl; exact fa85_4 _ _)
    | ((with_reducible apply Sy.ldN (t := 24)); exact rfl; exact rfl; exact hasT; (· first | exact ld_agg ag24 sz24 (by first | (simp; done)) (by first | with_reducible exact cut_kids)))
    | ((with_reducible apply Sy.bin (op := .eql) (t := 24)); exact rfl; exact rfl; exact rfl; (· exact (eq24 (by first | rfl | assumption | (simp; done)) (by first | rfl | assumption | (simp; done)))))
    | ((with_reducible apply Sy.fa (t := 85) (i := 6)); exact rfl; exact rfl; exact fa85_6 _ _)
    | ((with_reducible apply Sy.ldN (t := 25)); exact rfl; exact rfl; exact hasT; (· first | exact ld_one ag25 rfl | exact ld_one ag25 (by with_reducible assumption)))
    | ((with_reducible apply Sy.lenS); exact rfl; exact Tryd.underlying25; exact rfl)
    | ((with_reducible apply Sy.newY (o := ⟨some 1, .box 85 _, _, _, _, _⟩)); exact rfl; exact rfl; exact nbA rfl; intro q1)
    | (with_reducible refine Sy.ret ?_)
    | ((with_reducible apply Sy.goG); exact rfl; exact rfl; exact rfl)
    | ((with_reducible apply Sy.noG); exact rfl; exact rfl; exact rfl; exact rfl; exact rfl)
    | ((with_reducible apply Sy.caseG); (case hj => exact rfl); (case hx => exact rfl); all_goals (intro hc; try (exfalso; omega))))
  all_goals exact .fin [_] (.inr rfl) ⟨rfl, trivial⟩ fun H' hp => ⟨by refine congrArg Value.bool ?_; clear hmg hmd ho hp; simp_all [ztB], hp.less (List.nil_sublist _)⟩
theorem c_mzero' (m : Msg) (a : Option Addr) (c : Nat) (Z : Bool) (H : AHeap) (hZ : zmB m = Z) (ho : m.ok) : CallR Tryd.prog noPrims 167 [msgV m (.slice a m.d.length c)] H (fun u H' => u = .bool Z ∧ Hp H 0 0 H' [] []) := by
  subst hZ; exact c_mzero m a c H ho
theorem c_right' (m : Msg) (a : Option Addr) (c : Nat) (Z : Bool) (H : AHeap) (hZ : rightMB m = Z) (hg : m.g < 18446744073709551616) (hl : m.d.length < 9223372036854775808) : CallR Tryd.prog noPrims 52 [msgV m (.slice a m.d.length c)] H (fun u H' => u = .bool Z ∧ Hp H 0 0 H' [] []) := by
  subst hZ; exact c_right m a c H hg hl
set_option maxHeartbeats 2000000 in
theorem c_iright (x : Inp) (a a' : Option Addr) (c c' : Nat) (H : AHeap) (ho : x.ok) (h1 : x.m.d.length ≤ 140737488355328) (hv : SlR H 1 (.slice a' x.t.d.length c') x.t.d.length (ints .u8 x.t.d)) (h2 : x.t.d.length ≤ 140737488355328) :
    CallR Tryd.prog noPrims 165 [inV x (.slice a x.m.d.length c) (.slice a' x.t.d.length c')] H (fun u H' => u = .bool (rightIB x) ∧ Hp H 0 0 H' [] []) := by
  obtain ⟨Z, hZ⟩ : ∃ Z, zmB x.m = Z := ⟨_, rfl⟩
  obtain ⟨R, hR⟩ : ∃ R, rightMB x.m = R := ⟨_, rfl⟩
  have hm := ho.m; have ht := ho.t
  clear ho
  have e : rightIB x = if x.b = true then R && ztB x.t else (decide (x.w = zeroW) && (Z && rightTB x.t)) := by rw [← hZ, ← hR]; rfl
  rw [e]
  cases Z <;> cases R
  all_goals refine CallR.sy (n := 27) Tryd.func165 rfl rfl rfl ?_
  all_goals repeat' (first
    | (with_reducible refine Sy.seq ?_)
    | (with_reducible refine Sy.regionL ?_)
    | (with_reducible refine Sy.opsnil ?_)
    | (with_reducible refine Sy.go ?_)
    | (with_reducible refine Sy.nrm ?_)
    | ((with_reducible refine Sy.bin (op := .eql) (t := 24) rfl rfl rfl eqW ?_))
    | ((with_reducible refine Sy.build (t := 24) (ps := #[]) rfl rfl bvW0 ?_))
    | ((with_reducible refine Sy.ldN (t := 24) rfl rfl (by repeat (first | exact Has.here | apply Has.there | apply Has.app)) ld_iw ?_))
    | ((with_reducible refine Sy.ldN (t := 30) rfl rfl (by repeat (first | exact Has.here | apply Has.there | apply Has.app)) ld_im ?_))
    | ((with_reducible refine Sy.ldN (t := 85) rfl rfl (by repeat (first | exact Has.here | apply Has.there | apply Has.app)) ld_it ?_))
    | ((with_reducible apply Sy.assign); exact rfl; exact rfl)
    | ((with_reducible apply Sy.fa (t := 87) (i := 0)); exact rfl; exact rfl; exact fa87_0 _ _)
    | ((with_reducible apply Sy.ldN (t := 4)); exact rfl; exact rfl; exact hasT; (· first | exact ld_one ag4 rfl))
    | ((with_reducible apply Sy.fa (t := 87) (i := 2)); exact rfl; exact rfl; exact fa87_2 _ _)
    | ((with_reducible apply Sy.ldN (t := 30)); exact rfl; exact rfl; exact hasT; (· first | exact ld_all ag30 (by first | exact sz30 | (simp [sz30, *]; done)) | exact ld_agg ag30 sz30 (by first | (simp; done) | (simp; omega)) (by first | with_reducible exact cut_kids | rfl | (simp [List.drop_append, List.take_append, List.getElem?_append, lay, hC_length, ints_length, ints_drop, ints_take, ints_append, List.drop_of_length_le, List.take_of_length_le, List.map_append, List.set_append, Value.cells]; done))))
    | ((with_reducible apply Sy.move); exact rfl; exact rfl)
    | ((with_reducible apply Sy.fa (t := 87) (i := 3)); exact rfl; exact rfl; exact fa87_3 _ _)
    | ((with_reducible apply Sy.ldN (t := 85)); exact rfl; exact rfl; exact hasT; (· first | exact ld_all ag85 (by first | exact sz85 | (simp [sz85, *]; done)) | exact ld_agg ag85 sz85 (by first | (simp; done) | (simp; omega)) (by first | with_reducible exact cut_kids | rfl | (simp [List.drop_append, List.take_append, List.getElem?_append, lay, hC_length, ints_length, ints_drop, ints_take, ints_append, List.drop_of_length_le, List.take_of_length_le, List.map_append, List.set_append, Value.cells]; done))))
    | ((with_reducible apply Sy.pickT); exact rfl; exact rfl; exact rfl)
    | ((with_reducible apply Sy.pickF); exact rfl; exact rfl; exact rfl)
    | ((with_reducible apply Sy.fa (t := 87) (i := 1)); exact rfl; exact rfl; exact fa87_1 _ _)
    | ((with_reducible apply Sy.ldN (t := 24)); exact rfl; exact rfl; exact hasT; (· first | exact ld_all ag24 (by first | exact sz24 | (simp [sz24, *]; done)) | exact ld_agg ag24 sz24 (by first | (simp; done) | (simp; omega)) (by first | with_reducible exact cut_kids | rfl | (simp [List.drop_append, List.take_append, List.getElem?_append, lay, hC_length, ints_length, ints_drop, ints_take, ints_append, List.drop_of_length_le, List.take_of_length_le, List.map_append, List.set_append, Value.cells]; done))))
    | ((with_reducible apply Sy.call0 (k := 52)); exact rfl; exact rfl; exact en52; exact rfl; (intro H' hp; exact c_right' x.m a c _ H' hR hm.g (by omega)))
    | ((with_reducible apply Sy.call0 (k := 167)); exact rfl; exact rfl; exact en167; exact rfl; (intro H' hp; exact c_mzero' x.m a c _ H' hZ hm))
    | ((with_reducible apply Sy.call0 (k := 166)); exact rfl; exact rfl; exact en166; exact rfl; (intro H' hp; exact c_tzero x.t a' c' H' ht))
    | ((with_reducible apply Sy.call0 (k := 89)); exact rfl; exact rfl; exact en89; exact rfl; (intro H' hp; exact c_tright x.t a' c' H' ht (hv.of hp) h2))
    | ((with_reducible apply Sy.newY (o := ⟨some 1, .box 87 _, _, _, _, _⟩)); exact rfl; exact rfl; exact nbA rfl; intro q1)
    | (with_reducible refine Sy.skip ?_)
    | (with_reducible refine Sy.ret ?_)
    | (with_reducible refine Sy.aret ?_)
    | ((with_reducible apply Sy.goG); exact rfl; exact rfl; exact rfl)
    | ((with_reducible apply Sy.noG); exact rfl; exact rfl; exact rfl; exact rfl; exact rfl)
    | ((with_reducible apply Sy.caseG); (case hj => exact rfl); (case hx => exact rfl); all_goals (intro hc; try (exfalso; omega)))
    | ((with_reducible apply Sy.iteB); (case hx => exact rfl); all_goals intro hc))
  all_goals exact .fin [_] (.inr rfl) ⟨rfl, trivial⟩ fun H' hp => ⟨by refine congrArg Value.bool ?_; clear hv hm ht hp e; simp_all, hp.less (List.nil_sublist _)⟩
end Go.Proofs.YtjimjolfnimimaaDoor

/- Layer 09: the bytes of an input. -/
namespace Go.Proofs.YtjimjolfnimimaaDoor
open Go Go.Am
set_option maxRecDepth 100000
set_option linter.unusedVariables false

theorem mf165 : mfun Tryd.prog 87 "bascule/message.right" = some 165 := by kernel_rfl
theorem mf164 : mfun Tryd.prog 87 "bascule/message.put" = some 164 := by kernel_rfl
theorem k_wWideF (p q bv cap Tv : Nat) (wv : Bool) (l : List Nat) (w : Wd) (H : AHeap) (hX : l.length + 32 ≤ 65536) (hw : WrAt H p l q) (hg : H.get bv = .cells (wC w) Tv wv) :
    CallR Tryd.prog noPrims 55 [.pointer (some ⟨p, 0, none⟩), .slice (some ⟨bv, 0, none⟩) 1 cap] H (fun u H' => ∃ i : Unit, u = .int .i64 ((0 : Nat) : Int) ∧ WrOut H H' p q l (l ++ be256 w)) := by
  have := k_wWide p q bv cap Tv wv l w H hw hg
  rw [wrA_ok (by rw [be256_length]; exact hX)] at this
  exact this
set_option maxHeartbeats 2000000 in
theorem k_iput (p q : Nat) (x : Inp) (a a' : Option Addr) (c c' : Nat) (H : AHeap) (hw : WrAt H p [] q) (ho : x.ok) (hr : rightIB x = true) (hv1 : SlR H 1 (.slice a x.m.d.length c) x.m.d.length (ints .u8 x.m.d)) (hv2 : SlR H 1 (.slice a' x.t.d.length c') x.t.d.length (ints .u8 x.t.d)) :
    CallR Tryd.prog noPrims 164 [inV x (.slice a x.m.d.length c) (.slice a' x.t.d.length c'), .pointer (some ⟨p, 0, none⟩)] H (fun u H' => ∃ i : Unit, u = .tuple ⟨[]⟩ ∧ WrOut H H' p q [] (inpB x)) := by
  have hp0 := hw.obj
  obtain ⟨b, w, m, t⟩ := x
  have hom : m.ok := ho.m
  have hot : t.ok := ho.t
  dsimp only at hv1 hv2
  cases b with
  | false =>
    have hr' : rightTB t = true := by simp [rightIB] at hr; exact hr.2.2
    have hk := rightTB_k hr'
    have e : inpB ⟨false, w, m, t⟩ = u64s [0] ++ txB t := by simp [inpB, u64s]
    rw [e]
    clear e hr hr'
    have hmv : SlR H 1 (.slice a' t.d.length c') t.d.length (ints .u8 t.d) := hv2
    dsimp only
    refine CallR.sy (n := 26) Tryd.func164 rfl rfl rfl ?_
    refine Sy.touch (m := p) (o := .cells (wrC [] q) 161 true) hp0 rfl (by simp) ?_
    repeat' (first
    | (with_reducible refine Sy.seq ?_)
    | (with_reducible refine Sy.regionL ?_)
    | (with_reducible refine Sy.opsnil ?_)
    | (with_reducible refine Sy.go ?_)
    | (with_reducible refine Sy.nrm ?_)
    | ((with_reducible refine Sy.ldN (t := 85) rfl rfl (by repeat (first | exact Has.here | apply Has.there | apply Has.app)) (ld_it (x := ⟨false, w, m, t⟩)) ?_))
    | ((with_reducible apply Sy.callWo (k := 54) (pw := p) (q := q) (l := [])); exact rfl; exact rfl; exact en54; exact rfl; exact pull_nil; (intro H' hp; exact k_wUintF p q [] [0] _ H' (by simp [u64s_length]) (wrP_at hp pull_nil.perm (by simp) (by simp)) ⟨_, _, _, true, rfl, hp.getN hasT⟩ (by simp) (by simp)); rintro q1 ht1 hl1)
    | ((with_reducible apply Sy.fa (t := 87) (i := 0)); exact rfl; exact rfl; exact fa87_0 _ _)
    | ((with_reducible apply Sy.ldN (t := 4)); exact rfl; exact rfl; exact hasT; (· first | exact ld_one ag4 rfl))
    | ((with_reducible apply Sy.un (op := .not)); exact rfl; exact rfl; exact un_notT)
    | ((with_reducible apply Sy.un (op := .not)); exact rfl; exact rfl; exact un_notF)
    | ((with_reducible apply Sy.un (op := .not)); exact rfl; exact rfl; exact un_notD)
    | ((with_reducible apply Sy.un (op := .not)); exact rfl; exact rfl; exact un_not)
    | ((with_reducible apply Sy.move); exact rfl; exact rfl)
    | ((with_reducible apply Sy.fa (t := 87) (i := 3)); exact rfl; exact rfl; exact fa87_3 _ _)
    | ((with_reducible apply Sy.ldN (t := 85)); exact rfl; exact rfl; exact hasT; (· first | exact ld_all ag85 (by first | exact sz85 | (simp [sz85, *]; done)) | exact ld_agg ag85 sz85 (by first | (simp; done) | (simp; omega)) (by first | with_reducible exact cut_kids | rfl | (simp [List.drop_append, List.take_append, List.getElem?_append, lay, hC_length, ints_length, ints_drop, ints_take, ints_append, List.drop_of_length_le, List.take_of_length_le, List.map_append, List.set_append, Value.cells]; done))))
    | ((with_reducible apply Sy.fa (t := 87) (i := 1)); exact rfl; exact rfl; exact fa87_1 _ _)
    | ((with_reducible apply Sy.ldN (t := 24)); exact rfl; exact rfl; exact hasT; (· first | exact ld_all ag24 (by first | exact sz24 | (simp [sz24, *]; done)) | exact ld_agg ag24 sz24 (by first | (simp; done) | (simp; omega)) (by first | with_reducible exact cut_kids | rfl | (simp [List.drop_append, List.take_append, List.getElem?_append, lay, hC_length, ints_length, ints_drop, ints_take, ints_append, List.drop_of_length_le, List.take_of_length_le, List.map_append, List.set_append, Value.cells]; done))))
    | ((with_reducible apply Sy.fa (t := 87) (i := 2)); exact rfl; exact rfl; exact fa87_2 _ _)
    | ((with_reducible apply Sy.ldN (t := 30)); exact rfl; exact rfl; exact hasT; (· first | exact ld_all ag30 (by first | exact sz30 | (simp [sz30, *]; done)) | exact ld_agg ag30 sz30 (by first | (simp; done) | (simp; omega)) (by first | with_reducible exact cut_kids | rfl | (simp [List.drop_append, List.take_append, List.getElem?_append, lay, hC_length, ints_length, ints_drop, ints_take, ints_append, List.drop_of_length_le, List.take_of_length_le, List.map_append, List.set_append, Value.cells]; done))))
    | ((with_reducible apply Sy.newY (o := ⟨some 2, .box 87 _, _, _, _, _⟩)); exact rfl; exact rfl; exact nbA rfl; intro q2)
    | ((with_reducible apply Sy.newY (o := ⟨some 8, .buildSlice 162 _ _, _, _, _, _⟩)); exact rfl; exact rfl; exact (nbsI [_] Tryd.underlying162 sz22 zr22 rfl (by decide) rfl rfl); intro q8)
    | ((with_reducible apply Sy.newY (o := ⟨some 8, .buildSlice 162 _ _, _, _, _, _⟩)); exact rfl; exact rfl; exact (nbs1 Tryd.underlying162 sz22 zr22 rfl (by decide) rfl rfl); intro q8)
    | ((with_reducible apply Sy.newY (o := ⟨some 8, .buildSlice 162 _ _, _, _, _, _⟩)); exact rfl; exact rfl; (· exact (newY_bs Tryd.underlying162 sz22 zr22 rfl (by decide) rfl (by first | rfl | (simp [List.drop_append, List.take_append, List.getElem?_append, lay, hC_length, ints_length, ints_drop, ints_take, ints_append, List.drop_of_length_le, List.take_of_length_le, List.map_append, List.set_append, Value.cells]; done)))); intro q8)
    | ((with_reducible apply Sy.newY (o := ⟨some 15, .buildSlice 162 _ _, _, _, _, _⟩)); exact rfl; exact rfl; exact (nbsI [_] Tryd.underlying162 sz22 zr22 rfl (by decide) rfl rfl); intro q15)
    | ((with_reducible apply Sy.newY (o := ⟨some 15, .buildSlice 162 _ _, _, _, _, _⟩)); exact rfl; exact rfl; exact (nbs1 Tryd.underlying162 sz22 zr22 rfl (by decide) rfl rfl); intro q15)
    | ((with_reducible apply Sy.newY (o := ⟨some 15, .buildSlice 162 _ _, _, _, _, _⟩)); exact rfl; exact rfl; (· exact (newY_bs Tryd.underlying162 sz22 zr22 rfl (by decide) rfl (by first | rfl | (simp [List.drop_append, List.take_append, List.getElem?_append, lay, hC_length, ints_length, ints_drop, ints_take, ints_append, List.drop_of_length_le, List.take_of_length_le, List.map_append, List.set_append, Value.cells]; done)))); intro q15)
    | ((with_reducible apply Sy.newY (o := ⟨some 20, .buildSlice 164 _ _, _, _, _, _⟩)); exact rfl; exact rfl; (· exact (nba1 Tryd.underlying164 sz24 zr24 rfl (by decide) rfl (by first | exact hC_length _ | exact rfl | (simp; done)))); intro q20)
    | ((with_reducible apply Sy.newY (o := ⟨some 20, .buildSlice 164 _ _, _, _, _, _⟩)); exact rfl; exact rfl; (· exact (newY_bs Tryd.underlying164 sz24 zr24 rfl (by decide) rfl (by first | rfl | (simp [List.drop_append, List.take_append, List.getElem?_append, lay, hC_length, ints_length, ints_drop, ints_take, ints_append, List.drop_of_length_le, List.take_of_length_le, List.map_append, List.set_append, Value.cells]; done)))); intro q20)
    | ((with_reducible apply Sy.yes); exact rfl))
    rw [List.nil_append] at ht1 hl1 ⊢
    repeat' (first
    | (with_reducible refine Sy.opsnil ?_)
    | (with_reducible refine Sy.nrm ?_)
    | ((with_reducible apply Sy.callWo (k := 160) (pw := p) (q := q1) (l := u64s [0])); exact rfl; exact rfl; exact en160; exact rfl; exact pullT; (intro H' hp; exact k_tput p q1 (u64s [0]) t _ H' (wrP_at hp (pullT (A := bufM (u64s [0]) q1)).perm ht1 hl1) hot hk.1 (slr_keep hmv hp hp0) (away_rd hmv hp0 (fun hx => (hp.new_lt (by repeat (first | exact bufM_has hx))).1)) (by simp [u64s_length]; omega)); rintro q3 ht3 hl3)
    | (with_reducible refine Sy.ret ?_)
    | (with_reducible refine Sy.aret ?_))
    exact .fin [] (.inr rfl) trivial fun H' hp => ⟨(), rfl, wrP_out hp (List.Perm.refl _) ht3 hl3⟩
  | true =>
    have hr' : rightMB m = true := by simp [rightIB] at hr; exact hr.1
    have hk := rightMB_d hr'
    have e : inpB ⟨true, w, m, t⟩ = u64s [1] ++ be256 w ++ msgB m := by simp [inpB, u64s]
    rw [e]
    clear e hr hr'
    have hmv : SlR H 1 (.slice a m.d.length c) m.d.length (ints .u8 m.d) := hv1
    dsimp only
    refine CallR.sy (n := 26) Tryd.func164 rfl rfl rfl ?_
    refine Sy.touch (m := p) (o := .cells (wrC [] q) 161 true) hp0 rfl (by simp) ?_
    repeat' (first
    | (with_reducible refine Sy.seq ?_)
    | (with_reducible refine Sy.regionL ?_)
    | (with_reducible refine Sy.opsnil ?_)
    | (with_reducible refine Sy.go ?_)
    | (with_reducible refine Sy.nrm ?_)
    | ((with_reducible refine Sy.ldN (t := 24) rfl rfl (by repeat (first | exact Has.here | apply Has.there | apply Has.app)) (ld_iw (x := ⟨true, w, m, t⟩)) ?_))
    | ((with_reducible apply Sy.callWo (k := 54) (pw := p) (q := q) (l := [])); exact rfl; exact rfl; exact en54; exact rfl; exact pull_nil; (intro H' hp; exact k_wUintF p q [] [1] _ H' (by simp [u64s_length]) (wrP_at hp pull_nil.perm (by simp) (by simp)) ⟨_, _, _, true, rfl, hp.getN hasT⟩ (by simp) (by simp)); rintro q1 ht1 hl1)
    | ((with_reducible apply Sy.fa (t := 87) (i := 0)); exact rfl; exact rfl; exact fa87_0 _ _)
    | ((with_reducible apply Sy.ldN (t := 4)); exact rfl; exact rfl; exact hasT; (· first | exact ld_one ag4 rfl))
    | ((with_reducible apply Sy.un (op := .not)); exact rfl; exact rfl; exact un_notT)
    | ((with_reducible apply Sy.un (op := .not)); exact rfl; exact rfl; exact un_notF)
    | ((with_reducible apply Sy.un (op := .not)); exact rfl; exact rfl; exact un_notD)
    | ((with_reducible apply Sy.un (op := .not)); exact rfl; exact rfl; exact un_not)
    | ((with_reducible apply Sy.move); exact rfl; exact rfl)
    | ((with_reducible apply Sy.fa (t := 87) (i := 3)); exact rfl; exact rfl; exact fa87_3 _ _)
    | ((with_reducible apply Sy.ldN (t := 85)); exact rfl; exact rfl; exact hasT; (· first | exact ld_all ag85 (by first | exact sz85 | (simp [sz85, *]; done)) | exact ld_agg ag85 sz85 (by first | (simp; done) | (simp; omega)) (by first | with_reducible exact cut_kids | rfl | (simp [List.drop_append, List.take_append, List.getElem?_append, lay, hC_length, ints_length, ints_drop, ints_take, ints_append, List.drop_of_length_le, List.take_of_length_le, List.map_append, List.set_append, Value.cells]; done))))
    | ((with_reducible apply Sy.fa (t := 87) (i := 1)); exact rfl; exact rfl; exact fa87_1 _ _)
    | ((with_reducible apply Sy.ldN (t := 24)); exact rfl; exact rfl; exact hasT; (· first | exact ld_all ag24 (by first | exact sz24 | (simp [sz24, *]; done)) | exact ld_agg ag24 sz24 (by first | (simp; done) | (simp; omega)) (by first | with_reducible exact cut_kids | rfl | (simp [List.drop_append, List.take_append, List.getElem?_append, lay, hC_length, ints_length, ints_drop, ints_take, ints_append, List.drop_of_length_le, List.take_of_length_le, List.map_append, List.set_append, Value.cells]; done))))
    | ((with_reducible apply Sy.fa (t := 87) (i := 2)); exact rfl; exact rfl; exact fa87_2 _ _)
    | ((with_reducible apply Sy.ldN (t := 30)); exact rfl; exact rfl; exact hasT; (· first | exact ld_all ag30 (by first | exact sz30 | (simp [sz30, *]; done)) | exact ld_agg ag30 sz30 (by first | (simp; done) | (simp; omega)) (by first | with_reducible exact cut_kids | rfl | (simp [List.drop_append, List.take_append, List.getElem?_append, lay, hC_length, ints_length, ints_drop, ints_take, ints_append, List.drop_of_length_le, List.take_of_length_le, List.map_append, List.set_append, Value.cells]; done))))
    | ((with_reducible apply Sy.newY (o := ⟨some 2, .box 87 _, _, _, _, _⟩)); exact rfl; exact rfl; exact nbA rfl; intro q2)
    | ((with_reducible apply Sy.newY (o := ⟨some 8, .buildSlice 162 _ _, _, _, _, _⟩)); exact rfl; exact rfl; exact (nbsI [_] Tryd.underlying162 sz22 zr22 rfl (by decide) rfl rfl); intro q8)
    | ((with_reducible apply Sy.newY (o := ⟨some 8, .buildSlice 162 _ _, _, _, _, _⟩)); exact rfl; exact rfl; exact (nbs1 Tryd.underlying162 sz22 zr22 rfl (by decide) rfl rfl); intro q8)
    | ((with_reducible apply Sy.newY (o := ⟨some 8, .buildSlice 162 _ _, _, _, _, _⟩)); exact rfl; exact rfl; (· exact (newY_bs Tryd.underlying162 sz22 zr22 rfl (by decide) rfl (by first | rfl | (simp [List.drop_append, List.take_append, List.getElem?_append, lay, hC_length, ints_length, ints_drop, ints_take, ints_append, List.drop_of_length_le, List.take_of_length_le, List.map_append, List.set_append, Value.cells]; done)))); intro q8)
    | ((with_reducible apply Sy.newY (o := ⟨some 15, .buildSlice 162 _ _, _, _, _, _⟩)); exact rfl; exact rfl; exact (nbsI [_] Tryd.underlying162 sz22 zr22 rfl (by decide) rfl rfl); intro q15)
    | ((with_reducible apply Sy.newY (o := ⟨some 15, .buildSlice 162 _ _, _, _, _, _⟩)); exact rfl; exact rfl; exact (nbs1 Tryd.underlying162 sz22 zr22 rfl (by decide) rfl rfl); intro q15)
    | ((with_reducible apply Sy.newY (o := ⟨some 15, .buildSlice 162 _ _, _, _, _, _⟩)); exact rfl; exact rfl; (· exact (newY_bs Tryd.underlying162 sz22 zr22 rfl (by decide) rfl (by first | rfl | (simp [List.drop_append, List.take_append, List.getElem?_append, lay, hC_length, ints_length, ints_drop, ints_take, ints_append, List.drop_of_length_le, List.take_of_length_le, List.map_append, List.set_append, Value.cells]; done)))); intro q15)
    | ((with_reducible apply Sy.newY (o := ⟨some 20, .buildSlice 164 _ _, _, _, _, _⟩)); exact rfl; exact rfl; (· exact (nba1 Tryd.underlying164 sz24 zr24 rfl (by decide) rfl (by first | (simp; done)))); intro q20)
    | ((with_reducible apply Sy.newY (o := ⟨some 20, .buildSlice 164 _ _, _, _, _, _⟩)); exact rfl; exact rfl; (· exact (newY_bs Tryd.underlying164 sz24 zr24 rfl (by decide) rfl (by first | rfl | (simp [List.drop_append, List.take_append, List.getElem?_append, lay, hC_length, ints_length, ints_drop, ints_take, ints_append, List.drop_of_length_le, List.take_of_length_le, List.map_append, List.set_append, Value.cells]; done)))); intro q20)
    | (with_reducible refine Sy.skip ?_)
    | ((with_reducible apply Sy.no); exact rfl))
    rw [List.nil_append] at ht1 hl1 ⊢
    repeat' (first
    | (with_reducible refine Sy.regionL ?_)
    | (with_reducible refine Sy.opsnil ?_)
    | (with_reducible refine Sy.go ?_)
    | (with_reducible refine Sy.nrm ?_)
    | ((with_reducible refine Sy.ldN (t := 30) rfl rfl (by repeat (first | exact Has.here | apply Has.there | apply Has.app)) (ld_im (x := ⟨true, w, m, t⟩)) ?_))
    | ((with_reducible apply Sy.callWo (k := 55) (pw := p) (q := q1) (l := u64s [1])); exact rfl; exact rfl; exact en55; exact rfl; exact pullT; (intro H' hp; exact k_wWideF p q1 _ _ _ true (u64s [1]) w H' (by simp [u64s_length]) (wrP_at hp (pullT (A := bufM (u64s [1]) q1)).perm ht1 hl1) (hp.getN hasT)); rintro q2 ht2 hl2)
    | ((with_reducible apply Sy.fa (t := 87) (i := 0)); exact rfl; exact rfl; exact fa87_0 _ _)
    | ((with_reducible apply Sy.move); exact rfl; exact rfl)
    | ((with_reducible apply Sy.fa (t := 87) (i := 3)); exact rfl; exact rfl; exact fa87_3 _ _)
    | ((with_reducible apply Sy.fa (t := 87) (i := 1)); exact rfl; exact rfl; exact fa87_1 _ _)
    | ((with_reducible apply Sy.fa (t := 87) (i := 2)); exact rfl; exact rfl; exact fa87_2 _ _))
    repeat' (first
    | (with_reducible refine Sy.opsnil ?_)
    | ((with_reducible apply Sy.callWo (k := 156) (pw := p) (q := q2) (l := u64s [1] ++ be256 w)); exact rfl; exact rfl; exact en156; exact rfl; exact pullT; (intro H' hp; exact k_mput p q2 (u64s [1] ++ be256 w) m _ H' (wrP_at hp (pullT (A := bufM (u64s [1] ++ be256 w) q2)).perm ht2 hl2) hom (slr_keep hmv hp hp0) (away_rd hmv hp0 (fun hx => (hp.new_lt (by repeat (first | exact bufM_has hx))).1)) (by simp [u64s_length]; omega)); rintro q3 ht3 hl3))
    exact .fin [] (.inl rfl) trivial fun H' hp => ⟨(), rfl, wrP_out hp (List.Perm.refl _) ht3 hl3⟩
set_option maxHeartbeats 1000000 in
theorem k_bytesI (x : Inp) (a a' : Option Addr) (c c' : Nat) (P : List Nat × Nat) (H : AHeap) (hP : putI x = P) (ho : x.ok) (hv1 : SlR H 1 (.slice a x.m.d.length c) x.m.d.length (ints .u8 x.m.d)) (hv2 : SlR H 1 (.slice a' x.t.d.length c') x.t.d.length (ints .u8 x.t.d)) (h1 : x.m.d.length ≤ 140737488355328) (h2 : x.t.d.length ≤ 140737488355328) :
    CallR Tryd.prog noPrims 44 [.iface 87 (inV x (.slice a x.m.d.length c) (.slice a' x.t.d.length c'))] H (fun u H' => ∃ i : Nat × Option Addr × Nat, Vw i.1 P.1 (.slice i.2.1 P.1.length i.2.2) P.1 ∧ u = .tuple ⟨[.slice i.2.1 P.1.length i.2.2, .int .i64 ((P.2 : Nat) : Int)]⟩ ∧ Hp H 0 0 H' [] (bufM P.1 i.1)) := by
  refine CallR.sy (n := 14) Tryd.func44 rfl rfl rfl ?_
  repeat' (first
    | (with_reducible refine Sy.seq ?_)
    | (with_reducible refine Sy.regionL ?_)
    | (with_reducible refine Sy.opsnil ?_)
    | (with_reducible refine Sy.go ?_)
    | (with_reducible refine Sy.nrm ?_)
    | ((with_reducible apply Sy.assign); exact rfl; exact rfl)
    | ((with_reducible apply Sy.move); exact rfl; exact rfl)
    | ((with_reducible apply Sy.un (op := .not)); exact rfl; exact rfl; exact un_notT)
    | ((with_reducible apply Sy.un (op := .not)); exact rfl; exact rfl; exact un_notF)
    | ((with_reducible apply Sy.un (op := .not)); exact rfl; exact rfl; exact un_notD)
    | ((with_reducible apply Sy.un (op := .not)); exact rfl; exact rfl; exact un_not)
    | ((with_reducible apply Sy.inv0 (k := 165)); exact rfl; exact rfl; exact mf165; exact en165; exact rfl; (intro H' hp; exact c_iright x a a' c c' H' ho h1 (hv2.of hp) h2))
    | ((with_reducible apply Sy.callN (k := 53)); exact rfl; exact rfl; exact en53; exact rfl; (intro H' hp; exact k_NewWriter H'); rintro p -)
    | (with_reducible refine Sy.skip ?_)
    | (with_reducible refine Sy.ret ?_)
    | (with_reducible refine Sy.aret ?_)
    | ((with_reducible apply Sy.iteB); (case hx => exact rfl); all_goals intro hc))
  · have e : putI x = ([], 1) := by rw [putI, if_neg (by simp_all)]
    rw [← hP, e]
    exact .fin [_, _] (.inr rfl) ⟨rfl, rfl, trivial⟩ fun H' hp => ⟨(0, none, 0), .inl ⟨rfl, rfl⟩, rfl, hp⟩
  · have hr : rightIB x = true := by simp_all
    have e : P = (inpB x, 0) := by rw [← hP, putI, if_pos hr]
    rw [e]
    clear e hP
    dsimp only
    repeat' (first
    | (with_reducible refine Sy.seq ?_)
    | (with_reducible refine Sy.regionL ?_)
    | (with_reducible refine Sy.opsnil ?_)
    | (with_reducible refine Sy.go ?_)
    | (with_reducible refine Sy.nrm ?_)
    | ((with_reducible apply Sy.move); exact rfl; exact rfl)
    | ((with_reducible apply Sy.invH (k := 164)); exact rfl; exact rfl; exact mf164; exact en164; exact rfl; (intro H' hp; exact k_iput p 0 x a a' c c' H' (WrAt.new hp .here) ho hr (hv1.of hp) (hv2.of hp)); rintro ⟨⟩ H1 H2 hp hJ))
    obtain ⟨q, hw2, _, _⟩ := id hJ
    generalize inpB x = L at hJ hw2 ⊢
    repeat' (first
    | (with_reducible refine Sy.opsnil ?_)
    | (with_reducible refine Sy.go ?_)
    | (with_reducible refine Sy.nrm ?_)
    | ((with_reducible apply Sy.assign); exact rfl; exact rfl)
    | ((with_reducible apply Sy.callN (k := 58)); exact rfl; exact rfl; exact en58; exact rfl; (intro H' hp; exact k_wrBytes p q L H' (hw2.of hp)); rintro ⟨c, v'⟩ hv')
    | (with_reducible refine Sy.ret ?_))
    dsimp only at hv' ⊢
    obtain ⟨sa, sc, rfl⟩ := hv'.slice
    exact .fin [_, _] (.inr rfl) ⟨rfl, rfl, trivial⟩ fun H' hp2 => ⟨(c, sa, sc), hv', rfl, by
      have := (WrOut.hp0 hp .here hJ).then0 (hp2.less (List.sublist_append_left _ _)); rwa [List.append_nil] at this⟩
theorem k_PutInput (x : Inp) (a a' : Option Addr) (c c' : Nat) (P : List Nat × Nat) (H : AHeap) (hP : putI x = P) (ho : x.ok) (hv1 : SlR H 1 (.slice a x.m.d.length c) x.m.d.length (ints .u8 x.m.d)) (hv2 : SlR H 1 (.slice a' x.t.d.length c') x.t.d.length (ints .u8 x.t.d)) (h1 : x.m.d.length ≤ 140737488355328) (h2 : x.t.d.length ≤ 140737488355328) :
    CallR Tryd.prog noPrims 38 [inV x (.slice a x.m.d.length c) (.slice a' x.t.d.length c')] H (fun u H' => ∃ i : Nat × Option Addr × Nat, Vw i.1 P.1 (.slice i.2.1 P.1.length i.2.2) P.1 ∧ u = .tuple ⟨[.slice i.2.1 P.1.length i.2.2, .int .i64 ((P.2 : Nat) : Int)]⟩ ∧ Hp H 0 0 H' [] (bufM P.1 i.1)) := by
  refine CallR.sy (n := 9) Tryd.func38 rfl rfl rfl ?_
  repeat' (first
    | (with_reducible refine Sy.seq ?_)
    | (with_reducible refine Sy.regionL ?_)
    | (with_reducible refine Sy.opsnil ?_)
    | (with_reducible refine Sy.go ?_)
    | (with_reducible refine Sy.nrm ?_)
    | ((with_reducible apply Sy.assign); exact rfl; exact rfl)
    | ((with_reducible apply Sy.ldN (t := 87)); exact rfl; exact rfl; exact hasT; (· first | exact ld_all ag87 (by first | (simp [sz87, *]; done))))
    | ((with_reducible apply Sy.iface); exact rfl; exact rfl; exact if87)
    | ((with_reducible apply Sy.ext); exact rfl; exact rfl; exact rfl)
    | ((with_reducible apply Sy.callN (k := 44)); exact rfl; exact rfl; exact en44; exact rfl; (intro H' hp; exact k_bytesI x a a' c c' P H' hP ho (hv1.of hp) (hv2.of hp) h1 h2); rintro ⟨c, a, k⟩ h3)
    | ((with_reducible apply Sy.newY (o := ⟨some 1, .box 87 _, _, _, _, _⟩)); exact rfl; exact rfl; exact nbA rfl; intro q1)
    | (with_reducible refine Sy.ret ?_))
  dsimp only at h3 ⊢
  exact .fin [_, _] (.inr rfl) ⟨rfl, rfl, trivial⟩ fun H' hp => ⟨(c, a, k), h3, rfl, hp.less (List.sublist_append_left _ _)⟩
end Go.Proofs.YtjimjolfnimimaaDoor

/- Layer 09: an input out of bytes. -/
namespace Go.Proofs.YtjimjolfnimimaaDoor
open Go Go.Am
set_option maxRecDepth 100000
set_option linter.unusedVariables false

theorem lay_mid {a b b' d : List Value} {o : Nat} (ho : o = a.length) (hb : b.length = b'.length) : lay (a ++ (b ++ d)) o b' = a ++ (b' ++ d) := by
  have h1 := lay_there (a := a) (b := b ++ d) (o := a.length) (k := 0) (v := b') rfl
  rw [Nat.add_zero, lay_here hb] at h1
  rw [ho]; exact h1
theorem setIw {x : Inp} {v1 v2 : Value} {w : Wd} : lay (inC x v1 v2) (0 + 1) (wC w) = inC ⟨x.b, w, x.m, x.t⟩ v1 v2 := lay_mid (a := [.bool x.b]) rfl (by simp)
theorem setIm {x : Inp} {v1 v2 v : Value} {m : Msg} : lay (inC x v1 v2) (0 + 5) (msgC m v) = inC ⟨x.b, x.w, m, x.t⟩ v v2 := by
  have := lay_mid (a := .bool x.b :: wC x.w) (b := msgC x.m v1) (b' := msgC m v) (d := txC x.t v2) (o := 0 + 5) (by simp) (by simp)
  exact this
theorem setIt {x : Inp} {v1 v2 v : Value} {t : Txn} : lay (inC x v1 v2) (0 + 14) (txC t v) = inC ⟨x.b, x.w, x.m, t⟩ v1 v := by
  have := lay_mid (a := .bool x.b :: (wC x.w ++ msgC x.m v1)) (b := txC x.t v2) (b' := txC t v) (d := []) (o := 0 + 14) (by simp) (by simp)
  simp only [List.append_nil] at this
  simpa [inC] using this
theorem bvI0 : buildV Tryd.prog 87 [] = some (inV zeroI (.slice none zeroI.m.d.length 0) (.slice none zeroI.t.d.length 0)) := bv87 rfl
theorem bvI1 {b : Bool} : buildV Tryd.prog 87 [(0, .bool b)] = some (inV ⟨b, zeroW, zeroM, zeroT⟩ (.slice none zeroM.d.length 0) (.slice none zeroT.d.length 0)) := bv87 rfl
theorem k_doneI {p c : Nat} {lb : List Nat} {r : Rd} {v : Value} {x : Inp} {a a' : Option Addr} {k k' : Nat} {H : AHeap} (h : RdAt H p c lb r v) (ho : x.ok) (h1 : x.m.d.length ≤ 140737488355328) (hv : SlR H 1 (.slice a' x.t.d.length k') x.t.d.length (ints .u8 x.t.d)) (h2 : x.t.d.length ≤ 140737488355328) :
    CallR Tryd.prog noPrims 48 [.pointer (some ⟨p, 0, none⟩), .iface 87 (inV x (.slice a x.m.d.length k) (.slice a' x.t.d.length k'))] H (fun u H' => u = .bool (decide (rdDone r = 0) && rightIB x) ∧ Hp H 0 0 H' [] []) := by
  refine CallR.sy (n := 12) Tryd.func48 rfl rfl rfl ?_
  repeat' (first
    | (with_reducible refine Sy.seq ?_)
    | (with_reducible refine Sy.regionL ?_)
    | (with_reducible refine Sy.opsnil ?_)
    | (with_reducible refine Sy.go ?_)
    | (with_reducible refine Sy.nrm ?_)
    | ((with_reducible apply Sy.assign); exact rfl; exact rfl)
    | ((with_reducible apply Sy.move); exact rfl; exact rfl)
    | ((with_reducible apply Sy.bin (op := .eql) (t := 32)); exact rfl; exact rfl; exact rfl; exact b_eql)
    | ((with_reducible apply Sy.bin (op := .eql) (t := 32)); exact rfl; exact rfl; exact rfl; exact bz_eql)
    | ((with_reducible apply Sy.pickT); exact rfl; exact rfl; exact rfl)
    | ((with_reducible apply Sy.pickF); exact rfl; exact rfl; exact rfl)
    | ((with_reducible apply Sy.call0 (k := 69)); exact rfl; exact rfl; exact en69; exact rfl; (intro H' hp; exact k_rdDone (h.of hp (List.forall_mem_nil _))))
    | ((with_reducible apply Sy.inv0 (k := 165)); exact rfl; exact rfl; exact mf165; exact en165; exact rfl; (intro H' hp; exact c_iright x a a' k k' H' ho h1 (hv.of hp) h2))
    | (with_reducible refine Sy.ret ?_)
    | ((with_reducible apply Sy.goG); exact rfl; exact rfl; exact rfl)
    | ((with_reducible apply Sy.noG); exact rfl; exact rfl; exact rfl; exact rfl; exact rfl)
    | ((with_reducible apply Sy.caseG); (case hj => exact rfl); (case hx => exact rfl); all_goals (intro hc; try (exfalso; omega))))
  all_goals exact .fin [_] (.inr rfl) ⟨rfl, trivial⟩ fun H' hp => ⟨by show tupV [_] = _; simp [tupV, hc], hp⟩
theorem k_message' {p c : Nat} {lb : List Nat} {r : Rd} {v : Value} {R : Msg × Rd} {H : AHeap} (hR : rdM r = R) (h : RdAt H p c lb r v) :
    CallR Tryd.prog noPrims 47 [.pointer (some ⟨p, 0, none⟩)] H (fun u H' => ∃ i : Value × Option Addr × Nat, (Vw c lb i.1 R.2.l ∧ Vw c lb (.slice i.2.1 R.1.d.length i.2.2) R.1.d) ∧ u = msgV R.1 (.slice i.2.1 R.1.d.length i.2.2) ∧ Hp H 0 0 H' [(p, .cells (rdC i.1 R.2.e) 160 true)] []) := by
  subst hR
  exact (k_message h).mono fun u H' ⟨i, ⟨h1, h2⟩, h3, h4⟩ => by
    obtain ⟨a, c, e⟩ := h2.slice
    exact ⟨(i.1, a, c), ⟨h1, by rw [← e]; exact h2⟩, by rw [← e]; exact h3, h4⟩
theorem vw_zm {c : Nat} {l : List Nat} : Vw c l (.slice none zeroM.d.length 0) zeroM.d := .inl ⟨rfl, rfl⟩
theorem vw_zt {c : Nat} {l : List Nat} : Vw c l (.slice none zeroT.d.length 0) zeroT.d := .inl ⟨rfl, rfl⟩
set_option maxHeartbeats 2000000 in
theorem k_GetInput (v : Value) (l : List Nat) (G : Inp × Nat) (H : AHeap) (hG : getI l = G) (hv : SlR H 1 v l.length (ints .u8 l)) (h256 : ∀ x ∈ l, x < 256) (hl : l.length ≤ 140737488355328) :
    CallR Tryd.prog noPrims 40 [v] H (fun u H' => ∃ i : Nat × (Option Addr × Nat) × (Option Addr × Nat), (Vw i.1 l (.slice i.2.1.1 G.1.m.d.length i.2.1.2) G.1.m.d ∧ Vw i.1 l (.slice i.2.2.1 G.1.t.d.length i.2.2.2) G.1.t.d) ∧ u = .tuple ⟨[inV G.1 (.slice i.2.1.1 G.1.m.d.length i.2.1.2) (.slice i.2.2.1 G.1.t.d.length i.2.2.2), .int .i64 ((G.2 : Nat) : Int)]⟩ ∧ Hp H 0 0 H' [] (bufM l i.1)) := by
  obtain ⟨va, vk, rfl⟩ := slr_form hv
  refine CallR.sy (n := 30) Tryd.func40 rfl rfl rfl ?_
  repeat' (first
    | (with_reducible refine Sy.seq ?_)
    | (with_reducible refine Sy.regionL ?_)
    | (with_reducible refine Sy.opsnil ?_)
    | (with_reducible refine Sy.go ?_)
    | (with_reducible refine Sy.nrm ?_)
    | ((with_reducible apply Sy.assign); exact rfl; exact rfl)
    | ((with_reducible apply Sy.move); exact rfl; exact rfl)
    | ((with_reducible apply Sy.callN (k := 46)); exact rfl; exact rfl; exact en46; exact rfl; (intro H' hp; exact k_NewReader _ l H' (hv.of hp) hl); rintro ⟨p, c, v1⟩ h1)
    | ((with_reducible apply Sy.newY (o := ⟨some 2, .alloc 87, _, _, _, _⟩)); exact rfl; exact rfl; exact nwz87; intro q2)
    | ((with_reducible apply Sy.newY (o := ⟨some 5, .alloc 87, _, _, _, _⟩)); exact rfl; exact rfl; exact nwz87; intro q5))
  dsimp only at h1 ⊢
  rw [List.cons_append]
  have hok := rdI_ok (r := ⟨l, 0⟩) h256
  have hG2 : getI l = if rdDone (rdI ⟨l, 0⟩).2 = 0 ∧ rightIB (rdI ⟨l, 0⟩).1 = true then ((rdI ⟨l, 0⟩).1, 0) else (zeroI, 21) := rfl
  have hI : rdI ⟨l, 0⟩ = if (rdCnt 1 ⟨l, 0⟩).1 = 1 then (⟨true, rdW (rdCnt 1 ⟨l, 0⟩).2, (rdM ((rdCnt 1 ⟨l, 0⟩).2.next 32)).1, zeroT⟩, (rdM ((rdCnt 1 ⟨l, 0⟩).2.next 32)).2) else (⟨false, zeroW, zeroM, (rdT (rdCnt 1 ⟨l, 0⟩).2).1⟩, (rdT (rdCnt 1 ⟨l, 0⟩).2).2) := rfl
  have hr1 := rdCnt_lt (m := 1) (r := ⟨l, 0⟩) h256
  have hr1l := rdCnt_u (m := 1) (r := ⟨l, 0⟩)
  rw [hG] at hG2
  clear hG
  generalize rdI ⟨l, 0⟩ = I at hok hG2 hI
  repeat' (first
    | (with_reducible refine Sy.seq ?_)
    | (with_reducible refine Sy.regionL ?_)
    | (with_reducible refine Sy.opsnil ?_)
    | (with_reducible refine Sy.go ?_)
    | (with_reducible refine Sy.nrm ?_)
    | ((with_reducible refine Sy.build (t := 87) rfl rfl bvI1 ?_))
    | ((with_reducible apply Sy.move); exact rfl; exact rfl)
    | ((with_reducible apply Sy.bin (op := .eql) (t := 3)); exact rfl; exact rfl; exact rfl; exact b_eql)
    | ((with_reducible apply Sy.bin (op := .eql) (t := 3)); exact rfl; exact rfl; exact rfl; exact bz_eql)
    | ((with_reducible apply Sy.stNa (t := 87)); exact rfl; exact rfl; exact sz87; (· first | exact rfl | (simp; done)); (· first | exact rfl); exact turnT; (· first | (simp; done)); (· first | exact lay_all (by first | (simp; done)) | exact rfl))
    | ((with_reducible apply Sy.fa (t := 87) (i := 0)); exact rfl; exact rfl; exact fa87_0 _ _)
    | ((with_reducible apply Sy.ldN (t := 4)); exact rfl; exact rfl; exact hasT; (· first | exact ld_one ag4 rfl))
    | ((with_reducible apply Sy.fa (t := 87) (i := 1)); exact rfl; exact rfl; exact fa87_1 _ _)
    | ((with_reducible apply Sy.stNa (t := 24)); exact rfl; exact rfl; exact sz24; (· first | exact rfl | (simp; done)); (· first | exact rfl); exact turnT; (· first | (simp; done)); (· first | exact lay_all (by first | (simp; done)) | exact rfl))
    | ((with_reducible apply Sy.fa (t := 87) (i := 2)); exact rfl; exact rfl; exact fa87_2 _ _)
    | ((with_reducible apply Sy.stNa (t := 30)); exact rfl; exact rfl; exact sz30; (· first | exact rfl | (simp; done)); (· first | exact rfl); exact turnT; (· first | (simp; done)); (· first | exact lay_all (by first | (simp; done)) | exact rfl))
    | ((with_reducible apply Sy.fa (t := 87) (i := 3)); exact rfl; exact rfl; exact fa87_3 _ _)
    | ((with_reducible apply Sy.stNa (t := 85)); exact rfl; exact rfl; exact sz85; (· first | exact rfl | (simp; done)); (· first | exact rfl); exact turnT; (· first | (simp; done)); (· first | exact lay_all (by first | (simp; done)) | exact rfl))
    | ((with_reducible apply Sy.ldN (t := 87)); exact rfl; exact rfl; exact hasT; (· first | exact ld_all ag87 (by first | exact sz87 | (simp [sz87, *]; done)) | exact ld_agg ag87 sz87 (by first | (simp; done) | (simp; omega)) (by first | with_reducible exact cut_kids | rfl | (simp [List.drop_append, List.take_append, List.getElem?_append, lay, hC_length, ints_length, ints_drop, ints_take, ints_append, List.drop_of_length_le, List.take_of_length_le, List.map_append, List.set_append, Value.cells]; done))))
    | ((with_reducible apply Sy.callTN (k := 65)); exact rfl; exact rfl; exact en65; exact rfl; (case hc => intro H' hp; exact k_rdCount (most := 1) (RdAt.new (c := c) hp .here (fun hx => .there (bufM_has hx)) h1 h256 hl) (by decide)); (intro i; exact turnT); rintro v2 h2)
    | ((with_reducible apply Sy.newY (o := ⟨some 2, .alloc 87, _, _, _, _⟩)); exact rfl; exact rfl; exact nwz87; intro q2)
    | ((with_reducible apply Sy.newY (o := ⟨some 5, .alloc 87, _, _, _, _⟩)); exact rfl; exact rfl; exact nwz87; intro q5)
    | ((with_reducible apply Sy.ite); (case hx => exact rfl); all_goals (intro hc; try (exfalso; omega))))
  · generalize rdCnt 1 ⟨l, 0⟩ = C at *
    obtain ⟨n, r1⟩ := C
    dsimp only at hr1 hr1l hI h2 hc ⊢
    have hd : decide (n = 1) = true := decide_eq_true hc
    rw [if_pos hc] at hI
    rw [hd]
    clear hd hc
    obtain ⟨⟨m, r2⟩, hM⟩ : ∃ x, rdM (r1.next 32) = x := ⟨_, rfl⟩
    have hml := (rdM_ok (Rd.next_lt (k := 32) hr1)).2
    have hnl := next_len (r := r1) (k := 32)
    rw [hM] at hI hml
    subst hI
    dsimp only at hok hG2 hml ⊢
    rw [List.nil_append]
    repeat' (first
    | (with_reducible refine Sy.go ?_)
    | ((with_reducible apply Sy.move); exact rfl; exact rfl)
    | ((with_reducible apply Sy.callTN (k := 88)); exact rfl; exact rfl; exact en88; exact rfl; (case hc => intro H' hp; exact k_rdWide (RdAt.n1 (r := r1) (c := c) hp hasT h2 (fun hx => by repeat (first | exact bufM_has hx | apply Has.there)) h256 hl)); (intro i; exact turnT); rintro v3 h3))
    repeat' (first
    | (with_reducible refine Sy.seq ?_)
    | (with_reducible refine Sy.regionL ?_)
    | (with_reducible refine Sy.opsnil ?_)
    | (with_reducible refine Sy.go ?_)
    | (with_reducible refine Sy.nrm ?_)
    | ((with_reducible refine Sy.stNa (t := 24) rfl rfl sz24 (by simp) (by simp [wC_one]) (by repeat (first | exact Turn.here | apply Turn.there | apply Turn.app)) (by simp) setIw ?_))
    | ((with_reducible refine Sy.stNa (t := 30) rfl rfl sz30 (by simp) (by simp) (by repeat (first | exact Turn.here | apply Turn.there | apply Turn.app)) (by simp) setIm ?_))
    | ((with_reducible apply Sy.move); exact rfl; exact rfl)
    | ((with_reducible apply Sy.fa (t := 87) (i := 0)); exact rfl; exact rfl; exact fa87_0 _ _)
    | ((with_reducible apply Sy.ldN (t := 4)); exact rfl; exact rfl; exact hasT; (· first | exact ld_one ag4 rfl | with_reducible assumption | exact ld_one ag4 (by with_reducible assumption) | exact ld_one ag4 (by simp [List.drop_append, List.take_append, List.getElem?_append, lay, hC_length, ints_length, ints_drop, ints_take, ints_append, List.drop_of_length_le, List.take_of_length_le, List.map_append, List.set_append, Value.cells]; done)))
    | ((with_reducible apply Sy.fa (t := 87) (i := 1)); exact rfl; exact rfl; exact fa87_1 _ _)
    | ((with_reducible apply Sy.fa (t := 87) (i := 2)); exact rfl; exact rfl; exact fa87_2 _ _)
    | ((with_reducible apply Sy.fa (t := 87) (i := 3)); exact rfl; exact rfl; exact fa87_3 _ _)
    | ((with_reducible apply Sy.ldN (t := 87)); exact rfl; exact rfl; exact hasT; (· first | exact ld_all ag87 (by first | (simp [sz87, *]; done))))
    | ((with_reducible apply Sy.iface); exact rfl; exact rfl; exact if87)
    | ((with_reducible apply Sy.callTN (k := 47)); exact rfl; exact rfl; exact en47; exact rfl; (case hc => intro H' hp; exact k_message' hM (RdAt.n1 (r := r1.next 32) (c := c) hp hasT h3 (fun hx => by repeat (first | exact bufM_has hx | apply Has.there)) h256 hl)); (intro i; exact turnT); rintro ⟨v4, a4, k4⟩ ⟨h4, h5⟩))
    dsimp only at h4 h5 ⊢
    repeat' (first
    | (with_reducible refine Sy.seq ?_)
    | (with_reducible refine Sy.regionL ?_)
    | (with_reducible refine Sy.opsnil ?_)
    | (with_reducible refine Sy.go ?_)
    | (with_reducible refine Sy.nrm ?_)
    | ((with_reducible refine Sy.stNa (t := 87) rfl rfl sz87 (by simp) (by simp) (by repeat (first | exact Turn.here | apply Turn.there | apply Turn.app)) (by simp) (lay_all (by simp)) ?_))
    | ((with_reducible refine Sy.ldN (t := 87) rfl rfl (by repeat (first | exact Has.here | apply Has.there | apply Has.app)) ld_iall ?_))
    | ((with_reducible refine Sy.build (t := 87) (ps := #[]) rfl rfl bvI0 ?_))
    | ((with_reducible apply Sy.assign); exact rfl; exact rfl)
    | ((with_reducible apply Sy.un (op := .not)); exact rfl; exact rfl; exact un_notT)
    | ((with_reducible apply Sy.un (op := .not)); exact rfl; exact rfl; exact un_notF)
    | ((with_reducible apply Sy.un (op := .not)); exact rfl; exact rfl; exact un_notD)
    | ((with_reducible apply Sy.un (op := .not)); exact rfl; exact rfl; exact un_not)
    | ((with_reducible apply Sy.call0 (k := 48)); exact rfl; exact rfl; exact en48; exact rfl; (intro H' hp; exact k_doneI (r := r2) (c := c) (x := ⟨true, rdW r1, m, zeroT⟩) (RdAt.n1 (r := r2) (c := c) hp hasT h4 (fun hx => by repeat (first | exact bufM_has hx | apply Has.there)) h256 hl) hok (by dsimp only; omega) ((vw_zt).slr' (fun hx => hp.getN (by repeat (first | exact bufM_has hx | apply Has.there)))) ((by simp [zeroT]))))
    | (with_reducible refine Sy.skip ?_)
    | (with_reducible refine Sy.ret ?_)
    | (with_reducible refine Sy.aret ?_)
    | ((with_reducible apply Sy.iteB); (case hx => exact rfl); all_goals intro hc))
    · have hc' : ¬ (rdDone r2 = 0 ∧ rightIB ⟨true, rdW r1, m, zeroT⟩ = true) := fun y => by rw [y.1, y.2] at hc; simp at hc
      rw [if_neg hc'] at hG2
      subst hG2
      exact .fin [inV zeroI _ _, _] (.inr rfl) ⟨⟨_, _, _, rfl, (by repeat (first | exact Has.here | apply Has.there | apply Has.app)), ld_iall⟩, rfl, trivial⟩ fun H' hp => ⟨(c, (none, 0), (none, 0)), ⟨vw_zm, vw_zt⟩, rfl, hp.less (by repeat (first | exact List.sublist_append_left _ _ | apply List.Sublist.cons))⟩
    · have hc' : rdDone r2 = 0 ∧ rightIB ⟨true, rdW r1, m, zeroT⟩ = true := by simpa using hc
      rw [if_pos hc'] at hG2
      subst hG2
      exact .fin [inV ⟨true, rdW r1, m, zeroT⟩ (.slice a4 m.d.length k4) (.slice none zeroT.d.length 0), _] (.inr rfl) ⟨⟨_, _, _, rfl, (by repeat (first | exact Has.here | apply Has.there | apply Has.app)), ld_iall⟩, rfl, trivial⟩ fun H' hp => ⟨(c, (a4, k4), (none, 0)), ⟨h5, vw_zt⟩, rfl, hp.less (by repeat (first | exact List.sublist_append_left _ _ | apply List.Sublist.cons))⟩
  · generalize rdCnt 1 ⟨l, 0⟩ = C at *
    obtain ⟨n, r1⟩ := C
    dsimp only at hr1 hr1l hI h2 hc ⊢
    have hd : decide (n = 1) = false := decide_eq_false hc
    rw [if_neg hc] at hI
    rw [hd]
    clear hd hc
    have hml := (rdT_ok hr1).2.1
    obtain ⟨⟨t, r2⟩, hM⟩ : ∃ x, rdT r1 = x := ⟨_, rfl⟩
    rw [hM] at hI hml
    subst hI
    dsimp only at hok hG2 hml ⊢
    rw [List.nil_append]
    repeat' (first
    | (with_reducible refine Sy.seq ?_)
    | (with_reducible refine Sy.regionL ?_)
    | (with_reducible refine Sy.opsnil ?_)
    | (with_reducible refine Sy.go ?_)
    | (with_reducible refine Sy.nrm ?_)
    | ((with_reducible refine Sy.stNa (t := 85) rfl rfl sz85 (by simp) (by simp) (by repeat (first | exact Turn.here | apply Turn.there | apply Turn.app)) (by simp) setIt ?_))
    | ((with_reducible apply Sy.move); exact rfl; exact rfl)
    | ((with_reducible apply Sy.fa (t := 87) (i := 0)); exact rfl; exact rfl; exact fa87_0 _ _)
    | ((with_reducible apply Sy.ldN (t := 4)); exact rfl; exact rfl; exact hasT; (· first | exact ld_one ag4 rfl | with_reducible assumption | exact ld_one ag4 (by with_reducible assumption) | exact ld_one ag4 (by simp [List.drop_append, List.take_append, List.getElem?_append, lay, hC_length, ints_length, ints_drop, ints_take, ints_append, List.drop_of_length_le, List.take_of_length_le, List.map_append, List.set_append, Value.cells]; done)))
    | ((with_reducible apply Sy.fa (t := 87) (i := 1)); exact rfl; exact rfl; exact fa87_1 _ _)
    | ((with_reducible apply Sy.fa (t := 87) (i := 2)); exact rfl; exact rfl; exact fa87_2 _ _)
    | ((with_reducible apply Sy.fa (t := 87) (i := 3)); exact rfl; exact rfl; exact fa87_3 _ _)
    | ((with_reducible apply Sy.ldN (t := 87)); exact rfl; exact rfl; exact hasT; (· first | exact ld_all ag87 (by first | (simp [sz87, *]; done))))
    | ((with_reducible apply Sy.iface); exact rfl; exact rfl; exact if87)
    | ((with_reducible apply Sy.callTN (k := 81)); exact rfl; exact rfl; exact en81; exact rfl; (case hc => intro H' hp; exact k_tx' hM (RdAt.n1 (r := r1) (c := c) hp hasT h2 (fun hx => by repeat (first | exact bufM_has hx | apply Has.there)) h256 hl)); (intro i; exact turnT); rintro ⟨v4, a4, k4⟩ ⟨h4, h5⟩))
    dsimp only at h4 h5 ⊢
    repeat' (first
    | (with_reducible refine Sy.seq ?_)
    | (with_reducible refine Sy.regionL ?_)
    | (with_reducible refine Sy.opsnil ?_)
    | (with_reducible refine Sy.go ?_)
    | (with_reducible refine Sy.nrm ?_)
    | ((with_reducible refine Sy.stNa (t := 87) rfl rfl sz87 (by simp) (by simp) (by repeat (first | exact Turn.here | apply Turn.there | apply Turn.app)) (by simp) (lay_all (by simp)) ?_))
    | ((with_reducible refine Sy.ldN (t := 87) rfl rfl (by repeat (first | exact Has.here | apply Has.there | apply Has.app)) ld_iall ?_))
    | ((with_reducible refine Sy.build (t := 87) (ps := #[]) rfl rfl bvI0 ?_))
    | ((with_reducible apply Sy.assign); exact rfl; exact rfl)
    | ((with_reducible apply Sy.un (op := .not)); exact rfl; exact rfl; exact un_notT)
    | ((with_reducible apply Sy.un (op := .not)); exact rfl; exact rfl; exact un_notF)
    | ((with_reducible apply Sy.un (op := .not)); exact rfl; exact rfl; exact un_notD)
    | ((with_reducible apply Sy.un (op := .not)); exact rfl; exact rfl; exact un_not)
    | ((with_reducible apply Sy.call0 (k := 48)); exact rfl; exact rfl; exact en48; exact rfl; (intro H' hp; exact k_doneI (r := r2) (c := c) (x := ⟨false, zeroW, zeroM, t⟩) (RdAt.n1 (r := r2) (c := c) hp hasT h4 (fun hx => by repeat (first | exact bufM_has hx | apply Has.there)) h256 hl) hok (by simp [zeroM]) ((h5).slr' (fun hx => hp.getN (by repeat (first | exact bufM_has hx | apply Has.there)))) ((by dsimp only; omega))))
    | (with_reducible refine Sy.skip ?_)
    | (with_reducible refine Sy.ret ?_)
    | (with_reducible refine Sy.aret ?_)
    | ((with_reducible apply Sy.iteB); (case hx => exact rfl); all_goals intro hc))
    · have hc' : ¬ (rdDone r2 = 0 ∧ rightIB ⟨false, zeroW, zeroM, t⟩ = true) := fun y => by rw [y.1, y.2] at hc; simp at hc
      rw [if_neg hc'] at hG2
      subst hG2
      exact .fin [inV zeroI _ _, _] (.inr rfl) ⟨⟨_, _, _, rfl, (by repeat (first | exact Has.here | apply Has.there | apply Has.app)), ld_iall⟩, rfl, trivial⟩ fun H' hp => ⟨(c, (none, 0), (none, 0)), ⟨vw_zm, vw_zt⟩, rfl, hp.less (by repeat (first | exact List.sublist_append_left _ _ | apply List.Sublist.cons))⟩
    · have hc' : rdDone r2 = 0 ∧ rightIB ⟨false, zeroW, zeroM, t⟩ = true := by simpa using hc
      rw [if_pos hc'] at hG2
      subst hG2
      exact .fin [inV ⟨false, zeroW, zeroM, t⟩ (.slice none zeroM.d.length 0) (.slice a4 t.d.length k4), _] (.inr rfl) ⟨⟨_, _, _, rfl, (by repeat (first | exact Has.here | apply Has.there | apply Has.app)), ld_iall⟩, rfl, trivial⟩ fun H' hp => ⟨(c, (none, 0), (a4, k4)), ⟨vw_zm, h5⟩, rfl, hp.less (by repeat (first | exact List.sublist_append_left _ _ | apply List.Sublist.cons))⟩
end Go.Proofs.YtjimjolfnimimaaDoor

/- Layer 09: the laws' inputs; the same input. -/
namespace Go.Proofs.YtjimjolfnimimaaDoor
open Go Go.Am
set_option maxRecDepth 100000
set_option linter.unusedVariables false

theorem fill_inp {x : Inp} {v1 v2 : Value} : fillL (plc [(0, 1), (1, 4), (5, 9), (14, 10)]) (inC zeroI (.slice none 0 0) (.slice none 0 0)) [(0, .bool x.b), (1, wV x.w), (2, msgV x.m v1), (3, txV x.t v2)] = some (inC x v1 v2) := by
  have e1 : (Value.bool x.b).cells.toList = [.bool x.b] := rfl
  have e2 : (wV x.w).cells.toList = wC x.w := rfl
  have e3 : (msgV x.m v1).cells.toList = msgC x.m v1 := rfl
  have e4 : (txV x.t v2).cells.toList = txC x.t v2 := rfl
  have s0 : lay (inC zeroI (.slice none 0 0) (.slice none 0 0)) 0 [.bool x.b] = inC ⟨x.b, zeroW, zeroM, zeroT⟩ (.slice none 0 0) (.slice none 0 0) := rfl
  have s1 : lay (inC ⟨x.b, zeroW, zeroM, zeroT⟩ (.slice none 0 0) (.slice none 0 0)) 1 (wC x.w) = inC ⟨x.b, x.w, zeroM, zeroT⟩ (.slice none 0 0) (.slice none 0 0) := setIw
  have s2 : lay (inC ⟨x.b, x.w, zeroM, zeroT⟩ (.slice none 0 0) (.slice none 0 0)) 5 (msgC x.m v1) = inC ⟨x.b, x.w, x.m, zeroT⟩ v1 (.slice none 0 0) := setIm
  have s3 : lay (inC ⟨x.b, x.w, x.m, zeroT⟩ v1 (.slice none 0 0)) 14 (txC x.t v2) = inC x v1 v2 := setIt
  have p0 : plc [(0, 1), (1, 4), (5, 9), (14, 10)] 0 = some (0, 1) := rfl
  have p1 : plc [(0, 1), (1, 4), (5, 9), (14, 10)] 1 = some (1, 4) := rfl
  have p2 : plc [(0, 1), (1, 4), (5, 9), (14, 10)] 2 = some (5, 9) := rfl
  have p3 : plc [(0, 1), (1, 4), (5, 9), (14, 10)] 3 = some (14, 10) := rfl
  rw [fillL, p0]
  dsimp only
  rw [if_pos ⟨by rw [e1]; rfl, by rw [e1]; simp⟩, e1, s0, fillL, p1]
  dsimp only
  rw [if_pos ⟨by rw [e2]; simp, by rw [e2]; simp⟩, e2, s1, fillL, p2]
  dsimp only
  rw [if_pos ⟨by rw [e3]; simp, by rw [e3]; simp⟩, e3, s2, fillL, p3]
  dsimp only
  rw [if_pos ⟨by rw [e4]; simp, by rw [e4]; simp⟩, e4, s3, fillL]
theorem bvI4 {x : Inp} {v1 v2 : Value} : buildV Tryd.prog 87 [(0, .bool x.b), (1, wV x.w), (2, msgV x.m v1), (3, txV x.t v2)] = some (inV x v1 v2) := bv87 fill_inp
theorem bvRI4 {x : Inp} {v1 v2 : Value} : buildV Tryd.prog 83 [(0, .bool x.b), (1, wV x.w), (2, msgV x.m v1), (3, txV x.t v2)] = some (inV x v1 v2) := bv83 fill_inp
theorem get_im {x : Inp} {v1 v2 : Value} : (inC x v1 v2)[0 + 5 + 8]? = some v1 := by
  have h := msgC_d x.m v1
  rw [← cut_im (x := x) (v1 := v1) (v2 := v2), List.getElem?_take_of_lt (by omega), List.getElem?_drop] at h
  exact h
theorem get_it {x : Inp} {v1 v2 : Value} : (inC x v1 v2)[0 + 14 + 9]? = some v2 := by
  have h := txC_d x.t v2
  rw [← cut_it (x := x) (v1 := v1) (v2 := v2), List.getElem?_take_of_lt (by omega), List.getElem?_drop] at h
  exact h
theorem ld_imd {x : Inp} {v1 v2 : Value} {T : TypeId} {b : Bool} : aLoad Tryd.prog 25 (.cells (inC x v1 v2) T b) (0 + 5 + 8) = some v1 := ld_one ag25 get_im
theorem ld_itd {x : Inp} {v1 v2 : Value} {T : TypeId} {b : Bool} : aLoad Tryd.prog 25 (.cells (inC x v1 v2) T b) (0 + 14 + 9) = some v2 := ld_one ag25 get_it
set_option maxHeartbeats 1000000 in
theorem k_lOwn (x : Inp) (a a' : Option Addr) (c c' : Nat) (H : AHeap) (ho : x.ok) (hv1 : SlR H 1 (.slice a x.m.d.length c) x.m.d.length (ints .u8 x.m.d)) (hv2 : SlR H 1 (.slice a' x.t.d.length c') x.t.d.length (ints .u8 x.t.d)) (h1 : x.m.d.length ≤ 1000000) (h2 : x.t.d.length ≤ 1000000) :
    CallR Tryd.prog noPrims 39 [inV x (.slice a x.m.d.length c) (.slice a' x.t.d.length c')] H (fun u H' => ∃ i : (Nat × Nat) × Nat × Nat, True ∧ u = inV x (.slice (some ⟨i.1.1, 0, none⟩) x.m.d.length i.1.2) (.slice (some ⟨i.2.1, 0, none⟩) x.t.d.length i.2.2) ∧ Hp H 0 0 H' [] [(i.2.1, .cells (ints .u8 x.t.d) 5 true), (i.1.1, .cells (ints .u8 x.m.d) 5 true)]) := by
  refine CallR.sy (n := 14) Tryd.func39 rfl rfl rfl ?_
  repeat' (first
    | (with_reducible refine Sy.seq ?_)
    | (with_reducible refine Sy.regionL ?_)
    | (with_reducible refine Sy.opsnil ?_)
    | (with_reducible refine Sy.go ?_)
    | (with_reducible refine Sy.nrm ?_)
    | ((with_reducible apply Sy.drawL (id := 1) 12 [(1, 6), (3, 6), (8, 6), (1, 9), (3, 9)] (fun hi h => h = q1)); (case hp => kernel_rfl); (case hN => exact rfl); intro base hbase hM; try simp only [List.forall_mem_cons, List.forall_mem_append, List.not_mem_nil, false_implies, implies_true, and_true] at hM)
    | ((with_reducible refine Sy.ldN (t := 24) rfl rfl (by repeat (first | exact Has.here | apply Has.there | apply Has.app)) ld_iw ?_))
    | ((with_reducible refine Sy.ldN (t := 27) rfl rfl (by repeat (first | exact Has.here | apply Has.there | apply Has.app)) ld_rim ?_))
    | ((with_reducible refine Sy.ldN (t := 66) rfl rfl (by repeat (first | exact Has.here | apply Has.there | apply Has.app)) ld_rit ?_))
    | ((with_reducible refine Sy.build (t := 87) rfl rfl bvI4 ?_))
    | ((with_reducible apply Sy.fa (t := 83) (i := 0)); exact rfl; exact rfl; exact fa83_0 _ _)
    | ((with_reducible apply Sy.ldN (t := 4)); exact rfl; exact rfl; exact hasT; (· first | exact ld_one ag4 rfl))
    | ((with_reducible apply Sy.fa (t := 83) (i := 1)); exact rfl; exact rfl; exact fa83_1 _ _)
    | ((with_reducible apply Sy.ldN (t := 24)); exact rfl; exact rfl; exact hasT; (· first | exact ld_all ag24 (by first | exact sz24 | (simp [sz24, *]; done)) | exact ld_agg ag24 sz24 (by first | (simp; done) | (simp; omega)) (by first | with_reducible exact cut_kids | rfl | (simp [List.drop_append, List.take_append, List.getElem?_append, lay, hC_length, ints_length, ints_drop, ints_take, ints_append, List.drop_of_length_le, List.take_of_length_le, List.map_append, List.set_append, Value.cells]; done))))
    | ((with_reducible apply Sy.fa (t := 83) (i := 2)); exact rfl; exact rfl; exact fa83_2 _ _)
    | ((with_reducible apply Sy.ldN (t := 27)); exact rfl; exact rfl; exact hasT; (· first | exact ld_all ag27 (by first | exact sz27 | (simp [sz27, *]; done)) | exact ld_agg ag27 sz27 (by first | (simp; done) | (simp; omega)) (by first | with_reducible exact cut_kids | rfl | (simp [List.drop_append, List.take_append, List.getElem?_append, lay, hC_length, ints_length, ints_drop, ints_take, ints_append, List.drop_of_length_le, List.take_of_length_le, List.map_append, List.set_append, Value.cells]; done))))
    | ((with_reducible apply Sy.fa (t := 83) (i := 3)); exact rfl; exact rfl; exact fa83_3 _ _)
    | ((with_reducible apply Sy.ldN (t := 66)); exact rfl; exact rfl; exact hasT; (· first | exact ld_all ag66 (by first | exact sz66 | (simp [sz66, *]; done)) | exact ld_agg ag66 sz66 (by first | (simp; done) | (simp; omega)) (by first | with_reducible exact cut_kids | rfl | (simp [List.drop_append, List.take_append, List.getElem?_append, lay, hC_length, ints_length, ints_drop, ints_take, ints_append, List.drop_of_length_le, List.take_of_length_le, List.map_append, List.set_append, Value.cells]; done))))
    | ((with_reducible apply Sy.stNa (t := 87)); exact rfl; exact rfl; exact sz87; (· first | (simp; done)); (· first | (simp [oneL_append, oneL_cons, oneL_nil, hC_one, oneL_ints]; done)); exact turnT; (· first | (simp; done)); (· first | exact lay_all (by first | (simp; done))))
    | ((with_reducible apply Sy.dgo); (· first | exact wantY_none); (· intro hcls; cases hcls); exact rfl; exact rfl)
    | ((with_reducible apply Sy.dwr); (case hw => first | exact wantY_none); (case hc => intro hcls; cases hcls); (case h1 => exact rfl); (case hk => exact .consN (b := q1) hasT .nil); (case hS => intro h hh; subst hh; exact ⟨_, List.mem_singleton.2 rfl⟩))
    | ((with_reducible apply Sy.dand); (case hk => exact .consN (b := q1) hasT .nil))
    | ((with_reducible apply Sy.callN (k := 11)); exact rfl; exact rfl; exact en11; exact rfl; (intro H' hp; exact k_lMessage x.m a c H' ho.m (hv1.of hp) h1); rintro ⟨b2, c2⟩ -)
    | ((with_reducible apply Sy.callN (k := 76)); exact rfl; exact rfl; exact en76; exact rfl; (intro H' hp; exact k_lTx x.t a' c' H' ho.t (hv2.of hp) (by omega)); rintro ⟨b3, c3⟩ -)
    | ((with_reducible apply Sy.newY (o := ⟨some 1, .box 83 _, _, _, _, _⟩)); exact rfl; exact rfl; exact nbA rfl; intro q1)
    | ((with_reducible apply Sy.newY (o := ⟨some 2, .alloc 87, _, _, _, _⟩)); exact rfl; exact rfl; exact nwz87; intro q2)
    | (with_reducible refine Sy.ret ?_)
    | (with_reducible refine Sy.dend ?_)
    | ((with_reducible apply Sy.dgo); (· first | exact wantY_none); (· intro hcls; cases hcls); exact rfl; exact rfl)
    | ((with_reducible apply Sy.dld); (· first | exact wantY_none); exact rfl; (· first | omega); exact rfl))
  exact .fin [inV x (.slice (some ⟨b2, 0, none⟩) x.m.d.length c2) (.slice (some ⟨b3, 0, none⟩) x.t.d.length c3)] (.inr rfl) ⟨⟨_, _, _, rfl, (by repeat (first | exact Has.here | apply Has.there | apply Has.app)), ld_iall⟩, trivial⟩ fun H' hp => ⟨((b2, c2), b3, c3), trivial, rfl, hp.less (.cons_cons _ (.cons_cons _ (List.nil_sublist _)))⟩
set_option maxHeartbeats 1000000 in
theorem k_lRef (x : Inp) (a a' : Option Addr) (c c' : Nat) (H : AHeap) (ho : x.ok) (hv1 : SlR H 1 (.slice a x.m.d.length c) x.m.d.length (ints .u8 x.m.d)) (hv2 : SlR H 1 (.slice a' x.t.d.length c') x.t.d.length (ints .u8 x.t.d)) (h1 : x.m.d.length ≤ 1000000) (h2 : x.t.d.length ≤ 1000000) :
    CallR Tryd.prog noPrims 42 [inV x (.slice a x.m.d.length c) (.slice a' x.t.d.length c')] H (fun u H' => ∃ i : (Nat × Nat) × Nat × Nat, True ∧ u = inV x (.slice (some ⟨i.1.1, 0, none⟩) x.m.d.length i.1.2) (.slice (some ⟨i.2.1, 0, none⟩) x.t.d.length i.2.2) ∧ Hp H 0 0 H' [] [(i.2.1, .cells (ints .u8 x.t.d) 5 true), (i.1.1, .cells (ints .u8 x.m.d) 5 true)]) := by
  refine CallR.sy (n := 14) Tryd.func42 rfl rfl rfl ?_
  repeat' (first
    | (with_reducible refine Sy.seq ?_)
    | (with_reducible refine Sy.regionL ?_)
    | (with_reducible refine Sy.opsnil ?_)
    | (with_reducible refine Sy.go ?_)
    | (with_reducible refine Sy.nrm ?_)
    | ((with_reducible apply Sy.drawL (id := 1) 12 [(1, 6), (3, 6), (8, 6), (1, 9), (3, 9)] (fun hi h => h = q1)); (case hp => kernel_rfl); (case hN => exact rfl); intro base hbase hM; try simp only [List.forall_mem_cons, List.forall_mem_append, List.not_mem_nil, false_implies, implies_true, and_true] at hM)
    | ((with_reducible refine Sy.ldN (t := 24) rfl rfl (by repeat (first | exact Has.here | apply Has.there | apply Has.app)) ld_iw ?_))
    | ((with_reducible refine Sy.ldN (t := 30) rfl rfl (by repeat (first | exact Has.here | apply Has.there | apply Has.app)) ld_im ?_))
    | ((with_reducible refine Sy.ldN (t := 85) rfl rfl (by repeat (first | exact Has.here | apply Has.there | apply Has.app)) ld_it ?_))
    | ((with_reducible refine Sy.build (t := 83) rfl rfl bvRI4 ?_))
    | ((with_reducible apply Sy.fa (t := 87) (i := 0)); exact rfl; exact rfl; exact fa87_0 _ _)
    | ((with_reducible apply Sy.ldN (t := 4)); exact rfl; exact rfl; exact hasT; (· first | exact ld_one ag4 rfl))
    | ((with_reducible apply Sy.fa (t := 87) (i := 1)); exact rfl; exact rfl; exact fa87_1 _ _)
    | ((with_reducible apply Sy.ldN (t := 24)); exact rfl; exact rfl; exact hasT; (· first | exact ld_all ag24 (by first | exact sz24 | (simp [sz24, *]; done)) | exact ld_agg ag24 sz24 (by first | (simp; done) | (simp; omega)) (by first | with_reducible exact cut_kids | rfl | (simp [List.drop_append, List.take_append, List.getElem?_append, lay, hC_length, ints_length, ints_drop, ints_take, ints_append, List.drop_of_length_le, List.take_of_length_le, List.map_append, List.set_append, Value.cells]; done))))
    | ((with_reducible apply Sy.fa (t := 87) (i := 2)); exact rfl; exact rfl; exact fa87_2 _ _)
    | ((with_reducible apply Sy.ldN (t := 30)); exact rfl; exact rfl; exact hasT; (· first | exact ld_all ag30 (by first | exact sz30 | (simp [sz30, *]; done)) | exact ld_agg ag30 sz30 (by first | (simp; done) | (simp; omega)) (by first | with_reducible exact cut_kids | rfl | (simp [List.drop_append, List.take_append, List.getElem?_append, lay, hC_length, ints_length, ints_drop, ints_take, ints_append, List.drop_of_length_le, List.take_of_length_le, List.map_append, List.set_append, Value.cells]; done))))
    | ((with_reducible apply Sy.fa (t := 87) (i := 3)); exact rfl; exact rfl; exact fa87_3 _ _)
    | ((with_reducible apply Sy.ldN (t := 85)); exact rfl; exact rfl; exact hasT; (· first | exact ld_all ag85 (by first | exact sz85 | (simp [sz85, *]; done)) | exact ld_agg ag85 sz85 (by first | (simp; done) | (simp; omega)) (by first | with_reducible exact cut_kids | rfl | (simp [List.drop_append, List.take_append, List.getElem?_append, lay, hC_length, ints_length, ints_drop, ints_take, ints_append, List.drop_of_length_le, List.take_of_length_le, List.map_append, List.set_append, Value.cells]; done))))
    | ((with_reducible apply Sy.stNa (t := 83)); exact rfl; exact rfl; exact sz83; (· first | (simp; done)); (· first | (simp [oneL_append, oneL_cons, oneL_nil, hC_one, oneL_ints]; done)); exact turnT; (· first | (simp; done)); (· first | exact lay_all (by first | (simp; done))))
    | ((with_reducible apply Sy.dgo); (· first | exact wantY_none); (· intro hcls; cases hcls); exact rfl; exact rfl)
    | ((with_reducible apply Sy.dwr); (case hw => first | exact wantY_none); (case hc => intro hcls; cases hcls); (case h1 => exact rfl); (case hk => exact .consN (b := q1) hasT .nil); (case hS => intro h hh; subst hh; exact ⟨_, List.mem_singleton.2 rfl⟩))
    | ((with_reducible apply Sy.dand); (case hk => exact .consN (b := q1) hasT .nil))
    | ((with_reducible apply Sy.callN (k := 22)); exact rfl; exact rfl; exact en22; exact rfl; (intro H' hp; exact k_lRefMessage x.m a c H' ho.m (hv1.of hp) h1); rintro ⟨b2, c2⟩ -)
    | ((with_reducible apply Sy.callN (k := 87)); exact rfl; exact rfl; exact en87; exact rfl; (intro H' hp; exact k_lRefTx x.t a' c' H' ho.t (hv2.of hp) (by omega)); rintro ⟨b3, c3⟩ -)
    | ((with_reducible apply Sy.newY (o := ⟨some 1, .box 87 _, _, _, _, _⟩)); exact rfl; exact rfl; exact nbA rfl; intro q1)
    | ((with_reducible apply Sy.newY (o := ⟨some 2, .alloc 83, _, _, _, _⟩)); exact rfl; exact rfl; exact nwz83; intro q2)
    | (with_reducible refine Sy.ret ?_)
    | (with_reducible refine Sy.dend ?_)
    | ((with_reducible apply Sy.dgo); (· first | exact wantY_none); (· intro hcls; cases hcls); exact rfl; exact rfl)
    | ((with_reducible apply Sy.dld); (· first | exact wantY_none); exact rfl; (· first | omega); exact rfl))
  exact .fin [inV x (.slice (some ⟨b2, 0, none⟩) x.m.d.length c2) (.slice (some ⟨b3, 0, none⟩) x.t.d.length c3)] (.inr rfl) ⟨⟨_, _, _, rfl, (by repeat (first | exact Has.here | apply Has.there | apply Has.app)), ld_riall⟩, trivial⟩ fun H' hp => ⟨((b2, c2), b3, c3), trivial, rfl, hp.less (.cons_cons _ (.cons_cons _ (List.nil_sublist _)))⟩
set_option maxHeartbeats 1000000 in
theorem k_SameI (x : Inp) (a a' b b' : Option Addr) (c c' d d' : Nat) (H : AHeap) (ho : x.ok) (hv1 : SlR H 1 (.slice a x.m.d.length c) x.m.d.length (ints .u8 x.m.d)) (hv2 : SlR H 1 (.slice a' x.t.d.length c') x.t.d.length (ints .u8 x.t.d)) (hw1 : SlR H 1 (.slice b x.m.d.length d) x.m.d.length (ints .u8 x.m.d)) (hw2 : SlR H 1 (.slice b' x.t.d.length d') x.t.d.length (ints .u8 x.t.d)) :
    CallR Tryd.prog noPrims 41 [inV x (.slice a x.m.d.length c) (.slice a' x.t.d.length c'), inV x (.slice b x.m.d.length d) (.slice b' x.t.d.length d')] H (fun u H' => u = .bool true ∧ Hp H 0 0 H' [] []) := by
  refine CallR.sy (n := 31) Tryd.func41 rfl rfl rfl ?_
  repeat' (first
    | (with_reducible refine Sy.seq ?_)
    | (with_reducible refine Sy.regionL ?_)
    | (with_reducible refine Sy.opsnil ?_)
    | (with_reducible refine Sy.go ?_)
    | (with_reducible refine Sy.nrm ?_)
    | ((with_reducible refine Sy.ldN (t := 24) rfl rfl (by repeat (first | exact Has.here | apply Has.there | apply Has.app)) ld_iw ?_))
    | ((with_reducible refine Sy.ldN (t := 27) rfl rfl (by repeat (first | exact Has.here | apply Has.there | apply Has.app)) ld_rim ?_))
    | ((with_reducible refine Sy.ldN (t := 66) rfl rfl (by repeat (first | exact Has.here | apply Has.there | apply Has.app)) ld_rit ?_))
    | ((with_reducible refine Sy.bin (op := .eql) (t := 4) rfl rfl rfl eqBS ?_))
    | ((with_reducible refine Sy.bin (op := .eql) (t := 24) rfl rfl rfl eqWS ?_))
    | ((with_reducible apply Sy.assign); exact rfl; exact rfl)
    | ((with_reducible apply Sy.fa (t := 83) (i := 0)); exact rfl; exact rfl; exact fa83_0 _ _)
    | ((with_reducible apply Sy.ldN (t := 4)); exact rfl; exact rfl; exact hasT; (· first | exact ld_one ag4 rfl))
    | ((with_reducible apply Sy.move); exact rfl; exact rfl)
    | ((with_reducible apply Sy.fa (t := 83) (i := 1)); exact rfl; exact rfl; exact fa83_1 _ _)
    | ((with_reducible apply Sy.ldN (t := 24)); exact rfl; exact rfl; exact hasT; (· first | exact ld_all ag24 (by first | exact sz24 | (simp [sz24, *]; done)) | exact ld_agg ag24 sz24 (by first | (simp; done) | (simp; omega)) (by first | with_reducible exact cut_kids | rfl | (simp [List.drop_append, List.take_append, List.getElem?_append, lay, hC_length, ints_length, ints_drop, ints_take, ints_append, List.drop_of_length_le, List.take_of_length_le, List.map_append, List.set_append, Value.cells]; done))))
    | ((with_reducible apply Sy.pickT); exact rfl; exact rfl; exact rfl)
    | ((with_reducible apply Sy.fa (t := 83) (i := 2)); exact rfl; exact rfl; exact fa83_2 _ _)
    | ((with_reducible apply Sy.ldN (t := 27)); exact rfl; exact rfl; exact hasT; (· first | exact ld_all ag27 (by first | exact sz27 | (simp [sz27, *]; done)) | exact ld_agg ag27 sz27 (by first | (simp; done) | (simp; omega)) (by first | with_reducible exact cut_kids | rfl | (simp [List.drop_append, List.take_append, List.getElem?_append, lay, hC_length, ints_length, ints_drop, ints_take, ints_append, List.drop_of_length_le, List.take_of_length_le, List.map_append, List.set_append, Value.cells]; done))))
    | ((with_reducible apply Sy.fa (t := 83) (i := 3)); exact rfl; exact rfl; exact fa83_3 _ _)
    | ((with_reducible apply Sy.ldN (t := 66)); exact rfl; exact rfl; exact hasT; (· first | exact ld_all ag66 (by first | exact sz66 | (simp [sz66, *]; done)) | exact ld_agg ag66 sz66 (by first | (simp; done) | (simp; omega)) (by first | with_reducible exact cut_kids | rfl | (simp [List.drop_append, List.take_append, List.getElem?_append, lay, hC_length, ints_length, ints_drop, ints_take, ints_append, List.drop_of_length_le, List.take_of_length_le, List.map_append, List.set_append, Value.cells]; done))))
    | ((with_reducible apply Sy.call0 (k := 21)); exact rfl; exact rfl; exact en21; exact rfl; (intro H' hp; exact k_Same x.m a b c d H' ho.m (hv1.of hp) (hw1.of hp)))
    | ((with_reducible apply Sy.call0 (k := 86)); exact rfl; exact rfl; exact en86; exact rfl; (intro H' hp; exact k_SameTx x.t a' b' c' d' H' ho.t (hv2.of hp) (hw2.of hp)))
    | ((with_reducible apply Sy.newY (o := ⟨some 2, .box 83 _, _, _, _, _⟩)); exact rfl; exact rfl; exact nbA rfl; intro q2)
    | ((with_reducible apply Sy.newY (o := ⟨some 3, .box 83 _, _, _, _, _⟩)); exact rfl; exact rfl; exact nbA rfl; intro q3)
    | (with_reducible refine Sy.ret ?_)
    | ((with_reducible apply Sy.goG); exact rfl; exact rfl; exact rfl))
  all_goals exact .fin [_] (.inr rfl) ⟨rfl, trivial⟩ fun H' hp => ⟨rfl, hp.less (List.nil_sublist _)⟩
end Go.Proofs.YtjimjolfnimimaaDoor
