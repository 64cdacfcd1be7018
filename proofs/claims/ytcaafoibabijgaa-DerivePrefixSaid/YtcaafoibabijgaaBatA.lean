/- Batches: what may be, their bytes. -/
import Derived.Test.YtcaafoibabijgaaMsgB
import Derived.Test.YtcaafoibabijgaaCodecB
set_option linter.unusedSimpArgs false
set_option linter.unusedVariables false
/- Layer 09: Txs as values; which may be. -/
namespace Go.Proofs.Ytcaafoibabijgaa
open Go Go.Am
set_option maxRecDepth 100000
set_option linter.unusedVariables false

structure Txn where
  k : Int
  f : Nat
  n : Nat
  t : Nat
  w : Wd
  g : Nat
  d : List Nat
structure Txn.ok (m : Txn) : Prop where
  k : -9223372036854775808 ≤ m.k ∧ m.k < 9223372036854775808
  f : m.f < 18446744073709551616
  n : m.n < 18446744073709551616
  t : m.t < 18446744073709551616
  g : m.g < 18446744073709551616
  d : ∀ x ∈ m.d, x < 256
def txC (m : Txn) (v : Value) : List Value := .int .i64 m.k :: .int .u64 ((m.f : Nat) : Int) :: .int .u64 ((m.n : Nat) : Int) :: .int .u64 ((m.t : Nat) : Int) :: (wC m.w ++ [.int .u64 ((m.g : Nat) : Int), v])
abbrev txV (m : Txn) (v : Value) : Value := .agg ⟨txC m v⟩
@[simp] theorem txC_length (m : Txn) (v : Value) : (txC m v).length = 10 := by simp [txC]
theorem txC_g (m : Txn) (v : Value) : (txC m v)[8]? = some (.int .u64 ((m.g : Nat) : Int)) := by simp [txC, List.getElem?_append]
theorem txC_d (m : Txn) (v : Value) : (txC m v)[9]? = some v := by simp [txC, List.getElem?_append]
theorem txC_one (m : Txn) (v : Value) (h : v.oneCell' = true) : oneL (txC m v) = true := by simp only [txC, oneL_cons, oneL_append, wC_one, oneL_nil, oneI, h]; rfl
@[simp] theorem txC_oneS (m : Txn) (a : Option Addr) (k c : Nat) : oneL (txC m (.slice a k c)) = true := txC_one m _ rfl
section
variable {m : Txn} {v : Value} {T : TypeId} {b : Bool}
theorem ld_tall : aLoad Try.prog 59 (.cells (txC m v) T b) 0 = some (txV m v) := load_all ag59 sz59 (by simp)
theorem ld_rtall : aLoad Try.prog 84 (.cells (txC m v) T b) 0 = some (txV m v) := load_all ag84 sz84 (by simp)
end
theorem TxN.cut_kids {m : Txn} {v : Value} : (List.drop (0 + 4) (txC m v)).take 4 = wC m.w := by
  show (wC m.w ++ [.int .u64 ((m.g : Nat) : Int), v]).take 4 = _
  rw [← wC_length m.w, List.take_left]
theorem fill_tx (m : Txn) (v : Value) (hv : v.cells.toList = [v]) : fillL (plc [(0, 1), (1, 1), (2, 1), (3, 1), (4, 4), (8, 1), (9, 1)]) ([.int .i64 ((0 : Nat) : Int), .int .u64 ((0 : Nat) : Int), .int .u64 ((0 : Nat) : Int), .int .u64 ((0 : Nat) : Int)] ++ (ints .u64 (List.replicate 4 0) ++ ([.int .u64 ((0 : Nat) : Int), .slice none 0 0])))
    [(0, .int .i64 m.k), (1, .int .u64 ((m.f : Nat) : Int)), (2, .int .u64 ((m.n : Nat) : Int)), (3, .int .u64 ((m.t : Nat) : Int)), (4, wV m.w), (5, .int .u64 ((m.g : Nat) : Int)), (6, v)] = some (txC m v) := by
  obtain ⟨k, f, n, t, ⟨l, hl, hlt⟩, g, d⟩ := m
  match l, hl, hlt with
  | [x1, x2, x3, x4], hl, hlt =>
    have e1 : ∀ (i : IntKind) (z : Int), (Value.int i z).cells.toList = [.int i z] := fun _ _ => rfl
    have e2 : (wV ⟨[x1, x2, x3, x4], hl, hlt⟩).cells.toList = wC ⟨[x1, x2, x3, x4], hl, hlt⟩ := rfl
    simp [fillL, plc, lay, hv, e1, e2, txC, wC, ints]
theorem bvTx {m : Txn} {v : Value} (hv : v.cells.toList = [v]) : buildV Try.prog 59 [(0, .int .i64 m.k), (1, .int .u64 ((m.f : Nat) : Int)), (2, .int .u64 ((m.n : Nat) : Int)), (3, .int .u64 ((m.t : Nat) : Int)), (4, wV m.w), (5, .int .u64 ((m.g : Nat) : Int)), (6, v)] = some (txV m v) := bv59 (fill_tx m v hv)
theorem bvRTx {m : Txn} {v : Value} (hv : v.cells.toList = [v]) : buildV Try.prog 84 [(0, .int .i64 m.k), (1, .int .u64 ((m.f : Nat) : Int)), (2, .int .u64 ((m.n : Nat) : Int)), (3, .int .u64 ((m.t : Nat) : Int)), (4, wV m.w), (5, .int .u64 ((m.g : Nat) : Int)), (6, v)] = some (txV m v) := bv84 (fill_tx m v hv)
def zeroT : Txn := ⟨0, 0, 0, 0, zeroW, 0, []⟩
theorem bvW0 : buildV Try.prog 55 [] = some (wV zeroW) := bv55 rfl
theorem eqW {a b : Wd} : binV Try.prog .eql 55 (wV a) (wV b) = some (.bool (decide (a = b))) := by
  rw [wV, wV, wC, wC, eq55 a.len b.len]
  congr 2
  exact decide_eq_decide.2 ⟨fun h => Wd.ext' h, fun h => by rw [h]⟩
def rightTB (m : Txn) : Bool :=
  if 65536 < m.g ∨ 256 < m.d.length then false
  else if m.k = 1 then decide (m.g = 0) && decide (m.d.length = 0)
  else if m.k = 2 then decide (m.d.length ≤ 64)
  else if m.k = 3 then decide ((getM m.d).2 = 0) && (decide (m.t = 0) && decide (m.w = zeroW))
  else false
theorem ld_tk {m : Txn} {v : Value} {T : TypeId} {b : Bool} : aLoad Try.prog 3 (.cells (txC m v) T b) 0 = some (.int .i64 m.k) := ld_one ag3 rfl
open TxN in
set_option maxHeartbeats 2000000 in
theorem c_tright (m : Txn) (a : Option Addr) (c : Nat) (H : AHeap) (ho : m.ok) (hv : SlR H 1 (.slice a m.d.length c) m.d.length (ints .u8 m.d)) (hl : m.d.length ≤ 140737488355328) : CallR Try.prog noPrims 95 [txV m (.slice a m.d.length c)] H (fun u H' => u = .bool (rightTB m) ∧ Hp H 0 0 H' [] []) := by
  have hmg := txC_g m (.slice a m.d.length c)
  have hmd := txC_d m (.slice a m.d.length c)
  have hg := ho.g; have ht := ho.t; have hk := ho.k
  have hR : rightTB m = if 65536 < m.g ∨ 256 < m.d.length then false
  else if m.k = 1 then decide (m.g = 0) && decide (m.d.length = 0)
  else if m.k = 2 then decide (m.d.length ≤ 64)
  else if m.k = 3 then decide ((getM m.d).2 = 0) && (decide (m.t = 0) && decide (m.w = zeroW))
  else false := rfl
  obtain ⟨G, hG⟩ : ∃ G, getM m.d = G := ⟨_, rfl⟩
  rw [hG] at hR
  refine CallR.sy (n := 59) Try.func95 rfl rfl rfl ?_
  repeat' (first
    | (with_reducible refine Sy.seq ?_)
    | (with_reducible refine Sy.regionL ?_)
    | (with_reducible refine Sy.opsnil ?_)
    | (with_reducible refine Sy.go ?_)
    | (with_reducible refine Sy.nrm ?_)
    | ((with_reducible refine Sy.bin (op := .eql) (t := 55) rfl rfl rfl eqW ?_))
    | ((with_reducible refine Sy.build (t := 55) (ps := #[]) rfl rfl bvW0 ?_))
    | ((with_reducible apply Sy.assign); exact rfl; exact rfl)
    | ((with_reducible apply Sy.fa (t := 59) (i := 5)); exact rfl; exact rfl; exact fa59_5 _ _)
    | ((with_reducible apply Sy.ldN (t := 53)); exact rfl; exact rfl; exact hasT; (· first | exact ld_one ag53 rfl | exact ld_one ag53 (by with_reducible assumption)))
    | ((with_reducible apply Sy.bin (op := .gtr) (t := 53)); exact rfl; exact rfl; exact rfl; exact b_gtr)
    | ((with_reducible apply Sy.bin (op := .gtr) (t := 53)); exact rfl; exact rfl; exact rfl; exact bz_gtr)
    | ((with_reducible apply Sy.move); exact rfl; exact rfl)
    | ((with_reducible apply Sy.fa (t := 59) (i := 6)); exact rfl; exact rfl; exact fa59_6 _ _)
    | ((with_reducible apply Sy.ldN (t := 23)); exact rfl; exact rfl; exact hasT; (· first | exact ld_one ag23 rfl | exact ld_one ag23 (by with_reducible assumption)))
    | ((with_reducible apply Sy.lenS); exact rfl; exact Try.underlying23; exact rfl)
    | ((with_reducible apply Sy.bin (op := .gtr) (t := 3)); exact rfl; exact rfl; exact rfl; exact b_gtr)
    | ((with_reducible apply Sy.bin (op := .gtr) (t := 3)); exact rfl; exact rfl; exact rfl; exact bz_gtr)
    | ((with_reducible apply Sy.pickT); exact rfl; exact rfl; exact rfl)
    | ((with_reducible apply Sy.pickF); exact rfl; exact rfl; exact rfl)
    | ((with_reducible apply Sy.fa (t := 59) (i := 0)); exact rfl; exact rfl; exact fa59_0 _ _)
    | ((with_reducible apply Sy.ldN (t := 3)); exact rfl; exact rfl; exact hasT; (· first | exact ld_one ag3 rfl | exact ld_one ag3 (by with_reducible assumption)))
    | ((with_reducible apply Sy.bin (op := .eql) (t := 3)); exact rfl; exact rfl; exact rfl; exact b_eql)
    | ((with_reducible apply Sy.bin (op := .eql) (t := 3)); exact rfl; exact rfl; exact rfl; exact bz_eql)
    | ((with_reducible apply Sy.bin (op := .eql) (t := 53)); exact rfl; exact rfl; exact rfl; exact b_eql)
    | ((with_reducible apply Sy.bin (op := .eql) (t := 53)); exact rfl; exact rfl; exact rfl; exact bz_eql)
    | ((with_reducible apply Sy.bin (op := .leq) (t := 3)); exact rfl; exact rfl; exact rfl; exact b_leq)
    | ((with_reducible apply Sy.bin (op := .leq) (t := 3)); exact rfl; exact rfl; exact rfl; exact bz_leq)
    | ((with_reducible apply Sy.ext); exact rfl; exact rfl; exact rfl)
    | ((with_reducible apply Sy.stNa (t := 57)); exact rfl; exact rfl; exact sz57; (· first | (simp; done)); (· first | (simp [oneL_append, oneL_cons, oneL_nil, hC_one, oneL_ints]; done)); exact turnT; (· first | (simp; done)); (· first | exact lay_all (by first | (simp; done))))
    | ((with_reducible apply Sy.bin (op := .eql) (t := 27)); exact rfl; exact rfl; exact rfl; exact b_eql)
    | ((with_reducible apply Sy.bin (op := .eql) (t := 27)); exact rfl; exact rfl; exact rfl; exact bz_eql)
    | ((with_reducible apply Sy.fa (t := 59) (i := 3)); exact rfl; exact rfl; exact fa59_3 _ _)
    | ((with_reducible apply Sy.fa (t := 59) (i := 4)); exact rfl; exact rfl; exact fa59_4 _ _)
    | ((with_reducible apply Sy.ldN (t := 55)); exact rfl; exact rfl; exact hasT; (· first | exact ld_agg ag55 sz55 (by first | (simp; done)) (by first | with_reducible exact cut_kids)))
    | ((with_reducible apply Sy.bin (op := .eql) (t := 55)); exact rfl; exact rfl; exact rfl; (· exact (eq55 (by first | rfl | assumption | (simp; done)) (by first | rfl | assumption | (simp; done)))))
    | ((with_reducible apply Sy.callN (k := 96)); exact rfl; exact rfl; exact en96; exact rfl; (intro H' hp; exact k_GetMessage' _ m.d G H' hG (hv.of hp) ho.d hl); rintro ⟨c5, a5, k5⟩ h5)
    | ((with_reducible apply Sy.newY (o := ⟨some 1, .box 59 _, _, _, _, _⟩)); exact rfl; exact rfl; exact nbA rfl; intro q1)
    | ((with_reducible apply Sy.newY (o := ⟨some 3, .alloc 57, _, _, _, _⟩)); exact rfl; exact rfl; exact nwz57; intro q3)
    | (with_reducible refine Sy.skip ?_)
    | (with_reducible refine Sy.ret ?_)
    | (with_reducible refine Sy.block ?_)
    | (with_reducible refine Sy.aret ?_)
    | (with_reducible refine Sy.inrm ?_)
    | (with_reducible refine Sy.iret ?_)
    | ((with_reducible apply Sy.yes); exact rfl)
    | ((with_reducible apply Sy.goG); exact rfl; exact rfl; exact rfl)
    | ((with_reducible apply Sy.noG); exact rfl; exact rfl; exact rfl; exact rfl; exact rfl)
    | ((with_reducible apply Sy.caseG); (case hj => exact rfl); (case hx => exact rfl); all_goals (intro hc; try (exfalso; omega)))
    | ((with_reducible apply Sy.ite); (case hx => exact rfl); all_goals (intro hc; try (exfalso; omega))))
  all_goals exact .fin [_] (.inr rfl) ⟨rfl, trivial⟩ fun H' hp => ⟨by refine congrArg Value.bool ?_; rw [hR]; clear hR hmg hmd hG hv ho hl hg ht hk hp; simp [*] <;> first | omega | (rw [if_neg (by omega), if_neg (by omega)]; intro h; omega) | (trace_state; done), hp.less (List.nil_sublist _)⟩
end Go.Proofs.Ytcaafoibabijgaa

/- Layer 09: Tx.put; the reference's bytes of a Tx. -/
namespace Go.Proofs.Ytcaafoibabijgaa
open Go Go.Am
set_option maxRecDepth 100000
set_option linter.unusedVariables false

def txB (m : Txn) : List Nat := u64s [m.k.toNat, m.f, m.n, m.t] ++ (be256 m.w ++ (be64 m.g ++ blobN m.d))
theorem txB_length (m : Txn) : (txB m).length = 80 + m.d.length := by simp [txB, u64s_length, blobN_length]; omega
theorem ld_tkn {m : Txn} {v : Value} {T : TypeId} {b : Bool} (h : 0 ≤ m.k) : aLoad Try.prog 3 (.cells (txC m v) T b) 0 = some (.int .i64 ((m.k.toNat : Nat) : Int)) := by rw [Int.toNat_of_nonneg h]; exact ld_tk
open TxN in
set_option maxHeartbeats 2000000 in
theorem k_tput (p q : Nat) (l : List Nat) (m : Txn) (v : Value) (H : AHeap) (hw : WrAt H p l q) (ho : m.ok) (hk0 : 0 ≤ m.k) (hv : SlR H 1 v m.d.length (ints .u8 m.d)) (ha : Away v (WrM p q l)) (hlen : l.length + 80 + m.d.length ≤ 65536) :
    CallR Try.prog noPrims 94 [txV m v, .pointer (some ⟨p, 0, none⟩)] H (fun u H' => ∃ i : Unit, u = .tuple ⟨[]⟩ ∧ WrOut H H' p q l (l ++ txB m)) := by
  obtain ⟨va, vc, rfl⟩ := slr_form hv
  have hmg := txC_g m (.slice va m.d.length vc)
  have hmd := txC_d m (.slice va m.d.length vc)
  have hk := ho.k; have hf := ho.f; have hn := ho.n; have ht := ho.t; have hg := ho.g
  have u1 : (u64s [m.k.toNat, m.f, m.n, m.t]).length = 32 := by simp [u64s_length]
  have u2 : (u64s [m.g]).length = 8 := by simp [u64s_length]
  have u3 : (be256 m.w).length = 32 := by simp
  have u4 : (blobN m.d).length = 8 + m.d.length := blobN_length _
  refine CallR.sy (n := 31) Try.func94 rfl rfl rfl ?_
  repeat' (first
    | (with_reducible refine Sy.seq ?_)
    | (with_reducible refine Sy.regionL ?_)
    | (with_reducible refine Sy.opsnil ?_)
    | (with_reducible refine Sy.go ?_)
    | (with_reducible refine Sy.nrm ?_)
    | ((with_reducible refine Sy.ldN (t := 3) rfl rfl (by repeat (first | exact Has.here | apply Has.there | apply Has.app)) (ld_tkn hk0) ?_))
    | ((with_reducible apply Sy.move); exact rfl; exact rfl)
    | ((with_reducible apply Sy.fa (t := 59) (i := 0)); exact rfl; exact rfl; exact fa59_0 _ _)
    | ((with_reducible apply Sy.ldN (t := 3)); exact rfl; exact rfl; exact hasT; (· first | exact ld_one ag3 rfl))
    | ((with_reducible apply Sy.conv (D := 0) (T := .bool)); exact rfl; exact Try.underlying3; exact Try.underlying53; exact rfl; exact (wrap_u64x (by omega)))
    | ((with_reducible apply Sy.conv (D := 0) (T := .bool)); exact rfl; exact Try.underlying3; exact Try.underlying53; exact rfl; exact wrap_u64 _)
    | ((with_reducible apply Sy.fa (t := 59) (i := 1)); exact rfl; exact rfl; exact fa59_1 _ _)
    | ((with_reducible apply Sy.ldN (t := 53)); exact rfl; exact rfl; exact hasT; (· first | exact ld_one ag53 rfl))
    | ((with_reducible apply Sy.fa (t := 59) (i := 2)); exact rfl; exact rfl; exact fa59_2 _ _)
    | ((with_reducible apply Sy.fa (t := 59) (i := 3)); exact rfl; exact rfl; exact fa59_3 _ _)
    | ((with_reducible apply Sy.fa (t := 59) (i := 4)); exact rfl; exact rfl; exact fa59_4 _ _)
    | ((with_reducible apply Sy.ldN (t := 55)); exact rfl; exact rfl; exact hasT; (· first | exact ld_all ag55 (by first | exact sz55 | (simp [sz55, *]; done)) | exact ld_agg ag55 sz55 (by first | (simp; done) | (simp; omega)) (by first | with_reducible exact cut_kids | rfl | (simp [List.drop_append, List.take_append, List.getElem?_append, lay, hC_length, ints_length, ints_drop, ints_take, ints_append, List.drop_of_length_le, List.take_of_length_le, List.map_append, List.set_append, Value.cells]; done))))
    | ((with_reducible apply Sy.fa (t := 59) (i := 5)); exact rfl; exact rfl; exact fa59_5 _ _)
    | ((with_reducible apply Sy.fa (t := 59) (i := 6)); exact rfl; exact rfl; exact fa59_6 _ _)
    | ((with_reducible apply Sy.ldN (t := 23)); exact rfl; exact rfl; exact hasT; (· first | exact ld_one ag23 rfl))
    | ((with_reducible apply Sy.callH (k := 88)); exact rfl; exact rfl; exact en88; exact rfl; (intro H' hp; exact k_wUint p q l [m.k.toNat, m.f, m.n, m.t] _ H' (hw.of hp) ⟨_, _, _, true, rfl, hp.getN hasT⟩ (by simp; omega) (by simp)); rintro ⟨⟩ H1 H2 hp hJ)
    | ((with_reducible apply Sy.newY (o := ⟨some 2, .box 59 _, _, _, _, _⟩)); exact rfl; exact rfl; exact nbA rfl; intro q2)
    | ((with_reducible apply Sy.newY (o := ⟨some 14, .buildSlice 156 _ _, _, _, _, _⟩)); exact rfl; exact rfl; exact (nbsI [_, _, _, _] Try.underlying156 sz53 zr53 rfl (by decide) rfl rfl); intro q14)
    | ((with_reducible apply Sy.newY (o := ⟨some 14, .buildSlice 156 _ _, _, _, _, _⟩)); exact rfl; exact rfl; (· exact (nbsL [_, _, _, _] Try.underlying156 sz53 zr53 rfl (by decide) rfl rfl (by simp only [List.forall_mem_cons, List.not_mem_nil, false_implies, implies_true, and_true]; exact ⟨rfl, rfl, rfl, rfl⟩))); intro q14)
    | ((with_reducible apply Sy.newY (o := ⟨some 14, .buildSlice 156 _ _, _, _, _, _⟩)); exact rfl; exact rfl; (· exact (newY_bs Try.underlying156 sz53 zr53 rfl (by decide) rfl (by first | rfl | (simp [List.drop_append, List.take_append, List.getElem?_append, lay, hC_length, ints_length, ints_drop, ints_take, ints_append, List.drop_of_length_le, List.take_of_length_le, List.map_append, List.set_append, Value.cells]; done)))); intro q14)
    | ((with_reducible apply Sy.newY (o := ⟨some 19, .buildSlice 159 _ _, _, _, _, _⟩)); exact rfl; exact rfl; (· exact (nba1 Try.underlying159 sz55 zr55 rfl (by decide) rfl (by first | exact hC_length _ | exact rfl | (simp; done)))); intro q19)
    | ((with_reducible apply Sy.newY (o := ⟨some 19, .buildSlice 159 _ _, _, _, _, _⟩)); exact rfl; exact rfl; (· exact (newY_bs Try.underlying159 sz55 zr55 rfl (by decide) rfl (by first | rfl | (simp [List.drop_append, List.take_append, List.getElem?_append, lay, hC_length, ints_length, ints_drop, ints_take, ints_append, List.drop_of_length_le, List.take_of_length_le, List.map_append, List.set_append, Value.cells]; done)))); intro q19)
    | ((with_reducible apply Sy.newY (o := ⟨some 24, .buildSlice 156 _ _, _, _, _, _⟩)); exact rfl; exact rfl; exact (nbsI [_] Try.underlying156 sz53 zr53 rfl (by decide) rfl rfl); intro q24)
    | ((with_reducible apply Sy.newY (o := ⟨some 24, .buildSlice 156 _ _, _, _, _, _⟩)); exact rfl; exact rfl; exact (nbs1 Try.underlying156 sz53 zr53 rfl (by decide) rfl rfl); intro q24)
    | ((with_reducible apply Sy.newY (o := ⟨some 24, .buildSlice 156 _ _, _, _, _, _⟩)); exact rfl; exact rfl; (· exact (newY_bs Try.underlying156 sz53 zr53 rfl (by decide) rfl (by first | rfl | (simp [List.drop_append, List.take_append, List.getElem?_append, lay, hC_length, ints_length, ints_drop, ints_take, ints_append, List.drop_of_length_le, List.take_of_length_le, List.map_append, List.set_append, Value.cells]; done)))); intro q24)
    | ((with_reducible apply Sy.newY (o := ⟨some 29, .buildSlice 35 _ _, _, _, _, _⟩)); exact rfl; exact rfl; exact (nbs1 Try.underlying35 sz23 zr23 rfl (by decide) rfl rfl); intro q29)
    | ((with_reducible apply Sy.newY (o := ⟨some 29, .buildSlice 35 _ _, _, _, _, _⟩)); exact rfl; exact rfl; (· exact (newY_bs Try.underlying35 sz23 zr23 rfl (by decide) rfl (by first | rfl | (simp [List.drop_append, List.take_append, List.getElem?_append, lay, hC_length, ints_length, ints_drop, ints_take, ints_append, List.drop_of_length_le, List.take_of_length_le, List.map_append, List.set_append, Value.cells]; done)))); intro q29))
  rw [wrA_ok (by omega)] at hJ
  dsimp only at hJ
  have hm1 := hp.getN (h := q2) (o := .cells (txC m _) 59 true) hasT
  have ha1 := new_away hp (b := q2) (o := .cells (txC m _) 59 true) hasT hw
  obtain ⟨q', s1⟩ := (Ses.start (hw.of hp)).step (Hp.refl H1) hJ
  have hm2 := s1.get hm1 rfl ha1
  have hv1 := hv.of hp
  clear hJ
  repeat' (first
    | (with_reducible refine Sy.seq ?_)
    | (with_reducible refine Sy.regionL ?_)
    | (with_reducible refine Sy.opsnil ?_)
    | (with_reducible refine Sy.go ?_)
    | (with_reducible refine Sy.nrm ?_)
    | ((with_reducible apply Sy.move); exact rfl; exact rfl)
    | ((with_reducible apply Sy.fa (t := 59) (i := 0)); exact rfl; exact rfl; exact fa59_0 _ _)
    | ((with_reducible apply Sy.ld0 (t := 3)); exact rfl; exact rfl; (· with_reducible assumption); exact rfl; exact notM; (· first | ((with_reducible refine ld_hash ag3 ?_); omega) | ((with_reducible refine ld_int ag3 ?_); first | omega | (simp; done) | (simp; omega)) | exact ld_one ag3 rfl | with_reducible assumption | exact ld_one ag3 (by with_reducible assumption) | exact ld_one ag3 (by simp [List.drop_append, List.take_append, List.getElem?_append, lay, hC_length, ints_length, ints_drop, ints_take, ints_append, List.drop_of_length_le, List.take_of_length_le, List.map_append, List.set_append, Value.cells]; done)))
    | ((with_reducible apply Sy.fa (t := 59) (i := 1)); exact rfl; exact rfl; exact fa59_1 _ _)
    | ((with_reducible apply Sy.ld0 (t := 53)); exact rfl; exact rfl; (· with_reducible assumption); exact rfl; exact notM; (· first | ((with_reducible refine ld_hash ag53 ?_); omega) | ((with_reducible refine ld_int ag53 ?_); first | omega | (simp; done) | (simp; omega)) | exact ld_one ag53 rfl | with_reducible assumption | exact ld_one ag53 (by with_reducible assumption) | exact ld_one ag53 (by simp [List.drop_append, List.take_append, List.getElem?_append, lay, hC_length, ints_length, ints_drop, ints_take, ints_append, List.drop_of_length_le, List.take_of_length_le, List.map_append, List.set_append, Value.cells]; done)))
    | ((with_reducible apply Sy.fa (t := 59) (i := 2)); exact rfl; exact rfl; exact fa59_2 _ _)
    | ((with_reducible apply Sy.fa (t := 59) (i := 3)); exact rfl; exact rfl; exact fa59_3 _ _)
    | ((with_reducible apply Sy.fa (t := 59) (i := 4)); exact rfl; exact rfl; exact fa59_4 _ _)
    | ((with_reducible apply Sy.ld0 (t := 55)); exact rfl; exact rfl; (· with_reducible assumption); exact rfl; exact notM; (· first | exact ld_agg ag55 sz55 (by first | (simp; done)) (by first | with_reducible exact cut_kids)))
    | ((with_reducible apply Sy.fa (t := 59) (i := 5)); exact rfl; exact rfl; exact fa59_5 _ _)
    | ((with_reducible apply Sy.fa (t := 59) (i := 6)); exact rfl; exact rfl; exact fa59_6 _ _)
    | ((with_reducible apply Sy.ld0 (t := 23)); exact rfl; exact rfl; (· with_reducible assumption); exact rfl; exact notM; (· first | exact ld_one ag23 rfl | with_reducible assumption | exact ld_one ag23 (by with_reducible assumption) | exact ld_one ag23 (by simp [List.drop_append, List.take_append, List.getElem?_append, lay, hC_length, ints_length, ints_drop, ints_take, ints_append, List.drop_of_length_le, List.take_of_length_le, List.map_append, List.set_append, Value.cells]; done)))
    | ((with_reducible apply Sy.callH (k := 89)); exact rfl; exact rfl; exact en89; exact rfl; (intro H' hp; exact k_wWide p q' _ 1 _ true _ m.w H' (s1.wr.of hp) (hp.getN hasT)); rintro ⟨⟩ H3 H4 hp2 hJ)
    | ((with_reducible apply Sy.newY (o := ⟨some 14, .buildSlice 156 _ _, _, _, _, _⟩)); exact rfl; exact rfl; exact (nbsI [_, _, _, _] Try.underlying156 sz53 zr53 rfl (by decide) rfl rfl); intro q14)
    | ((with_reducible apply Sy.newY (o := ⟨some 14, .buildSlice 156 _ _, _, _, _, _⟩)); exact rfl; exact rfl; (· exact (nbsL [_, _, _, _] Try.underlying156 sz53 zr53 rfl (by decide) rfl rfl (by simp only [List.forall_mem_cons, List.not_mem_nil, false_implies, implies_true, and_true]; exact ⟨rfl, rfl, rfl, rfl⟩))); intro q14)
    | ((with_reducible apply Sy.newY (o := ⟨some 14, .buildSlice 156 _ _, _, _, _, _⟩)); exact rfl; exact rfl; (· exact (newY_bs Try.underlying156 sz53 zr53 rfl (by decide) rfl (by first | rfl | (simp [List.drop_append, List.take_append, List.getElem?_append, lay, hC_length, ints_length, ints_drop, ints_take, ints_append, List.drop_of_length_le, List.take_of_length_le, List.map_append, List.set_append, Value.cells]; done)))); intro q14)
    | ((with_reducible apply Sy.newY (o := ⟨some 19, .buildSlice 159 _ _, _, _, _, _⟩)); exact rfl; exact rfl; (· exact (nba1 Try.underlying159 sz55 zr55 rfl (by decide) rfl (by first | (simp; done)))); intro q19)
    | ((with_reducible apply Sy.newY (o := ⟨some 19, .buildSlice 159 _ _, _, _, _, _⟩)); exact rfl; exact rfl; (· exact (newY_bs Try.underlying159 sz55 zr55 rfl (by decide) rfl (by first | rfl | (simp [List.drop_append, List.take_append, List.getElem?_append, lay, hC_length, ints_length, ints_drop, ints_take, ints_append, List.drop_of_length_le, List.take_of_length_le, List.map_append, List.set_append, Value.cells]; done)))); intro q19)
    | ((with_reducible apply Sy.newY (o := ⟨some 24, .buildSlice 156 _ _, _, _, _, _⟩)); exact rfl; exact rfl; exact (nbsI [_] Try.underlying156 sz53 zr53 rfl (by decide) rfl rfl); intro q24)
    | ((with_reducible apply Sy.newY (o := ⟨some 24, .buildSlice 156 _ _, _, _, _, _⟩)); exact rfl; exact rfl; exact (nbs1 Try.underlying156 sz53 zr53 rfl (by decide) rfl rfl); intro q24)
    | ((with_reducible apply Sy.newY (o := ⟨some 24, .buildSlice 156 _ _, _, _, _, _⟩)); exact rfl; exact rfl; (· exact (newY_bs Try.underlying156 sz53 zr53 rfl (by decide) rfl (by first | rfl | (simp [List.drop_append, List.take_append, List.getElem?_append, lay, hC_length, ints_length, ints_drop, ints_take, ints_append, List.drop_of_length_le, List.take_of_length_le, List.map_append, List.set_append, Value.cells]; done)))); intro q24)
    | ((with_reducible apply Sy.newY (o := ⟨some 29, .buildSlice 35 _ _, _, _, _, _⟩)); exact rfl; exact rfl; exact (nbs1 Try.underlying35 sz23 zr23 rfl (by decide) rfl rfl); intro q29)
    | ((with_reducible apply Sy.newY (o := ⟨some 29, .buildSlice 35 _ _, _, _, _, _⟩)); exact rfl; exact rfl; (· exact (newY_bs Try.underlying35 sz23 zr23 rfl (by decide) rfl (by first | rfl | (simp [List.drop_append, List.take_append, List.getElem?_append, lay, hC_length, ints_length, ints_drop, ints_take, ints_append, List.drop_of_length_le, List.take_of_length_le, List.map_append, List.set_append, Value.cells]; done)))); intro q29))
  rw [wrA_ok (by rw [List.length_append]; omega)] at hJ
  dsimp only at hJ
  obtain ⟨q'', s2⟩ := s1.step hp2 hJ
  have hm3 := s2.get hm1 rfl ha1
  clear hJ hp2 hm2
  repeat' (first
    | (with_reducible refine Sy.regionL ?_)
    | (with_reducible refine Sy.opsnil ?_)
    | (with_reducible refine Sy.go ?_)
    | (with_reducible refine Sy.nrm ?_)
    | ((with_reducible apply Sy.move); exact rfl; exact rfl)
    | ((with_reducible apply Sy.fa (t := 59) (i := 0)); exact rfl; exact rfl; exact fa59_0 _ _)
    | ((with_reducible apply Sy.ld0 (t := 3)); exact rfl; exact rfl; (· with_reducible assumption); exact rfl; exact notM; (· first | exact ld_one ag3 (by with_reducible assumption)))
    | ((with_reducible apply Sy.fa (t := 59) (i := 1)); exact rfl; exact rfl; exact fa59_1 _ _)
    | ((with_reducible apply Sy.ld0 (t := 53)); exact rfl; exact rfl; (· with_reducible assumption); exact rfl; exact notM; (· first | exact ld_one ag53 (by with_reducible assumption)))
    | ((with_reducible apply Sy.fa (t := 59) (i := 2)); exact rfl; exact rfl; exact fa59_2 _ _)
    | ((with_reducible apply Sy.fa (t := 59) (i := 3)); exact rfl; exact rfl; exact fa59_3 _ _)
    | ((with_reducible apply Sy.fa (t := 59) (i := 4)); exact rfl; exact rfl; exact fa59_4 _ _)
    | ((with_reducible apply Sy.ld0 (t := 55)); exact rfl; exact rfl; (· with_reducible assumption); exact rfl; exact notM; (· first | exact ld_all ag55 (by first | exact sz55 | (simp [sz55, *]; done)) | exact ld_agg ag55 sz55 (by first | (simp; done) | (simp; omega)) (by first | with_reducible exact cut_kids | rfl | (simp [List.drop_append, List.take_append, List.getElem?_append, lay, hC_length, ints_length, ints_drop, ints_take, ints_append, List.drop_of_length_le, List.take_of_length_le, List.map_append, List.set_append, Value.cells]; done))))
    | ((with_reducible apply Sy.fa (t := 59) (i := 5)); exact rfl; exact rfl; exact fa59_5 _ _)
    | ((with_reducible apply Sy.fa (t := 59) (i := 6)); exact rfl; exact rfl; exact fa59_6 _ _)
    | ((with_reducible apply Sy.ld0 (t := 23)); exact rfl; exact rfl; (· with_reducible assumption); exact rfl; exact notM; (· first | exact ld_one ag23 (by with_reducible assumption)))
    | ((with_reducible apply Sy.callH (k := 88)); exact rfl; exact rfl; exact en88; exact rfl; (intro H' hp; exact k_wUint p q'' _ [m.g] _ H' (s2.wr.of hp) ⟨_, _, _, true, rfl, hp.getN hasT⟩ (by simp; omega) (by simp)); rintro ⟨⟩ H5 H6 hp2 hJ)
    | ((with_reducible apply Sy.newY (o := ⟨some 14, .buildSlice 156 _ _, _, _, _, _⟩)); exact rfl; exact rfl; exact (nbsI [_, _, _, _] Try.underlying156 sz53 zr53 rfl (by decide) rfl rfl); intro q14)
    | ((with_reducible apply Sy.newY (o := ⟨some 14, .buildSlice 156 _ _, _, _, _, _⟩)); exact rfl; exact rfl; (· exact (nbsL [_, _, _, _] Try.underlying156 sz53 zr53 rfl (by decide) rfl rfl (by simp only [List.forall_mem_cons, List.not_mem_nil, false_implies, implies_true, and_true]; exact ⟨rfl, rfl, rfl, rfl⟩))); intro q14)
    | ((with_reducible apply Sy.newY (o := ⟨some 14, .buildSlice 156 _ _, _, _, _, _⟩)); exact rfl; exact rfl; (· exact (newY_bs Try.underlying156 sz53 zr53 rfl (by decide) rfl (by first | rfl | (simp [List.drop_append, List.take_append, List.getElem?_append, lay, hC_length, ints_length, ints_drop, ints_take, ints_append, List.drop_of_length_le, List.take_of_length_le, List.map_append, List.set_append, Value.cells]; done)))); intro q14)
    | ((with_reducible apply Sy.newY (o := ⟨some 19, .buildSlice 159 _ _, _, _, _, _⟩)); exact rfl; exact rfl; (· exact (nba1 Try.underlying159 sz55 zr55 rfl (by decide) rfl (by first | exact hC_length _ | exact rfl | (simp; done)))); intro q19)
    | ((with_reducible apply Sy.newY (o := ⟨some 19, .buildSlice 159 _ _, _, _, _, _⟩)); exact rfl; exact rfl; (· exact (newY_bs Try.underlying159 sz55 zr55 rfl (by decide) rfl (by first | rfl | (simp [List.drop_append, List.take_append, List.getElem?_append, lay, hC_length, ints_length, ints_drop, ints_take, ints_append, List.drop_of_length_le, List.take_of_length_le, List.map_append, List.set_append, Value.cells]; done)))); intro q19)
    | ((with_reducible apply Sy.newY (o := ⟨some 24, .buildSlice 156 _ _, _, _, _, _⟩)); exact rfl; exact rfl; exact (nbsI [_] Try.underlying156 sz53 zr53 rfl (by decide) rfl rfl); intro q24)
    | ((with_reducible apply Sy.newY (o := ⟨some 24, .buildSlice 156 _ _, _, _, _, _⟩)); exact rfl; exact rfl; exact (nbs1 Try.underlying156 sz53 zr53 rfl (by decide) rfl rfl); intro q24)
    | ((with_reducible apply Sy.newY (o := ⟨some 24, .buildSlice 156 _ _, _, _, _, _⟩)); exact rfl; exact rfl; (· exact (newY_bs Try.underlying156 sz53 zr53 rfl (by decide) rfl (by first | rfl | (simp [List.drop_append, List.take_append, List.getElem?_append, lay, hC_length, ints_length, ints_drop, ints_take, ints_append, List.drop_of_length_le, List.take_of_length_le, List.map_append, List.set_append, Value.cells]; done)))); intro q24)
    | ((with_reducible apply Sy.newY (o := ⟨some 29, .buildSlice 35 _ _, _, _, _, _⟩)); exact rfl; exact rfl; exact (nbs1 Try.underlying35 sz23 zr23 rfl (by decide) rfl rfl); intro q29)
    | ((with_reducible apply Sy.newY (o := ⟨some 29, .buildSlice 35 _ _, _, _, _, _⟩)); exact rfl; exact rfl; (· exact (newY_bs Try.underlying35 sz23 zr23 rfl (by decide) rfl (by first | rfl | (simp [List.drop_append, List.take_append, List.getElem?_append, lay, hC_length, ints_length, ints_drop, ints_take, ints_append, List.drop_of_length_le, List.take_of_length_le, List.map_append, List.set_append, Value.cells]; done)))); intro q29))
  rw [wrA_ok (by simp only [List.length_append]; omega)] at hJ
  dsimp only at hJ
  obtain ⟨q3, s3⟩ := s2.step hp2 hJ
  have hm4 := s3.get hm1 rfl ha1
  have hv4 := s3.slr hv1 ha
  clear hJ hp2 hm3
  repeat' (first
    | (with_reducible refine Sy.opsnil ?_)
    | (with_reducible refine Sy.go ?_)
    | ((with_reducible apply Sy.ld0 (t := 3)); exact rfl; exact rfl; (· with_reducible assumption); exact rfl; exact notM; (· first | exact ld_one ag3 (by with_reducible assumption)))
    | ((with_reducible apply Sy.ld0 (t := 53)); exact rfl; exact rfl; (· with_reducible assumption); exact rfl; exact notM; (· first | exact ld_one ag53 (by with_reducible assumption)))
    | ((with_reducible apply Sy.ld0 (t := 55)); exact rfl; exact rfl; (· with_reducible assumption); exact rfl; exact notM; (· first | exact ld_all ag55 (by first | exact sz55 | (simp [sz55, *]; done)) | exact ld_agg ag55 sz55 (by first | (simp; done) | (simp; omega)) (by first | with_reducible exact cut_kids | rfl | (simp [List.drop_append, List.take_append, List.getElem?_append, lay, hC_length, ints_length, ints_drop, ints_take, ints_append, List.drop_of_length_le, List.take_of_length_le, List.map_append, List.set_append, Value.cells]; done))))
    | ((with_reducible apply Sy.ld0 (t := 23)); exact rfl; exact rfl; (· with_reducible assumption); exact rfl; exact notM; (· first | exact ld_one ag23 (by with_reducible assumption)))
    | ((with_reducible apply Sy.callH (k := 90)); exact rfl; exact rfl; exact en90; exact rfl; (intro H' hp; exact k_wBlob p q3 _ 1 _ true _ m.d _ H' (s3.wr.of hp) (hp.getN hasT) (hv4.of hp) ho.d (by omega)); rintro ⟨⟩ H7 H8 hp2 hJ)
    | ((with_reducible apply Sy.newY (o := ⟨some 14, .buildSlice 156 _ _, _, _, _, _⟩)); exact rfl; exact rfl; exact (nbsI [_, _, _, _] Try.underlying156 sz53 zr53 rfl (by decide) rfl rfl); intro q14)
    | ((with_reducible apply Sy.newY (o := ⟨some 14, .buildSlice 156 _ _, _, _, _, _⟩)); exact rfl; exact rfl; (· exact (nbsL [_, _, _, _] Try.underlying156 sz53 zr53 rfl (by decide) rfl rfl (by simp only [List.forall_mem_cons, List.not_mem_nil, false_implies, implies_true, and_true]; exact ⟨rfl, rfl, rfl, rfl⟩))); intro q14)
    | ((with_reducible apply Sy.newY (o := ⟨some 14, .buildSlice 156 _ _, _, _, _, _⟩)); exact rfl; exact rfl; (· exact (newY_bs Try.underlying156 sz53 zr53 rfl (by decide) rfl (by first | rfl | (simp [List.drop_append, List.take_append, List.getElem?_append, lay, hC_length, ints_length, ints_drop, ints_take, ints_append, List.drop_of_length_le, List.take_of_length_le, List.map_append, List.set_append, Value.cells]; done)))); intro q14)
    | ((with_reducible apply Sy.newY (o := ⟨some 19, .buildSlice 159 _ _, _, _, _, _⟩)); exact rfl; exact rfl; (· exact (nba1 Try.underlying159 sz55 zr55 rfl (by decide) rfl (by first | exact hC_length _ | exact rfl | (simp; done)))); intro q19)
    | ((with_reducible apply Sy.newY (o := ⟨some 19, .buildSlice 159 _ _, _, _, _, _⟩)); exact rfl; exact rfl; (· exact (newY_bs Try.underlying159 sz55 zr55 rfl (by decide) rfl (by first | rfl | (simp [List.drop_append, List.take_append, List.getElem?_append, lay, hC_length, ints_length, ints_drop, ints_take, ints_append, List.drop_of_length_le, List.take_of_length_le, List.map_append, List.set_append, Value.cells]; done)))); intro q19)
    | ((with_reducible apply Sy.newY (o := ⟨some 24, .buildSlice 156 _ _, _, _, _, _⟩)); exact rfl; exact rfl; exact (nbsI [_] Try.underlying156 sz53 zr53 rfl (by decide) rfl rfl); intro q24)
    | ((with_reducible apply Sy.newY (o := ⟨some 24, .buildSlice 156 _ _, _, _, _, _⟩)); exact rfl; exact rfl; exact (nbs1 Try.underlying156 sz53 zr53 rfl (by decide) rfl rfl); intro q24)
    | ((with_reducible apply Sy.newY (o := ⟨some 24, .buildSlice 156 _ _, _, _, _, _⟩)); exact rfl; exact rfl; (· exact (newY_bs Try.underlying156 sz53 zr53 rfl (by decide) rfl (by first | rfl | (simp [List.drop_append, List.take_append, List.getElem?_append, lay, hC_length, ints_length, ints_drop, ints_take, ints_append, List.drop_of_length_le, List.take_of_length_le, List.map_append, List.set_append, Value.cells]; done)))); intro q24)
    | ((with_reducible apply Sy.newY (o := ⟨some 29, .buildSlice 35 _ _, _, _, _, _⟩)); exact rfl; exact rfl; exact (nbs1 Try.underlying35 sz23 zr23 rfl (by decide) rfl rfl); intro q29)
    | ((with_reducible apply Sy.newY (o := ⟨some 29, .buildSlice 35 _ _, _, _, _, _⟩)); exact rfl; exact rfl; (· exact (newY_bs Try.underlying35 sz23 zr23 rfl (by decide) rfl (by first | rfl | (simp [List.drop_append, List.take_append, List.getElem?_append, lay, hC_length, ints_length, ints_drop, ints_take, ints_append, List.drop_of_length_le, List.take_of_length_le, List.map_append, List.set_append, Value.cells]; done)))); intro q29))
  rw [wrA_ok (by simp only [List.length_append]; omega)] at hJ
  dsimp only at hJ
  obtain ⟨q4, s4⟩ := s3.step hp2 hJ
  have e : l ++ u64s [m.k.toNat, m.f, m.n, m.t] ++ be256 m.w ++ u64s [m.g] ++ blobN m.d = l ++ txB m := by simp [txB, u64s]
  rw [e] at s4
  exact .fin [] (.inl rfl) trivial fun H' hp3 => ⟨(), rfl, (s4.out.pre hp).post hp3⟩
end Go.Proofs.Ytcaafoibabijgaa

/- Layer 09: a Tx out of a reader, the program's and the reference's. -/
namespace Go.Proofs.Ytcaafoibabijgaa
open Go Go.Am
set_option maxRecDepth 100000
set_option linter.unusedVariables false

def rdT (r : Rd) : Txn × Rd := (⟨(((rdCnt 9 r).1 : Nat) : Int), rdU (rdCnt 9 r).2, rdU ((rdCnt 9 r).2.next 8), rdU (((rdCnt 9 r).2.next 8).next 8), rdW ((((rdCnt 9 r).2.next 8).next 8).next 8), rdU (((((rdCnt 9 r).2.next 8).next 8).next 8).next 32), (rdBlob ((((((rdCnt 9 r).2.next 8).next 8).next 8).next 32).next 8)).1⟩, (rdBlob ((((((rdCnt 9 r).2.next 8).next 8).next 8).next 32).next 8)).2)
set_option maxHeartbeats 1000000 in
theorem k_tx {p c : Nat} {lb : List Nat} {r : Rd} {v : Value} {H : AHeap} (h : RdAt H p c lb r v) :
    CallR Try.prog noPrims 56 [.pointer (some ⟨p, 0, none⟩)] H (fun u H' => ∃ i : Value × Value, (Vw c lb i.1 (rdT r).2.l ∧ Vw c lb i.2 (rdT r).1.d) ∧ u = txV (rdT r).1 i.2 ∧ Hp H 0 0 H' [(p, .cells (rdC i.1 (rdT r).2.e) 127 true)] []) := by
  have hplt := h.lt
  refine CallR.sy (n := 18) Try.func56 rfl rfl rfl ?_
  repeat' (first
    | (with_reducible refine Sy.seq ?_)
    | (with_reducible refine Sy.regionL ?_)
    | (with_reducible refine Sy.opsnil ?_)
    | (with_reducible refine Sy.go ?_)
    | (with_reducible refine Sy.nrm ?_)
    | ((with_reducible apply Sy.move); exact rfl; exact rfl)
    | ((with_reducible apply Sy.callTX (k := 54)); exact rfl; exact rfl; exact en54; exact rfl; (case hc => intro H' hp; exact k_rdCount (most := 9) (h.of hp (List.forall_mem_nil _)) (by decide)); exact hplt; exact notM; rintro v0 h0)
    | ((with_reducible apply Sy.callTO (k := 53)); exact rfl; exact rfl; exact en53; exact rfl; (case hc => intro H' hp; exact k_rdUint (h.o1 (r := (rdCnt 9 r).2) hp h0)); (intro i; exact turnT); rintro v1 h1)
    | ((with_reducible apply Sy.callTO (k := 53)); exact rfl; exact rfl; exact en53; exact rfl; (case hc => intro H' hp; exact k_rdUint (h.o1 (r := (rdCnt 9 r).2.next 8) hp h1)); (intro i; exact turnT); rintro v2 h2)
    | ((with_reducible apply Sy.callTO (k := 53)); exact rfl; exact rfl; exact en53; exact rfl; (case hc => intro H' hp; exact k_rdUint (h.o1 (r := ((rdCnt 9 r).2.next 8).next 8) hp h2)); (intro i; exact turnT); rintro v3 h3)
    | ((with_reducible apply Sy.callTO (k := 64)); exact rfl; exact rfl; exact en64; exact rfl; (case hc => intro H' hp; exact k_rdWide (h.o1 (r := (((rdCnt 9 r).2.next 8).next 8).next 8) hp h3)); (intro i; exact turnT); rintro v4 h4)
    | ((with_reducible apply Sy.callTO (k := 53)); exact rfl; exact rfl; exact en53; exact rfl; (case hc => intro H' hp; exact k_rdUint (h.o1 (r := ((((rdCnt 9 r).2.next 8).next 8).next 8).next 32) hp h4)); (intro i; exact turnT); rintro v5 h5)
    | ((with_reducible apply Sy.callTO (k := 65)); exact rfl; exact rfl; exact en65; exact rfl; (case hc => intro H' hp; exact k_rdBlob (h.o1 (r := (((((rdCnt 9 r).2.next 8).next 8).next 8).next 32).next 8) hp h5)); (intro i; exact turnT); rintro ⟨v6, u6⟩ ⟨h6, h7⟩)
    | ((with_reducible apply Sy.newY (o := ⟨some 2, .alloc 59, _, _, _, _⟩)); exact rfl; exact rfl; exact nwz59; intro q2))
  dsimp only at h6 h7 ⊢
  have hM : rdT r = (⟨(((rdCnt 9 r).1 : Nat) : Int), rdU (rdCnt 9 r).2, rdU ((rdCnt 9 r).2.next 8), rdU (((rdCnt 9 r).2.next 8).next 8), rdW ((((rdCnt 9 r).2.next 8).next 8).next 8), rdU (((((rdCnt 9 r).2.next 8).next 8).next 8).next 32), (rdBlob ((((((rdCnt 9 r).2.next 8).next 8).next 8).next 32).next 8)).1⟩, (rdBlob ((((((rdCnt 9 r).2.next 8).next 8).next 8).next 32).next 8)).2) := rfl
  rw [hM]
  clear hM
  generalize rdBlob ((((((rdCnt 9 r).2.next 8).next 8).next 8).next 32).next 8) = B at h6 h7 ⊢
  generalize rdU (((((rdCnt 9 r).2.next 8).next 8).next 8).next 32) = g
  generalize rdW ((((rdCnt 9 r).2.next 8).next 8).next 8) = w
  generalize rdU (((rdCnt 9 r).2.next 8).next 8) = t
  generalize rdU ((rdCnt 9 r).2.next 8) = n
  generalize rdU (rdCnt 9 r).2 = f
  generalize (rdCnt 9 r).1 = k
  obtain ⟨d, r'⟩ := B
  dsimp only at h6 h7 ⊢
  obtain ⟨ua, uc, rfl⟩ := h7.slice
  refine Sy.build (t := 59) rfl rfl (bvTx (m := ⟨((k : Nat) : Int), f, n, t, w, g, d⟩) rfl) ?_
  repeat' (first
    | (with_reducible refine Sy.opsnil ?_)
    | (with_reducible refine Sy.go ?_)
    | (with_reducible refine Sy.nrm ?_)
    | ((with_reducible apply Sy.stNa (t := 59)); exact rfl; exact rfl; exact sz59; (· first | (simp; done)); (· first | (simp [oneL_append, oneL_cons, oneL_nil, hC_one, oneL_ints]; done)); exact turnT; (· first | (simp; done)); (· first | exact lay_all (by first | (simp; done))))
    | (with_reducible refine Sy.ret ?_))
  exact .fin [_] (.inr rfl) ⟨⟨_, _, _, rfl, (by repeat (first | exact Has.here | apply Has.there | apply Has.app)), ld_tall⟩, trivial⟩ fun H' hp => ⟨(v6, _), ⟨h6, h7⟩, rfl, hp.less (List.nil_sublist _)⟩
end Go.Proofs.Ytcaafoibabijgaa

/- Layer 09: rows of Txs; which batches may be. -/
namespace Go.Proofs.Ytcaafoibabijgaa
open Go Go.Am
set_option maxRecDepth 100000
set_option linter.unusedVariables false

abbrev Tel : Type := Txn × Value
def tsC (es : List Tel) : List Value := (es.map fun e => txC e.1 e.2).flatten
theorem tsC_length (es : List Tel) : (tsC es).length = es.length * 10 := by
  induction es with
  | nil => rfl
  | cons e es ih => simp only [tsC, List.map_cons, List.flatten_cons, List.length_append, txC_length, List.length_cons] at ih ⊢; rw [ih]; omega
theorem tsC_append (a b : List Tel) : tsC (a ++ b) = tsC a ++ tsC b := by simp [tsC]
theorem tsC_cut {es : List Tel} {i : Nat} {x : Tel} (e : es[i]? = some x) : tsC es = tsC (es.take i) ++ (txC x.1 x.2 ++ tsC (es.drop (i + 1))) := by
  obtain ⟨hi, he⟩ := List.getElem?_eq_some_iff.1 e
  have : es = es.take i ++ (x :: es.drop (i + 1)) := by rw [← he, ← List.drop_eq_getElem_cons hi, List.take_append_drop]
  conv => lhs; rw [this]
  rw [tsC_append]; simp [tsC]
theorem ts_all {es : List Tel} {i o T t : Nat} {x : Tel} {w : Bool} (hag : aggT Try.prog t = true) (hsz : szT Try.prog t = some 10) (e : es[i]? = some x) (ho : o = i * 10) : aLoad Try.prog t (.cells (tsC es) T w) o = some (txV x.1 x.2) := by
  obtain ⟨hi, _⟩ := List.getElem?_eq_some_iff.1 e
  refine ld_agg (cs' := txC x.1 x.2) hag hsz (by rw [tsC_length]; omega) ?_
  rw [ho, tsC_cut e, List.drop_left' (by rw [tsC_length, List.length_take]; omega), ← txC_length x.1 x.2, List.take_left]
/-- Txs that lie in a row. -/
def TxsAt (T : Nat) (H : AHeap) (v : Value) (es : List Tel) : Prop := (∃ a c, v = .slice a es.length c ∧ (es = [] ∨ ∃ b w, a = some ⟨b, 0, none⟩ ∧ H.get b = .cells (tsC es) T w)) ∧ ∀ e ∈ es, e.1.ok ∧ SlR H 1 e.2 e.1.d.length (ints .u8 e.1.d) ∧ e.1.d.length ≤ 140737488355328
theorem TxsAt.of {T lo hi : Nat} {H H1 : AHeap} {Mn : Hm} {v : Value} {es : List Tel} (h : TxsAt T H v es) (hp : Hp H lo hi H1 [] Mn) : TxsAt T H1 v es := by
  obtain ⟨⟨a, c, e, h⟩, hs⟩ := h
  refine ⟨⟨a, c, e, ?_⟩, fun s m => ⟨(hs s m).1, (hs s m).2.1.of hp, (hs s m).2.2⟩⟩
  rcases h with h | ⟨b, w, e2, h⟩
  · exact .inl h
  · exact .inr ⟨b, w, e2, hp.get0 h rfl (by simp)⟩
abbrev tsOf (es : List Tel) : List Txn := es.map (·.1)
def rightBB (ts : List Txn) : Bool := decide (ts.length ≤ 8) && ts.all rightTB
theorem c_bright1 (x : Tel) (H : AHeap) (ho : x.1.ok) (hv : SlR H 1 x.2 x.1.d.length (ints .u8 x.1.d)) (hl : x.1.d.length ≤ 140737488355328) : CallR Try.prog noPrims 105 [txV x.1 x.2] H (fun u H' => u = .bool (!rightTB x.1) ∧ Hp H 0 0 H' [] []) := by
  obtain ⟨m, v⟩ := x
  dsimp only at ho hv hl ⊢
  obtain ⟨a, c, rfl⟩ := slr_form hv
  refine CallR.sy (n := 6) Try.func105 rfl rfl rfl ?_
  repeat' (first
    | (with_reducible refine Sy.seq ?_)
    | (with_reducible refine Sy.regionL ?_)
    | (with_reducible refine Sy.opsnil ?_)
    | (with_reducible refine Sy.go ?_)
    | (with_reducible refine Sy.nrm ?_)
    | ((with_reducible refine Sy.ldN (t := 59) rfl rfl (by repeat (first | exact Has.here | apply Has.there | apply Has.app)) ld_tall ?_))
    | ((with_reducible apply Sy.assign); exact rfl; exact rfl)
    | ((with_reducible apply Sy.un (op := .not)); exact rfl; exact rfl; exact un_notT)
    | ((with_reducible apply Sy.un (op := .not)); exact rfl; exact rfl; exact un_notF)
    | ((with_reducible apply Sy.un (op := .not)); exact rfl; exact rfl; exact un_notD)
    | ((with_reducible apply Sy.un (op := .not)); exact rfl; exact rfl; exact un_not)
    | ((with_reducible apply Sy.call0 (k := 95)); exact rfl; exact rfl; exact en95; exact rfl; (intro H' hp; exact c_tright m a c H' ho (hv.of hp) hl))
    | ((with_reducible apply Sy.newY (o := ⟨some 1, .box 59 _, _, _, _, _⟩)); exact rfl; exact rfl; exact nbA rfl; intro q1)
    | (with_reducible refine Sy.ret ?_))
  exact .fin [_] (.inr rfl) ⟨rfl, trivial⟩ fun H' hp => ⟨rfl, hp.less (List.nil_sublist _)⟩
set_option maxHeartbeats 2000000 in
theorem c_IndexT (es : List Tel) (v1 : Value) (H : AHeap) (h1 : TxsAt 59 H v1 es) (hn1 : es.length ≤ 1000000) : CallR Try.prog noPrims 106 [v1, .func (.func 105) #[] #[]] H (fun u H' => ∃ z : Int, (0 ≤ z ↔ (tsOf es).all rightTB = false) ∧ u = .int .i64 z ∧ Hp H 0 0 H' [] []) := by
  obtain ⟨⟨a1, c1, rfl, h1⟩, hss⟩ := h1
  refine CallR.sy (n := 19) Try.func106 rfl rfl rfl ?_
  repeat' (first
    | (with_reducible refine Sy.seq ?_)
    | (with_reducible refine Sy.regionL ?_)
    | (with_reducible refine Sy.opsnil ?_)
    | (with_reducible refine Sy.go ?_)
    | (with_reducible refine Sy.nrm ?_)
    | ((with_reducible apply Sy.assign); exact rfl; exact rfl)
    | ((with_reducible apply Sy.move); exact rfl; exact rfl)
    | ((with_reducible apply Sy.lenS); exact rfl; exact Try.underlying76; exact rfl)
    | (with_reducible refine Sy.block ?_))
  refine Sy.loop (ι := Nat) (fun i => es.length - i) (fun i => [(0, .slice a1 es.length c1), (1, .func (.func 105) #[] #[]), (6, .slice a1 es.length c1), (7, .int .i64 ((es.length : Nat) : Int)), (8, .int .i64 (i : Nat))]) (fun _ => []) (fun _ => []) (fun i => i ≤ es.length ∧ ((tsOf es).take i).all rightTB = true) 0 ⟨Nat.zero_le _, by simp⟩ ⟨rfl, rfl, rfl, rfl, rfl, trivial⟩ (fun H h => h) ?_
  rintro i ⟨hi, hI⟩
  by_cases hlt : i < es.length
  · obtain ⟨x, hs⟩ : ∃ x, es[i]? = some x := ⟨es[i], List.getElem?_eq_getElem hlt⟩
    rcases h1 with rfl | ⟨b1, w1, rfl, hb1⟩
    · simp at hlt
    obtain ⟨ho, hsv, hsl⟩ := hss x (List.mem_of_getElem? hs)
    have hk : (tsOf es)[i]? = some x.1 := by rw [List.getElem?_map, hs]; rfl
    repeat' (first
    | (with_reducible refine Sy.seq ?_)
    | (with_reducible refine Sy.regionL ?_)
    | (with_reducible refine Sy.opsnil ?_)
    | (with_reducible refine Sy.go ?_)
    | (with_reducible refine Sy.nrm ?_)
    | ((with_reducible refine Sy.ld0 (t := 59) rfl rfl hb1 rfl (by simp only [List.forall_mem_cons, List.not_mem_nil, false_implies, implies_true, and_true, ne_eq]; first | done | omega | (repeat (first | with_reducible assumption | (refine And.intro ?_ ?_)))) (ts_all ag59 sz59 hs (by omega)) ?_))
    | ((with_reducible apply Sy.assign); exact rfl; exact rfl)
    | ((with_reducible apply Sy.move); exact rfl; exact rfl)
    | ((with_reducible apply Sy.bin (op := .lss) (t := 3)); exact rfl; exact rfl; exact rfl; exact b_lss)
    | ((with_reducible apply Sy.bin (op := .lss) (t := 3)); exact rfl; exact rfl; exact rfl; exact bz_lss)
    | ((with_reducible apply Sy.ia (t := 76)); exact rfl; exact rfl; exact rfl; exact (ia_sl Try.underlying76 sz59 (by omega)))
    | ((with_reducible apply Sy.bin (op := .add) (t := 3)); exact rfl; exact rfl; exact rfl; exact (b_add (by omega)))
    | ((with_reducible apply Sy.bin (op := .add) (t := 3)); exact rfl; exact rfl; exact rfl; exact (bz_add (by omega) (by omega)))
    | ((with_reducible apply Sy.call0 (k := 105)); exact rfl; exact rfl; exact en105; exact rfl; (intro H' hp; exact c_bright1 x H' ho (hsv.of hp) hsl))
    | (with_reducible refine Sy.skip ?_)
    | (with_reducible refine Sy.ret ?_)
    | (with_reducible refine Sy.block ?_)
    | (with_reducible refine Sy.aret ?_)
    | (with_reducible refine Sy.inrm ?_)
    | (with_reducible refine Sy.iret ?_)
    | (with_reducible refine Sy.rret ?_)
    | ((with_reducible apply Sy.ite); (case hx => exact rfl); all_goals (intro hc; try (exfalso; omega)))
    | ((with_reducible apply Sy.iteB); (case hx => exact rfl); all_goals intro hc))
    · refine .fin [_] (.inr rfl) ⟨rfl, trivial⟩ fun H' hp => ⟨_, ⟨fun _ => ?_, fun _ => by omega⟩, rfl, hp.less (List.nil_sublist _)⟩
      rw [List.all_eq_false]
      exact ⟨x.1, List.mem_of_getElem? hk, by simpa using hc⟩
    · refine Sy.rnrm (i + 1) ⟨by omega, ?_⟩ (by show es.length - (i + 1) < es.length - i; omega) ⟨rfl, rfl, rfl, rfl, rfl, trivial⟩ (fun H1 h => h)
      have hc' : rightTB x.1 = true := by simpa using hc
      rw [List.take_add_one, hk, List.all_append, hI, Option.toList_some, List.all_cons, hc', List.all_nil]; rfl
  · obtain rfl : i = es.length := by omega
    rw [show (tsOf es).take es.length = tsOf es by rw [List.take_of_length_le (by simp)]] at hI
    repeat' (first
    | (with_reducible refine Sy.seq ?_)
    | (with_reducible refine Sy.regionL ?_)
    | (with_reducible refine Sy.opsnil ?_)
    | (with_reducible refine Sy.go ?_)
    | (with_reducible refine Sy.nrm ?_)
    | ((with_reducible apply Sy.assign); exact rfl; exact rfl)
    | ((with_reducible apply Sy.bin (op := .lss) (t := 3)); exact rfl; exact rfl; exact rfl; exact b_lss)
    | ((with_reducible apply Sy.bin (op := .lss) (t := 3)); exact rfl; exact rfl; exact rfl; exact bz_lss)
    | (with_reducible refine Sy.exit ?_)
    | (with_reducible refine Sy.ret ?_)
    | (with_reducible refine Sy.aex ?_)
    | ((with_reducible apply Sy.iex); exact rfl)
    | (with_reducible refine Sy.rex ?_)
    | ((with_reducible apply Sy.ite); (case hx => exact rfl); all_goals (intro hc; try (exfalso; omega))))
    exact .fin [_] (.inr rfl) ⟨rfl, trivial⟩ fun H' hp => ⟨-1, ⟨fun h => by omega, fun h => by rw [hI] at h; exact absurd h (by decide)⟩, rfl, hp⟩
theorem c_ContainsT (es : List Tel) (v1 : Value) (H : AHeap) (h1 : TxsAt 59 H v1 es) (hn1 : es.length ≤ 1000000) : CallR Try.prog noPrims 104 [v1, .func (.func 105) #[] #[]] H (fun u H' => u = .bool (!(tsOf es).all rightTB) ∧ Hp H 0 0 H' [] []) := by
  refine CallR.sy (n := 9) Try.func104 rfl rfl rfl ?_
  repeat' (first
    | (with_reducible refine Sy.seq ?_)
    | (with_reducible refine Sy.regionL ?_)
    | (with_reducible refine Sy.opsnil ?_)
    | (with_reducible refine Sy.go ?_)
    | (with_reducible refine Sy.nrm ?_)
    | ((with_reducible apply Sy.assign); exact rfl; exact rfl)
    | ((with_reducible apply Sy.move); exact rfl; exact rfl)
    | ((with_reducible apply Sy.bin (op := .geq) (t := 3)); exact rfl; exact rfl; exact rfl; exact b_geq)
    | ((with_reducible apply Sy.bin (op := .geq) (t := 3)); exact rfl; exact rfl; exact rfl; exact bz_geq)
    | ((with_reducible apply Sy.callN (k := 106)); exact rfl; exact rfl; exact en106; exact rfl; (intro H' hp; exact c_IndexT es v1 H' (h1.of hp) hn1); rintro z hz)
    | (with_reducible refine Sy.ret ?_))
  refine .fin [_] (.inr rfl) ⟨rfl, trivial⟩ fun H' hp => ⟨?_, hp.less (List.nil_sublist _)⟩
  show Value.bool _ = Value.bool _
  congr 1
  rw [Bool.eq_iff_iff, decide_eq_true_eq]
  rw [Bool.not_eq_true']
  exact hz
abbrev baC (ep : Nat) (v : Value) : List Value := [.int .u64 ((ep : Nat) : Int), v]
theorem c_bright (ep : Nat) (es : List Tel) (v : Value) (H : AHeap) (h1 : TxsAt 59 H v es) (hn : es.length ≤ 4398046511104) : CallR Try.prog noPrims 103 [.agg ⟨baC ep v⟩] H (fun u H' => u = .bool (rightBB (tsOf es)) ∧ Hp H 0 0 H' [] []) := by
  have h1' := h1
  obtain ⟨⟨a1, c1, rfl, -⟩, -⟩ := h1
  have hl : (tsOf es).length = es.length := by simp
  refine CallR.sy (n := 13) Try.func103 rfl rfl rfl ?_
  repeat' (first
    | (with_reducible refine Sy.seq ?_)
    | (with_reducible refine Sy.regionL ?_)
    | (with_reducible refine Sy.opsnil ?_)
    | (with_reducible refine Sy.go ?_)
    | (with_reducible refine Sy.nrm ?_)
    | ((with_reducible apply Sy.assign); exact rfl; exact rfl)
    | ((with_reducible apply Sy.fa (t := 78) (i := 1)); exact rfl; exact rfl; exact fa78_1 _ _)
    | ((with_reducible apply Sy.ldN (t := 76)); exact rfl; exact rfl; exact hasT; (· first | exact ld_one ag76 rfl))
    | ((with_reducible apply Sy.lenS); exact rfl; exact Try.underlying76; exact rfl)
    | ((with_reducible apply Sy.bin (op := .leq) (t := 3)); exact rfl; exact rfl; exact rfl; exact b_leq)
    | ((with_reducible apply Sy.bin (op := .leq) (t := 3)); exact rfl; exact rfl; exact rfl; exact bz_leq)
    | ((with_reducible apply Sy.move); exact rfl; exact rfl)
    | ((with_reducible apply Sy.un (op := .not)); exact rfl; exact rfl; exact un_notT)
    | ((with_reducible apply Sy.un (op := .not)); exact rfl; exact rfl; exact un_notF)
    | ((with_reducible apply Sy.un (op := .not)); exact rfl; exact rfl; exact un_notD)
    | ((with_reducible apply Sy.un (op := .not)); exact rfl; exact rfl; exact un_not)
    | ((with_reducible apply Sy.pickT); exact rfl; exact rfl; exact rfl)
    | ((with_reducible apply Sy.pickF); exact rfl; exact rfl; exact rfl)
    | ((with_reducible apply Sy.call0 (k := 104)); exact rfl; exact rfl; exact en104; exact rfl; (intro H' hp; exact c_ContainsT es _ H' (h1'.of hp) (by omega)))
    | ((with_reducible apply Sy.newY (o := ⟨some 1, .box 78 _, _, _, _, _⟩)); exact rfl; exact rfl; exact nbA rfl; intro q1)
    | (with_reducible refine Sy.ret ?_)
    | ((with_reducible apply Sy.goG); exact rfl; exact rfl; exact rfl)
    | ((with_reducible apply Sy.noG); exact rfl; exact rfl; exact rfl; exact rfl; exact rfl)
    | ((with_reducible apply Sy.caseG); (case hj => exact rfl); (case hx => exact rfl); all_goals (intro hc; try (exfalso; omega))))
  · refine .fin [_] (.inr rfl) ⟨rfl, trivial⟩ fun H' hp => ⟨?_, hp.less (List.nil_sublist _)⟩
    refine congrArg Value.bool ?_
    unfold rightBB
    rw [hl, decide_eq_true hc, Bool.not_not, Bool.true_and]
  · refine .fin [_] (.inr rfl) ⟨rfl, trivial⟩ fun H' hp => ⟨?_, hp.less (List.nil_sublist _)⟩
    refine congrArg Value.bool ?_
    unfold rightBB
    rw [hl, decide_eq_false hc, Bool.false_and]
end Go.Proofs.Ytcaafoibabijgaa

/- Layer 09: Batch.put, PutBatch. -/
namespace Go.Proofs.Ytcaafoibabijgaa
open Go Go.Am
set_option maxRecDepth 100000
set_option linter.unusedVariables false

theorem slr_keep {H0 H : AHeap} {lo hi p q q0 : Nat} {T : TypeId} {w : Bool} {l l0 x : List Nat} {v : Value} {Mn : Hm} (hv : SlR H0 1 v x.length (ints .u8 x)) (r : Hp H0 lo hi H (wrP p q l) Mn) (hp0 : H0.get p = .cells (wrC l0 q0) T w) : SlR H 1 v x.length (ints .u8 x) :=
  Kp.slr (Kp.of (S := WrM p 0 []) r (fun y hy => by rw [List.mem_singleton] at hy; subst hy; exact .inl rfl)) hv (away_rd hv hp0 (by simp))
theorem k_wUintF (p q : Nat) (l ns : List Nat) (v : Value) (H : AHeap) (hX : l.length + (u64s ns).length ≤ 65536) (hw : WrAt H p l q) (hv : NsAt H v ns) (h64 : ∀ x ∈ ns, x < 18446744073709551616) (hn : ns.length ≤ 1000000) :
    CallR Try.prog noPrims 88 [.pointer (some ⟨p, 0, none⟩), v] H (fun u H' => ∃ i : Unit, u = .int .i64 ((0 : Nat) : Int) ∧ WrOut H H' p q l (l ++ u64s ns)) := by
  have := k_wUint p q l ns v H hw hv h64 hn
  rw [wrA_ok hX] at this
  exact this
def batTo (ep : Nat) (ts : List Txn) (i : Nat) : List Nat := u64s [ep, ts.length] ++ ((ts.take i).map txB).flatten
abbrev batB (ep : Nat) (ts : List Txn) : List Nat := batTo ep ts ts.length
theorem batTo_0 (ep : Nat) (ts : List Txn) : batTo ep ts 0 = u64s [ep, ts.length] := by simp [batTo]
theorem batTo_step {ep i : Nat} {ts : List Txn} {m : Txn} (h : ts[i]? = some m) : batTo ep ts (i + 1) = batTo ep ts i ++ txB m := by
  unfold batTo
  rw [List.take_add_one, h, Option.toList_some, List.map_append, List.flatten_append, List.append_assoc]
  simp
theorem rightTB_k {m : Txn} (h : rightTB m = true) : 0 ≤ m.k ∧ m.k ≤ 3 ∧ m.d.length ≤ 256 ∧ m.g ≤ 65536 := by
  unfold rightTB at h
  split at h
  · simp at h
  · rename_i hn
    split at h
    · exact ⟨by omega, by omega, by omega, by omega⟩
    · split at h
      · exact ⟨by omega, by omega, by omega, by omega⟩
      · split at h
        · exact ⟨by omega, by omega, by omega, by omega⟩
        · simp at h
theorem batTo_len {ep : Nat} {ts : List Txn} (hr : ts.all rightTB = true) : ∀ i, (batTo ep ts i).length ≤ 16 + i * 336
  | 0 => by rw [batTo_0]; simp [u64s_length]
  | i + 1 => by
    have ih := batTo_len (ep := ep) hr i
    cases h : ts[i]? with
    | none =>
      unfold batTo at ih ⊢
      rw [List.take_add_one, h, Option.toList_none, List.append_nil]
      omega
    | some m =>
      rw [batTo_step h, List.length_append, txB_length]
      have := rightTB_k (List.all_eq_true.1 hr m (List.mem_of_getElem? h))
      omega
theorem rightBB_n {ts : List Txn} (h : rightBB ts = true) : ts.length ≤ 8 ∧ ts.all rightTB = true := by simpa [rightBB] using h
set_option maxHeartbeats 2000000 in
theorem k_bput (p q ep : Nat) (es : List Tel) (v : Value) (H : AHeap) (hw : WrAt H p [] q) (h1 : TxsAt 59 H v es) (hr : rightBB (tsOf es) = true) (hep : ep < 18446744073709551616) :
    CallR Try.prog noPrims 102 [.agg ⟨baC ep v⟩, .pointer (some ⟨p, 0, none⟩)] H (fun u H' => ∃ i : Unit, u = .tuple ⟨[]⟩ ∧ WrOut H H' p q [] (batB ep (tsOf es))) := by
  obtain ⟨⟨a1, c1, rfl, h1⟩, hss⟩ := h1
  have hp0 := hw.obj
  obtain ⟨hn8, hall⟩ := rightBB_n hr
  have hlen : (tsOf es).length = es.length := by simp
  rw [hlen] at hn8
  refine CallR.sy (n := 26) Try.func102 rfl rfl rfl ?_
  refine Sy.touch (m := p) (o := .cells (wrC [] q) 126 true) hp0 rfl (by simp) ?_
  repeat' (first
    | (with_reducible refine Sy.seq ?_)
    | (with_reducible refine Sy.regionL ?_)
    | (with_reducible refine Sy.opsnil ?_)
    | (with_reducible refine Sy.go ?_)
    | (with_reducible refine Sy.nrm ?_)
    | ((with_reducible apply Sy.callWo (k := 88) (pw := p) (q := q) (l := [])); exact rfl; exact rfl; exact en88; exact rfl; exact pull_nil; (intro H' hp; exact k_wUintF p q [] [ep, es.length] _ H' (by simp [u64s_length]) (wrP_at hp pull_nil.perm (by simp) (by simp)) ⟨_, _, _, true, rfl, hp.getN hasT⟩ (by simp; omega) (by simp)); rintro q1 ht1 hl1)
    | ((with_reducible apply Sy.move); exact rfl; exact rfl)
    | ((with_reducible apply Sy.fa (t := 78) (i := 0)); exact rfl; exact rfl; exact fa78_0 _ _)
    | ((with_reducible apply Sy.ldN (t := 53)); exact rfl; exact rfl; exact hasT; (· first | exact ld_one ag53 rfl))
    | ((with_reducible apply Sy.fa (t := 78) (i := 1)); exact rfl; exact rfl; exact fa78_1 _ _)
    | ((with_reducible apply Sy.ldN (t := 76)); exact rfl; exact rfl; exact hasT; (· first | exact ld_one ag76 rfl))
    | ((with_reducible apply Sy.lenS); exact rfl; exact Try.underlying76; exact rfl)
    | ((with_reducible apply Sy.conv (D := 0) (T := .bool)); exact rfl; exact Try.underlying3; exact Try.underlying53; exact rfl; exact (wrap_u64x (by omega)))
    | ((with_reducible apply Sy.conv (D := 0) (T := .bool)); exact rfl; exact Try.underlying3; exact Try.underlying53; exact rfl; exact wrap_u64 _)
    | ((with_reducible apply Sy.ldN (t := 59)); exact rfl; exact rfl; exact hasT; (· first | exact ld_all ag59 (by first | exact sz59 | (simp [sz59, *]; done)) | exact ld_agg ag59 sz59 (by first | (simp; done) | (simp; omega)) (by first | with_reducible exact cut_kids | rfl | (simp [List.drop_append, List.take_append, List.getElem?_append, lay, hC_length, ints_length, ints_drop, ints_take, ints_append, List.drop_of_length_le, List.take_of_length_le, List.map_append, List.set_append, Value.cells]; done))))
    | ((with_reducible apply Sy.newY (o := ⟨some 2, .box 78 _, _, _, _, _⟩)); exact rfl; exact rfl; exact nbA rfl; intro q2)
    | ((with_reducible apply Sy.newY (o := ⟨some 13, .buildSlice 156 _ _, _, _, _, _⟩)); exact rfl; exact rfl; exact (nbsI [_, _] Try.underlying156 sz53 zr53 rfl (by decide) rfl rfl); intro q13)
    | ((with_reducible apply Sy.newY (o := ⟨some 13, .buildSlice 156 _ _, _, _, _, _⟩)); exact rfl; exact rfl; exact (nbs2 Try.underlying156 sz53 zr53 rfl (by decide) rfl rfl rfl); intro q13)
    | ((with_reducible apply Sy.newY (o := ⟨some 13, .buildSlice 156 _ _, _, _, _, _⟩)); exact rfl; exact rfl; (· exact (newY_bs Try.underlying156 sz53 zr53 rfl (by decide) rfl (by first | rfl | (simp [List.drop_append, List.take_append, List.getElem?_append, lay, hC_length, ints_length, ints_drop, ints_take, ints_append, List.drop_of_length_le, List.take_of_length_le, List.map_append, List.set_append, Value.cells]; done)))); intro q13)
    | (with_reducible refine Sy.block ?_))
  have e0 : u64s [ep, es.length] = batTo ep (tsOf es) 0 := by rw [batTo_0, hlen]
  rw [List.nil_append, e0] at ht1 hl1 ⊢
  refine Sy.loop (ι := Nat × Nat) (fun i => es.length - i.1) (fun i => [(1, .pointer (some ⟨p, 0, none⟩)), (16, .slice a1 es.length c1), (17, .int .i64 ((es.length : Nat) : Int)), (18, .int .i64 (i.1 : Nat))]) (fun i => wrP p i.2 (batTo ep (tsOf es) i.1)) (fun i => bufM (batTo ep (tsOf es) i.1) i.2) (fun i => i.1 ≤ es.length ∧ (∀ x ∈ batTo ep (tsOf es) i.1, x < 256) ∧ (batTo ep (tsOf es) i.1).length ≤ 65536) (0, q1) ⟨Nat.zero_le _, ht1, hl1⟩ ⟨rfl, rfl, rfl, rfl, trivial⟩ (fun H h => h.less (List.sublist_append_left _ _)) ?_
  rintro ⟨i, q2⟩ ⟨hi, ht, hl⟩
  dsimp only at hi ht hl ⊢
  by_cases hlt : i < es.length
  · obtain ⟨x, hs⟩ : ∃ x, es[i]? = some x := ⟨es[i], List.getElem?_eq_getElem hlt⟩
    rcases h1 with rfl | ⟨b1, w1, rfl, hb1⟩
    · simp at hlt
    obtain ⟨ho, hsv, hsl⟩ := hss x (List.mem_of_getElem? hs)
    have hk : (tsOf es)[i]? = some x.1 := by rw [List.getElem?_map, hs]; rfl
    have hrx := rightTB_k (List.all_eq_true.1 hall x.1 (List.mem_of_getElem? hk))
    have hbl := batTo_len (ep := ep) hall i
    have hpb : ¬ p = b1 := fun e => by
      subst e
      rw [hp0] at hb1
      injection hb1 with e1 _ _
      have := congrArg List.length e1
      rw [tsC_length] at this
      simp at this
      omega
    have hst := batTo_step (ep := ep) hk
    obtain ⟨m, sv⟩ := x
    dsimp only at ho hsv hsl hk hrx hst
    obtain ⟨sa, sc, rfl⟩ := slr_form hsv
    obtain ⟨L, hLe⟩ : ∃ x, batTo ep (tsOf es) i = x := ⟨_, rfl⟩
    rw [hLe] at ht hl hbl hst ⊢
    repeat' (first
    | (with_reducible refine Sy.seq ?_)
    | (with_reducible refine Sy.regionL ?_)
    | (with_reducible refine Sy.opsnil ?_)
    | (with_reducible refine Sy.go ?_)
    | (with_reducible refine Sy.nrm ?_)
    | ((with_reducible refine Sy.ld0 (t := 59) rfl rfl hb1 rfl (by simp only [List.forall_mem_cons, List.not_mem_nil, false_implies, implies_true, and_true, ne_eq]; first | done | omega | (repeat (first | with_reducible assumption | (refine And.intro ?_ ?_)))) (ts_all ag59 sz59 hs (by omega)) ?_))
    | ((with_reducible refine Sy.ldN (t := 59) rfl rfl (by repeat (first | exact Has.here | apply Has.there | apply Has.app)) ld_tall ?_))
    | ((with_reducible apply Sy.callWo (k := 94) (pw := p) (q := q2) (l := L)); exact rfl; exact rfl; exact en94; exact rfl; exact pullT; (intro H' hp; exact k_tput p q2 L m _ H' (wrP_at hp (pullT (A := bufM L q2)).perm ht hl) ho hrx.1 (slr_keep hsv hp hp0) (away_rd hsv hp0 (fun hx => (hp.new_lt (by repeat (first | exact bufM_has' hx | apply Has.there))).1)) (by omega)); rintro q3 ht3 hl3)
    | ((with_reducible apply Sy.move); exact rfl; exact rfl)
    | ((with_reducible apply Sy.bin (op := .lss) (t := 3)); exact rfl; exact rfl; exact rfl; exact b_lss)
    | ((with_reducible apply Sy.bin (op := .lss) (t := 3)); exact rfl; exact rfl; exact rfl; exact bz_lss)
    | ((with_reducible apply Sy.ia (t := 76)); exact rfl; exact rfl; exact rfl; exact (ia_sl Try.underlying76 sz59 (by omega)))
    | ((with_reducible apply Sy.stNa (t := 59)); exact rfl; exact rfl; exact sz59; (· first | (simp; done)); (· first | (simp [oneL_append, oneL_cons, oneL_nil, hC_one, oneL_ints]; done)); exact turnT; (· first | (simp; done)); (· first | exact lay_all (by first | (simp; done))))
    | ((with_reducible apply Sy.bin (op := .add) (t := 3)); exact rfl; exact rfl; exact rfl; exact (b_add (by omega)))
    | ((with_reducible apply Sy.bin (op := .add) (t := 3)); exact rfl; exact rfl; exact rfl; exact (bz_add (by omega) (by omega)))
    | ((with_reducible apply Sy.newY (o := ⟨some 5, .alloc 59, _, _, _, _⟩)); exact rfl; exact rfl; exact nwz59; intro q5)
    | (with_reducible refine Sy.skip ?_)
    | (with_reducible refine Sy.block ?_)
    | (with_reducible refine Sy.inrm ?_)
    | ((with_reducible apply Sy.ite); (case hx => exact rfl); all_goals (intro hc; try (exfalso; omega))))
    refine Sy.rnrm (i + 1, q3) ⟨by omega, by dsimp only; rw [hst]; exact ht3, by dsimp only; rw [hst]; exact hl3⟩ (by dsimp only; omega) ⟨rfl, rfl, rfl, rfl, trivial⟩ (fun H1 h => ?_)
    dsimp only
    rw [hst]
    exact h.less (List.sublist_append_left _ _)
  · obtain rfl : i = es.length := by omega
    repeat' (first
    | (with_reducible refine Sy.seq ?_)
    | (with_reducible refine Sy.regionL ?_)
    | (with_reducible refine Sy.opsnil ?_)
    | (with_reducible refine Sy.go ?_)
    | (with_reducible refine Sy.nrm ?_)
    | ((with_reducible apply Sy.bin (op := .lss) (t := 3)); exact rfl; exact rfl; exact rfl; exact b_lss)
    | ((with_reducible apply Sy.bin (op := .lss) (t := 3)); exact rfl; exact rfl; exact rfl; exact bz_lss)
    | (with_reducible refine Sy.exit ?_)
    | (with_reducible refine Sy.aex ?_)
    | ((with_reducible apply Sy.iex); exact rfl)
    | (with_reducible refine Sy.rex ?_)
    | ((with_reducible apply Sy.ite); (case hx => exact rfl); all_goals (intro hc; try (exfalso; omega))))
    refine .fin [] (.inl rfl) trivial fun H' hp => ⟨(), rfl, ?_⟩
    show WrOut H H' p q [] (batTo ep (tsOf es) (tsOf es).length)
    rw [hlen]
    exact wrP_out hp (M1 := []) (by rw [List.append_nil]) ht hl
end Go.Proofs.Ytcaafoibabijgaa

/- Layer 09: the bytes of a batch. -/
namespace Go.Proofs.Ytcaafoibabijgaa
open Go Go.Am
set_option maxRecDepth 100000
set_option linter.unusedVariables false

theorem mf103 : mfun Try.prog 78 "bascule/message.right" = some 103 := by kernel_rfl
theorem mf102 : mfun Try.prog 78 "bascule/message.put" = some 102 := by kernel_rfl
def putB (ep : Nat) (ts : List Txn) : List Nat × Nat := if rightBB ts = true then (batB ep ts, 0) else ([], 1)
set_option maxHeartbeats 1000000 in
theorem k_bytesB (ep : Nat) (es : List Tel) (v : Value) (P : List Nat × Nat) (H : AHeap) (hP : putB ep (tsOf es) = P) (h1 : TxsAt 59 H v es) (hn : es.length ≤ 4398046511104) (hep : ep < 18446744073709551616) :
    CallR Try.prog noPrims 39 [.iface 78 (.agg ⟨baC ep v⟩)] H (fun u H' => ∃ i : Nat × Option Addr × Nat, Vw i.1 P.1 (.slice i.2.1 P.1.length i.2.2) P.1 ∧ u = .tuple ⟨[.slice i.2.1 P.1.length i.2.2, .int .i64 ((P.2 : Nat) : Int)]⟩ ∧ Hp H 0 0 H' [] (bufM P.1 i.1)) := by
  refine CallR.sy (n := 14) Try.func39 rfl rfl rfl ?_
  repeat' (first
    | (with_reducible refine Sy.seq ?_)
    | (with_reducible refine Sy.regionL ?_)
    | (with_reducible refine Sy.opsnil ?_)
    | (with_reducible refine Sy.go ?_)
    | (with_reducible refine Sy.nrm ?_)
    | ((with_reducible apply Sy.assign); exact rfl; exact rfl)
    | ((with_reducible apply Sy.move); exact rfl; exact rfl)
    | ((with_reducible apply Sy.un (op := .not)); exact rfl; exact rfl; exact un_notT)
    | ((with_reducible apply Sy.un (op := .not)); exact rfl; exact rfl; exact un_notF)
    | ((with_reducible apply Sy.un (op := .not)); exact rfl; exact rfl; exact un_notD)
    | ((with_reducible apply Sy.un (op := .not)); exact rfl; exact rfl; exact un_not)
    | ((with_reducible apply Sy.inv0 (k := 103)); exact rfl; exact rfl; exact mf103; exact en103; exact rfl; (intro H' hp; exact c_bright ep es v H' (h1.of hp) hn))
    | ((with_reducible apply Sy.callN (k := 50)); exact rfl; exact rfl; exact en50; exact rfl; (intro H' hp; exact k_NewWriter H'); rintro p -)
    | (with_reducible refine Sy.skip ?_)
    | (with_reducible refine Sy.ret ?_)
    | (with_reducible refine Sy.aret ?_)
    | ((with_reducible apply Sy.iteB); (case hx => exact rfl); all_goals intro hc))
  · have e : putB ep (tsOf es) = ([], 1) := by rw [putB, if_neg (by simp_all)]
    rw [← hP, e]
    exact .fin [_, _] (.inr rfl) ⟨rfl, rfl, trivial⟩ fun H' hp => ⟨(0, none, 0), .inl ⟨rfl, rfl⟩, rfl, hp⟩
  · have hr : rightBB (tsOf es) = true := by simp_all
    have e : P = (batB ep (tsOf es), 0) := by rw [← hP, putB, if_pos hr]
    rw [e]
    clear e hP
    dsimp only
    repeat' (first
    | (with_reducible refine Sy.seq ?_)
    | (with_reducible refine Sy.regionL ?_)
    | (with_reducible refine Sy.opsnil ?_)
    | (with_reducible refine Sy.go ?_)
    | (with_reducible refine Sy.nrm ?_)
    | ((with_reducible apply Sy.move); exact rfl; exact rfl)
    | ((with_reducible apply Sy.invH (k := 102)); exact rfl; exact rfl; exact mf102; exact en102; exact rfl; (intro H' hp; exact k_bput p 0 ep es v H' (WrAt.new hp .here) (h1.of hp) hr hep); rintro ⟨⟩ H1 H2 hp hJ))
    obtain ⟨q, hw2, _, _⟩ := id hJ
    generalize batB ep (tsOf es) = L at hJ hw2 ⊢
    repeat' (first
    | (with_reducible refine Sy.opsnil ?_)
    | (with_reducible refine Sy.go ?_)
    | (with_reducible refine Sy.nrm ?_)
    | ((with_reducible apply Sy.assign); exact rfl; exact rfl)
    | ((with_reducible apply Sy.callN (k := 51)); exact rfl; exact rfl; exact en51; exact rfl; (intro H' hp; exact k_wrBytes p q L H' (hw2.of hp)); rintro ⟨c, v'⟩ hv')
    | (with_reducible refine Sy.ret ?_))
    dsimp only at hv' ⊢
    obtain ⟨sa, sc, rfl⟩ := hv'.slice
    exact .fin [_, _] (.inr rfl) ⟨rfl, rfl, trivial⟩ fun H' hp2 => ⟨(c, sa, sc), hv', rfl, by
      have := (WrOut.hp0 hp .here hJ).then0 (hp2.less (List.sublist_append_left _ _)); rwa [List.append_nil] at this⟩
theorem k_PutBatch (ep : Nat) (es : List Tel) (v : Value) (P : List Nat × Nat) (H : AHeap) (hP : putB ep (tsOf es) = P) (h1 : TxsAt 59 H v es) (hn : es.length ≤ 4398046511104) (hep : ep < 18446744073709551616) :
    CallR Try.prog noPrims 25 [.agg ⟨baC ep v⟩] H (fun u H' => ∃ i : Nat × Option Addr × Nat, Vw i.1 P.1 (.slice i.2.1 P.1.length i.2.2) P.1 ∧ u = .tuple ⟨[.slice i.2.1 P.1.length i.2.2, .int .i64 ((P.2 : Nat) : Int)]⟩ ∧ Hp H 0 0 H' [] (bufM P.1 i.1)) := by
  have h1' := h1
  obtain ⟨⟨a1, c1, rfl, -⟩, -⟩ := h1
  refine CallR.sy (n := 9) Try.func25 rfl rfl rfl ?_
  repeat' (first
    | (with_reducible refine Sy.seq ?_)
    | (with_reducible refine Sy.regionL ?_)
    | (with_reducible refine Sy.opsnil ?_)
    | (with_reducible refine Sy.go ?_)
    | (with_reducible refine Sy.nrm ?_)
    | ((with_reducible apply Sy.assign); exact rfl; exact rfl)
    | ((with_reducible apply Sy.ldN (t := 78)); exact rfl; exact rfl; exact hasT; (· first | exact ld_all ag78 (by first | exact sz78)))
    | ((with_reducible apply Sy.iface); exact rfl; exact rfl; exact if78)
    | ((with_reducible apply Sy.ext); exact rfl; exact rfl; exact rfl)
    | ((with_reducible apply Sy.callN (k := 39)); exact rfl; exact rfl; exact en39; exact rfl; (intro H' hp; exact k_bytesB ep es _ P H' hP (h1'.of hp) hn hep); rintro ⟨c, a, k⟩ h3)
    | ((with_reducible apply Sy.newY (o := ⟨some 1, .box 78 _, _, _, _, _⟩)); exact rfl; exact rfl; exact nbA rfl; intro q1)
    | (with_reducible refine Sy.ret ?_))
  dsimp only at h3 ⊢
  exact .fin [_, _] (.inr rfl) ⟨rfl, rfl, trivial⟩ fun H' hp => ⟨(c, a, k), h3, rfl, hp.less (List.sublist_append_left _ _)⟩
end Go.Proofs.Ytcaafoibabijgaa

/- Layer 09: the reference's batches. -/
namespace Go.Proofs.Ytcaafoibabijgaa
open Go Go.Am
set_option maxRecDepth 100000
set_option linter.unusedVariables false

end Go.Proofs.Ytcaafoibabijgaa
