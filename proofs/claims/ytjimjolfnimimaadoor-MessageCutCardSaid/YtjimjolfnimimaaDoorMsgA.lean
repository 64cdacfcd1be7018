/- Messages as bytes and back. -/
import Derived.Test.YtjimjolfnimimaaDoorWalkA
import Derived.Test.YtjimjolfnimimaaDoorCodecB
set_option linter.unusedSimpArgs false
set_option linter.unusedVariables false
/- Equal things are equal, without a split. -/
namespace Go.Proofs.YtjimjolfnimimaaDoor
open Go Go.Am
theorem eqNS {n : Nat} : binV Tryd.prog .eql 3 (.int .i64 ((n : Nat) : Int)) (.int .i64 ((n : Nat) : Int)) = some (.bool true) := by rw [b_eql, decide_eq_true rfl]
theorem eqBS {b : Bool} : binV Tryd.prog .eql 4 (.bool b) (.bool b) = some (.bool true) := by rw [bb_eq kd4]; cases b <;> rfl
end Go.Proofs.YtjimjolfnimimaaDoor

/- Layer 09: messages as values. -/
namespace Go.Proofs.YtjimjolfnimimaaDoor
open Go Go.Am
set_option maxRecDepth 100000
set_option linter.unusedVariables false

structure Msg where
  n : Nat
  s : Nat
  t : Nat
  w : Wd
  g : Nat
  d : List Nat
structure Msg.ok (m : Msg) : Prop where
  n : m.n < 18446744073709551616
  s : m.s < 18446744073709551616
  t : m.t < 18446744073709551616
  g : m.g < 18446744073709551616
  d : ∀ x ∈ m.d, x < 256
def msgC (m : Msg) (v : Value) : List Value := .int .u64 ((m.n : Nat) : Int) :: .int .u64 ((m.s : Nat) : Int) :: .int .u64 ((m.t : Nat) : Int) :: (wC m.w ++ [.int .u64 ((m.g : Nat) : Int), v])
abbrev msgV (m : Msg) (v : Value) : Value := .agg ⟨msgC m v⟩
@[simp] theorem msgC_length (m : Msg) (v : Value) : (msgC m v).length = 9 := by simp [msgC]
theorem msgC_g (m : Msg) (v : Value) : (msgC m v)[7]? = some (.int .u64 ((m.g : Nat) : Int)) := by simp [msgC, List.getElem?_append]
theorem msgC_d (m : Msg) (v : Value) : (msgC m v)[8]? = some v := by simp [msgC, List.getElem?_append]
theorem oneI {k : IntKind} {z : Int} : (Value.int k z).oneCell' = true := rfl
theorem msgC_one (m : Msg) (v : Value) (h : v.oneCell' = true) : oneL (msgC m v) = true := by simp only [msgC, oneL_cons, oneL_append, wC_one, oneL_nil, oneI, h]; rfl
@[simp] theorem msgC_oneS (m : Msg) (a : Option Addr) (k c : Nat) : oneL (msgC m (.slice a k c)) = true := msgC_one m _ rfl
section
variable {m : Msg} {v : Value} {T : TypeId} {b : Bool}
theorem ld_mall : aLoad Tryd.prog 30 (.cells (msgC m v) T b) 0 = some (msgV m v) := load_all ag30 sz30 (by simp)
theorem ld_rmall : aLoad Tryd.prog 27 (.cells (msgC m v) T b) 0 = some (msgV m v) := load_all ag27 sz27 (by simp)
end
theorem MsgN.cut_kids {m : Msg} {v : Value} : (List.drop (0 + 3) (msgC m v)).take 4 = wC m.w := by
  show (wC m.w ++ [.int .u64 ((m.g : Nat) : Int), v]).take 4 = _
  rw [← wC_length m.w, List.take_left]
theorem fill_msg (m : Msg) (v : Value) (hv : v.cells.toList = [v]) : fillL (plc [(0, 1), (1, 1), (2, 1), (3, 4), (7, 1), (8, 1)]) ([.int .u64 ((0 : Nat) : Int), .int .u64 ((0 : Nat) : Int), .int .u64 ((0 : Nat) : Int)] ++ (ints .u64 (List.replicate 4 0) ++ ([.int .u64 ((0 : Nat) : Int), .slice none 0 0])))
    [(0, .int .u64 ((m.n : Nat) : Int)), (1, .int .u64 ((m.s : Nat) : Int)), (2, .int .u64 ((m.t : Nat) : Int)), (3, wV m.w), (4, .int .u64 ((m.g : Nat) : Int)), (5, v)] = some (msgC m v) := by
  obtain ⟨n, s, t, ⟨l, hl, hlt⟩, g, d⟩ := m
  match l, hl, hlt with
  | [x1, x2, x3, x4], hl, hlt => 
    have e1 : ∀ z : Int, (Value.int .u64 z).cells.toList = [.int .u64 z] := fun _ => rfl
    have e2 : (wV ⟨[x1, x2, x3, x4], hl, hlt⟩).cells.toList = wC ⟨[x1, x2, x3, x4], hl, hlt⟩ := rfl
    simp [fillL, plc, lay, hv, e1, e2, msgC, wC, ints]
theorem bvMsg {m : Msg} {v : Value} (hv : v.cells.toList = [v]) : buildV Tryd.prog 30 [(0, .int .u64 ((m.n : Nat) : Int)), (1, .int .u64 ((m.s : Nat) : Int)), (2, .int .u64 ((m.t : Nat) : Int)), (3, wV m.w), (4, .int .u64 ((m.g : Nat) : Int)), (5, v)] = some (msgV m v) := bv30 (fill_msg m v hv)
theorem bvRMsg {m : Msg} {v : Value} (hv : v.cells.toList = [v]) : buildV Tryd.prog 27 [(0, .int .u64 ((m.n : Nat) : Int)), (1, .int .u64 ((m.s : Nat) : Int)), (2, .int .u64 ((m.t : Nat) : Int)), (3, wV m.w), (4, .int .u64 ((m.g : Nat) : Int)), (5, v)] = some (msgV m v) := bv27 (fill_msg m v hv)
def zeroM : Msg := ⟨0, 0, 0, zeroW, 0, []⟩
theorem bvMsg0 : buildV Tryd.prog 30 [] = some (msgV zeroM (.slice none 0 0)) := bv30 rfl
def rightMB (m : Msg) : Bool := decide (m.g ≤ 65536) && decide (m.d.length ≤ 64)

theorem c_right (m : Msg) (a : Option Addr) (c : Nat) (H : AHeap) (hg : m.g < 18446744073709551616) (hl : m.d.length < 9223372036854775808) : CallR Tryd.prog noPrims 52 [msgV m (.slice a m.d.length c)] H (fun u H' => u = .bool (rightMB m) ∧ Hp H 0 0 H' [] []) := by
  have hmg := msgC_g m (.slice a m.d.length c)
  have hmd := msgC_d m (.slice a m.d.length c)
  refine CallR.sy (n := 12) Tryd.func52 rfl rfl rfl ?_
  repeat' (first
    | (with_reducible refine Sy.seq ?_)
    | (with_reducible refine Sy.regionL ?_)
    | (with_reducible refine Sy.opsnil ?_)
    | (with_reducible refine Sy.go ?_)
    | (with_reducible refine Sy.nrm ?_)
    | ((with_reducible apply Sy.assign); exact rfl; exact rfl)
    | ((with_reducible apply Sy.fa (t := 30) (i := 4)); exact rfl; exact rfl; exact fa30_4 _ _)
    | ((with_reducible apply Sy.ldN (t := 22)); exact rfl; exact rfl; exact hasT; (· first | exact ld_one ag22 (by with_reducible assumption)))
    | ((with_reducible apply Sy.bin (op := .leq) (t := 22)); exact rfl; exact rfl; exact rfl; exact b_leq)
    | ((with_reducible apply Sy.bin (op := .leq) (t := 22)); exact rfl; exact rfl; exact rfl; exact bz_leq)
    | ((with_reducible apply Sy.move); exact rfl; exact rfl)
    | ((with_reducible apply Sy.fa (t := 30) (i := 5)); exact rfl; exact rfl; exact fa30_5 _ _)
    | ((with_reducible apply Sy.ldN (t := 25)); exact rfl; exact rfl; exact hasT; (· first | exact ld_one ag25 (by with_reducible assumption)))
    | ((with_reducible apply Sy.lenS); exact rfl; exact Tryd.underlying25; exact rfl)
    | ((with_reducible apply Sy.bin (op := .leq) (t := 3)); exact rfl; exact rfl; exact rfl; exact b_leq)
    | ((with_reducible apply Sy.bin (op := .leq) (t := 3)); exact rfl; exact rfl; exact rfl; exact bz_leq)
    | ((with_reducible apply Sy.pickT); exact rfl; exact rfl; exact rfl)
    | ((with_reducible apply Sy.pickF); exact rfl; exact rfl; exact rfl)
    | ((with_reducible apply Sy.newY (o := ⟨some 1, .box 30 _, _, _, _, _⟩)); exact rfl; exact rfl; exact nbA rfl; intro q1)
    | (with_reducible refine Sy.ret ?_)
    | ((with_reducible apply Sy.goG); exact rfl; exact rfl; exact rfl)
    | ((with_reducible apply Sy.noG); exact rfl; exact rfl; exact rfl; exact rfl; exact rfl)
    | ((with_reducible apply Sy.caseG); (case hj => exact rfl); (case hx => exact rfl); all_goals (intro hc; try (exfalso; omega))))
  all_goals exact .fin [_] (.inr rfl) ⟨rfl, trivial⟩ fun H' hp => ⟨by show tupV [_] = _; simp only [tupV]; simp_all [rightMB] <;> omega, hp.less (List.nil_sublist _)⟩
end Go.Proofs.YtjimjolfnimimaaDoor

/- Layer 09: Message.put. -/
namespace Go.Proofs.YtjimjolfnimimaaDoor
open Go Go.Am
set_option maxRecDepth 100000
set_option linter.unusedVariables false

def msgB (m : Msg) : List Nat := u64s [m.n, m.s, m.t] ++ (be256 m.w ++ (be64 m.g ++ blobN m.d))
theorem msgB_length (m : Msg) : (msgB m).length = 72 + m.d.length := by simp [msgB, u64s_length, blobN_length]; omega
open MsgN in
set_option maxHeartbeats 2000000 in
theorem k_mput (p q : Nat) (l : List Nat) (m : Msg) (v : Value) (H : AHeap) (hw : WrAt H p l q) (ho : m.ok) (hv : SlR H 1 v m.d.length (ints .u8 m.d)) (ha : Away v (WrM p q l)) (hlen : l.length + 72 + m.d.length ≤ 65536) :
    CallR Tryd.prog noPrims 156 [msgV m v, .pointer (some ⟨p, 0, none⟩)] H (fun u H' => ∃ i : Unit, u = .tuple ⟨[]⟩ ∧ WrOut H H' p q l (l ++ msgB m)) := by
  obtain ⟨va, vc, rfl⟩ := slr_form hv
  have hmg := msgC_g m (.slice va m.d.length vc)
  have hmd := msgC_d m (.slice va m.d.length vc)
  have hn := ho.n; have hs := ho.s; have ht := ho.t; have hg := ho.g
  have u1 : (u64s [m.n, m.s, m.t]).length = 24 := by simp [u64s_length]
  have u2 : (u64s [m.g]).length = 8 := by simp [u64s_length]
  have u3 : (be256 m.w).length = 32 := by simp
  have u4 : (blobN m.d).length = 8 + m.d.length := blobN_length _
  refine CallR.sy (n := 28) Tryd.func156 rfl rfl rfl ?_
  repeat' (first
    | (with_reducible refine Sy.seq ?_)
    | (with_reducible refine Sy.regionL ?_)
    | (with_reducible refine Sy.opsnil ?_)
    | (with_reducible refine Sy.go ?_)
    | (with_reducible refine Sy.nrm ?_)
    | ((with_reducible apply Sy.move); exact rfl; exact rfl)
    | ((with_reducible apply Sy.fa (t := 30) (i := 0)); exact rfl; exact rfl; exact fa30_0 _ _)
    | ((with_reducible apply Sy.ldN (t := 22)); exact rfl; exact rfl; exact hasT; (· first | exact ld_one ag22 rfl))
    | ((with_reducible apply Sy.fa (t := 30) (i := 1)); exact rfl; exact rfl; exact fa30_1 _ _)
    | ((with_reducible apply Sy.fa (t := 30) (i := 2)); exact rfl; exact rfl; exact fa30_2 _ _)
    | ((with_reducible apply Sy.fa (t := 30) (i := 3)); exact rfl; exact rfl; exact fa30_3 _ _)
    | ((with_reducible apply Sy.ldN (t := 24)); exact rfl; exact rfl; exact hasT; (· first | exact ld_all ag24 (by first | exact sz24 | (simp [sz24, *]; done)) | exact ld_agg ag24 sz24 (by first | (simp; done) | (simp; omega)) (by first | with_reducible exact cut_kids | rfl | (simp [List.drop_append, List.take_append, List.getElem?_append, lay, hC_length, ints_length, ints_drop, ints_take, ints_append, List.drop_of_length_le, List.take_of_length_le, List.map_append, List.set_append, Value.cells]; done))))
    | ((with_reducible apply Sy.fa (t := 30) (i := 4)); exact rfl; exact rfl; exact fa30_4 _ _)
    | ((with_reducible apply Sy.fa (t := 30) (i := 5)); exact rfl; exact rfl; exact fa30_5 _ _)
    | ((with_reducible apply Sy.ldN (t := 25)); exact rfl; exact rfl; exact hasT; (· first | exact ld_one ag25 rfl))
    | ((with_reducible apply Sy.callH (k := 54)); exact rfl; exact rfl; exact en54; exact rfl; (intro H' hp; exact k_wUint p q l [m.n, m.s, m.t] _ H' (hw.of hp) ⟨_, _, _, true, rfl, hp.getN hasT⟩ (by simp; omega) (by simp)); rintro ⟨⟩ H1 H2 hp hJ)
    | ((with_reducible apply Sy.newY (o := ⟨some 2, .box 30 _, _, _, _, _⟩)); exact rfl; exact rfl; exact nbA rfl; intro q2)
    | ((with_reducible apply Sy.newY (o := ⟨some 11, .buildSlice 162 _ _, _, _, _, _⟩)); exact rfl; exact rfl; exact (nbsI [_, _, _] Tryd.underlying162 sz22 zr22 rfl (by decide) rfl rfl); intro q11)
    | ((with_reducible apply Sy.newY (o := ⟨some 11, .buildSlice 162 _ _, _, _, _, _⟩)); exact rfl; exact rfl; exact (nbs3 Tryd.underlying162 sz22 zr22 rfl (by decide) rfl rfl rfl rfl); intro q11)
    | ((with_reducible apply Sy.newY (o := ⟨some 11, .buildSlice 162 _ _, _, _, _, _⟩)); exact rfl; exact rfl; (· exact (newY_bs Tryd.underlying162 sz22 zr22 rfl (by decide) rfl (by first | rfl | (simp [List.drop_append, List.take_append, List.getElem?_append, lay, hC_length, ints_length, ints_drop, ints_take, ints_append, List.drop_of_length_le, List.take_of_length_le, List.map_append, List.set_append, Value.cells]; done)))); intro q11)
    | ((with_reducible apply Sy.newY (o := ⟨some 16, .buildSlice 164 _ _, _, _, _, _⟩)); exact rfl; exact rfl; (· exact (nba1 Tryd.underlying164 sz24 zr24 rfl (by decide) rfl (by first | exact hC_length _ | exact rfl | (simp; done)))); intro q16)
    | ((with_reducible apply Sy.newY (o := ⟨some 16, .buildSlice 164 _ _, _, _, _, _⟩)); exact rfl; exact rfl; (· exact (newY_bs Tryd.underlying164 sz24 zr24 rfl (by decide) rfl (by first | rfl | (simp [List.drop_append, List.take_append, List.getElem?_append, lay, hC_length, ints_length, ints_drop, ints_take, ints_append, List.drop_of_length_le, List.take_of_length_le, List.map_append, List.set_append, Value.cells]; done)))); intro q16)
    | ((with_reducible apply Sy.newY (o := ⟨some 21, .buildSlice 162 _ _, _, _, _, _⟩)); exact rfl; exact rfl; exact (nbsI [_] Tryd.underlying162 sz22 zr22 rfl (by decide) rfl rfl); intro q21)
    | ((with_reducible apply Sy.newY (o := ⟨some 21, .buildSlice 162 _ _, _, _, _, _⟩)); exact rfl; exact rfl; exact (nbs1 Tryd.underlying162 sz22 zr22 rfl (by decide) rfl rfl); intro q21)
    | ((with_reducible apply Sy.newY (o := ⟨some 21, .buildSlice 162 _ _, _, _, _, _⟩)); exact rfl; exact rfl; (· exact (newY_bs Tryd.underlying162 sz22 zr22 rfl (by decide) rfl (by first | rfl | (simp [List.drop_append, List.take_append, List.getElem?_append, lay, hC_length, ints_length, ints_drop, ints_take, ints_append, List.drop_of_length_le, List.take_of_length_le, List.map_append, List.set_append, Value.cells]; done)))); intro q21)
    | ((with_reducible apply Sy.newY (o := ⟨some 26, .buildSlice 113 _ _, _, _, _, _⟩)); exact rfl; exact rfl; exact (nbs1 Tryd.underlying113 sz25 zr25 rfl (by decide) rfl rfl); intro q26)
    | ((with_reducible apply Sy.newY (o := ⟨some 26, .buildSlice 113 _ _, _, _, _, _⟩)); exact rfl; exact rfl; (· exact (newY_bs Tryd.underlying113 sz25 zr25 rfl (by decide) rfl (by first | rfl | (simp [List.drop_append, List.take_append, List.getElem?_append, lay, hC_length, ints_length, ints_drop, ints_take, ints_append, List.drop_of_length_le, List.take_of_length_le, List.map_append, List.set_append, Value.cells]; done)))); intro q26))
  rw [wrA_ok (by omega)] at hJ
  dsimp only at hJ
  have hm1 := hp.getN (h := q2) (o := .cells (msgC m _) 30 true) hasT
  have ha1 := new_away hp (b := q2) (o := .cells (msgC m _) 30 true) hasT hw
  obtain ⟨q', s1⟩ := (Ses.start (hw.of hp)).step (Hp.refl H1) hJ
  have hm2 := s1.get hm1 rfl ha1
  have hv1 := hv.of hp
  clear hJ
  repeat' (first
    | (with_reducible refine Sy.seq ?_)
    | (with_reducible refine Sy.regionL ?_)
    | (with_reducible refine Sy.opsnil ?_)
    | (with_reducible refine Sy.go ?_)
    | (with_reducible refine Sy.nrm ?_)
    | ((with_reducible apply Sy.move); exact rfl; exact rfl)
    | ((with_reducible apply Sy.fa (t := 30) (i := 0)); exact rfl; exact rfl; exact fa30_0 _ _)
    | ((with_reducible apply Sy.ld0 (t := 22)); exact rfl; exact rfl; (· with_reducible assumption); exact rfl; exact notM; (· first | ((with_reducible refine ld_hash ag22 ?_); omega) | ((with_reducible refine ld_int ag22 ?_); first | omega | (simp; done) | (simp; omega)) | exact ld_one ag22 rfl | with_reducible assumption | exact ld_one ag22 (by with_reducible assumption) | exact ld_one ag22 (by simp [List.drop_append, List.take_append, List.getElem?_append, lay, hC_length, ints_length, ints_drop, ints_take, ints_append, List.drop_of_length_le, List.take_of_length_le, List.map_append, List.set_append, Value.cells]; done)))
    | ((with_reducible apply Sy.fa (t := 30) (i := 1)); exact rfl; exact rfl; exact fa30_1 _ _)
    | ((with_reducible apply Sy.fa (t := 30) (i := 2)); exact rfl; exact rfl; exact fa30_2 _ _)
    | ((with_reducible apply Sy.fa (t := 30) (i := 3)); exact rfl; exact rfl; exact fa30_3 _ _)
    | ((with_reducible apply Sy.ld0 (t := 24)); exact rfl; exact rfl; (· with_reducible assumption); exact rfl; exact notM; (· first | exact ld_agg ag24 sz24 (by first | (simp; done)) (by first | with_reducible exact cut_kids)))
    | ((with_reducible apply Sy.fa (t := 30) (i := 4)); exact rfl; exact rfl; exact fa30_4 _ _)
    | ((with_reducible apply Sy.fa (t := 30) (i := 5)); exact rfl; exact rfl; exact fa30_5 _ _)
    | ((with_reducible apply Sy.ld0 (t := 25)); exact rfl; exact rfl; (· with_reducible assumption); exact rfl; exact notM; (· first | exact ld_one ag25 rfl | with_reducible assumption | exact ld_one ag25 (by with_reducible assumption) | exact ld_one ag25 (by simp [List.drop_append, List.take_append, List.getElem?_append, lay, hC_length, ints_length, ints_drop, ints_take, ints_append, List.drop_of_length_le, List.take_of_length_le, List.map_append, List.set_append, Value.cells]; done)))
    | ((with_reducible apply Sy.callH (k := 55)); exact rfl; exact rfl; exact en55; exact rfl; (intro H' hp; exact k_wWide p q' _ 1 _ true _ m.w H' (s1.wr.of hp) (hp.getN hasT)); rintro ⟨⟩ H3 H4 hp2 hJ)
    | ((with_reducible apply Sy.newY (o := ⟨some 11, .buildSlice 162 _ _, _, _, _, _⟩)); exact rfl; exact rfl; exact (nbsI [_, _, _] Tryd.underlying162 sz22 zr22 rfl (by decide) rfl rfl); intro q11)
    | ((with_reducible apply Sy.newY (o := ⟨some 11, .buildSlice 162 _ _, _, _, _, _⟩)); exact rfl; exact rfl; exact (nbs3 Tryd.underlying162 sz22 zr22 rfl (by decide) rfl rfl rfl rfl); intro q11)
    | ((with_reducible apply Sy.newY (o := ⟨some 11, .buildSlice 162 _ _, _, _, _, _⟩)); exact rfl; exact rfl; (· exact (newY_bs Tryd.underlying162 sz22 zr22 rfl (by decide) rfl (by first | rfl | (simp [List.drop_append, List.take_append, List.getElem?_append, lay, hC_length, ints_length, ints_drop, ints_take, ints_append, List.drop_of_length_le, List.take_of_length_le, List.map_append, List.set_append, Value.cells]; done)))); intro q11)
    | ((with_reducible apply Sy.newY (o := ⟨some 16, .buildSlice 164 _ _, _, _, _, _⟩)); exact rfl; exact rfl; (· exact (nba1 Tryd.underlying164 sz24 zr24 rfl (by decide) rfl (by first | (simp; done)))); intro q16)
    | ((with_reducible apply Sy.newY (o := ⟨some 16, .buildSlice 164 _ _, _, _, _, _⟩)); exact rfl; exact rfl; (· exact (newY_bs Tryd.underlying164 sz24 zr24 rfl (by decide) rfl (by first | rfl | (simp [List.drop_append, List.take_append, List.getElem?_append, lay, hC_length, ints_length, ints_drop, ints_take, ints_append, List.drop_of_length_le, List.take_of_length_le, List.map_append, List.set_append, Value.cells]; done)))); intro q16)
    | ((with_reducible apply Sy.newY (o := ⟨some 21, .buildSlice 162 _ _, _, _, _, _⟩)); exact rfl; exact rfl; exact (nbsI [_] Tryd.underlying162 sz22 zr22 rfl (by decide) rfl rfl); intro q21)
    | ((with_reducible apply Sy.newY (o := ⟨some 21, .buildSlice 162 _ _, _, _, _, _⟩)); exact rfl; exact rfl; exact (nbs1 Tryd.underlying162 sz22 zr22 rfl (by decide) rfl rfl); intro q21)
    | ((with_reducible apply Sy.newY (o := ⟨some 21, .buildSlice 162 _ _, _, _, _, _⟩)); exact rfl; exact rfl; (· exact (newY_bs Tryd.underlying162 sz22 zr22 rfl (by decide) rfl (by first | rfl | (simp [List.drop_append, List.take_append, List.getElem?_append, lay, hC_length, ints_length, ints_drop, ints_take, ints_append, List.drop_of_length_le, List.take_of_length_le, List.map_append, List.set_append, Value.cells]; done)))); intro q21)
    | ((with_reducible apply Sy.newY (o := ⟨some 26, .buildSlice 113 _ _, _, _, _, _⟩)); exact rfl; exact rfl; exact (nbs1 Tryd.underlying113 sz25 zr25 rfl (by decide) rfl rfl); intro q26)
    | ((with_reducible apply Sy.newY (o := ⟨some 26, .buildSlice 113 _ _, _, _, _, _⟩)); exact rfl; exact rfl; (· exact (newY_bs Tryd.underlying113 sz25 zr25 rfl (by decide) rfl (by first | rfl | (simp [List.drop_append, List.take_append, List.getElem?_append, lay, hC_length, ints_length, ints_drop, ints_take, ints_append, List.drop_of_length_le, List.take_of_length_le, List.map_append, List.set_append, Value.cells]; done)))); intro q26))
  rw [wrA_ok (by rw [List.length_append]; omega)] at hJ
  dsimp only at hJ
  obtain ⟨q'', s2⟩ := s1.step hp2 hJ
  have hm3 := s2.get hm1 rfl ha1
  clear hJ hp2 hm2
  repeat' (first
    | (with_reducible refine Sy.regionL ?_)
    | (with_reducible refine Sy.opsnil ?_)
    | (with_reducible refine Sy.go ?_)
    | (with_reducible refine Sy.nrm ?_)
    | ((with_reducible apply Sy.move); exact rfl; exact rfl)
    | ((with_reducible apply Sy.fa (t := 30) (i := 0)); exact rfl; exact rfl; exact fa30_0 _ _)
    | ((with_reducible apply Sy.ld0 (t := 22)); exact rfl; exact rfl; (· with_reducible assumption); exact rfl; exact notM; (· first | exact ld_one ag22 (by with_reducible assumption)))
    | ((with_reducible apply Sy.fa (t := 30) (i := 1)); exact rfl; exact rfl; exact fa30_1 _ _)
    | ((with_reducible apply Sy.fa (t := 30) (i := 2)); exact rfl; exact rfl; exact fa30_2 _ _)
    | ((with_reducible apply Sy.fa (t := 30) (i := 3)); exact rfl; exact rfl; exact fa30_3 _ _)
    | ((with_reducible apply Sy.ld0 (t := 24)); exact rfl; exact rfl; (· with_reducible assumption); exact rfl; exact notM; (· first | exact ld_all ag24 (by first | exact sz24 | (simp [sz24, *]; done)) | exact ld_agg ag24 sz24 (by first | (simp; done) | (simp; omega)) (by first | with_reducible exact cut_kids | rfl | (simp [List.drop_append, List.take_append, List.getElem?_append, lay, hC_length, ints_length, ints_drop, ints_take, ints_append, List.drop_of_length_le, List.take_of_length_le, List.map_append, List.set_append, Value.cells]; done))))
    | ((with_reducible apply Sy.fa (t := 30) (i := 4)); exact rfl; exact rfl; exact fa30_4 _ _)
    | ((with_reducible apply Sy.fa (t := 30) (i := 5)); exact rfl; exact rfl; exact fa30_5 _ _)
    | ((with_reducible apply Sy.ld0 (t := 25)); exact rfl; exact rfl; (· with_reducible assumption); exact rfl; exact notM; (· first | exact ld_one ag25 (by with_reducible assumption)))
    | ((with_reducible apply Sy.callH (k := 54)); exact rfl; exact rfl; exact en54; exact rfl; (intro H' hp; exact k_wUint p q'' _ [m.g] _ H' (s2.wr.of hp) ⟨_, _, _, true, rfl, hp.getN hasT⟩ (by simp; omega) (by simp)); rintro ⟨⟩ H5 H6 hp2 hJ)
    | ((with_reducible apply Sy.newY (o := ⟨some 11, .buildSlice 162 _ _, _, _, _, _⟩)); exact rfl; exact rfl; exact (nbsI [_, _, _] Tryd.underlying162 sz22 zr22 rfl (by decide) rfl rfl); intro q11)
    | ((with_reducible apply Sy.newY (o := ⟨some 11, .buildSlice 162 _ _, _, _, _, _⟩)); exact rfl; exact rfl; exact (nbs3 Tryd.underlying162 sz22 zr22 rfl (by decide) rfl rfl rfl rfl); intro q11)
    | ((with_reducible apply Sy.newY (o := ⟨some 11, .buildSlice 162 _ _, _, _, _, _⟩)); exact rfl; exact rfl; (· exact (newY_bs Tryd.underlying162 sz22 zr22 rfl (by decide) rfl (by first | rfl | (simp [List.drop_append, List.take_append, List.getElem?_append, lay, hC_length, ints_length, ints_drop, ints_take, ints_append, List.drop_of_length_le, List.take_of_length_le, List.map_append, List.set_append, Value.cells]; done)))); intro q11)
    | ((with_reducible apply Sy.newY (o := ⟨some 16, .buildSlice 164 _ _, _, _, _, _⟩)); exact rfl; exact rfl; (· exact (nba1 Tryd.underlying164 sz24 zr24 rfl (by decide) rfl (by first | exact hC_length _ | exact rfl | (simp; done)))); intro q16)
    | ((with_reducible apply Sy.newY (o := ⟨some 16, .buildSlice 164 _ _, _, _, _, _⟩)); exact rfl; exact rfl; (· exact (newY_bs Tryd.underlying164 sz24 zr24 rfl (by decide) rfl (by first | rfl | (simp [List.drop_append, List.take_append, List.getElem?_append, lay, hC_length, ints_length, ints_drop, ints_take, ints_append, List.drop_of_length_le, List.take_of_length_le, List.map_append, List.set_append, Value.cells]; done)))); intro q16)
    | ((with_reducible apply Sy.newY (o := ⟨some 21, .buildSlice 162 _ _, _, _, _, _⟩)); exact rfl; exact rfl; exact (nbsI [_] Tryd.underlying162 sz22 zr22 rfl (by decide) rfl rfl); intro q21)
    | ((with_reducible apply Sy.newY (o := ⟨some 21, .buildSlice 162 _ _, _, _, _, _⟩)); exact rfl; exact rfl; exact (nbs1 Tryd.underlying162 sz22 zr22 rfl (by decide) rfl rfl); intro q21)
    | ((with_reducible apply Sy.newY (o := ⟨some 21, .buildSlice 162 _ _, _, _, _, _⟩)); exact rfl; exact rfl; (· exact (newY_bs Tryd.underlying162 sz22 zr22 rfl (by decide) rfl (by first | rfl | (simp [List.drop_append, List.take_append, List.getElem?_append, lay, hC_length, ints_length, ints_drop, ints_take, ints_append, List.drop_of_length_le, List.take_of_length_le, List.map_append, List.set_append, Value.cells]; done)))); intro q21)
    | ((with_reducible apply Sy.newY (o := ⟨some 26, .buildSlice 113 _ _, _, _, _, _⟩)); exact rfl; exact rfl; exact (nbs1 Tryd.underlying113 sz25 zr25 rfl (by decide) rfl rfl); intro q26)
    | ((with_reducible apply Sy.newY (o := ⟨some 26, .buildSlice 113 _ _, _, _, _, _⟩)); exact rfl; exact rfl; (· exact (newY_bs Tryd.underlying113 sz25 zr25 rfl (by decide) rfl (by first | rfl | (simp [List.drop_append, List.take_append, List.getElem?_append, lay, hC_length, ints_length, ints_drop, ints_take, ints_append, List.drop_of_length_le, List.take_of_length_le, List.map_append, List.set_append, Value.cells]; done)))); intro q26))
  rw [wrA_ok (by simp only [List.length_append]; omega)] at hJ
  dsimp only at hJ
  obtain ⟨q3, s3⟩ := s2.step hp2 hJ
  have hm4 := s3.get hm1 rfl ha1
  have hv4 := s3.slr hv1 ha
  clear hJ hp2 hm3
  repeat' (first
    | (with_reducible refine Sy.opsnil ?_)
    | (with_reducible refine Sy.go ?_)
    | ((with_reducible apply Sy.ld0 (t := 22)); exact rfl; exact rfl; (· with_reducible assumption); exact rfl; exact notM; (· first | exact ld_one ag22 (by with_reducible assumption)))
    | ((with_reducible apply Sy.ld0 (t := 24)); exact rfl; exact rfl; (· with_reducible assumption); exact rfl; exact notM; (· first | exact ld_all ag24 (by first | exact sz24 | (simp [sz24, *]; done)) | exact ld_agg ag24 sz24 (by first | (simp; done) | (simp; omega)) (by first | with_reducible exact cut_kids | rfl | (simp [List.drop_append, List.take_append, List.getElem?_append, lay, hC_length, ints_length, ints_drop, ints_take, ints_append, List.drop_of_length_le, List.take_of_length_le, List.map_append, List.set_append, Value.cells]; done))))
    | ((with_reducible apply Sy.ld0 (t := 25)); exact rfl; exact rfl; (· with_reducible assumption); exact rfl; exact notM; (· first | exact ld_one ag25 (by with_reducible assumption)))
    | ((with_reducible apply Sy.callH (k := 157)); exact rfl; exact rfl; exact en157; exact rfl; (intro H' hp; exact k_wBlob p q3 _ 1 _ true _ m.d _ H' (s3.wr.of hp) (hp.getN hasT) (hv4.of hp) ho.d (by omega)); rintro ⟨⟩ H7 H8 hp2 hJ)
    | ((with_reducible apply Sy.newY (o := ⟨some 11, .buildSlice 162 _ _, _, _, _, _⟩)); exact rfl; exact rfl; exact (nbsI [_, _, _] Tryd.underlying162 sz22 zr22 rfl (by decide) rfl rfl); intro q11)
    | ((with_reducible apply Sy.newY (o := ⟨some 11, .buildSlice 162 _ _, _, _, _, _⟩)); exact rfl; exact rfl; exact (nbs3 Tryd.underlying162 sz22 zr22 rfl (by decide) rfl rfl rfl rfl); intro q11)
    | ((with_reducible apply Sy.newY (o := ⟨some 11, .buildSlice 162 _ _, _, _, _, _⟩)); exact rfl; exact rfl; (· exact (newY_bs Tryd.underlying162 sz22 zr22 rfl (by decide) rfl (by first | rfl | (simp [List.drop_append, List.take_append, List.getElem?_append, lay, hC_length, ints_length, ints_drop, ints_take, ints_append, List.drop_of_length_le, List.take_of_length_le, List.map_append, List.set_append, Value.cells]; done)))); intro q11)
    | ((with_reducible apply Sy.newY (o := ⟨some 16, .buildSlice 164 _ _, _, _, _, _⟩)); exact rfl; exact rfl; (· exact (nba1 Tryd.underlying164 sz24 zr24 rfl (by decide) rfl (by first | exact hC_length _ | exact rfl | (simp; done)))); intro q16)
    | ((with_reducible apply Sy.newY (o := ⟨some 16, .buildSlice 164 _ _, _, _, _, _⟩)); exact rfl; exact rfl; (· exact (newY_bs Tryd.underlying164 sz24 zr24 rfl (by decide) rfl (by first | rfl | (simp [List.drop_append, List.take_append, List.getElem?_append, lay, hC_length, ints_length, ints_drop, ints_take, ints_append, List.drop_of_length_le, List.take_of_length_le, List.map_append, List.set_append, Value.cells]; done)))); intro q16)
    | ((with_reducible apply Sy.newY (o := ⟨some 21, .buildSlice 162 _ _, _, _, _, _⟩)); exact rfl; exact rfl; exact (nbsI [_] Tryd.underlying162 sz22 zr22 rfl (by decide) rfl rfl); intro q21)
    | ((with_reducible apply Sy.newY (o := ⟨some 21, .buildSlice 162 _ _, _, _, _, _⟩)); exact rfl; exact rfl; exact (nbs1 Tryd.underlying162 sz22 zr22 rfl (by decide) rfl rfl); intro q21)
    | ((with_reducible apply Sy.newY (o := ⟨some 21, .buildSlice 162 _ _, _, _, _, _⟩)); exact rfl; exact rfl; (· exact (newY_bs Tryd.underlying162 sz22 zr22 rfl (by decide) rfl (by first | rfl | (simp [List.drop_append, List.take_append, List.getElem?_append, lay, hC_length, ints_length, ints_drop, ints_take, ints_append, List.drop_of_length_le, List.take_of_length_le, List.map_append, List.set_append, Value.cells]; done)))); intro q21)
    | ((with_reducible apply Sy.newY (o := ⟨some 26, .buildSlice 113 _ _, _, _, _, _⟩)); exact rfl; exact rfl; exact (nbs1 Tryd.underlying113 sz25 zr25 rfl (by decide) rfl rfl); intro q26)
    | ((with_reducible apply Sy.newY (o := ⟨some 26, .buildSlice 113 _ _, _, _, _, _⟩)); exact rfl; exact rfl; (· exact (newY_bs Tryd.underlying113 sz25 zr25 rfl (by decide) rfl (by first | rfl | (simp [List.drop_append, List.take_append, List.getElem?_append, lay, hC_length, ints_length, ints_drop, ints_take, ints_append, List.drop_of_length_le, List.take_of_length_le, List.map_append, List.set_append, Value.cells]; done)))); intro q26))
  rw [wrA_ok (by simp only [List.length_append]; omega)] at hJ
  dsimp only at hJ
  obtain ⟨q4, s4⟩ := s3.step hp2 hJ
  have e : l ++ u64s [m.n, m.s, m.t] ++ be256 m.w ++ u64s [m.g] ++ blobN m.d = l ++ msgB m := by simp [msgB, u64s]
  rw [e] at s4
  exact .fin [] (.inl rfl) trivial fun H' hp3 => ⟨(), rfl, (s4.out.pre hp).post hp3⟩
end Go.Proofs.YtjimjolfnimimaaDoor

/- Layer 09: a message out of a reader. -/
namespace Go.Proofs.YtjimjolfnimimaaDoor
open Go Go.Am
set_option maxRecDepth 100000
set_option linter.unusedVariables false

def rdM (r : Rd) : Msg × Rd := (⟨rdU r, rdU (r.next 8), rdU ((r.next 8).next 8), rdW (((r.next 8).next 8).next 8), rdU ((((r.next 8).next 8).next 8).next 32), (rdBlob (((((r.next 8).next 8).next 8).next 32).next 8)).1⟩, (rdBlob (((((r.next 8).next 8).next 8).next 32).next 8)).2)
set_option maxHeartbeats 1000000 in
theorem k_message {p c : Nat} {lb : List Nat} {r : Rd} {v : Value} {H : AHeap} (h : RdAt H p c lb r v) :
    CallR Tryd.prog noPrims 47 [.pointer (some ⟨p, 0, none⟩)] H (fun u H' => ∃ i : Value × Value, (Vw c lb i.1 (rdM r).2.l ∧ Vw c lb i.2 (rdM r).1.d) ∧ u = msgV (rdM r).1 i.2 ∧ Hp H 0 0 H' [(p, .cells (rdC i.1 (rdM r).2.e) 160 true)] []) := by
  have hplt := h.lt
  refine CallR.sy (n := 16) Tryd.func47 rfl rfl rfl ?_
  repeat' (first
    | (with_reducible refine Sy.seq ?_)
    | (with_reducible refine Sy.regionL ?_)
    | (with_reducible refine Sy.opsnil ?_)
    | (with_reducible refine Sy.go ?_)
    | (with_reducible refine Sy.nrm ?_)
    | ((with_reducible apply Sy.move); exact rfl; exact rfl)
    | ((with_reducible apply Sy.callTX (k := 79)); exact rfl; exact rfl; exact en79; exact rfl; (case hc => intro H' hp; exact k_rdUint (h.of hp (List.forall_mem_nil _))); exact hplt; exact notM; rintro v1 h1)
    | ((with_reducible apply Sy.callTO (k := 79)); exact rfl; exact rfl; exact en79; exact rfl; (case hc => intro H' hp; exact k_rdUint (h.o1 (r := r.next 8) hp h1)); (intro i; exact turnT); rintro v2 h2)
    | ((with_reducible apply Sy.callTO (k := 79)); exact rfl; exact rfl; exact en79; exact rfl; (case hc => intro H' hp; exact k_rdUint (h.o1 (r := (r.next 8).next 8) hp h2)); (intro i; exact turnT); rintro v3 h3)
    | ((with_reducible apply Sy.callTO (k := 88)); exact rfl; exact rfl; exact en88; exact rfl; (case hc => intro H' hp; exact k_rdWide (h.o1 (r := ((r.next 8).next 8).next 8) hp h3)); (intro i; exact turnT); rintro v4 h4)
    | ((with_reducible apply Sy.callTO (k := 79)); exact rfl; exact rfl; exact en79; exact rfl; (case hc => intro H' hp; exact k_rdUint (h.o1 (r := (((r.next 8).next 8).next 8).next 32) hp h4)); (intro i; exact turnT); rintro v5 h5)
    | ((with_reducible apply Sy.callTO (k := 93)); exact rfl; exact rfl; exact en93; exact rfl; (case hc => intro H' hp; exact k_rdBlob (h.o1 (r := ((((r.next 8).next 8).next 8).next 32).next 8) hp h5)); (intro i; exact turnT); rintro ⟨v6, u6⟩ ⟨h6, h7⟩)
    | ((with_reducible apply Sy.newY (o := ⟨some 2, .alloc 30, _, _, _, _⟩)); exact rfl; exact rfl; exact nwz30; intro q2))
  dsimp only at h6 h7
  obtain ⟨ua, uc, rfl⟩ := h7.slice
  refine Sy.build (t := 30) rfl rfl (bvMsg (m := (rdM r).1)  h7.one.1) ?_
  repeat' (first
    | (with_reducible refine Sy.opsnil ?_)
    | (with_reducible refine Sy.go ?_)
    | (with_reducible refine Sy.nrm ?_)
    | ((with_reducible apply Sy.stNa (t := 30)); exact rfl; exact rfl; exact sz30; (· first | exact rfl | (simp; done)); (· first | exact rfl); exact turnT; (· first | (simp; done)); (· first | exact lay_all (by first | (simp; done)) | exact rfl))
    | (with_reducible refine Sy.ret ?_))
  exact .fin [_] (.inr rfl) ⟨⟨_, _, _, rfl, (by repeat (first | exact Has.here | apply Has.there | apply Has.app)), ld_mall⟩, trivial⟩ fun H' hp => ⟨(v6, _), ⟨h6, h7⟩, rfl, hp.less (List.nil_sublist _)⟩
end Go.Proofs.YtjimjolfnimimaaDoor

/- Layer 09: the program's GetMessage. -/
namespace Go.Proofs.YtjimjolfnimimaaDoor
open Go Go.Am
set_option maxRecDepth 100000
set_option linter.unusedVariables false

theorem mf52 : mfun Tryd.prog 30 "bascule/message.right" = some 52 := by kernel_rfl
theorem mf156 : mfun Tryd.prog 30 "bascule/message.put" = some 156 := by kernel_rfl
theorem k_doneM {p c : Nat} {lb : List Nat} {r : Rd} {v : Value} {m : Msg} {a : Option Addr} {k : Nat} {H : AHeap} (h : RdAt H p c lb r v) (hg : m.g < 18446744073709551616) (hl : m.d.length < 9223372036854775808) :
    CallR Tryd.prog noPrims 48 [.pointer (some ⟨p, 0, none⟩), .iface 30 (msgV m (.slice a m.d.length k))] H (fun u H' => u = .bool (decide (rdDone r = 0) && rightMB m) ∧ Hp H 0 0 H' [] []) := by
  refine CallR.sy (n := 12) Tryd.func48 rfl rfl rfl ?_
  repeat' (first
    | (with_reducible refine Sy.seq ?_)
    | (with_reducible refine Sy.regionL ?_)
    | (with_reducible refine Sy.opsnil ?_)
    | (with_reducible refine Sy.go ?_)
    | (with_reducible refine Sy.nrm ?_)
    | ((with_reducible apply Sy.assign); exact rfl; exact rfl)
    | ((with_reducible apply Sy.move); exact rfl; exact rfl)
    | ((with_reducible apply Sy.bin (op := .eql) (t := 32)); exact rfl; exact rfl; exact rfl; exact b_eql)
    | ((with_reducible apply Sy.bin (op := .eql) (t := 32)); exact rfl; exact rfl; exact rfl; exact bz_eql)
    | ((with_reducible apply Sy.pickT); exact rfl; exact rfl; exact rfl)
    | ((with_reducible apply Sy.pickF); exact rfl; exact rfl; exact rfl)
    | ((with_reducible apply Sy.call0 (k := 69)); exact rfl; exact rfl; exact en69; exact rfl; (intro H' hp; exact k_rdDone (h.of hp (List.forall_mem_nil _))))
    | ((with_reducible apply Sy.inv0 (k := 52)); exact rfl; exact rfl; exact mf52; exact en52; exact rfl; (intro H' hp; exact c_right m a k H' hg hl))
    | (with_reducible refine Sy.ret ?_)
    | ((with_reducible apply Sy.goG); exact rfl; exact rfl; exact rfl)
    | ((with_reducible apply Sy.noG); exact rfl; exact rfl; exact rfl; exact rfl; exact rfl)
    | ((with_reducible apply Sy.caseG); (case hj => exact rfl); (case hx => exact rfl); all_goals (intro hc; try (exfalso; omega))))
  all_goals exact .fin [_] (.inr rfl) ⟨rfl, trivial⟩ fun H' hp => ⟨by show tupV [_] = _; simp [tupV, hc], hp⟩
theorem Rd.next_lt {r : Rd} {k : Nat} (h : ∀ x ∈ r.l, x < 256) : ∀ x ∈ (r.next k).l, x < 256 := by
  unfold Rd.next; split
  · exact fun x hx => h x (List.mem_of_mem_drop hx)
  · exact h
theorem rdBlob_lt {r : Rd} (h : ∀ x ∈ r.l, x < 256) : (∀ x ∈ (rdBlob r).1, x < 256) ∧ (∀ x ∈ (rdBlob r).2.l, x < 256) ∧ (rdBlob r).1.length ≤ r.l.length := by
  have hn := Rd.next_lt (k := 8) h
  have hl := next_len (r := r) (k := 8)
  unfold rdBlob
  split
  · exact ⟨by simp, h, by simp⟩
  split
  · exact ⟨by simp, h, by simp⟩
  split
  · refine ⟨fun x hx => hn x (List.mem_of_mem_take hx), fun x hx => hn x (List.mem_of_mem_drop hx), ?_⟩
    show ((r.next 8).l.take (rdU r)).length ≤ _
    rw [List.length_take]; omega
  · exact ⟨by simp, h, by simp⟩
theorem rdM_ok {r : Rd} (h : ∀ x ∈ r.l, x < 256) : (rdM r).1.ok ∧ (rdM r).1.d.length ≤ r.l.length := by
  have h1 := Rd.next_lt (k := 8) h
  have h2 := Rd.next_lt (k := 8) h1
  have h3 := Rd.next_lt (k := 8) h2
  have h4 := Rd.next_lt (k := 32) h3
  have h5 := Rd.next_lt (k := 8) h4
  have l1 := next_len (r := r) (k := 8)
  have l2 := next_len (r := r.next 8) (k := 8)
  have l3 := next_len (r := (r.next 8).next 8) (k := 8)
  have l4 := next_len (r := ((r.next 8).next 8).next 8) (k := 32)
  have l5 := next_len (r := (((r.next 8).next 8).next 8).next 32) (k := 8)
  have b := rdBlob_lt h5
  exact ⟨⟨rdU_lt h, rdU_lt h1, rdU_lt h2, rdU_lt h4, b.1⟩, by have := b.2.2; show (rdBlob _).1.length ≤ _; omega⟩
def getM (l : List Nat) : Msg × Nat := if rdDone (rdM ⟨l, 0⟩).2 = 0 ∧ rightMB (rdM ⟨l, 0⟩).1 = true then ((rdM ⟨l, 0⟩).1, 0) else (zeroM, 21)
set_option maxHeartbeats 1000000 in
theorem k_GetMessage (v : Value) (l : List Nat) (H : AHeap) (hv : SlR H 1 v l.length (ints .u8 l)) (h256 : ∀ x ∈ l, x < 256) (hl : l.length ≤ 140737488355328) :
    CallR Tryd.prog noPrims 14 [v] H (fun u H' => ∃ i : Nat × Value, Vw i.1 l i.2 (getM l).1.d ∧ u = .tuple ⟨[msgV (getM l).1 i.2, .int .i64 (((getM l).2 : Nat) : Int)]⟩ ∧ Hp H 0 0 H' [] (bufM l i.1)) := by
  have hok := rdM_ok (r := ⟨l, 0⟩) h256
  have hgm := msgC_g
  refine CallR.sy (n := 16) Tryd.func14 rfl rfl rfl ?_
  repeat' (first
    | (with_reducible refine Sy.seq ?_)
    | (with_reducible refine Sy.regionL ?_)
    | (with_reducible refine Sy.opsnil ?_)
    | (with_reducible refine Sy.go ?_)
    | (with_reducible refine Sy.nrm ?_)
    | ((with_reducible apply Sy.assign); exact rfl; exact rfl)
    | ((with_reducible apply Sy.move); exact rfl; exact rfl)
    | ((with_reducible apply Sy.callN (k := 46)); exact rfl; exact rfl; exact en46; exact rfl; (intro H' hp; exact k_NewReader v l H' (hv.of hp) hl); rintro ⟨p, c, v1⟩ h1)
    | ((with_reducible apply Sy.newY (o := ⟨some 2, .alloc 30, _, _, _, _⟩)); exact rfl; exact rfl; exact nwz30; intro q2)
    | ((with_reducible apply Sy.newY (o := ⟨some 5, .alloc 30, _, _, _, _⟩)); exact rfl; exact rfl; exact nwz30; intro q5))
  dsimp only at h1 ⊢
  rw [List.cons_append]
  repeat' (first
    | (with_reducible refine Sy.go ?_)
    | ((with_reducible apply Sy.callTN (k := 47)); exact rfl; exact rfl; exact en47; exact rfl; (case hc => intro H' hp; exact k_message (RdAt.new (c := c) hp .here (fun hx => .there (bufM_has hx)) h1 h256 hl)); (intro i; exact turnT); rintro ⟨v2, u2⟩ ⟨h2, h3⟩)
    | ((with_reducible apply Sy.newY (o := ⟨some 2, .alloc 30, _, _, _, _⟩)); exact rfl; exact rfl; exact nwz30; intro q2)
    | ((with_reducible apply Sy.newY (o := ⟨some 5, .alloc 30, _, _, _, _⟩)); exact rfl; exact rfl; exact nwz30; intro q5))
  dsimp only at h2 h3
  have hG : getM l = if rdDone (rdM ⟨l, 0⟩).2 = 0 ∧ rightMB (rdM ⟨l, 0⟩).1 = true then ((rdM ⟨l, 0⟩).1, 0) else (zeroM, 21) := rfl
  generalize rdM ⟨l, 0⟩ = M at hok h2 h3 hG ⊢
  obtain ⟨m, r⟩ := M
  dsimp only at hok h2 h3 hG ⊢
  generalize getM l = G at hG ⊢
  subst hG
  obtain ⟨ua, uc, rfl⟩ := h3.slice
  repeat' (first
    | (with_reducible refine Sy.seq ?_)
    | (with_reducible refine Sy.regionL ?_)
    | (with_reducible refine Sy.opsnil ?_)
    | (with_reducible refine Sy.go ?_)
    | (with_reducible refine Sy.nrm ?_)
    | ((with_reducible apply Sy.move); exact rfl; exact rfl)
    | ((with_reducible apply Sy.stNa (t := 30)); exact rfl; exact rfl; exact sz30; (· first | (simp; done)); (· first | (simp [oneL_append, oneL_cons, oneL_nil, hC_one, oneL_ints]; done)); exact turnT; (· first | (simp; done)); (· first | exact lay_all (by first | (simp; done))))
    | ((with_reducible apply Sy.ldN (t := 30)); exact rfl; exact rfl; exact hasT; (· first | exact ld_all ag30 (by first | (simp [sz30, *]; done))))
    | ((with_reducible apply Sy.iface); exact rfl; exact rfl; exact if30))
  rw [List.nil_append]
  repeat' (first
    | (with_reducible refine Sy.seq ?_)
    | (with_reducible refine Sy.regionL ?_)
    | (with_reducible refine Sy.opsnil ?_)
    | (with_reducible refine Sy.go ?_)
    | (with_reducible refine Sy.nrm ?_)
    | ((with_reducible apply Sy.assign); exact rfl; exact rfl)
    | ((with_reducible apply Sy.stNa (t := 30)); exact rfl; exact rfl; exact sz30; (· first | exact rfl | (simp; done)); (· first | exact rfl | (simp [oneL_append, oneL_cons, oneL_nil, hC_one, oneL_ints]; done)); exact turnT; (· first | (simp; done)); (· first | exact lay_all (by first | (simp; done)) | exact rfl))
    | ((with_reducible apply Sy.ldN (t := 30)); exact rfl; exact rfl; exact hasT; (· first | exact ld_all ag30 (by first | (simp [sz30, *]; done))))
    | ((with_reducible apply Sy.build (t := 30)); exact rfl; exact rfl; (· exact (bv30 (by first | rfl))))
    | ((with_reducible apply Sy.call0 (k := 48)); exact rfl; exact rfl; exact en48; exact rfl; (intro H' hp; exact k_doneM (RdAt.n1 (r := r) (c := c) hp (.there .here) h2 (fun hx => .there (.there (bufM_has hx))) h256 hl) hok.1.g (by have := hok.2; omega)))
    | (with_reducible refine Sy.skip ?_)
    | (with_reducible refine Sy.ret ?_)
    | (with_reducible refine Sy.aret ?_)
    | ((with_reducible apply Sy.iteB); (case hx => exact rfl); all_goals intro hc))
  · have hc' : rdDone r = 0 ∧ rightMB m = true := by simpa using hc
    rw [if_pos hc']
    exact .fin [_, _] (.inr rfl) ⟨⟨_, _, _, rfl, (by repeat (first | exact Has.here | apply Has.there | apply Has.app)), ld_mall⟩, rfl, trivial⟩ fun H' hp => ⟨(c, _), h3, rfl, hp.less (.cons _ (.cons _ (List.sublist_append_left _ _)))⟩
  · have hc' : ¬ (rdDone r = 0 ∧ rightMB m = true) := fun x => by simp [x.1, x.2] at hc
    rw [if_neg hc']
    refine .fin [msgV zeroM (.slice none 0 0), _] (.inr rfl) ⟨⟨_, _, _, rfl, (by repeat (first | exact Has.here | apply Has.there | apply Has.app)), load_all ag30 sz30 rfl⟩, rfl, trivial⟩ fun H' hp => ⟨(c, .slice none 0 0), .inl ⟨rfl, rfl⟩, rfl, hp.less (.cons _ (.cons _ (List.sublist_append_left _ _)))⟩
end Go.Proofs.YtjimjolfnimimaaDoor

/- Layer 09: the program's PutMessage. -/
namespace Go.Proofs.YtjimjolfnimimaaDoor
open Go Go.Am
set_option maxRecDepth 100000
set_option linter.unusedVariables false

def putM (m : Msg) : List Nat × Nat := if rightMB m = true then (msgB m, 0) else ([], 1)
theorem rightMB_d {m : Msg} (h : rightMB m = true) : m.g ≤ 65536 ∧ m.d.length ≤ 64 := by simpa [rightMB] using h
theorem WrOut.hp0 {H0 H H' : AHeap} {lo hi p : Nat} {Mn : Hm} {l' : List Nat} {o : AObj} (hp : Hp H0 lo hi H [] Mn) (hm : Has Mn p o) (hJ : WrOut H H' p 0 [] l') : Hp H0 0 0 H' [] [] := by
  obtain ⟨q, _, k, _⟩ := hJ
  have hg := (hp.new_lt hm).1
  have h1 : Kp (fun _ => False) H0 H := Kp.of hp (by simp)
  have h2 : Kp (fun h => h = p) H0 H' := (h1.mono (S1 := fun h => h = p) (fun _ x => x.elim)).trans k (fun h hh hw => by
    rcases hw with rfl | ⟨_, x⟩
    · rfl
    · exact absurd rfl x)
  exact h2.hp fun h hh e => by omega
set_option maxHeartbeats 1000000 in
theorem k_bytesM (m : Msg) (a : Option Addr) (k : Nat) (H : AHeap) (ho : m.ok) (hv : SlR H 1 (.slice a m.d.length k) m.d.length (ints .u8 m.d)) (hl : m.d.length < 9223372036854775808) :
    CallR Tryd.prog noPrims 44 [.iface 30 (msgV m (.slice a m.d.length k))] H (fun u H' => ∃ i : Nat × Value, Vw i.1 (putM m).1 i.2 (putM m).1 ∧ u = .tuple ⟨[i.2, .int .i64 (((putM m).2 : Nat) : Int)]⟩ ∧ Hp H 0 0 H' [] (bufM (putM m).1 i.1)) := by
  have hg := ho.g
  refine CallR.sy (n := 14) Tryd.func44 rfl rfl rfl ?_
  repeat' (first
    | (with_reducible refine Sy.seq ?_)
    | (with_reducible refine Sy.regionL ?_)
    | (with_reducible refine Sy.opsnil ?_)
    | (with_reducible refine Sy.go ?_)
    | (with_reducible refine Sy.nrm ?_)
    | ((with_reducible apply Sy.assign); exact rfl; exact rfl)
    | ((with_reducible apply Sy.move); exact rfl; exact rfl)
    | ((with_reducible apply Sy.un (op := .not)); exact rfl; exact rfl; exact un_notT)
    | ((with_reducible apply Sy.un (op := .not)); exact rfl; exact rfl; exact un_notF)
    | ((with_reducible apply Sy.un (op := .not)); exact rfl; exact rfl; exact un_notD)
    | ((with_reducible apply Sy.un (op := .not)); exact rfl; exact rfl; exact un_not)
    | ((with_reducible apply Sy.inv0 (k := 52)); exact rfl; exact rfl; exact mf52; exact en52; exact rfl; (intro H' hp; exact c_right m a k H' hg hl))
    | ((with_reducible apply Sy.callN (k := 53)); exact rfl; exact rfl; exact en53; exact rfl; (intro H' hp; exact k_NewWriter H'); rintro p -)
    | (with_reducible refine Sy.skip ?_)
    | (with_reducible refine Sy.ret ?_)
    | (with_reducible refine Sy.aret ?_)
    | ((with_reducible apply Sy.iteB); (case hx => exact rfl); all_goals intro hc))
  · have e : putM m = ([], 1) := by rw [putM, if_neg (by simp_all)]
    rw [e]
    exact .fin [_, _] (.inr rfl) ⟨rfl, rfl, trivial⟩ fun H' hp => ⟨(0, _), .inl ⟨rfl, rfl⟩, rfl, hp⟩
  · have hr : rightMB m = true := by simp_all
    have hd := rightMB_d hr
    have e : putM m = (msgB m, 0) := by rw [putM, if_pos hr]
    rw [e]
    repeat' (first
    | (with_reducible refine Sy.seq ?_)
    | (with_reducible refine Sy.regionL ?_)
    | (with_reducible refine Sy.opsnil ?_)
    | (with_reducible refine Sy.go ?_)
    | (with_reducible refine Sy.nrm ?_)
    | ((with_reducible apply Sy.move); exact rfl; exact rfl)
    | ((with_reducible apply Sy.invH (k := 156)); exact rfl; exact rfl; exact mf156; exact en156; exact rfl; (intro H' hp; exact k_mput p 0 [] m _ H' (WrAt.new hp .here) ho (hv.of hp) (Away.fresh hv (hp.new_lt (h := p) .here).1) (by simp; omega)); rintro ⟨⟩ H1 H2 hp hJ))
    obtain ⟨q, hw2, _, _⟩ := id hJ
    rw [List.nil_append] at hw2
    repeat' (first
    | (with_reducible refine Sy.opsnil ?_)
    | (with_reducible refine Sy.go ?_)
    | (with_reducible refine Sy.nrm ?_)
    | ((with_reducible apply Sy.assign); exact rfl; exact rfl)
    | ((with_reducible apply Sy.callN (k := 58)); exact rfl; exact rfl; exact en58; exact rfl; (intro H' hp; exact k_wrBytes p q _ H' (hw2.of hp)); rintro ⟨c, v'⟩ hv')
    | (with_reducible refine Sy.ret ?_))
    exact .fin [_, _] (.inr rfl) ⟨rfl, rfl, trivial⟩ fun H' hp2 => ⟨(c, v'), hv', rfl, by
      have := (WrOut.hp0 hp .here hJ).then0 (hp2.less (List.sublist_append_left _ _)); rwa [List.append_nil] at this⟩
theorem k_PutMessage (m : Msg) (a : Option Addr) (k : Nat) (H : AHeap) (ho : m.ok) (hv : SlR H 1 (.slice a m.d.length k) m.d.length (ints .u8 m.d)) (hl : m.d.length < 9223372036854775808) :
    CallR Tryd.prog noPrims 12 [msgV m (.slice a m.d.length k)] H (fun u H' => ∃ i : Nat × Value, Vw i.1 (putM m).1 i.2 (putM m).1 ∧ u = .tuple ⟨[i.2, .int .i64 (((putM m).2 : Nat) : Int)]⟩ ∧ Hp H 0 0 H' [] (bufM (putM m).1 i.1)) := by
  refine CallR.sy (n := 9) Tryd.func12 rfl rfl rfl ?_
  repeat' (first
    | (with_reducible refine Sy.seq ?_)
    | (with_reducible refine Sy.regionL ?_)
    | (with_reducible refine Sy.opsnil ?_)
    | (with_reducible refine Sy.go ?_)
    | (with_reducible refine Sy.nrm ?_)
    | ((with_reducible apply Sy.assign); exact rfl; exact rfl)
    | ((with_reducible apply Sy.ldN (t := 30)); exact rfl; exact rfl; exact hasT; (· first | exact ld_all ag30 (by first | (simp [sz30, *]; done))))
    | ((with_reducible apply Sy.iface); exact rfl; exact rfl; exact if30)
    | ((with_reducible apply Sy.ext); exact rfl; exact rfl; exact rfl)
    | ((with_reducible apply Sy.callN (k := 44)); exact rfl; exact rfl; exact en44; exact rfl; (intro H' hp; exact k_bytesM m a k H' ho (hv.of hp) hl); rintro ⟨c, v'⟩ hv')
    | ((with_reducible apply Sy.newY (o := ⟨some 1, .box 30 _, _, _, _, _⟩)); exact rfl; exact rfl; exact nbA rfl; intro q1)
    | (with_reducible refine Sy.ret ?_))
  exact .fin [_, _] (.inr rfl) ⟨rfl, rfl, trivial⟩ fun H' hp => ⟨(c, v'), hv', rfl, hp.less (List.sublist_append_left _ _)⟩
end Go.Proofs.YtjimjolfnimimaaDoor

/- Layer 09: the reference's bytes of a message. -/
namespace Go.Proofs.YtjimjolfnimimaaDoor
open Go Go.Am
set_option maxRecDepth 100000
set_option linter.unusedVariables false

theorem bufV_ne {x : List Nat} {q : Nat} (h : x ≠ []) : bufV x q = .slice (some ⟨q, 0, none⟩) x.length (x.length + 2 + 1) := by
  have h0 : ¬ x.length = 0 := fun e => h (List.length_eq_zero_iff.1 e)
  simp only [bufV, accV, h0, if_false]
theorem bufA_ne {x : List Nat} {q : Nat} {T : TypeId} (h : x ≠ []) : accM T (ints .u8 x) x.length q = [(q, .cells (ints .u8 x) T true)] := by
  have h0 : ¬ x.length = 0 := fun e => h (List.length_eq_zero_iff.1 e)
  simp only [accM, h0, if_false]
end Go.Proofs.YtjimjolfnimimaaDoor

/- Layer 09: the reference's PutMessage and its message out of a reader. -/
namespace Go.Proofs.YtjimjolfnimimaaDoor
open Go Go.Am
set_option maxRecDepth 100000
set_option linter.unusedVariables false

theorem bufM_ne {x : List Nat} {q : Nat} (h : x ≠ []) : bufM x q = [(q, .cells (ints .u8 x) 5 true)] := bufA_ne h
theorem msgB_ne (m : Msg) : msgB m ≠ [] := fun e => by have := msgB_length m; rw [e] at this; simp at this; omega
theorem wC_nil {w : Wd} : ∃ a b c d, wC w = [a, b, c, d] := by
  match h : wC w, wC_length w with
  | [a, b, c, d], _ => exact ⟨a, b, c, d, rfl⟩
theorem MsgN.set191 {n s t : Nat} {w : Wd} {v : Value} : lay (((msgC ⟨n, 0, 0, zeroW, 0, []⟩ v).set (0 + 1) (.int .u64 ((s : Nat) : Int))).set (0 + 2) (.int .u64 ((t : Nat) : Int))) (0 + 3) (wC w) = msgC ⟨n, s, t, w, 0, []⟩ v := by
  obtain ⟨x, y, z, u, e⟩ := wC_nil (w := w)
  simp only [msgC, e]
  rfl
theorem MsgN.hC_set (n s t : Nat) {g : Nat} {w : Wd} {v : Value} : (msgC ⟨n, s, t, w, 0, []⟩ v).set (0 + 7) (.int .u64 ((g : Nat) : Int)) = msgC ⟨n, s, t, w, g, []⟩ v := by
  obtain ⟨x, y, z, u, e⟩ := wC_nil (w := w)
  simp only [msgC, e]
  rfl
theorem MsgN.ints_set (n s t g : Nat) {w : Wd} {v0 v : Value} : (msgC ⟨n, s, t, w, g, []⟩ v0).set (0 + 8) v = msgC ⟨n, s, t, w, g, []⟩ v := by
  obtain ⟨x, y, z, u, e⟩ := wC_nil (w := w)
  simp only [msgC, e]
  rfl
end Go.Proofs.YtjimjolfnimimaaDoor

/- Layer 09: the reference's GetMessage. -/
namespace Go.Proofs.YtjimjolfnimimaaDoor
open Go Go.Am
set_option maxRecDepth 100000
set_option linter.unusedVariables false

end Go.Proofs.YtjimjolfnimimaaDoor
