/- Names of messages, the law. -/
import Derived.Test.YtjimjolfnimimaaDoorMsgA
import Derived.Test.YtjimjolfnimimaaDoorWalkB
import Derived.Test.YtjimjolfnimimaaDoorValue
set_option linter.unusedSimpArgs false
set_option linter.unusedVariables false
/- Layer 09: the statements' copies, the same message, bytes that are lent. -/
namespace Go.Proofs.YtjimjolfnimimaaDoor
open Go Go.Am
set_option maxRecDepth 100000
set_option linter.unusedVariables false

open MsgN in
theorem k_lMessage (m : Msg) (a : Option Addr) (k : Nat) (H : AHeap) (ho : m.ok) (hv : SlR H 1 (.slice a m.d.length k) m.d.length (ints .u8 m.d)) (hl : m.d.length ≤ 1000000) :
    CallR Tryd.prog noPrims 11 [msgV m (.slice a m.d.length k)] H (fun u H' => ∃ i : Nat × Nat, True ∧ u = msgV m (.slice (some ⟨i.1, 0, none⟩) m.d.length i.2) ∧ Hp H 0 0 H' [] [(i.1, .cells (ints .u8 m.d) 5 true)]) := by
  by_cases h0 : m.d = []
  · obtain ⟨n, s, t, w, g, d⟩ := m
    dsimp only at h0 hv hl ⊢
    subst h0
    have hv0 : SlR H 1 (.slice a 0 k) 0 [] := hv
    have hmg := msgC_g ⟨n, s, t, w, g, []⟩ (.slice a 0 k)
    have hmd := msgC_d ⟨n, s, t, w, g, []⟩ (.slice a 0 k)
    refine CallR.sy (n := 18) Tryd.func11 rfl rfl rfl ?_
    show Sy _ _ _ _ (envOf 0 [msgV ⟨n, s, t, w, g, []⟩ (.slice a 0 k)]) _ _ _
    repeat' (first
    | (with_reducible refine Sy.seq ?_)
    | (with_reducible refine Sy.regionL ?_)
    | (with_reducible refine Sy.opsnil ?_)
    | (with_reducible refine Sy.go ?_)
    | (with_reducible refine Sy.nrm ?_)
    | ((with_reducible apply Sy.drawL (id := 1) 16 [(1, 13), (3, 13), (5, 13), (7, 13), (9, 13)] (fun hi h => h = q1)); (case hp => kernel_rfl); (case hN => exact rfl); intro base hbase hM; try simp only [List.forall_mem_cons, List.forall_mem_append, List.not_mem_nil, false_implies, implies_true, and_true] at hM)
    | ((with_reducible apply Sy.appZ (t := 25) (xt := 25)); exact (ap25_25 zr5 rfl); exact rfl; exact rfl; exact rfl; exact .inl ⟨_, _, _, _, rfl⟩; exact SrcY.ofR (by with_reducible assumption) rfl; exact rfl)
    | ((with_reducible apply Sy.fa (t := 27) (i := 0)); exact rfl; exact rfl; exact fa27_0 _ _)
    | ((with_reducible apply Sy.ldN (t := 22)); exact rfl; exact rfl; exact hasT; (· first | exact ld_one ag22 rfl | exact ld_one ag22 (by with_reducible assumption)))
    | ((with_reducible apply Sy.fa (t := 27) (i := 1)); exact rfl; exact rfl; exact fa27_1 _ _)
    | ((with_reducible apply Sy.fa (t := 27) (i := 2)); exact rfl; exact rfl; exact fa27_2 _ _)
    | ((with_reducible apply Sy.fa (t := 27) (i := 3)); exact rfl; exact rfl; exact fa27_3 _ _)
    | ((with_reducible apply Sy.ldN (t := 24)); exact rfl; exact rfl; exact hasT; (· first | exact ld_agg ag24 sz24 (by first | (simp; done)) (by first | with_reducible exact cut_kids)))
    | ((with_reducible apply Sy.fa (t := 27) (i := 4)); exact rfl; exact rfl; exact fa27_4 _ _)
    | ((with_reducible apply Sy.fa (t := 27) (i := 5)); exact rfl; exact rfl; exact fa27_5 _ _)
    | ((with_reducible apply Sy.ldN (t := 25)); exact rfl; exact rfl; exact hasT; (· first | exact ld_one ag25 rfl | exact ld_one ag25 (by with_reducible assumption)))
    | ((with_reducible apply Sy.dwr); (case hw => first | exact wantY_none); (case hc => intro hcls; cases hcls); (case h1 => exact rfl); (case hk => exact .consN (b := q1) hasT .nil); (case hS => intro h hh; subst hh; exact ⟨_, List.mem_singleton.2 rfl⟩))
    | ((with_reducible apply Sy.dand); (case hk => exact .consN (b := q1) hasT .nil))
    | ((with_reducible apply Sy.newY (o := ⟨some 1, .box 27 _, _, _, _, _⟩)); exact rfl; exact rfl; exact nbA rfl; intro q1)
    | ((with_reducible apply Sy.newY (o := ⟨some 2, .alloc 30, _, _, _, _⟩)); exact rfl; exact rfl; exact nwz30; intro q2)
    | ((with_reducible apply Sy.dnew (o := ⟨some 13, .buildSlice 25 _ _, _, _, _, _⟩)); (· first | exact wantY_none); exact rfl; exact rfl; exact rfl; exact rfl; exact rfl; exact (nbs0 Tryd.underlying25 sz5 zr5 rfl (by decide) rfl); intro q13 hq13)
    | ((with_reducible apply Sy.dnew (o := ⟨some 13, .buildSlice 25 _ _, _, _, _, _⟩)); (· first | exact wantY_none); exact rfl; exact rfl; exact rfl; exact rfl; exact rfl; (· exact (newY_bs Tryd.underlying25 sz5 zr5 rfl (by decide) rfl (by first | rfl | (simp [List.drop_append, List.take_append, List.getElem?_append, lay, hC_length, ints_length, ints_drop, ints_take, ints_append, List.drop_of_length_le, List.take_of_length_le, List.map_append, List.set_append, Value.cells]; done)))); intro q13 hq13)
    | ((with_reducible apply Sy.dld); (· first | exact wantY_none); exact rfl; (· first | omega); exact rfl))
    refine Sy.build (t := 30) rfl rfl (bvMsg (m := ⟨n, s, t, w, g, []⟩) rfl) ?_
    repeat' (first
    | (with_reducible refine Sy.nrm ?_)
    | ((with_reducible apply Sy.stNa (t := 30)); exact rfl; exact rfl; exact sz30; (· first | (simp; done)); (· first | (simp [oneL_append, oneL_cons, oneL_nil, hC_one, oneL_ints]; done)); exact turnT; (· first | (simp; done)); (· first | exact lay_all (by first | (simp; done))))
    | ((with_reducible apply Sy.dwr); (case hw => first | exact wantY_none); (case hc => intro hcls; cases hcls); (case h1 => exact rfl); (case hk => exact .consN (b := q1) hasT .nil); (case hS => intro h hh; subst hh; exact ⟨_, List.mem_singleton.2 rfl⟩))
    | ((with_reducible apply Sy.dand); (case hk => exact .consN (b := q1) hasT .nil))
    | (with_reducible refine Sy.ret ?_)
    | (with_reducible refine Sy.dend ?_))
    exact .fin [msgV ⟨n, s, t, w, g, []⟩ _] (.inr rfl) ⟨⟨_, _, _, rfl, (by repeat (first | exact Has.here | apply Has.there | apply Has.app)), ld_mall⟩, trivial⟩ fun H' hp => ⟨(q13, 0), trivial, rfl, hp.less (.cons_cons _ (List.nil_sublist _))⟩
  · have hmg := msgC_g m (.slice a m.d.length k)
    have hmd := msgC_d m (.slice a m.d.length k)
    have hne : m.d.length ≠ 0 := fun e => h0 (List.length_eq_zero_iff.1 e)
    refine CallR.sy (n := 18) Tryd.func11 rfl rfl rfl ?_
    repeat' (first
    | (with_reducible refine Sy.seq ?_)
    | (with_reducible refine Sy.regionL ?_)
    | (with_reducible refine Sy.opsnil ?_)
    | (with_reducible refine Sy.go ?_)
    | (with_reducible refine Sy.nrm ?_)
    | ((with_reducible apply Sy.drawL (id := 1) 16 [(1, 13), (3, 13), (5, 13), (7, 13), (9, 13)] (fun hi h => h = q1)); (case hp => kernel_rfl); (case hN => exact rfl); intro base hbase hM; try simp only [List.forall_mem_cons, List.forall_mem_append, List.not_mem_nil, false_implies, implies_true, and_true] at hM)
    | ((with_reducible apply Sy.fa (t := 27) (i := 0)); exact rfl; exact rfl; exact fa27_0 _ _)
    | ((with_reducible apply Sy.ldN (t := 22)); exact rfl; exact rfl; exact hasT; (· first | exact ld_one ag22 rfl | exact ld_one ag22 (by with_reducible assumption)))
    | ((with_reducible apply Sy.fa (t := 27) (i := 1)); exact rfl; exact rfl; exact fa27_1 _ _)
    | ((with_reducible apply Sy.fa (t := 27) (i := 2)); exact rfl; exact rfl; exact fa27_2 _ _)
    | ((with_reducible apply Sy.fa (t := 27) (i := 3)); exact rfl; exact rfl; exact fa27_3 _ _)
    | ((with_reducible apply Sy.ldN (t := 24)); exact rfl; exact rfl; exact hasT; (· first | exact ld_agg ag24 sz24 (by first | (simp; done)) (by first | with_reducible exact cut_kids)))
    | ((with_reducible apply Sy.fa (t := 27) (i := 4)); exact rfl; exact rfl; exact fa27_4 _ _)
    | ((with_reducible apply Sy.fa (t := 27) (i := 5)); exact rfl; exact rfl; exact fa27_5 _ _)
    | ((with_reducible apply Sy.ldN (t := 25)); exact rfl; exact rfl; exact hasT; (· first | exact ld_one ag25 rfl | exact ld_one ag25 (by with_reducible assumption)))
    | ((with_reducible apply Sy.appFN (t := 25) (xt := 25)); exact ap25_25 zr5 rfl; exact rfl; exact rfl; exact rfl; (· first | exact SrcY.ofR (by with_reducible assumption) rfl); (· first | exact oneL_ints _ _ | exact rfl); (· first | omega); (· first | omega); exact hasT; (· first | omega); (· first | exact rfl); (· first | exact rfl); intro q16)
    | ((with_reducible apply Sy.dwr); (case hw => first | exact wantY_none); (case hc => intro hcls; cases hcls); (case h1 => exact rfl); (case hk => exact .consN (b := q1) hasT .nil); (case hS => intro h hh; subst hh; exact ⟨_, List.mem_singleton.2 rfl⟩))
    | ((with_reducible apply Sy.dand); (case hk => exact .consN (b := q1) hasT .nil))
    | ((with_reducible apply Sy.newY (o := ⟨some 1, .box 27 _, _, _, _, _⟩)); exact rfl; exact rfl; exact nbA rfl; intro q1)
    | ((with_reducible apply Sy.newY (o := ⟨some 2, .alloc 30, _, _, _, _⟩)); exact rfl; exact rfl; exact nwz30; intro q2)
    | ((with_reducible apply Sy.dnew (o := ⟨some 13, .buildSlice 25 _ _, _, _, _, _⟩)); (· first | exact wantY_none); exact rfl; exact rfl; exact rfl; exact rfl; exact rfl; exact (nbs0 Tryd.underlying25 sz5 zr5 rfl (by decide) rfl); intro q13 hq13)
    | ((with_reducible apply Sy.dnew (o := ⟨some 13, .buildSlice 25 _ _, _, _, _, _⟩)); (· first | exact wantY_none); exact rfl; exact rfl; exact rfl; exact rfl; exact rfl; (· exact (newY_bs Tryd.underlying25 sz5 zr5 rfl (by decide) rfl (by first | rfl | (simp [List.drop_append, List.take_append, List.getElem?_append, lay, hC_length, ints_length, ints_drop, ints_take, ints_append, List.drop_of_length_le, List.take_of_length_le, List.map_append, List.set_append, Value.cells]; done)))); intro q13 hq13)
    | ((with_reducible apply Sy.dld); (· first | exact wantY_none); exact rfl; (· first | omega); exact rfl))
    refine Sy.build (t := 30) rfl rfl (bvMsg (m := m) (by first | rfl | exact (CopyV.one (by assumption)))) ?_
    rw [Nat.zero_add m.d.length, show List.take (0 * 1) (List.drop 0 ([] : List Value)) ++ ints .u8 m.d = ints .u8 m.d by simp]
    repeat' (first
    | (with_reducible refine Sy.nrm ?_)
    | ((with_reducible apply Sy.stNa (t := 30)); exact rfl; exact rfl; exact sz30; (· first | (simp; done)); (· first | (simp [oneL_append, oneL_cons, oneL_nil, hC_one, oneL_ints]; done)); exact turnT; (· first | (simp; done)); (· first | exact lay_all (by first | (simp; done))))
    | ((with_reducible apply Sy.dwr); (case hw => first | exact wantY_none); (case hc => intro hcls; cases hcls); (case h1 => exact rfl); (case hk => exact .consN (b := q1) hasT .nil); (case hS => intro h hh; subst hh; exact ⟨_, List.mem_singleton.2 rfl⟩))
    | ((with_reducible apply Sy.dand); (case hk => exact .consN (b := q1) hasT .nil))
    | (with_reducible refine Sy.ret ?_)
    | (with_reducible refine Sy.dend ?_))
    exact .fin [msgV m (.slice (some ⟨q16, 0, none⟩) m.d.length (m.d.length + 2 + 1))] (.inr rfl) ⟨⟨_, _, _, rfl, (by repeat (first | exact Has.here | apply Has.there | apply Has.app)), ld_mall⟩, trivial⟩ fun H' hp => ⟨(q16, m.d.length + 2 + 1), trivial, rfl, hp.less (.cons_cons _ (List.nil_sublist _))⟩
theorem k_lNum (z : Int) (H : AHeap) : CallR Tryd.prog noPrims 20 [.int .i64 z] H (fun u H' => u = .int .i64 z ∧ Hp H 0 0 H' [] []) := by
  refine CallR.sy (n := 4) Tryd.func20 rfl rfl rfl ?_
  repeat' (first
    | (with_reducible refine Sy.seq ?_)
    | (with_reducible refine Sy.regionL ?_)
    | (with_reducible refine Sy.opsnil ?_)
    | (with_reducible refine Sy.go ?_)
    | (with_reducible refine Sy.nrm ?_)
    | ((with_reducible apply Sy.assign); exact rfl; exact rfl)
    | ((with_reducible apply Sy.move); exact rfl; exact rfl)
    | (with_reducible refine Sy.ret ?_))
  exact .fin [_] (.inr rfl) ⟨rfl, trivial⟩ fun H' hp => ⟨rfl, hp⟩
open MsgN in
theorem k_lRefMessage (m : Msg) (a : Option Addr) (k : Nat) (H : AHeap) (ho : m.ok) (hv : SlR H 1 (.slice a m.d.length k) m.d.length (ints .u8 m.d)) (hl : m.d.length ≤ 1000000) :
    CallR Tryd.prog noPrims 22 [msgV m (.slice a m.d.length k)] H (fun u H' => ∃ i : Nat × Nat, True ∧ u = msgV m (.slice (some ⟨i.1, 0, none⟩) m.d.length i.2) ∧ Hp H 0 0 H' [] [(i.1, .cells (ints .u8 m.d) 5 true)]) := by
  by_cases h0 : m.d = []
  · obtain ⟨n, s, t, w, g, d⟩ := m
    dsimp only at h0 hv hl ⊢
    subst h0
    have hv0 : SlR H 1 (.slice a 0 k) 0 [] := hv
    have hmg := msgC_g ⟨n, s, t, w, g, []⟩ (.slice a 0 k)
    have hmd := msgC_d ⟨n, s, t, w, g, []⟩ (.slice a 0 k)
    refine CallR.sy (n := 18) Tryd.func22 rfl rfl rfl ?_
    show Sy _ _ _ _ (envOf 0 [msgV ⟨n, s, t, w, g, []⟩ (.slice a 0 k)]) _ _ _
    repeat' (first
    | (with_reducible refine Sy.seq ?_)
    | (with_reducible refine Sy.regionL ?_)
    | (with_reducible refine Sy.opsnil ?_)
    | (with_reducible refine Sy.go ?_)
    | (with_reducible refine Sy.nrm ?_)
    | ((with_reducible apply Sy.drawL (id := 1) 16 [(1, 13), (3, 13), (5, 13), (7, 13), (9, 13)] (fun hi h => h = q1)); (case hp => kernel_rfl); (case hN => exact rfl); intro base hbase hM; try simp only [List.forall_mem_cons, List.forall_mem_append, List.not_mem_nil, false_implies, implies_true, and_true] at hM)
    | ((with_reducible apply Sy.appZ (t := 25) (xt := 25)); exact (ap25_25 zr5 rfl); exact rfl; exact rfl; exact rfl; exact .inl ⟨_, _, _, _, rfl⟩; exact SrcY.ofR (by with_reducible assumption) rfl; exact rfl)
    | ((with_reducible apply Sy.fa (t := 30) (i := 0)); exact rfl; exact rfl; exact fa30_0 _ _)
    | ((with_reducible apply Sy.ldN (t := 22)); exact rfl; exact rfl; exact hasT; (· first | exact ld_one ag22 rfl | exact ld_one ag22 (by with_reducible assumption)))
    | ((with_reducible apply Sy.fa (t := 30) (i := 1)); exact rfl; exact rfl; exact fa30_1 _ _)
    | ((with_reducible apply Sy.fa (t := 30) (i := 2)); exact rfl; exact rfl; exact fa30_2 _ _)
    | ((with_reducible apply Sy.fa (t := 30) (i := 3)); exact rfl; exact rfl; exact fa30_3 _ _)
    | ((with_reducible apply Sy.ldN (t := 24)); exact rfl; exact rfl; exact hasT; (· first | exact ld_agg ag24 sz24 (by first | (simp; done)) (by first | with_reducible exact cut_kids)))
    | ((with_reducible apply Sy.fa (t := 30) (i := 4)); exact rfl; exact rfl; exact fa30_4 _ _)
    | ((with_reducible apply Sy.fa (t := 30) (i := 5)); exact rfl; exact rfl; exact fa30_5 _ _)
    | ((with_reducible apply Sy.ldN (t := 25)); exact rfl; exact rfl; exact hasT; (· first | exact ld_one ag25 rfl | exact ld_one ag25 (by with_reducible assumption)))
    | ((with_reducible apply Sy.dwr); (case hw => first | exact wantY_none); (case hc => intro hcls; cases hcls); (case h1 => exact rfl); (case hk => exact .consN (b := q1) hasT .nil); (case hS => intro h hh; subst hh; exact ⟨_, List.mem_singleton.2 rfl⟩))
    | ((with_reducible apply Sy.dand); (case hk => exact .consN (b := q1) hasT .nil))
    | ((with_reducible apply Sy.newY (o := ⟨some 1, .box 30 _, _, _, _, _⟩)); exact rfl; exact rfl; exact nbA rfl; intro q1)
    | ((with_reducible apply Sy.newY (o := ⟨some 2, .alloc 27, _, _, _, _⟩)); exact rfl; exact rfl; exact nwz27; intro q2)
    | ((with_reducible apply Sy.dnew (o := ⟨some 13, .buildSlice 25 _ _, _, _, _, _⟩)); (· first | exact wantY_none); exact rfl; exact rfl; exact rfl; exact rfl; exact rfl; exact (nbs0 Tryd.underlying25 sz5 zr5 rfl (by decide) rfl); intro q13 hq13)
    | ((with_reducible apply Sy.dnew (o := ⟨some 13, .buildSlice 25 _ _, _, _, _, _⟩)); (· first | exact wantY_none); exact rfl; exact rfl; exact rfl; exact rfl; exact rfl; (· exact (newY_bs Tryd.underlying25 sz5 zr5 rfl (by decide) rfl (by first | rfl | (simp [List.drop_append, List.take_append, List.getElem?_append, lay, hC_length, ints_length, ints_drop, ints_take, ints_append, List.drop_of_length_le, List.take_of_length_le, List.map_append, List.set_append, Value.cells]; done)))); intro q13 hq13)
    | ((with_reducible apply Sy.dld); (· first | exact wantY_none); exact rfl; (· first | omega); exact rfl))
    refine Sy.build (t := 27) rfl rfl (bvRMsg (m := ⟨n, s, t, w, g, []⟩) rfl) ?_
    repeat' (first
    | (with_reducible refine Sy.nrm ?_)
    | ((with_reducible apply Sy.stNa (t := 27)); exact rfl; exact rfl; exact sz27; (· first | (simp; done)); (· first | (simp [oneL_append, oneL_cons, oneL_nil, hC_one, oneL_ints]; done)); exact turnT; (· first | (simp; done)); (· first | exact lay_all (by first | (simp; done))))
    | ((with_reducible apply Sy.dwr); (case hw => first | exact wantY_none); (case hc => intro hcls; cases hcls); (case h1 => exact rfl); (case hk => exact .consN (b := q1) hasT .nil); (case hS => intro h hh; subst hh; exact ⟨_, List.mem_singleton.2 rfl⟩))
    | ((with_reducible apply Sy.dand); (case hk => exact .consN (b := q1) hasT .nil))
    | (with_reducible refine Sy.ret ?_)
    | (with_reducible refine Sy.dend ?_))
    exact .fin [msgV ⟨n, s, t, w, g, []⟩ _] (.inr rfl) ⟨⟨_, _, _, rfl, (by repeat (first | exact Has.here | apply Has.there | apply Has.app)), ld_rmall⟩, trivial⟩ fun H' hp => ⟨(q13, 0), trivial, rfl, hp.less (.cons_cons _ (List.nil_sublist _))⟩
  · have hmg := msgC_g m (.slice a m.d.length k)
    have hmd := msgC_d m (.slice a m.d.length k)
    have hne : m.d.length ≠ 0 := fun e => h0 (List.length_eq_zero_iff.1 e)
    refine CallR.sy (n := 18) Tryd.func22 rfl rfl rfl ?_
    repeat' (first
    | (with_reducible refine Sy.seq ?_)
    | (with_reducible refine Sy.regionL ?_)
    | (with_reducible refine Sy.opsnil ?_)
    | (with_reducible refine Sy.go ?_)
    | (with_reducible refine Sy.nrm ?_)
    | ((with_reducible apply Sy.drawL (id := 1) 16 [(1, 13), (3, 13), (5, 13), (7, 13), (9, 13)] (fun hi h => h = q1)); (case hp => kernel_rfl); (case hN => exact rfl); intro base hbase hM; try simp only [List.forall_mem_cons, List.forall_mem_append, List.not_mem_nil, false_implies, implies_true, and_true] at hM)
    | ((with_reducible apply Sy.fa (t := 30) (i := 0)); exact rfl; exact rfl; exact fa30_0 _ _)
    | ((with_reducible apply Sy.ldN (t := 22)); exact rfl; exact rfl; exact hasT; (· first | exact ld_one ag22 rfl | exact ld_one ag22 (by with_reducible assumption)))
    | ((with_reducible apply Sy.fa (t := 30) (i := 1)); exact rfl; exact rfl; exact fa30_1 _ _)
    | ((with_reducible apply Sy.fa (t := 30) (i := 2)); exact rfl; exact rfl; exact fa30_2 _ _)
    | ((with_reducible apply Sy.fa (t := 30) (i := 3)); exact rfl; exact rfl; exact fa30_3 _ _)
    | ((with_reducible apply Sy.ldN (t := 24)); exact rfl; exact rfl; exact hasT; (· first | exact ld_agg ag24 sz24 (by first | (simp; done)) (by first | with_reducible exact cut_kids)))
    | ((with_reducible apply Sy.fa (t := 30) (i := 4)); exact rfl; exact rfl; exact fa30_4 _ _)
    | ((with_reducible apply Sy.fa (t := 30) (i := 5)); exact rfl; exact rfl; exact fa30_5 _ _)
    | ((with_reducible apply Sy.ldN (t := 25)); exact rfl; exact rfl; exact hasT; (· first | exact ld_one ag25 rfl | exact ld_one ag25 (by with_reducible assumption)))
    | ((with_reducible apply Sy.appFN (t := 25) (xt := 25)); exact ap25_25 zr5 rfl; exact rfl; exact rfl; exact rfl; (· first | exact SrcY.ofR (by with_reducible assumption) rfl); (· first | exact oneL_ints _ _ | exact rfl); (· first | omega); (· first | omega); exact hasT; (· first | omega); (· first | exact rfl); (· first | exact rfl); intro q16)
    | ((with_reducible apply Sy.dwr); (case hw => first | exact wantY_none); (case hc => intro hcls; cases hcls); (case h1 => exact rfl); (case hk => exact .consN (b := q1) hasT .nil); (case hS => intro h hh; subst hh; exact ⟨_, List.mem_singleton.2 rfl⟩))
    | ((with_reducible apply Sy.dand); (case hk => exact .consN (b := q1) hasT .nil))
    | ((with_reducible apply Sy.newY (o := ⟨some 1, .box 30 _, _, _, _, _⟩)); exact rfl; exact rfl; exact nbA rfl; intro q1)
    | ((with_reducible apply Sy.newY (o := ⟨some 2, .alloc 27, _, _, _, _⟩)); exact rfl; exact rfl; exact nwz27; intro q2)
    | ((with_reducible apply Sy.dnew (o := ⟨some 13, .buildSlice 25 _ _, _, _, _, _⟩)); (· first | exact wantY_none); exact rfl; exact rfl; exact rfl; exact rfl; exact rfl; exact (nbs0 Tryd.underlying25 sz5 zr5 rfl (by decide) rfl); intro q13 hq13)
    | ((with_reducible apply Sy.dnew (o := ⟨some 13, .buildSlice 25 _ _, _, _, _, _⟩)); (· first | exact wantY_none); exact rfl; exact rfl; exact rfl; exact rfl; exact rfl; (· exact (newY_bs Tryd.underlying25 sz5 zr5 rfl (by decide) rfl (by first | rfl | (simp [List.drop_append, List.take_append, List.getElem?_append, lay, hC_length, ints_length, ints_drop, ints_take, ints_append, List.drop_of_length_le, List.take_of_length_le, List.map_append, List.set_append, Value.cells]; done)))); intro q13 hq13)
    | ((with_reducible apply Sy.dld); (· first | exact wantY_none); exact rfl; (· first | omega); exact rfl))
    refine Sy.build (t := 27) rfl rfl (bvRMsg (m := m) (by first | rfl | exact (CopyV.one (by assumption)))) ?_
    rw [Nat.zero_add m.d.length, show List.take (0 * 1) (List.drop 0 ([] : List Value)) ++ ints .u8 m.d = ints .u8 m.d by simp]
    repeat' (first
    | (with_reducible refine Sy.nrm ?_)
    | ((with_reducible apply Sy.stNa (t := 27)); exact rfl; exact rfl; exact sz27; (· first | (simp; done)); (· first | (simp [oneL_append, oneL_cons, oneL_nil, hC_one, oneL_ints]; done)); exact turnT; (· first | (simp; done)); (· first | exact lay_all (by first | (simp; done))))
    | ((with_reducible apply Sy.dwr); (case hw => first | exact wantY_none); (case hc => intro hcls; cases hcls); (case h1 => exact rfl); (case hk => exact .consN (b := q1) hasT .nil); (case hS => intro h hh; subst hh; exact ⟨_, List.mem_singleton.2 rfl⟩))
    | ((with_reducible apply Sy.dand); (case hk => exact .consN (b := q1) hasT .nil))
    | (with_reducible refine Sy.ret ?_)
    | (with_reducible refine Sy.dend ?_))
    exact .fin [msgV m (.slice (some ⟨q16, 0, none⟩) m.d.length (m.d.length + 2 + 1))] (.inr rfl) ⟨⟨_, _, _, rfl, (by repeat (first | exact Has.here | apply Has.there | apply Has.app)), ld_rmall⟩, trivial⟩ fun H' hp => ⟨(q16, m.d.length + 2 + 1), trivial, rfl, hp.less (.cons_cons _ (List.nil_sublist _))⟩
open MsgN in
theorem k_Same (m : Msg) (a a' : Option Addr) (k k' : Nat) (H : AHeap) (ho : m.ok) (hv : SlR H 1 (.slice a m.d.length k) m.d.length (ints .u8 m.d)) (hv' : SlR H 1 (.slice a' m.d.length k') m.d.length (ints .u8 m.d)) :
    CallR Tryd.prog noPrims 21 [msgV m (.slice a m.d.length k), msgV m (.slice a' m.d.length k')] H (fun u H' => u = .bool true ∧ Hp H 0 0 H' [] []) := by
  have hmg := msgC_g m (.slice a m.d.length k)
  have hmd := msgC_d m (.slice a m.d.length k)
  have hmg' := msgC_g m (.slice a' m.d.length k')
  have hmd' := msgC_d m (.slice a' m.d.length k')
  refine CallR.sy (n := 47) Tryd.func21 rfl rfl rfl ?_
  repeat' (first
    | (with_reducible refine Sy.seq ?_)
    | (with_reducible refine Sy.regionL ?_)
    | (with_reducible refine Sy.opsnil ?_)
    | (with_reducible refine Sy.go ?_)
    | (with_reducible refine Sy.nrm ?_)
    | ((with_reducible apply Sy.assign); exact rfl; exact rfl)
    | ((with_reducible apply Sy.fa (t := 27) (i := 0)); exact rfl; exact rfl; exact fa27_0 _ _)
    | ((with_reducible apply Sy.ldN (t := 22)); exact rfl; exact rfl; exact hasT; (· first | exact ld_one ag22 rfl | exact ld_one ag22 (by with_reducible assumption)))
    | ((with_reducible apply Sy.bin (op := .eql) (t := 22)); exact rfl; exact rfl; exact rfl; exact b_eql)
    | ((with_reducible apply Sy.bin (op := .eql) (t := 22)); exact rfl; exact rfl; exact rfl; exact bz_eql)
    | ((with_reducible apply Sy.move); exact rfl; exact rfl)
    | ((with_reducible apply Sy.fa (t := 27) (i := 1)); exact rfl; exact rfl; exact fa27_1 _ _)
    | ((with_reducible apply Sy.pickT); exact rfl; exact rfl; exact rfl)
    | ((with_reducible apply Sy.pickF); exact rfl; exact rfl; exact rfl)
    | ((with_reducible apply Sy.fa (t := 27) (i := 2)); exact rfl; exact rfl; exact fa27_2 _ _)
    | ((with_reducible apply Sy.fa (t := 27) (i := 3)); exact rfl; exact rfl; exact fa27_3 _ _)
    | ((with_reducible apply Sy.ldN (t := 24)); exact rfl; exact rfl; exact hasT; (· first | exact ld_agg ag24 sz24 (by first | (simp; done)) (by first | with_reducible exact cut_kids)))
    | ((with_reducible apply Sy.bin (op := .eql) (t := 24)); exact rfl; exact rfl; exact rfl; (· exact (eq24 (by first | (simp; done)) (by first | (simp; done)))))
    | ((with_reducible apply Sy.fa (t := 27) (i := 4)); exact rfl; exact rfl; exact fa27_4 _ _)
    | ((with_reducible apply Sy.fa (t := 27) (i := 5)); exact rfl; exact rfl; exact fa27_5 _ _)
    | ((with_reducible apply Sy.ldN (t := 25)); exact rfl; exact rfl; exact hasT; (· first | exact ld_one ag25 rfl | exact ld_one ag25 (by with_reducible assumption)))
    | ((with_reducible apply Sy.str); exact Tryd.underlying25; exact Tryd.underlying9; exact Tryd.underlying5; exact rfl; exact rfl; (· first | exact SrL.of0 (by assumption) rfl))
    | ((with_reducible apply Sy.bin (op := .eql) (t := 9)); exact rfl; exact rfl; exact rfl; exact eqSS)
    | ((with_reducible apply Sy.bin (op := .eql) (t := 9)); exact rfl; exact rfl; exact rfl; exact (eqS (by assumption) (by assumption)))
    | ((with_reducible apply Sy.newY (o := ⟨some 2, .box 27 _, _, _, _, _⟩)); exact rfl; exact rfl; exact nbA rfl; intro q2)
    | ((with_reducible apply Sy.newY (o := ⟨some 3, .box 27 _, _, _, _, _⟩)); exact rfl; exact rfl; exact nbA rfl; intro q3)
    | (with_reducible refine Sy.ret ?_)
    | ((with_reducible apply Sy.goG); exact rfl; exact rfl; exact rfl)
    | ((with_reducible apply Sy.noG); exact rfl; exact rfl; exact rfl; exact rfl; exact rfl)
    | ((with_reducible apply Sy.caseG); (case hj => exact rfl); (case hx => exact rfl); all_goals (intro hc; try (exfalso; omega))))
  · exact .fin [_] (.inr rfl) ⟨rfl, trivial⟩ fun H' hp => ⟨rfl, hp.less (List.nil_sublist _)⟩
  · exact absurd rfl (by assumption)
end Go.Proofs.YtjimjolfnimimaaDoor

/- Layer 09: the program's Hash. -/
namespace Go.Proofs.YtjimjolfnimimaaDoor
open Go Go.Am
set_option maxRecDepth 100000
set_option linter.unusedVariables false

theorem Sy.finO {P : Program} {n lo hi : Nat} {H0 : AHeap} {E : Env} {Mo Mn : Hm} {fn : Func} {QQ : Value → AHeap → Prop} {e : AEx} {a : Tmp} {t : TypeId} {h o : Nat} {obj : AObj} {v : Value} (hres : fn.results.toList = [.cell a t]) (he : e = .normal ∨ e = .ret)
    (hl : Am.look E a = some (.pointer (some ⟨h, o, none⟩))) (hm : Has Mo h obj) (hv : aLoad P t obj o = some v) (hq : ∀ H, Hp H0 lo hi H Mo Mn → QQ v H) : Sy n H0 lo hi E Mo Mn (Fin P fn QQ e) :=
  fun tm H _ b c => ⟨he, v, by
    simp only [aResults, hres, List.mapM_cons, List.mapM_nil, aResult, b a _ hl, c.getO hm, hv, Option.bind_eq_bind, Option.bind_some, Option.pure_def, Option.map_some], hq H c⟩
theorem WrAt.away0 {H : AHeap} {p q b : Nat} {cs : List Value} {T : TypeId} {w : Bool} (hw : WrAt H p [] q) (hg : H.get b = .cells cs T w) (h3 : cs.length ≠ 3) : ¬ WrM p q [] b := fun h => by
  rcases h with rfl | ⟨_, x⟩
  · have h1 := hw.obj
    rw [hg] at h1
    injection h1 with h1 _ _
    exact h3 (by rw [h1]; rfl)
  · exact x rfl
theorem mem_away {H : AHeap} {p q sz m : Nat} {v : Value} {cs : List Value} (h : SlR H sz v m cs) (hp : H.next ≤ p) : Away v (WrM p q []) := fun b o k c e hk0 hw => by
  rcases hw with rfl | ⟨_, hl⟩
  · subst e
    cases h with
    | emp => exact absurd rfl hk0
    | mk h1 _ _ => have := get_live_lt (H := H) (h := b) (by rw [h1]; rfl); omega
  · exact hl rfl
theorem Gl.kp {S : Nat → Prop} {H H' : AHeap} (g : Gl H) (k : Kp S H H') (h0 : ¬ S 0) (h1 : ¬ S 1) : Gl H' := by
  obtain ⟨⟨T, h⟩, ⟨T', h'⟩⟩ := g
  exact ⟨⟨T, k.get h rfl h0⟩, ⟨T', k.get h' rfl h1⟩⟩
theorem Gl.next2 {H : AHeap} (g : Gl H) : 2 ≤ H.next := by
  obtain ⟨T, h⟩ := g.k
  exact get_live_lt (by rw [h]; rfl)
theorem frame1_lt {tag p : List Nat} (ht : tag.length < 256) (hp : p.length ≤ 100000000) (i : Nat) : (frameN tag ([p].take i)).length < 1000000000 := by
  rcases i with _ | i
  · simp [frameN_eq]; omega
  · simp [frameN_eq, partN]; omega
theorem slr_single {H : AHeap} {v : Value} {p : List Nat} (h : SlR H 1 v p.length (ints .u8 p)) : ∀ (i : Nat) (x : List Nat), [p][i]? = some x → ∃ y, [v][i]? = some y ∧ SlR H 1 y x.length (ints .u8 x) := fun i x hx => by
  match i, hx with
  | 0, hx => obtain rfl := Option.some.inj hx; exact ⟨_, rfl, h⟩
theorem kp_end {H H1 H2 H3 : AHeap} {p b lo1 hi1 lo3 hi3 : Nat} {o : AObj} {Mn Mn3 : Hm} (h1 : Hp H lo1 hi1 H1 [] Mn) (k : Kp (WrM p 0 []) H1 H2) (h3 : Hp H2 lo3 hi3 H3 [(b, o)] Mn3) (hp : H.next ≤ p) (hb : H.next ≤ b) : Hp H 0 0 H3 [] [] := by
  have a : Kp (fun h => h = p ∨ h = b) H H1 := Kp.of h1 (by simp)
  have c : Kp (fun h => h = p ∨ h = b) H2 H3 := Kp.of h3 (by simp)
  have d := (a.trans k (fun h _ x => by
    rcases x with x | ⟨_, x⟩
    · exact .inl x
    · exact absurd rfl x)).trans c (fun h _ x => x)
  exact d.hp fun h hh x => by rcases x with rfl | rfl <;> omega
def wayB (down : Bool) : ByteArray := if down then ByteArray.mk #[100, 111, 119, 110] else ByteArray.mk #[117, 112]
def hashM (down : Bool) (m : Msg) : Hsh := sha (frameN (bytesOf (wayB down)) [msgB m])
open MsgN in
set_option maxHeartbeats 4000000 in
theorem k_Hash (down : Bool) (m : Msg) (a : Option Addr) (k : Nat) (H : AHeap) (g : Gl H) (ho : m.ok) (hv : SlR H 1 (.slice a m.d.length k) m.d.length (ints .u8 m.d)) (hl : m.d.length ≤ 10000) :
    CallR Tryd.prog noPrims 18 [.bool down, msgV m (.slice a m.d.length k)] H (fun u H' => u = hV (hashM down m) ∧ Hp H 0 0 H' [] []) := by
  have hmg := msgC_g m (.slice a m.d.length k)
  have hmd := msgC_d m (.slice a m.d.length k)
  have hn := ho.n; have hs := ho.s; have ht := ho.t; have hgg := ho.g
  have u1 : (u64s [m.n, m.s, m.t]).length = 24 := by simp [u64s_length]
  have u2 : (u64s [m.g, m.d.length]).length = 16 := by simp [u64s_length]
  have u3 : (be256 m.w).length = 32 := by simp
  refine CallR.sy (n := 41) Tryd.func18 rfl rfl rfl ?_
  repeat' (first
    | (with_reducible refine Sy.seq ?_)
    | (with_reducible refine Sy.regionL ?_)
    | (with_reducible refine Sy.opsnil ?_)
    | (with_reducible refine Sy.go ?_)
    | (with_reducible refine Sy.nrm ?_)
    | ((with_reducible apply Sy.assign); exact rfl; exact rfl)
    | ((with_reducible apply Sy.move); exact rfl; exact rfl)
    | ((with_reducible apply Sy.fa (t := 30) (i := 0)); exact rfl; exact rfl; exact fa30_0 _ _)
    | ((with_reducible apply Sy.ldN (t := 22)); exact rfl; exact rfl; exact hasT; (· first | exact ld_one ag22 rfl))
    | ((with_reducible apply Sy.fa (t := 30) (i := 1)); exact rfl; exact rfl; exact fa30_1 _ _)
    | ((with_reducible apply Sy.fa (t := 30) (i := 2)); exact rfl; exact rfl; exact fa30_2 _ _)
    | ((with_reducible apply Sy.fa (t := 30) (i := 3)); exact rfl; exact rfl; exact fa30_3 _ _)
    | ((with_reducible apply Sy.ldN (t := 24)); exact rfl; exact rfl; exact hasT; (· first | exact ld_all ag24 (by first | exact sz24 | (simp [sz24, *]; done)) | exact ld_agg ag24 sz24 (by first | (simp; done) | (simp; omega)) (by first | with_reducible exact cut_kids | rfl | (simp [List.drop_append, List.take_append, List.getElem?_append, lay, hC_length, ints_length, ints_drop, ints_take, ints_append, List.drop_of_length_le, List.take_of_length_le, List.map_append, List.set_append, Value.cells]; done))))
    | ((with_reducible apply Sy.fa (t := 30) (i := 4)); exact rfl; exact rfl; exact fa30_4 _ _)
    | ((with_reducible apply Sy.fa (t := 30) (i := 5)); exact rfl; exact rfl; exact fa30_5 _ _)
    | ((with_reducible apply Sy.ldN (t := 25)); exact rfl; exact rfl; exact hasT; (· first | exact ld_one ag25 rfl))
    | ((with_reducible apply Sy.callN (k := 53)); exact rfl; exact rfl; exact en53; exact rfl; (intro H' hp; exact k_NewWriter H'); rintro p -)
    | ((with_reducible apply Sy.newY (o := ⟨some 3, .box 30 _, _, _, _, _⟩)); exact rfl; exact rfl; exact nbA rfl; intro q3)
    | ((with_reducible apply Sy.newY (o := ⟨some 4, .alloc 44, _, _, _, _⟩)); exact rfl; exact rfl; exact nwz44; intro q4)
    | ((with_reducible apply Sy.newY (o := ⟨some 16, .buildSlice 162 _ _, _, _, _, _⟩)); exact rfl; exact rfl; exact (nbsI [_, _, _] Tryd.underlying162 sz22 zr22 rfl (by decide) rfl rfl); intro q16)
    | ((with_reducible apply Sy.newY (o := ⟨some 16, .buildSlice 162 _ _, _, _, _, _⟩)); exact rfl; exact rfl; exact (nbs3 Tryd.underlying162 sz22 zr22 rfl (by decide) rfl rfl rfl rfl); intro q16)
    | ((with_reducible apply Sy.newY (o := ⟨some 16, .buildSlice 162 _ _, _, _, _, _⟩)); exact rfl; exact rfl; (· exact (newY_bs Tryd.underlying162 sz22 zr22 rfl (by decide) rfl (by first | rfl | (simp [List.drop_append, List.take_append, List.getElem?_append, lay, hC_length, ints_length, ints_drop, ints_take, ints_append, List.drop_of_length_le, List.take_of_length_le, List.map_append, List.set_append, Value.cells]; done)))); intro q16)
    | ((with_reducible apply Sy.newY (o := ⟨some 21, .buildSlice 164 _ _, _, _, _, _⟩)); exact rfl; exact rfl; (· exact (nba1 Tryd.underlying164 sz24 zr24 rfl (by decide) rfl (by first | exact hC_length _ | exact rfl | (simp; done)))); intro q21)
    | ((with_reducible apply Sy.newY (o := ⟨some 21, .buildSlice 164 _ _, _, _, _, _⟩)); exact rfl; exact rfl; (· exact (newY_bs Tryd.underlying164 sz24 zr24 rfl (by decide) rfl (by first | rfl | (simp [List.drop_append, List.take_append, List.getElem?_append, lay, hC_length, ints_length, ints_drop, ints_take, ints_append, List.drop_of_length_le, List.take_of_length_le, List.map_append, List.set_append, Value.cells]; done)))); intro q21)
    | ((with_reducible apply Sy.newY (o := ⟨some 30, .buildSlice 162 _ _, _, _, _, _⟩)); exact rfl; exact rfl; exact (nbsI [_, _] Tryd.underlying162 sz22 zr22 rfl (by decide) rfl rfl); intro q30)
    | ((with_reducible apply Sy.newY (o := ⟨some 30, .buildSlice 162 _ _, _, _, _, _⟩)); exact rfl; exact rfl; exact (nbs2 Tryd.underlying162 sz22 zr22 rfl (by decide) rfl rfl rfl); intro q30)
    | ((with_reducible apply Sy.newY (o := ⟨some 30, .buildSlice 162 _ _, _, _, _, _⟩)); exact rfl; exact rfl; (· exact (newY_bs Tryd.underlying162 sz22 zr22 rfl (by decide) rfl (by first | rfl | (simp [List.drop_append, List.take_append, List.getElem?_append, lay, hC_length, ints_length, ints_drop, ints_take, ints_append, List.drop_of_length_le, List.take_of_length_le, List.map_append, List.set_append, Value.cells]; done)))); intro q30)
    | (with_reducible refine Sy.skip ?_)
    | ((with_reducible apply Sy.iteB); (case hx => exact rfl); all_goals intro hc))
  all_goals (
    subst hc
    repeat' (first
    | (with_reducible refine Sy.seq ?_)
    | (with_reducible refine Sy.regionL ?_)
    | (with_reducible refine Sy.opsnil ?_)
    | (with_reducible refine Sy.go ?_)
    | (with_reducible refine Sy.nrm ?_)
    | ((with_reducible apply Sy.move); exact rfl; exact rfl)
    | ((with_reducible apply Sy.fa (t := 30) (i := 0)); exact rfl; exact rfl; exact fa30_0 _ _)
    | ((with_reducible apply Sy.fa (t := 30) (i := 1)); exact rfl; exact rfl; exact fa30_1 _ _)
    | ((with_reducible apply Sy.fa (t := 30) (i := 2)); exact rfl; exact rfl; exact fa30_2 _ _)
    | ((with_reducible apply Sy.fa (t := 30) (i := 3)); exact rfl; exact rfl; exact fa30_3 _ _)
    | ((with_reducible apply Sy.fa (t := 30) (i := 4)); exact rfl; exact rfl; exact fa30_4 _ _)
    | ((with_reducible apply Sy.fa (t := 30) (i := 5)); exact rfl; exact rfl; exact fa30_5 _ _)
    | ((with_reducible apply Sy.callH (k := 54)); exact rfl; exact rfl; exact en54; exact rfl; (intro H' hp; exact k_wUint p 0 [] [m.n, m.s, m.t] _ H' (WrAt.new hp hasT) ⟨_, _, _, true, rfl, hp.getN hasT⟩ (by simp; omega) (by simp)); rintro ⟨⟩ H1 H2 hp hJ))
    rw [wrA_ok (by simp; omega), List.nil_append] at hJ
    dsimp only at hJ
    have hm1 := hp.getN (h := q3) (o := .cells (msgC m _) 30 true) hasT
    have hr1 := hp.getN (h := q4) (o := .cells (hC zeroH) 44 true) hasT
    have hw1 : WrAt H1 p [] 0 := WrAt.new hp hasT
    have hpn := (hp.new_lt (h := p) (o := .cells [.slice none 0 0, .bool true, .int .i64 ((0 : Nat) : Int)] 161 true) hasT).1
    have ha1 := hw1.away0 hm1 (by simp)
    have hra := hw1.away0 hr1 (by rw [hC_length]; decide)
    have hav : Away (.slice a m.d.length k) (WrM p 0 []) := mem_away hv hpn
    have h3n := (hp.new_lt (h := q3) (o := .cells (msgC m _) 30 true) hasT).1
    have h4n := (hp.new_lt (h := q4) (o := .cells (hC zeroH) 44 true) hasT).1
    have g1 := g.of hp
    have hv1 := hv.of hp
    obtain ⟨q', s1⟩ := (Ses.start hw1).step (Hp.refl H1) hJ
    have hm2 := s1.get hm1 rfl ha1
    clear hJ
    repeat' (first
    | (with_reducible refine Sy.seq ?_)
    | (with_reducible refine Sy.regionL ?_)
    | (with_reducible refine Sy.opsnil ?_)
    | (with_reducible refine Sy.go ?_)
    | (with_reducible refine Sy.nrm ?_)
    | ((with_reducible apply Sy.move); exact rfl; exact rfl)
    | ((with_reducible apply Sy.fa (t := 30) (i := 0)); exact rfl; exact rfl; exact fa30_0 _ _)
    | ((with_reducible apply Sy.ld0 (t := 22)); exact rfl; exact rfl; (· with_reducible assumption); exact rfl; exact notM; (· first | ((with_reducible refine ld_hash ag22 ?_); omega) | ((with_reducible refine ld_int ag22 ?_); first | omega | (simp; done) | (simp; omega)) | exact ld_one ag22 rfl | with_reducible assumption | exact ld_one ag22 (by with_reducible assumption) | exact ld_one ag22 (by simp [List.drop_append, List.take_append, List.getElem?_append, lay, hC_length, ints_length, ints_drop, ints_take, ints_append, List.drop_of_length_le, List.take_of_length_le, List.map_append, List.set_append, Value.cells]; done)))
    | ((with_reducible apply Sy.fa (t := 30) (i := 1)); exact rfl; exact rfl; exact fa30_1 _ _)
    | ((with_reducible apply Sy.fa (t := 30) (i := 2)); exact rfl; exact rfl; exact fa30_2 _ _)
    | ((with_reducible apply Sy.fa (t := 30) (i := 3)); exact rfl; exact rfl; exact fa30_3 _ _)
    | ((with_reducible apply Sy.ld0 (t := 24)); exact rfl; exact rfl; (· with_reducible assumption); exact rfl; exact notM; (· first | exact ld_agg ag24 sz24 (by first | (simp; done)) (by first | with_reducible exact cut_kids)))
    | ((with_reducible apply Sy.fa (t := 30) (i := 4)); exact rfl; exact rfl; exact fa30_4 _ _)
    | ((with_reducible apply Sy.fa (t := 30) (i := 5)); exact rfl; exact rfl; exact fa30_5 _ _)
    | ((with_reducible apply Sy.ld0 (t := 25)); exact rfl; exact rfl; (· with_reducible assumption); exact rfl; exact notM; (· first | exact ld_one ag25 rfl | with_reducible assumption | exact ld_one ag25 (by with_reducible assumption) | exact ld_one ag25 (by simp [List.drop_append, List.take_append, List.getElem?_append, lay, hC_length, ints_length, ints_drop, ints_take, ints_append, List.drop_of_length_le, List.take_of_length_le, List.map_append, List.set_append, Value.cells]; done)))
    | ((with_reducible apply Sy.callH (k := 55)); exact rfl; exact rfl; exact en55; exact rfl; (intro H' hp; exact k_wWide p q' _ 1 _ true _ m.w H' (s1.wr.of hp) (hp.getN hasT)); rintro ⟨⟩ H3 H4 hp2 hJ)
    | ((with_reducible apply Sy.newY (o := ⟨some 16, .buildSlice 162 _ _, _, _, _, _⟩)); exact rfl; exact rfl; exact (nbsI [_, _, _] Tryd.underlying162 sz22 zr22 rfl (by decide) rfl rfl); intro q16)
    | ((with_reducible apply Sy.newY (o := ⟨some 16, .buildSlice 162 _ _, _, _, _, _⟩)); exact rfl; exact rfl; exact (nbs3 Tryd.underlying162 sz22 zr22 rfl (by decide) rfl rfl rfl rfl); intro q16)
    | ((with_reducible apply Sy.newY (o := ⟨some 16, .buildSlice 162 _ _, _, _, _, _⟩)); exact rfl; exact rfl; (· exact (newY_bs Tryd.underlying162 sz22 zr22 rfl (by decide) rfl (by first | rfl | (simp [List.drop_append, List.take_append, List.getElem?_append, lay, hC_length, ints_length, ints_drop, ints_take, ints_append, List.drop_of_length_le, List.take_of_length_le, List.map_append, List.set_append, Value.cells]; done)))); intro q16)
    | ((with_reducible apply Sy.newY (o := ⟨some 21, .buildSlice 164 _ _, _, _, _, _⟩)); exact rfl; exact rfl; (· exact (nba1 Tryd.underlying164 sz24 zr24 rfl (by decide) rfl (by first | (simp; done)))); intro q21)
    | ((with_reducible apply Sy.newY (o := ⟨some 21, .buildSlice 164 _ _, _, _, _, _⟩)); exact rfl; exact rfl; (· exact (newY_bs Tryd.underlying164 sz24 zr24 rfl (by decide) rfl (by first | rfl | (simp [List.drop_append, List.take_append, List.getElem?_append, lay, hC_length, ints_length, ints_drop, ints_take, ints_append, List.drop_of_length_le, List.take_of_length_le, List.map_append, List.set_append, Value.cells]; done)))); intro q21)
    | ((with_reducible apply Sy.newY (o := ⟨some 30, .buildSlice 162 _ _, _, _, _, _⟩)); exact rfl; exact rfl; exact (nbsI [_, _] Tryd.underlying162 sz22 zr22 rfl (by decide) rfl rfl); intro q30)
    | ((with_reducible apply Sy.newY (o := ⟨some 30, .buildSlice 162 _ _, _, _, _, _⟩)); exact rfl; exact rfl; exact (nbs2 Tryd.underlying162 sz22 zr22 rfl (by decide) rfl rfl rfl); intro q30)
    | ((with_reducible apply Sy.newY (o := ⟨some 30, .buildSlice 162 _ _, _, _, _, _⟩)); exact rfl; exact rfl; (· exact (newY_bs Tryd.underlying162 sz22 zr22 rfl (by decide) rfl (by first | rfl | (simp [List.drop_append, List.take_append, List.getElem?_append, lay, hC_length, ints_length, ints_drop, ints_take, ints_append, List.drop_of_length_le, List.take_of_length_le, List.map_append, List.set_append, Value.cells]; done)))); intro q30))
    rw [wrA_ok (by omega)] at hJ
    dsimp only at hJ
    obtain ⟨q'', s2⟩ := s1.step hp2 hJ
    have hm3 := s2.get hm1 rfl ha1
    clear hJ hp2 hm2
    repeat' (first
    | (with_reducible refine Sy.seq ?_)
    | (with_reducible refine Sy.opsnil ?_)
    | (with_reducible refine Sy.go ?_)
    | (with_reducible refine Sy.nrm ?_)
    | ((with_reducible apply Sy.move); exact rfl; exact rfl)
    | ((with_reducible apply Sy.fa (t := 30) (i := 0)); exact rfl; exact rfl; exact fa30_0 _ _)
    | ((with_reducible apply Sy.ld0 (t := 22)); exact rfl; exact rfl; (· with_reducible assumption); exact rfl; exact notM; (· first | exact ld_one ag22 (by with_reducible assumption)))
    | ((with_reducible apply Sy.fa (t := 30) (i := 1)); exact rfl; exact rfl; exact fa30_1 _ _)
    | ((with_reducible apply Sy.fa (t := 30) (i := 2)); exact rfl; exact rfl; exact fa30_2 _ _)
    | ((with_reducible apply Sy.fa (t := 30) (i := 3)); exact rfl; exact rfl; exact fa30_3 _ _)
    | ((with_reducible apply Sy.ld0 (t := 24)); exact rfl; exact rfl; (· with_reducible assumption); exact rfl; exact notM; (· first | exact ld_all ag24 (by first | exact sz24 | (simp [sz24, *]; done)) | exact ld_agg ag24 sz24 (by first | (simp; done) | (simp; omega)) (by first | with_reducible exact cut_kids | rfl | (simp [List.drop_append, List.take_append, List.getElem?_append, lay, hC_length, ints_length, ints_drop, ints_take, ints_append, List.drop_of_length_le, List.take_of_length_le, List.map_append, List.set_append, Value.cells]; done))))
    | ((with_reducible apply Sy.fa (t := 30) (i := 4)); exact rfl; exact rfl; exact fa30_4 _ _)
    | ((with_reducible apply Sy.fa (t := 30) (i := 5)); exact rfl; exact rfl; exact fa30_5 _ _)
    | ((with_reducible apply Sy.ld0 (t := 25)); exact rfl; exact rfl; (· with_reducible assumption); exact rfl; exact notM; (· first | exact ld_one ag25 (by with_reducible assumption)))
    | ((with_reducible apply Sy.lenS); exact rfl; exact Tryd.underlying25; exact rfl)
    | ((with_reducible apply Sy.conv (D := 0) (T := .bool)); exact rfl; exact Tryd.underlying3; exact Tryd.underlying22; exact rfl; exact (wrap_u64x (by omega)))
    | ((with_reducible apply Sy.conv (D := 0) (T := .bool)); exact rfl; exact Tryd.underlying3; exact Tryd.underlying22; exact rfl; exact wrap_u64 _)
    | ((with_reducible apply Sy.callH (k := 54)); exact rfl; exact rfl; exact en54; exact rfl; (intro H' hp; exact k_wUint p q'' _ [m.g, m.d.length] _ H' (s2.wr.of hp) ⟨_, _, _, true, rfl, hp.getN hasT⟩ (by simp; omega) (by simp)); rintro ⟨⟩ H5 H6 hp2 hJ)
    | ((with_reducible apply Sy.newY (o := ⟨some 16, .buildSlice 162 _ _, _, _, _, _⟩)); exact rfl; exact rfl; exact (nbsI [_, _, _] Tryd.underlying162 sz22 zr22 rfl (by decide) rfl rfl); intro q16)
    | ((with_reducible apply Sy.newY (o := ⟨some 16, .buildSlice 162 _ _, _, _, _, _⟩)); exact rfl; exact rfl; exact (nbs3 Tryd.underlying162 sz22 zr22 rfl (by decide) rfl rfl rfl rfl); intro q16)
    | ((with_reducible apply Sy.newY (o := ⟨some 16, .buildSlice 162 _ _, _, _, _, _⟩)); exact rfl; exact rfl; (· exact (newY_bs Tryd.underlying162 sz22 zr22 rfl (by decide) rfl (by first | rfl | (simp [List.drop_append, List.take_append, List.getElem?_append, lay, hC_length, ints_length, ints_drop, ints_take, ints_append, List.drop_of_length_le, List.take_of_length_le, List.map_append, List.set_append, Value.cells]; done)))); intro q16)
    | ((with_reducible apply Sy.newY (o := ⟨some 21, .buildSlice 164 _ _, _, _, _, _⟩)); exact rfl; exact rfl; (· exact (nba1 Tryd.underlying164 sz24 zr24 rfl (by decide) rfl (by first | exact hC_length _ | exact rfl | (simp; done)))); intro q21)
    | ((with_reducible apply Sy.newY (o := ⟨some 21, .buildSlice 164 _ _, _, _, _, _⟩)); exact rfl; exact rfl; (· exact (newY_bs Tryd.underlying164 sz24 zr24 rfl (by decide) rfl (by first | rfl | (simp [List.drop_append, List.take_append, List.getElem?_append, lay, hC_length, ints_length, ints_drop, ints_take, ints_append, List.drop_of_length_le, List.take_of_length_le, List.map_append, List.set_append, Value.cells]; done)))); intro q21)
    | ((with_reducible apply Sy.newY (o := ⟨some 30, .buildSlice 162 _ _, _, _, _, _⟩)); exact rfl; exact rfl; exact (nbsI [_, _] Tryd.underlying162 sz22 zr22 rfl (by decide) rfl rfl); intro q30)
    | ((with_reducible apply Sy.newY (o := ⟨some 30, .buildSlice 162 _ _, _, _, _, _⟩)); exact rfl; exact rfl; exact (nbs2 Tryd.underlying162 sz22 zr22 rfl (by decide) rfl rfl rfl); intro q30)
    | ((with_reducible apply Sy.newY (o := ⟨some 30, .buildSlice 162 _ _, _, _, _, _⟩)); exact rfl; exact rfl; (· exact (newY_bs Tryd.underlying162 sz22 zr22 rfl (by decide) rfl (by first | rfl | (simp [List.drop_append, List.take_append, List.getElem?_append, lay, hC_length, ints_length, ints_drop, ints_take, ints_append, List.drop_of_length_le, List.take_of_length_le, List.map_append, List.set_append, Value.cells]; done)))); intro q30)
    | ((with_reducible apply Sy.drawL (id := 8) 10 [(4, 2)] (fun hi h => h < hi)); (case hp => kernel_rfl); (case hN => exact rfl); intro base hbase hM; try simp only [List.forall_mem_cons, List.forall_mem_append, List.not_mem_nil, false_implies, implies_true, and_true] at hM)
    | ((with_reducible apply Sy.dgo); (· first | exact wantY_none); (· intro hcls; cases hcls); exact rfl; exact rfl))
    rw [wrA_ok (by simp only [List.length_append]; omega)] at hJ
    dsimp only at hJ
    obtain ⟨q3', s3⟩ := s2.step hp2 hJ
    have hm4 := s3.get hm1 rfl ha1
    have hr4 := s3.get hr1 rfl hra
    have hv4 := s3.slr hv1 hav
    have hkp := s3.kp
    clear hJ hp2 hm3
    generalize hL : u64s [m.n, m.s, m.t] ++ be256 m.w ++ u64s [m.g, m.d.length] = L at s3
    have hLl : L.length = 72 := by rw [← hL]; simp only [List.length_append]; omega
    have hL0 : L ≠ [] := fun e => by rw [e] at hLl; simp at hLl
    have hLm : [L, m.d].flatten = msgB m := by rw [← hL]; simp [msgB, u64s, blobN]
    have hL256 : ∀ x ∈ msgB m, x < 256 := by
      intro x hx
      simp only [msgB, List.mem_append] at hx
      rcases hx with hx | hx | hx | hx
      · exact u64s_lt _ x hx
      · exact be256_lt _ x hx
      · exact be64_lt _ x hx
      · exact blobN_lt ho.d x hx
    have hml := msgB_length m
    repeat' (first
    | ((with_reducible apply Sy.fa (t := 30) (i := 0)); exact rfl; exact rfl; exact fa30_0 _ _)
    | ((with_reducible apply Sy.fa (t := 30) (i := 1)); exact rfl; exact rfl; exact fa30_1 _ _)
    | ((with_reducible apply Sy.fa (t := 30) (i := 2)); exact rfl; exact rfl; exact fa30_2 _ _)
    | ((with_reducible apply Sy.fa (t := 30) (i := 3)); exact rfl; exact rfl; exact fa30_3 _ _)
    | ((with_reducible apply Sy.fa (t := 30) (i := 4)); exact rfl; exact rfl; exact fa30_4 _ _)
    | ((with_reducible apply Sy.fa (t := 30) (i := 5)); exact rfl; exact rfl; exact fa30_5 _ _)
    | ((with_reducible apply Sy.dcall (k := 58)); (first | exact wantY_none); exact rfl; (intro h hh; first | exact hh); exact rfl; exact rfl; exact rfl; exact en58; exact rfl; (intro H' hp; exact k_wrBytes p q3' _ H' (s3.wr.of hp)); rintro ⟨c, v'⟩ hv')
    | ((with_reducible apply Sy.dgo); (· first | exact wantY_none); (· intro hcls; cases hcls); exact rfl; exact rfl))
    dsimp only at hv' ⊢
    obtain ⟨va, vc, rfl⟩ := hv'.slice
    rw [bufM_ne hL0]
    have hq3 : q3 < H6.next := get_live_lt (by rw [hm4]; rfl)
    have hq4 : q4 < H6.next := get_live_lt (by rw [hr4]; rfl)
    have hrd : ∀ {H' : AHeap} {lo hi : Nat} {Mn : Hm}, Hp H6 lo hi H' [] Mn → Has Mn c (.cells (ints .u8 L) 5 true) → ∀ (i : Nat) (x : List Nat), [L, m.d][i]? = some x → ∃ y, [Value.slice va L.length vc, .slice a m.d.length k][i]? = some y ∧ SlR H' 1 y x.length (ints .u8 x) := fun hp hh i x hx => by
      match i, hx with
      | 0, hx => obtain rfl := Option.some.inj hx; exact ⟨_, rfl, hv'.slr (hp.getN hh)⟩
      | 1, hx => obtain rfl := Option.some.inj hx; exact ⟨_, rfl, hv4.of hp⟩
    have hbd : ∀ i, ([L, m.d].take i).flatten.length ≤ 1000000000 := fun i => by
      match i with
      | 0 => simp
      | 1 => simp; omega
      | i + 2 => simp; omega
    repeat' (first
    | ((with_reducible apply Sy.ld0 (t := 22)); exact rfl; exact rfl; (· with_reducible assumption); exact rfl; exact notM; (· first | exact ld_one ag22 (by with_reducible assumption)))
    | ((with_reducible apply Sy.ld0 (t := 24)); exact rfl; exact rfl; (· with_reducible assumption); exact rfl; exact notM; (· first | exact ld_all ag24 (by first | exact sz24 | (simp [sz24, *]; done)) | exact ld_agg ag24 sz24 (by first | (simp; done) | (simp; omega)) (by first | with_reducible exact cut_kids | rfl | (simp [List.drop_append, List.take_append, List.getElem?_append, lay, hC_length, ints_length, ints_drop, ints_take, ints_append, List.drop_of_length_le, List.take_of_length_le, List.map_append, List.set_append, Value.cells]; done))))
    | ((with_reducible apply Sy.ld0 (t := 25)); exact rfl; exact rfl; (· with_reducible assumption); exact rfl; exact notM; (· first | exact ld_one ag25 (by with_reducible assumption)))
    | ((with_reducible apply Sy.dcall (k := 57)); (first | exact wantY_none); exact rfl; (intro h hh; first | exact hh); exact rfl; exact rfl; exact rfl; exact en57; exact rfl; (intro H' hp; exact k_Concat _ 2 _ 2 true _ [L, m.d] H' (hp.getN hasT) rfl rfl (by decide) (hrd hp hasT) hbd); rintro b -)
    | ((with_reducible apply Sy.dnew (o := ⟨some 37, .buildSlice 113 _ _, _, _, _, _⟩)); (· first | exact wantY_none); exact rfl; exact rfl; exact rfl; exact rfl; exact rfl; exact (nbs2 Tryd.underlying113 sz25 zr25 rfl (by decide) rfl rfl rfl); intro q37 hq37)
    | ((with_reducible apply Sy.dnew (o := ⟨some 37, .buildSlice 113 _ _, _, _, _, _⟩)); (· first | exact wantY_none); exact rfl; exact rfl; exact rfl; exact rfl; exact rfl; (· exact (newY_bs Tryd.underlying113 sz25 zr25 rfl (by decide) rfl (by first | rfl | (simp [List.drop_append, List.take_append, List.getElem?_append, lay, hC_length, ints_length, ints_drop, ints_take, ints_append, List.drop_of_length_le, List.take_of_length_le, List.map_append, List.set_append, Value.cells]; done)))); intro q37 hq37)
    | ((with_reducible apply Sy.dnew (o := ⟨some 39, .buildSlice 113 _ _, _, _, _, _⟩)); (· first | exact wantY_none); exact rfl; exact rfl; exact rfl; exact rfl; exact rfl; exact (nbs1 Tryd.underlying113 sz25 zr25 rfl (by decide) rfl rfl); intro q39 hq39)
    | ((with_reducible apply Sy.dnew (o := ⟨some 39, .buildSlice 113 _ _, _, _, _, _⟩)); (· first | exact wantY_none); exact rfl; exact rfl; exact rfl; exact rfl; exact rfl; (· exact (newY_bs Tryd.underlying113 sz25 zr25 rfl (by decide) rfl (by first | rfl | (simp [List.drop_append, List.take_append, List.getElem?_append, lay, hC_length, ints_length, ints_drop, ints_take, ints_append, List.drop_of_length_le, List.take_of_length_le, List.map_append, List.set_append, Value.cells]; done)))); intro q39 hq39)
    | ((with_reducible apply Sy.dld); (· first | exact wantY_none); exact rfl; (· first | omega); exact rfl))
    rw [hLm, bufV_ne (msgB_ne m), bufM_ne (msgB_ne m)]
    have g6 : Gl H6 := (g1 (List.forall_mem_nil _)).kp hkp (fun x => by rcases x with x | ⟨_, x⟩; have := g.next2; omega; exact x rfl) (fun x => by rcases x with x | ⟨_, x⟩; have := g.next2; omega; exact x rfl)
    repeat' (first
    | (with_reducible refine Sy.nrm ?_)
    | ((with_reducible apply Sy.st0a (t := 44)); exact rfl; exact rfl; exact sz44; (· first | exact hC_length _ | (simp; done)); (· first | exact hC_one _); (· with_reducible assumption); exact notM; (· first | (simp; done)); (· first | exact lay_all (by first | (simp; done))))
    | ((with_reducible apply Sy.dcall0 (k := 56)); (first | exact wantY_none); exact rfl; (intro h hh; first | exact hh); exact rfl; exact rfl; exact rfl; exact en56; exact rfl; (intro H' hp; exact c_Tagged (wayB true) (by decide) (by decide) _ 1 1 _ _ _ H' (g6.of hp (List.forall_mem_nil _)) (hp.getN hasT) [msgB m] rfl (by decide) (slr_single (full_slr hp hasT)) (frame1_lt (by decide) (by omega)) (by simp; omega) (by simpa using hL256)))
    | ((with_reducible apply Sy.dcall0 (k := 56)); (first | exact wantY_none); exact rfl; (intro h hh; first | exact hh); exact rfl; exact rfl; exact rfl; exact en56; exact rfl; (intro H' hp; exact c_Tagged (wayB false) (by decide) (by decide) _ 1 1 _ _ _ H' (g6.of hp (List.forall_mem_nil _)) (hp.getN hasT) [msgB m] rfl (by decide) (slr_single (full_slr hp hasT)) (frame1_lt (by decide) (by omega)) (by simp; omega) (by simpa using hL256)))
    | ((with_reducible apply Sy.dnew (o := ⟨some 37, .buildSlice 113 _ _, _, _, _, _⟩)); (· first | exact wantY_none); exact rfl; exact rfl; exact rfl; exact rfl; exact rfl; exact (nbs2 Tryd.underlying113 sz25 zr25 rfl (by decide) rfl rfl rfl); intro q37 hq37)
    | ((with_reducible apply Sy.dnew (o := ⟨some 37, .buildSlice 113 _ _, _, _, _, _⟩)); (· first | exact wantY_none); exact rfl; exact rfl; exact rfl; exact rfl; exact rfl; (· exact (newY_bs Tryd.underlying113 sz25 zr25 rfl (by decide) rfl (by first | rfl | (simp [List.drop_append, List.take_append, List.getElem?_append, lay, hC_length, ints_length, ints_drop, ints_take, ints_append, List.drop_of_length_le, List.take_of_length_le, List.map_append, List.set_append, Value.cells]; done)))); intro q37 hq37)
    | ((with_reducible apply Sy.dnew (o := ⟨some 39, .buildSlice 113 _ _, _, _, _, _⟩)); (· first | exact wantY_none); exact rfl; exact rfl; exact rfl; exact rfl; exact rfl; exact (nbs1 Tryd.underlying113 sz25 zr25 rfl (by decide) rfl rfl); intro q39 hq39)
    | ((with_reducible apply Sy.dnew (o := ⟨some 39, .buildSlice 113 _ _, _, _, _, _⟩)); (· first | exact wantY_none); exact rfl; exact rfl; exact rfl; exact rfl; exact rfl; (· exact (newY_bs Tryd.underlying113 sz25 zr25 rfl (by decide) rfl (by first | rfl | (simp [List.drop_append, List.take_append, List.getElem?_append, lay, hC_length, ints_length, ints_drop, ints_take, ints_append, List.drop_of_length_le, List.take_of_length_le, List.map_append, List.set_append, Value.cells]; done)))); intro q39 hq39)
    | (with_reducible refine Sy.ret ?_)
    | (with_reducible refine Sy.dend ?_)
    | ((with_reducible apply Sy.dgo); (· first | exact wantY_none); (· intro hcls; cases hcls); exact rfl; exact rfl))
    exact Sy.finO (h := q4) (v := hV (hashM _ m)) rfl (.inr rfl) rfl (by repeat (first | exact Has.here | apply Has.there | apply Has.app)) (ld_hV ag44 sz44) fun H' hq => ⟨rfl, kp_end hp hkp hq hpn h4n⟩)
end Go.Proofs.YtjimjolfnimimaaDoor

/- Layer 09: the reference's Hash. -/
namespace Go.Proofs.YtjimjolfnimimaaDoor
open Go Go.Am
set_option maxRecDepth 100000
set_option linter.unusedVariables false

theorem msgB_lt {m : Msg} (ho : m.ok) : ∀ x ∈ msgB m, x < 256 := by
  intro x hx
  simp only [msgB, List.mem_append] at hx
  rcases hx with hx | hx | hx | hx
  · exact u64s_lt _ x hx
  · exact be256_lt _ x hx
  · exact be64_lt _ x hx
  · exact blobN_lt ho.d x hx
end Go.Proofs.YtjimjolfnimimaaDoor

/- Layer 09: what must come. -/
namespace Go.Proofs.YtjimjolfnimimaaDoor
open Go Go.Am
set_option maxRecDepth 100000
set_option linter.unusedVariables false

def tx1C : List Value := [.int .i64 ((1 : Nat) : Int), .int .u64 ((0 : Nat) : Int), .int .u64 ((0 : Nat) : Int), .int .u64 ((0 : Nat) : Int)] ++ (ints .u64 (List.replicate 4 0) ++ [.int .u64 ((0 : Nat) : Int), .slice none 0 0])
theorem bvTx1 : buildV Tryd.prog 85 [(0, .int .i64 ((1 : Nat) : Int))] = some (.agg ⟨tx1C⟩) := bv85 rfl
theorem k_right1 (H : AHeap) : CallR Tryd.prog noPrims 89 [.agg ⟨tx1C⟩] H (fun u H' => u = .bool true ∧ Hp H 0 0 H' [] []) := by
  refine CallR.sy (n := 59) Tryd.func89 rfl rfl rfl ?_
  repeat' (first
    | (with_reducible refine Sy.seq ?_)
    | (with_reducible refine Sy.regionL ?_)
    | (with_reducible refine Sy.opsnil ?_)
    | (with_reducible refine Sy.go ?_)
    | (with_reducible refine Sy.nrm ?_)
    | ((with_reducible apply Sy.assign); exact rfl; exact rfl)
    | ((with_reducible apply Sy.fa (t := 85) (i := 5)); exact rfl; exact rfl; exact fa85_5 _ _)
    | ((with_reducible apply Sy.ldN (t := 22)); exact rfl; exact rfl; exact hasT; (· first | exact ld_one ag22 rfl))
    | ((with_reducible apply Sy.bin (op := .gtr) (t := 22)); exact rfl; exact rfl; exact rfl; exact b_gtr)
    | ((with_reducible apply Sy.bin (op := .gtr) (t := 22)); exact rfl; exact rfl; exact rfl; exact bz_gtr)
    | ((with_reducible apply Sy.move); exact rfl; exact rfl)
    | ((with_reducible apply Sy.fa (t := 85) (i := 6)); exact rfl; exact rfl; exact fa85_6 _ _)
    | ((with_reducible apply Sy.ldN (t := 25)); exact rfl; exact rfl; exact hasT; (· first | exact ld_one ag25 rfl))
    | ((with_reducible apply Sy.lenS); exact rfl; exact Tryd.underlying25; exact rfl)
    | ((with_reducible apply Sy.bin (op := .gtr) (t := 3)); exact rfl; exact rfl; exact rfl; exact b_gtr)
    | ((with_reducible apply Sy.bin (op := .gtr) (t := 3)); exact rfl; exact rfl; exact rfl; exact bz_gtr)
    | ((with_reducible apply Sy.pickT); exact rfl; exact rfl; exact rfl)
    | ((with_reducible apply Sy.pickF); exact rfl; exact rfl; exact rfl)
    | ((with_reducible apply Sy.fa (t := 85) (i := 0)); exact rfl; exact rfl; exact fa85_0 _ _)
    | ((with_reducible apply Sy.ldN (t := 3)); exact rfl; exact rfl; exact hasT; (· first | exact ld_one ag3 rfl))
    | ((with_reducible apply Sy.bin (op := .eql) (t := 3)); exact rfl; exact rfl; exact rfl; exact b_eql)
    | ((with_reducible apply Sy.bin (op := .eql) (t := 3)); exact rfl; exact rfl; exact rfl; exact bz_eql)
    | ((with_reducible apply Sy.bin (op := .eql) (t := 22)); exact rfl; exact rfl; exact rfl; exact b_eql)
    | ((with_reducible apply Sy.bin (op := .eql) (t := 22)); exact rfl; exact rfl; exact rfl; exact bz_eql)
    | ((with_reducible apply Sy.bin (op := .eql) (t := 32)); exact rfl; exact rfl; exact rfl; exact b_eql)
    | ((with_reducible apply Sy.bin (op := .eql) (t := 32)); exact rfl; exact rfl; exact rfl; exact bz_eql)
    | ((with_reducible apply Sy.fa (t := 85) (i := 3)); exact rfl; exact rfl; exact fa85_3 _ _)
    | ((with_reducible apply Sy.fa (t := 85) (i := 4)); exact rfl; exact rfl; exact fa85_4 _ _)
    | ((with_reducible apply Sy.ldN (t := 24)); exact rfl; exact rfl; exact hasT; (· first | exact ld_all ag24 (by first | exact sz24 | (simp [sz24, *]; done)) | exact ld_agg ag24 sz24 (by first | (simp; done) | (simp; omega)) (by first | with_reducible exact cut_kids | rfl | (simp [List.drop_append, List.take_append, List.getElem?_append, lay, hC_length, ints_length, ints_drop, ints_take, ints_append, List.drop_of_length_le, List.take_of_length_le, List.map_append, List.set_append, Value.cells]; done))))
    | ((with_reducible apply Sy.bin (op := .eql) (t := 24)); exact rfl; exact rfl; exact rfl; (· exact (eq24 (by first | rfl | assumption | (simp; done)) (by first | rfl | assumption | (simp; done)))))
    | ((with_reducible apply Sy.newY (o := ⟨some 1, .box 85 _, _, _, _, _⟩)); exact rfl; exact rfl; exact nbA rfl; intro q1)
    | (with_reducible refine Sy.ret ?_)
    | (with_reducible refine Sy.block ?_)
    | (with_reducible refine Sy.aret ?_)
    | (with_reducible refine Sy.iret ?_)
    | ((with_reducible apply Sy.yes); exact rfl)
    | ((with_reducible apply Sy.no); exact rfl)
    | ((with_reducible apply Sy.goG); exact rfl; exact rfl; exact rfl))
  exact .fin [_] (.inr rfl) ⟨rfl, trivial⟩ fun H' hp => ⟨rfl, hp.less (List.nil_sublist _)⟩
theorem k_RightTx1 (H : AHeap) : CallR Tryd.prog noPrims 43 [.agg ⟨tx1C⟩] H (fun u H' => u = .bool true ∧ Hp H 0 0 H' [] []) := by
  refine CallR.sy (n := 5) Tryd.func43 rfl rfl rfl ?_
  repeat' (first
    | (with_reducible refine Sy.seq ?_)
    | (with_reducible refine Sy.regionL ?_)
    | (with_reducible refine Sy.opsnil ?_)
    | (with_reducible refine Sy.go ?_)
    | (with_reducible refine Sy.nrm ?_)
    | ((with_reducible apply Sy.assign); exact rfl; exact rfl)
    | ((with_reducible apply Sy.ldN (t := 85)); exact rfl; exact rfl; exact hasT; (· first | exact ld_all ag85 (by first | exact sz85)))
    | ((with_reducible apply Sy.call0 (k := 89)); exact rfl; exact rfl; exact en89; exact rfl; (intro H' hp; exact k_right1 H'))
    | ((with_reducible apply Sy.newY (o := ⟨some 1, .box 85 _, _, _, _, _⟩)); exact rfl; exact rfl; exact nbA rfl; intro q1)
    | (with_reducible refine Sy.ret ?_))
  exact .fin [_] (.inr rfl) ⟨rfl, trivial⟩ fun H' hp => ⟨rfl, hp.less (List.nil_sublist _)⟩
theorem zeroM_ok : zeroM.ok := ⟨by decide, by decide, by decide, by decide, by simp [zeroM]⟩
theorem put0 : putM zeroM = (msgB zeroM, 0) := by kernel_rfl
theorem get0 : getM (msgB zeroM) = (zeroM, 0) := by kernel_rfl
end Go.Proofs.YtjimjolfnimimaaDoor

/- Layer 09: knows. -/
namespace Go.Proofs.YtjimjolfnimimaaDoor
open Go Go.Am
set_option maxRecDepth 100000
set_option linter.unusedVariables false

theorem c_put0 (H : AHeap) : CallR Tryd.prog noPrims 12 [msgV zeroM (.slice none 0 0)] H (fun u H' => ∃ i : Nat × Value, Vw i.1 (msgB zeroM) i.2 (msgB zeroM) ∧ u = .tuple ⟨[i.2, .int .i64 ((0 : Nat) : Int)]⟩ ∧ Hp H 0 0 H' [] [(i.1, .cells (ints .u8 (msgB zeroM)) 5 true)]) := by
  have h := k_PutMessage zeroM none 0 H zeroM_ok .nil (by decide)
  rw [put0] at h
  exact h.mono fun u H' ⟨i, h1, h2, h3⟩ => ⟨i, h1, h2, by rwa [bufM_ne (msgB_ne _)] at h3⟩
theorem c_get0 (v : Value) (H : AHeap) (hv : SlR H 1 v (msgB zeroM).length (ints .u8 (msgB zeroM))) : CallR Tryd.prog noPrims 14 [v] H (fun u H' => ∃ i : Nat × Option Addr × Nat, Vw i.1 (msgB zeroM) (.slice i.2.1 0 i.2.2) [] ∧ u = .tuple ⟨[msgV zeroM (.slice i.2.1 0 i.2.2), .int .i64 ((0 : Nat) : Int)]⟩ ∧ Hp H 0 0 H' [] [(i.1, .cells (ints .u8 (msgB zeroM)) 5 true)]) := by
  have h := k_GetMessage v (msgB zeroM) H hv (msgB_lt zeroM_ok) (by rw [msgB_length]; decide)
  rw [get0] at h
  refine h.mono fun u H' ⟨i, h1, h2, h3⟩ => ?_
  rw [bufM_ne (msgB_ne _)] at h3
  obtain ⟨a, c, e⟩ := h1.slice
  refine ⟨(i.1, a, c), ?_, ?_, h3⟩
  · rw [e] at h1; exact h1
  · rw [h2, e]; rfl
set_option maxHeartbeats 2000000 in
theorem c_knows9 (H : AHeap) (g : Gl H) : CallR Tryd.prog noPrims 9 [] H (fun u H' => u = .bool true ∧ Hp H 0 0 H' [] []) := by
  have hgm := msgC_g zeroM
  refine CallR.sy (n := 42) Tryd.func9 rfl rfl rfl ?_
  repeat' (first
    | (with_reducible refine Sy.seq ?_)
    | (with_reducible refine Sy.regionL ?_)
    | (with_reducible refine Sy.opsnil ?_)
    | (with_reducible refine Sy.go ?_)
    | (with_reducible refine Sy.nrm ?_)
    | ((with_reducible refine Sy.build (t := 30) (ps := #[]) rfl rfl bvMsg0 ?_))
    | ((with_reducible apply Sy.assign); exact rfl; exact rfl)
    | ((with_reducible apply Sy.move); exact rfl; exact rfl)
    | ((with_reducible apply Sy.ext); exact rfl; exact rfl; exact rfl)
    | ((with_reducible apply Sy.callN (k := 12)); exact rfl; exact rfl; exact en12; exact rfl; (intro H' hp; exact c_put0 H'); rintro ⟨c, v1⟩ h1))
  dsimp only at h1 ⊢
  repeat' (first
    | (with_reducible refine Sy.seq ?_)
    | (with_reducible refine Sy.opsnil ?_)
    | (with_reducible refine Sy.go ?_)
    | (with_reducible refine Sy.nrm ?_)
    | ((with_reducible apply Sy.assign); exact rfl; exact rfl)
    | ((with_reducible apply Sy.move); exact rfl; exact rfl)
    | ((with_reducible apply Sy.ext); exact rfl; exact rfl; exact rfl)
    | ((with_reducible apply Sy.stNa (t := 30)); exact rfl; exact rfl; exact sz30; (· first | exact rfl | (simp; done)); (· first | exact rfl); exact turnT; (· first | (simp; done)); (· first | exact lay_all (by first | (simp; done)) | exact rfl))
    | ((with_reducible apply Sy.callN (k := 14)); exact rfl; exact rfl; exact en14; exact rfl; (intro H' hp; exact c_get0 _ H' (h1.slr (hp.getN hasT))); rintro ⟨c2, ua, uc⟩ h2)
    | ((with_reducible apply Sy.newY (o := ⟨some 3, .alloc 30, _, _, _, _⟩)); exact rfl; exact rfl; exact nwz30; intro q3)
    | ((with_reducible apply Sy.drawL (id := 3) 28 [(19, 18)] (fun hi h => h < hi)); (case hp => kernel_rfl); (case hN => exact rfl); intro base hbase hM; try simp only [List.forall_mem_cons, List.forall_mem_append, List.not_mem_nil, false_implies, implies_true, and_true] at hM)
    | ((with_reducible apply Sy.dgo); (· first | exact wantY_none); (· intro hcls; cases hcls); exact rfl; exact rfl))
  dsimp only at h2 ⊢
  have hgm2 : (msgC zeroM (Value.slice ua 0 uc))[7]? = some (.int .u64 ((0 : Nat) : Int)) := hgm _
  obtain ⟨va, vc, rfl⟩ := h1.slice
  have hl72 : (msgB zeroM).length = 72 := by rw [msgB_length]; rfl
  rw [hl72]
  repeat' (first
    | (with_reducible refine Sy.nrm ?_)
    | ((with_reducible refine Sy.build (t := 85) rfl rfl bvTx1 ?_))
    | ((with_reducible apply Sy.assign); exact rfl; exact rfl)
    | ((with_reducible apply Sy.move); exact rfl; exact rfl)
    | ((with_reducible apply Sy.bin (op := .add) (t := 3)); exact rfl; exact rfl; exact rfl; exact (b_add (by omega)))
    | ((with_reducible apply Sy.bin (op := .add) (t := 3)); exact rfl; exact rfl; exact rfl; exact (bz_add (by omega) (by omega)))
    | ((with_reducible apply Sy.bin (op := .eql) (t := 3)); exact rfl; exact rfl; exact rfl; exact b_eql)
    | ((with_reducible apply Sy.bin (op := .eql) (t := 3)); exact rfl; exact rfl; exact rfl; exact bz_eql)
    | ((with_reducible apply Sy.lenS); exact rfl; exact Tryd.underlying25; exact rfl)
    | ((with_reducible apply Sy.pickT); exact rfl; exact rfl; exact rfl)
    | ((with_reducible apply Sy.fa (t := 30) (i := 4)); exact rfl; exact rfl; exact fa30_4 _ _)
    | ((with_reducible apply Sy.ldN (t := 22)); exact rfl; exact rfl; exact hasT; (· first | exact ld_one ag22 rfl))
    | ((with_reducible apply Sy.bin (op := .eql) (t := 22)); exact rfl; exact rfl; exact rfl; exact b_eql)
    | ((with_reducible apply Sy.bin (op := .eql) (t := 22)); exact rfl; exact rfl; exact rfl; exact bz_eql)
    | ((with_reducible apply Sy.ldN (t := 30)); exact rfl; exact rfl; exact hasT; (· first | exact ld_all ag30 (by first | exact sz30)))
    | ((with_reducible apply Sy.bin (op := .neq) (t := 44)); exact rfl; exact rfl; exact rfl; exact ne44)
    | ((with_reducible apply Sy.call0 (k := 20)); exact rfl; exact rfl; exact en20; exact rfl; (intro H' hp; exact k_lNum _ H'))
    | ((with_reducible apply Sy.dcall0 (k := 20)); (first | exact wantY_none | exact wantY_some rfl rfl rfl); exact rfl; (intro h hh; first | exact hh); exact rfl; exact rfl; exact rfl; exact en20; exact rfl; (intro H' hp; exact k_lNum _ H'))
    | ((with_reducible apply Sy.call0 (k := 43)); exact rfl; exact rfl; exact en43; exact rfl; (intro H' hp; exact k_RightTx1 H'))
    | ((with_reducible apply Sy.dcall0 (k := 43)); (first | exact wantY_none | exact wantY_some rfl rfl rfl); exact rfl; (intro h hh; first | exact hh); exact rfl; exact rfl; exact rfl; exact en43; exact rfl; (intro H' hp; exact k_RightTx1 H'))
    | ((with_reducible apply Sy.call0 (k := 18)); exact rfl; exact rfl; exact en18; exact rfl; (intro H' hp; exact k_Hash true zeroM ua uc H' (g.of hp (List.forall_mem_nil _)) zeroM_ok (h2.slr (hp.getN hasT)) (by decide)))
    | ((with_reducible apply Sy.dcall0 (k := 18)); (first | exact wantY_none | exact wantY_some rfl rfl rfl); exact rfl; (intro h hh; first | exact hh); exact rfl; exact rfl; exact rfl; exact en18; exact rfl; (intro H' hp; exact k_Hash true zeroM ua uc H' (g.of hp (List.forall_mem_nil _)) zeroM_ok (h2.slr (hp.getN hasT)) (by decide)))
    | ((with_reducible apply Sy.call0 (k := 18)); exact rfl; exact rfl; exact en18; exact rfl; (intro H' hp; exact k_Hash false zeroM ua uc H' (g.of hp (List.forall_mem_nil _)) zeroM_ok (h2.slr (hp.getN hasT)) (by decide)))
    | ((with_reducible apply Sy.dcall0 (k := 18)); (first | exact wantY_none | exact wantY_some rfl rfl rfl); exact rfl; (intro h hh; first | exact hh); exact rfl; exact rfl; exact rfl; exact en18; exact rfl; (intro H' hp; exact k_Hash false zeroM ua uc H' (g.of hp (List.forall_mem_nil _)) zeroM_ok (h2.slr (hp.getN hasT)) (by decide)))
    | (with_reducible refine Sy.ret ?_)
    | (with_reducible refine Sy.dend ?_)
    | ((with_reducible apply Sy.dgo); (· first | exact wantY_none | exact wantY_some rfl rfl rfl); (· intro hcls; cases hcls); exact rfl; exact rfl)
    | ((with_reducible apply Sy.dld); (· first | exact wantY_some rfl rfl rfl); exact rfl; (· first | omega); exact rfl))
  exact .fin [_] (.inr rfl) ⟨rfl, trivial⟩ fun H' hp => ⟨rfl, hp.less (List.nil_sublist _)⟩
end Go.Proofs.YtjimjolfnimimaaDoor

/- Layer 09: MessageBytes. -/
namespace Go.Proofs.YtjimjolfnimimaaDoor
open Go Go.Am
set_option maxRecDepth 100000
set_option linter.unusedVariables false

theorem k_GetMessage' (v : Value) (l : List Nat) (G : Msg × Nat) (H : AHeap) (hG : getM l = G) (hv : SlR H 1 v l.length (ints .u8 l)) (h256 : ∀ x ∈ l, x < 256) (hl : l.length ≤ 140737488355328) :
    CallR Tryd.prog noPrims 14 [v] H (fun u H' => ∃ i : Nat × Option Addr × Nat, Vw i.1 l (.slice i.2.1 G.1.d.length i.2.2) G.1.d ∧ u = .tuple ⟨[msgV G.1 (.slice i.2.1 G.1.d.length i.2.2), .int .i64 ((G.2 : Nat) : Int)]⟩ ∧ Hp H 0 0 H' [] (bufM l i.1)) := by
  subst hG
  exact (k_GetMessage v l H hv h256 hl).mono fun u H' ⟨i, h1, h2, h3⟩ => by
    obtain ⟨a, c, e⟩ := h1.slice
    exact ⟨(i.1, a, c), by rw [← e]; exact h1, by rw [← e]; exact h2, h3⟩
theorem k_PutMessage' (m : Msg) (a : Option Addr) (k : Nat) (P : List Nat × Nat) (H : AHeap) (hP : putM m = P) (ho : m.ok) (hv : SlR H 1 (.slice a m.d.length k) m.d.length (ints .u8 m.d)) (hl : m.d.length < 9223372036854775808) :
    CallR Tryd.prog noPrims 12 [msgV m (.slice a m.d.length k)] H (fun u H' => ∃ i : Nat × Option Addr × Nat, Vw i.1 P.1 (.slice i.2.1 P.1.length i.2.2) P.1 ∧ u = .tuple ⟨[.slice i.2.1 P.1.length i.2.2, .int .i64 ((P.2 : Nat) : Int)]⟩ ∧ Hp H 0 0 H' [] (bufM P.1 i.1)) := by
  subst hP
  exact (k_PutMessage m a k H ho hv hl).mono fun u H' ⟨i, h1, h2, h3⟩ => by
    obtain ⟨a, c, e⟩ := h1.slice
    exact ⟨(i.1, a, c), by rw [← e]; exact h1, by rw [← e]; exact h2, h3⟩
end Go.Proofs.YtjimjolfnimimaaDoor
