/- The laws copies of messages. -/
import Derived.Test.YtcaafoibabijgaaMsgA
import Derived.Test.YtcaafoibabijgaaWalkB
import Derived.Test.YtcaafoibabijgaaValue
set_option linter.unusedSimpArgs false
set_option linter.unusedVariables false
/- Layer 09: the statements' copies, the same message, bytes that are lent. -/
namespace Go.Proofs.Ytcaafoibabijgaa
open Go Go.Am
set_option maxRecDepth 100000
set_option linter.unusedVariables false

open MsgN in
theorem k_lMessage (m : Msg) (a : Option Addr) (k : Nat) (H : AHeap) (ho : m.ok) (hv : SlR H 1 (.slice a m.d.length k) m.d.length (ints .u8 m.d)) (hl : m.d.length ≤ 1000000) :
    CallR Try.prog noPrims 42 [msgV m (.slice a m.d.length k)] H (fun u H' => ∃ i : Nat × Nat, True ∧ u = msgV m (.slice (some ⟨i.1, 0, none⟩) m.d.length i.2) ∧ Hp H 0 0 H' [] [(i.1, .cells (ints .u8 m.d) 5 true)]) := by
  by_cases h0 : m.d = []
  · obtain ⟨n, s, t, w, g, d⟩ := m
    dsimp only at h0 hv hl ⊢
    subst h0
    have hv0 : SlR H 1 (.slice a 0 k) 0 [] := hv
    have hmg := msgC_g ⟨n, s, t, w, g, []⟩ (.slice a 0 k)
    have hmd := msgC_d ⟨n, s, t, w, g, []⟩ (.slice a 0 k)
    refine CallR.sy (n := 18) Try.func42 rfl rfl rfl ?_
    show Sy _ _ _ _ (envOf 0 [msgV ⟨n, s, t, w, g, []⟩ (.slice a 0 k)]) _ _ _
    repeat' (first
    | (with_reducible refine Sy.seq ?_)
    | (with_reducible refine Sy.regionL ?_)
    | (with_reducible refine Sy.opsnil ?_)
    | (with_reducible refine Sy.go ?_)
    | (with_reducible refine Sy.nrm ?_)
    | ((with_reducible apply Sy.drawL (id := 1) 16 [(1, 13), (3, 13), (5, 13), (7, 13), (9, 13)] (fun hi h => h = q1)); (case hp => kernel_rfl); (case hN => exact rfl); intro base hbase hM; try simp only [List.forall_mem_cons, List.forall_mem_append, List.not_mem_nil, false_implies, implies_true, and_true] at hM)
    | ((with_reducible apply Sy.appZ (t := 23) (xt := 23)); exact (ap23_23 zr5 rfl); exact rfl; exact rfl; exact rfl; exact .inl ⟨_, _, _, _, rfl⟩; exact SrcY.ofR (by with_reducible assumption) rfl; exact rfl)
    | ((with_reducible apply Sy.fa (t := 66) (i := 0)); exact rfl; exact rfl; exact fa66_0 _ _)
    | ((with_reducible apply Sy.ldN (t := 53)); exact rfl; exact rfl; exact hasT; (· first | exact ld_one ag53 rfl | exact ld_one ag53 (by with_reducible assumption)))
    | ((with_reducible apply Sy.fa (t := 66) (i := 1)); exact rfl; exact rfl; exact fa66_1 _ _)
    | ((with_reducible apply Sy.fa (t := 66) (i := 2)); exact rfl; exact rfl; exact fa66_2 _ _)
    | ((with_reducible apply Sy.fa (t := 66) (i := 3)); exact rfl; exact rfl; exact fa66_3 _ _)
    | ((with_reducible apply Sy.ldN (t := 55)); exact rfl; exact rfl; exact hasT; (· first | exact ld_agg ag55 sz55 (by first | (simp; done)) (by first | with_reducible exact cut_kids)))
    | ((with_reducible apply Sy.fa (t := 66) (i := 4)); exact rfl; exact rfl; exact fa66_4 _ _)
    | ((with_reducible apply Sy.fa (t := 66) (i := 5)); exact rfl; exact rfl; exact fa66_5 _ _)
    | ((with_reducible apply Sy.ldN (t := 23)); exact rfl; exact rfl; exact hasT; (· first | exact ld_one ag23 rfl | exact ld_one ag23 (by with_reducible assumption)))
    | ((with_reducible apply Sy.dwr); (case hw => first | exact wantY_none); (case hc => intro hcls; cases hcls); (case h1 => exact rfl); (case hk => exact .consN (b := q1) hasT .nil); (case hS => intro h hh; subst hh; exact ⟨_, List.mem_singleton.2 rfl⟩))
    | ((with_reducible apply Sy.dand); (case hk => exact .consN (b := q1) hasT .nil))
    | ((with_reducible apply Sy.newY (o := ⟨some 1, .box 66 _, _, _, _, _⟩)); exact rfl; exact rfl; exact nbA rfl; intro q1)
    | ((with_reducible apply Sy.newY (o := ⟨some 2, .alloc 57, _, _, _, _⟩)); exact rfl; exact rfl; exact nwz57; intro q2)
    | ((with_reducible apply Sy.dnew (o := ⟨some 13, .buildSlice 23 _ _, _, _, _, _⟩)); (· first | exact wantY_none); exact rfl; exact rfl; exact rfl; exact rfl; exact rfl; exact (nbs0 Try.underlying23 sz5 zr5 rfl (by decide) rfl); intro q13 hq13)
    | ((with_reducible apply Sy.dnew (o := ⟨some 13, .buildSlice 23 _ _, _, _, _, _⟩)); (· first | exact wantY_none); exact rfl; exact rfl; exact rfl; exact rfl; exact rfl; (· exact (newY_bs Try.underlying23 sz5 zr5 rfl (by decide) rfl (by first | rfl | (simp [List.drop_append, List.take_append, List.getElem?_append, lay, hC_length, ints_length, ints_drop, ints_take, ints_append, List.drop_of_length_le, List.take_of_length_le, List.map_append, List.set_append, Value.cells]; done)))); intro q13 hq13)
    | ((with_reducible apply Sy.dld); (· first | exact wantY_none); exact rfl; (· first | omega); exact rfl))
    refine Sy.build (t := 57) rfl rfl (bvMsg (m := ⟨n, s, t, w, g, []⟩) rfl) ?_
    repeat' (first
    | (with_reducible refine Sy.nrm ?_)
    | ((with_reducible apply Sy.stNa (t := 57)); exact rfl; exact rfl; exact sz57; (· first | (simp; done)); (· first | (simp [oneL_append, oneL_cons, oneL_nil, hC_one, oneL_ints]; done)); exact turnT; (· first | (simp; done)); (· first | exact lay_all (by first | (simp; done))))
    | ((with_reducible apply Sy.dwr); (case hw => first | exact wantY_none); (case hc => intro hcls; cases hcls); (case h1 => exact rfl); (case hk => exact .consN (b := q1) hasT .nil); (case hS => intro h hh; subst hh; exact ⟨_, List.mem_singleton.2 rfl⟩))
    | ((with_reducible apply Sy.dand); (case hk => exact .consN (b := q1) hasT .nil))
    | (with_reducible refine Sy.ret ?_)
    | (with_reducible refine Sy.dend ?_))
    exact .fin [msgV ⟨n, s, t, w, g, []⟩ _] (.inr rfl) ⟨⟨_, _, _, rfl, (by repeat (first | exact Has.here | apply Has.there | apply Has.app)), ld_mall⟩, trivial⟩ fun H' hp => ⟨(q13, 0), trivial, rfl, hp.less (.cons_cons _ (List.nil_sublist _))⟩
  · have hmg := msgC_g m (.slice a m.d.length k)
    have hmd := msgC_d m (.slice a m.d.length k)
    have hne : m.d.length ≠ 0 := fun e => h0 (List.length_eq_zero_iff.1 e)
    refine CallR.sy (n := 18) Try.func42 rfl rfl rfl ?_
    repeat' (first
    | (with_reducible refine Sy.seq ?_)
    | (with_reducible refine Sy.regionL ?_)
    | (with_reducible refine Sy.opsnil ?_)
    | (with_reducible refine Sy.go ?_)
    | (with_reducible refine Sy.nrm ?_)
    | ((with_reducible apply Sy.drawL (id := 1) 16 [(1, 13), (3, 13), (5, 13), (7, 13), (9, 13)] (fun hi h => h = q1)); (case hp => kernel_rfl); (case hN => exact rfl); intro base hbase hM; try simp only [List.forall_mem_cons, List.forall_mem_append, List.not_mem_nil, false_implies, implies_true, and_true] at hM)
    | ((with_reducible apply Sy.fa (t := 66) (i := 0)); exact rfl; exact rfl; exact fa66_0 _ _)
    | ((with_reducible apply Sy.ldN (t := 53)); exact rfl; exact rfl; exact hasT; (· first | exact ld_one ag53 rfl | exact ld_one ag53 (by with_reducible assumption)))
    | ((with_reducible apply Sy.fa (t := 66) (i := 1)); exact rfl; exact rfl; exact fa66_1 _ _)
    | ((with_reducible apply Sy.fa (t := 66) (i := 2)); exact rfl; exact rfl; exact fa66_2 _ _)
    | ((with_reducible apply Sy.fa (t := 66) (i := 3)); exact rfl; exact rfl; exact fa66_3 _ _)
    | ((with_reducible apply Sy.ldN (t := 55)); exact rfl; exact rfl; exact hasT; (· first | exact ld_agg ag55 sz55 (by first | (simp; done)) (by first | with_reducible exact cut_kids)))
    | ((with_reducible apply Sy.fa (t := 66) (i := 4)); exact rfl; exact rfl; exact fa66_4 _ _)
    | ((with_reducible apply Sy.fa (t := 66) (i := 5)); exact rfl; exact rfl; exact fa66_5 _ _)
    | ((with_reducible apply Sy.ldN (t := 23)); exact rfl; exact rfl; exact hasT; (· first | exact ld_one ag23 rfl | exact ld_one ag23 (by with_reducible assumption)))
    | ((with_reducible apply Sy.appFN (t := 23) (xt := 23)); exact ap23_23 zr5 rfl; exact rfl; exact rfl; exact rfl; (· first | exact SrcY.ofR (by with_reducible assumption) rfl); (· first | exact oneL_ints _ _ | exact rfl); (· first | omega); (· first | omega); exact hasT; (· first | omega); (· first | exact rfl); (· first | exact rfl); intro q16)
    | ((with_reducible apply Sy.dwr); (case hw => first | exact wantY_none); (case hc => intro hcls; cases hcls); (case h1 => exact rfl); (case hk => exact .consN (b := q1) hasT .nil); (case hS => intro h hh; subst hh; exact ⟨_, List.mem_singleton.2 rfl⟩))
    | ((with_reducible apply Sy.dand); (case hk => exact .consN (b := q1) hasT .nil))
    | ((with_reducible apply Sy.newY (o := ⟨some 1, .box 66 _, _, _, _, _⟩)); exact rfl; exact rfl; exact nbA rfl; intro q1)
    | ((with_reducible apply Sy.newY (o := ⟨some 2, .alloc 57, _, _, _, _⟩)); exact rfl; exact rfl; exact nwz57; intro q2)
    | ((with_reducible apply Sy.dnew (o := ⟨some 13, .buildSlice 23 _ _, _, _, _, _⟩)); (· first | exact wantY_none); exact rfl; exact rfl; exact rfl; exact rfl; exact rfl; exact (nbs0 Try.underlying23 sz5 zr5 rfl (by decide) rfl); intro q13 hq13)
    | ((with_reducible apply Sy.dnew (o := ⟨some 13, .buildSlice 23 _ _, _, _, _, _⟩)); (· first | exact wantY_none); exact rfl; exact rfl; exact rfl; exact rfl; exact rfl; (· exact (newY_bs Try.underlying23 sz5 zr5 rfl (by decide) rfl (by first | rfl | (simp [List.drop_append, List.take_append, List.getElem?_append, lay, hC_length, ints_length, ints_drop, ints_take, ints_append, List.drop_of_length_le, List.take_of_length_le, List.map_append, List.set_append, Value.cells]; done)))); intro q13 hq13)
    | ((with_reducible apply Sy.dld); (· first | exact wantY_none); exact rfl; (· first | omega); exact rfl))
    refine Sy.build (t := 57) rfl rfl (bvMsg (m := m) (by first | rfl | exact (CopyV.one (by assumption)))) ?_
    rw [Nat.zero_add m.d.length, show List.take (0 * 1) (List.drop 0 ([] : List Value)) ++ ints .u8 m.d = ints .u8 m.d by simp]
    repeat' (first
    | (with_reducible refine Sy.nrm ?_)
    | ((with_reducible apply Sy.stNa (t := 57)); exact rfl; exact rfl; exact sz57; (· first | (simp; done)); (· first | (simp [oneL_append, oneL_cons, oneL_nil, hC_one, oneL_ints]; done)); exact turnT; (· first | (simp; done)); (· first | exact lay_all (by first | (simp; done))))
    | ((with_reducible apply Sy.dwr); (case hw => first | exact wantY_none); (case hc => intro hcls; cases hcls); (case h1 => exact rfl); (case hk => exact .consN (b := q1) hasT .nil); (case hS => intro h hh; subst hh; exact ⟨_, List.mem_singleton.2 rfl⟩))
    | ((with_reducible apply Sy.dand); (case hk => exact .consN (b := q1) hasT .nil))
    | (with_reducible refine Sy.ret ?_)
    | (with_reducible refine Sy.dend ?_))
    exact .fin [msgV m (.slice (some ⟨q16, 0, none⟩) m.d.length (m.d.length + 2 + 1))] (.inr rfl) ⟨⟨_, _, _, rfl, (by repeat (first | exact Has.here | apply Has.there | apply Has.app)), ld_mall⟩, trivial⟩ fun H' hp => ⟨(q16, m.d.length + 2 + 1), trivial, rfl, hp.less (.cons_cons _ (List.nil_sublist _))⟩
open MsgN in
theorem k_lRefMessage (m : Msg) (a : Option Addr) (k : Nat) (H : AHeap) (ho : m.ok) (hv : SlR H 1 (.slice a m.d.length k) m.d.length (ints .u8 m.d)) (hl : m.d.length ≤ 1000000) :
    CallR Try.prog noPrims 23 [msgV m (.slice a m.d.length k)] H (fun u H' => ∃ i : Nat × Nat, True ∧ u = msgV m (.slice (some ⟨i.1, 0, none⟩) m.d.length i.2) ∧ Hp H 0 0 H' [] [(i.1, .cells (ints .u8 m.d) 5 true)]) := by
  by_cases h0 : m.d = []
  · obtain ⟨n, s, t, w, g, d⟩ := m
    dsimp only at h0 hv hl ⊢
    subst h0
    have hv0 : SlR H 1 (.slice a 0 k) 0 [] := hv
    have hmg := msgC_g ⟨n, s, t, w, g, []⟩ (.slice a 0 k)
    have hmd := msgC_d ⟨n, s, t, w, g, []⟩ (.slice a 0 k)
    refine CallR.sy (n := 18) Try.func23 rfl rfl rfl ?_
    show Sy _ _ _ _ (envOf 0 [msgV ⟨n, s, t, w, g, []⟩ (.slice a 0 k)]) _ _ _
    repeat' (first
    | (with_reducible refine Sy.seq ?_)
    | (with_reducible refine Sy.regionL ?_)
    | (with_reducible refine Sy.opsnil ?_)
    | (with_reducible refine Sy.go ?_)
    | (with_reducible refine Sy.nrm ?_)
    | ((with_reducible apply Sy.drawL (id := 1) 16 [(1, 13), (3, 13), (5, 13), (7, 13), (9, 13)] (fun hi h => h = q1)); (case hp => kernel_rfl); (case hN => exact rfl); intro base hbase hM; try simp only [List.forall_mem_cons, List.forall_mem_append, List.not_mem_nil, false_implies, implies_true, and_true] at hM)
    | ((with_reducible apply Sy.appZ (t := 23) (xt := 23)); exact (ap23_23 zr5 rfl); exact rfl; exact rfl; exact rfl; exact .inl ⟨_, _, _, _, rfl⟩; exact SrcY.ofR (by with_reducible assumption) rfl; exact rfl)
    | ((with_reducible apply Sy.fa (t := 57) (i := 0)); exact rfl; exact rfl; exact fa57_0 _ _)
    | ((with_reducible apply Sy.ldN (t := 53)); exact rfl; exact rfl; exact hasT; (· first | exact ld_one ag53 rfl | exact ld_one ag53 (by with_reducible assumption)))
    | ((with_reducible apply Sy.fa (t := 57) (i := 1)); exact rfl; exact rfl; exact fa57_1 _ _)
    | ((with_reducible apply Sy.fa (t := 57) (i := 2)); exact rfl; exact rfl; exact fa57_2 _ _)
    | ((with_reducible apply Sy.fa (t := 57) (i := 3)); exact rfl; exact rfl; exact fa57_3 _ _)
    | ((with_reducible apply Sy.ldN (t := 55)); exact rfl; exact rfl; exact hasT; (· first | exact ld_agg ag55 sz55 (by first | (simp; done)) (by first | with_reducible exact cut_kids)))
    | ((with_reducible apply Sy.fa (t := 57) (i := 4)); exact rfl; exact rfl; exact fa57_4 _ _)
    | ((with_reducible apply Sy.fa (t := 57) (i := 5)); exact rfl; exact rfl; exact fa57_5 _ _)
    | ((with_reducible apply Sy.ldN (t := 23)); exact rfl; exact rfl; exact hasT; (· first | exact ld_one ag23 rfl | exact ld_one ag23 (by with_reducible assumption)))
    | ((with_reducible apply Sy.dwr); (case hw => first | exact wantY_none); (case hc => intro hcls; cases hcls); (case h1 => exact rfl); (case hk => exact .consN (b := q1) hasT .nil); (case hS => intro h hh; subst hh; exact ⟨_, List.mem_singleton.2 rfl⟩))
    | ((with_reducible apply Sy.dand); (case hk => exact .consN (b := q1) hasT .nil))
    | ((with_reducible apply Sy.newY (o := ⟨some 1, .box 57 _, _, _, _, _⟩)); exact rfl; exact rfl; exact nbA rfl; intro q1)
    | ((with_reducible apply Sy.newY (o := ⟨some 2, .alloc 66, _, _, _, _⟩)); exact rfl; exact rfl; exact nwz66; intro q2)
    | ((with_reducible apply Sy.dnew (o := ⟨some 13, .buildSlice 23 _ _, _, _, _, _⟩)); (· first | exact wantY_none); exact rfl; exact rfl; exact rfl; exact rfl; exact rfl; exact (nbs0 Try.underlying23 sz5 zr5 rfl (by decide) rfl); intro q13 hq13)
    | ((with_reducible apply Sy.dnew (o := ⟨some 13, .buildSlice 23 _ _, _, _, _, _⟩)); (· first | exact wantY_none); exact rfl; exact rfl; exact rfl; exact rfl; exact rfl; (· exact (newY_bs Try.underlying23 sz5 zr5 rfl (by decide) rfl (by first | rfl | (simp [List.drop_append, List.take_append, List.getElem?_append, lay, hC_length, ints_length, ints_drop, ints_take, ints_append, List.drop_of_length_le, List.take_of_length_le, List.map_append, List.set_append, Value.cells]; done)))); intro q13 hq13)
    | ((with_reducible apply Sy.dld); (· first | exact wantY_none); exact rfl; (· first | omega); exact rfl))
    refine Sy.build (t := 66) rfl rfl (bvRMsg (m := ⟨n, s, t, w, g, []⟩) rfl) ?_
    repeat' (first
    | (with_reducible refine Sy.nrm ?_)
    | ((with_reducible apply Sy.stNa (t := 66)); exact rfl; exact rfl; exact sz66; (· first | (simp; done)); (· first | (simp [oneL_append, oneL_cons, oneL_nil, hC_one, oneL_ints]; done)); exact turnT; (· first | (simp; done)); (· first | exact lay_all (by first | (simp; done))))
    | ((with_reducible apply Sy.dwr); (case hw => first | exact wantY_none); (case hc => intro hcls; cases hcls); (case h1 => exact rfl); (case hk => exact .consN (b := q1) hasT .nil); (case hS => intro h hh; subst hh; exact ⟨_, List.mem_singleton.2 rfl⟩))
    | ((with_reducible apply Sy.dand); (case hk => exact .consN (b := q1) hasT .nil))
    | (with_reducible refine Sy.ret ?_)
    | (with_reducible refine Sy.dend ?_))
    exact .fin [msgV ⟨n, s, t, w, g, []⟩ _] (.inr rfl) ⟨⟨_, _, _, rfl, (by repeat (first | exact Has.here | apply Has.there | apply Has.app)), ld_rmall⟩, trivial⟩ fun H' hp => ⟨(q13, 0), trivial, rfl, hp.less (.cons_cons _ (List.nil_sublist _))⟩
  · have hmg := msgC_g m (.slice a m.d.length k)
    have hmd := msgC_d m (.slice a m.d.length k)
    have hne : m.d.length ≠ 0 := fun e => h0 (List.length_eq_zero_iff.1 e)
    refine CallR.sy (n := 18) Try.func23 rfl rfl rfl ?_
    repeat' (first
    | (with_reducible refine Sy.seq ?_)
    | (with_reducible refine Sy.regionL ?_)
    | (with_reducible refine Sy.opsnil ?_)
    | (with_reducible refine Sy.go ?_)
    | (with_reducible refine Sy.nrm ?_)
    | ((with_reducible apply Sy.drawL (id := 1) 16 [(1, 13), (3, 13), (5, 13), (7, 13), (9, 13)] (fun hi h => h = q1)); (case hp => kernel_rfl); (case hN => exact rfl); intro base hbase hM; try simp only [List.forall_mem_cons, List.forall_mem_append, List.not_mem_nil, false_implies, implies_true, and_true] at hM)
    | ((with_reducible apply Sy.fa (t := 57) (i := 0)); exact rfl; exact rfl; exact fa57_0 _ _)
    | ((with_reducible apply Sy.ldN (t := 53)); exact rfl; exact rfl; exact hasT; (· first | exact ld_one ag53 rfl | exact ld_one ag53 (by with_reducible assumption)))
    | ((with_reducible apply Sy.fa (t := 57) (i := 1)); exact rfl; exact rfl; exact fa57_1 _ _)
    | ((with_reducible apply Sy.fa (t := 57) (i := 2)); exact rfl; exact rfl; exact fa57_2 _ _)
    | ((with_reducible apply Sy.fa (t := 57) (i := 3)); exact rfl; exact rfl; exact fa57_3 _ _)
    | ((with_reducible apply Sy.ldN (t := 55)); exact rfl; exact rfl; exact hasT; (· first | exact ld_agg ag55 sz55 (by first | (simp; done)) (by first | with_reducible exact cut_kids)))
    | ((with_reducible apply Sy.fa (t := 57) (i := 4)); exact rfl; exact rfl; exact fa57_4 _ _)
    | ((with_reducible apply Sy.fa (t := 57) (i := 5)); exact rfl; exact rfl; exact fa57_5 _ _)
    | ((with_reducible apply Sy.ldN (t := 23)); exact rfl; exact rfl; exact hasT; (· first | exact ld_one ag23 rfl | exact ld_one ag23 (by with_reducible assumption)))
    | ((with_reducible apply Sy.appFN (t := 23) (xt := 23)); exact ap23_23 zr5 rfl; exact rfl; exact rfl; exact rfl; (· first | exact SrcY.ofR (by with_reducible assumption) rfl); (· first | exact oneL_ints _ _ | exact rfl); (· first | omega); (· first | omega); exact hasT; (· first | omega); (· first | exact rfl); (· first | exact rfl); intro q16)
    | ((with_reducible apply Sy.dwr); (case hw => first | exact wantY_none); (case hc => intro hcls; cases hcls); (case h1 => exact rfl); (case hk => exact .consN (b := q1) hasT .nil); (case hS => intro h hh; subst hh; exact ⟨_, List.mem_singleton.2 rfl⟩))
    | ((with_reducible apply Sy.dand); (case hk => exact .consN (b := q1) hasT .nil))
    | ((with_reducible apply Sy.newY (o := ⟨some 1, .box 57 _, _, _, _, _⟩)); exact rfl; exact rfl; exact nbA rfl; intro q1)
    | ((with_reducible apply Sy.newY (o := ⟨some 2, .alloc 66, _, _, _, _⟩)); exact rfl; exact rfl; exact nwz66; intro q2)
    | ((with_reducible apply Sy.dnew (o := ⟨some 13, .buildSlice 23 _ _, _, _, _, _⟩)); (· first | exact wantY_none); exact rfl; exact rfl; exact rfl; exact rfl; exact rfl; exact (nbs0 Try.underlying23 sz5 zr5 rfl (by decide) rfl); intro q13 hq13)
    | ((with_reducible apply Sy.dnew (o := ⟨some 13, .buildSlice 23 _ _, _, _, _, _⟩)); (· first | exact wantY_none); exact rfl; exact rfl; exact rfl; exact rfl; exact rfl; (· exact (newY_bs Try.underlying23 sz5 zr5 rfl (by decide) rfl (by first | rfl | (simp [List.drop_append, List.take_append, List.getElem?_append, lay, hC_length, ints_length, ints_drop, ints_take, ints_append, List.drop_of_length_le, List.take_of_length_le, List.map_append, List.set_append, Value.cells]; done)))); intro q13 hq13)
    | ((with_reducible apply Sy.dld); (· first | exact wantY_none); exact rfl; (· first | omega); exact rfl))
    refine Sy.build (t := 66) rfl rfl (bvRMsg (m := m) (by first | rfl | exact (CopyV.one (by assumption)))) ?_
    rw [Nat.zero_add m.d.length, show List.take (0 * 1) (List.drop 0 ([] : List Value)) ++ ints .u8 m.d = ints .u8 m.d by simp]
    repeat' (first
    | (with_reducible refine Sy.nrm ?_)
    | ((with_reducible apply Sy.stNa (t := 66)); exact rfl; exact rfl; exact sz66; (· first | (simp; done)); (· first | (simp [oneL_append, oneL_cons, oneL_nil, hC_one, oneL_ints]; done)); exact turnT; (· first | (simp; done)); (· first | exact lay_all (by first | (simp; done))))
    | ((with_reducible apply Sy.dwr); (case hw => first | exact wantY_none); (case hc => intro hcls; cases hcls); (case h1 => exact rfl); (case hk => exact .consN (b := q1) hasT .nil); (case hS => intro h hh; subst hh; exact ⟨_, List.mem_singleton.2 rfl⟩))
    | ((with_reducible apply Sy.dand); (case hk => exact .consN (b := q1) hasT .nil))
    | (with_reducible refine Sy.ret ?_)
    | (with_reducible refine Sy.dend ?_))
    exact .fin [msgV m (.slice (some ⟨q16, 0, none⟩) m.d.length (m.d.length + 2 + 1))] (.inr rfl) ⟨⟨_, _, _, rfl, (by repeat (first | exact Has.here | apply Has.there | apply Has.app)), ld_rmall⟩, trivial⟩ fun H' hp => ⟨(q16, m.d.length + 2 + 1), trivial, rfl, hp.less (.cons_cons _ (List.nil_sublist _))⟩
open MsgN in
theorem k_Same (m : Msg) (a a' : Option Addr) (k k' : Nat) (H : AHeap) (ho : m.ok) (hv : SlR H 1 (.slice a m.d.length k) m.d.length (ints .u8 m.d)) (hv' : SlR H 1 (.slice a' m.d.length k') m.d.length (ints .u8 m.d)) :
    CallR Try.prog noPrims 22 [msgV m (.slice a m.d.length k), msgV m (.slice a' m.d.length k')] H (fun u H' => u = .bool true ∧ Hp H 0 0 H' [] []) := by
  have hmg := msgC_g m (.slice a m.d.length k)
  have hmd := msgC_d m (.slice a m.d.length k)
  have hmg' := msgC_g m (.slice a' m.d.length k')
  have hmd' := msgC_d m (.slice a' m.d.length k')
  refine CallR.sy (n := 47) Try.func22 rfl rfl rfl ?_
  repeat' (first
    | (with_reducible refine Sy.seq ?_)
    | (with_reducible refine Sy.regionL ?_)
    | (with_reducible refine Sy.opsnil ?_)
    | (with_reducible refine Sy.go ?_)
    | (with_reducible refine Sy.nrm ?_)
    | ((with_reducible apply Sy.assign); exact rfl; exact rfl)
    | ((with_reducible apply Sy.fa (t := 66) (i := 0)); exact rfl; exact rfl; exact fa66_0 _ _)
    | ((with_reducible apply Sy.ldN (t := 53)); exact rfl; exact rfl; exact hasT; (· first | exact ld_one ag53 rfl | exact ld_one ag53 (by with_reducible assumption)))
    | ((with_reducible apply Sy.bin (op := .eql) (t := 53)); exact rfl; exact rfl; exact rfl; exact b_eql)
    | ((with_reducible apply Sy.bin (op := .eql) (t := 53)); exact rfl; exact rfl; exact rfl; exact bz_eql)
    | ((with_reducible apply Sy.move); exact rfl; exact rfl)
    | ((with_reducible apply Sy.fa (t := 66) (i := 1)); exact rfl; exact rfl; exact fa66_1 _ _)
    | ((with_reducible apply Sy.pickT); exact rfl; exact rfl; exact rfl)
    | ((with_reducible apply Sy.pickF); exact rfl; exact rfl; exact rfl)
    | ((with_reducible apply Sy.fa (t := 66) (i := 2)); exact rfl; exact rfl; exact fa66_2 _ _)
    | ((with_reducible apply Sy.fa (t := 66) (i := 3)); exact rfl; exact rfl; exact fa66_3 _ _)
    | ((with_reducible apply Sy.ldN (t := 55)); exact rfl; exact rfl; exact hasT; (· first | exact ld_agg ag55 sz55 (by first | (simp; done)) (by first | with_reducible exact cut_kids)))
    | ((with_reducible apply Sy.bin (op := .eql) (t := 55)); exact rfl; exact rfl; exact rfl; (· exact (eq55 (by first | (simp; done)) (by first | (simp; done)))))
    | ((with_reducible apply Sy.fa (t := 66) (i := 4)); exact rfl; exact rfl; exact fa66_4 _ _)
    | ((with_reducible apply Sy.fa (t := 66) (i := 5)); exact rfl; exact rfl; exact fa66_5 _ _)
    | ((with_reducible apply Sy.ldN (t := 23)); exact rfl; exact rfl; exact hasT; (· first | exact ld_one ag23 rfl | exact ld_one ag23 (by with_reducible assumption)))
    | ((with_reducible apply Sy.str); exact Try.underlying23; exact Try.underlying9; exact Try.underlying5; exact rfl; exact rfl; (· first | exact SrL.of0 (by assumption) rfl))
    | ((with_reducible apply Sy.bin (op := .eql) (t := 9)); exact rfl; exact rfl; exact rfl; exact eqSS)
    | ((with_reducible apply Sy.bin (op := .eql) (t := 9)); exact rfl; exact rfl; exact rfl; exact (eqS (by assumption) (by assumption)))
    | ((with_reducible apply Sy.newY (o := ⟨some 2, .box 66 _, _, _, _, _⟩)); exact rfl; exact rfl; exact nbA rfl; intro q2)
    | ((with_reducible apply Sy.newY (o := ⟨some 3, .box 66 _, _, _, _, _⟩)); exact rfl; exact rfl; exact nbA rfl; intro q3)
    | (with_reducible refine Sy.ret ?_)
    | ((with_reducible apply Sy.goG); exact rfl; exact rfl; exact rfl)
    | ((with_reducible apply Sy.noG); exact rfl; exact rfl; exact rfl; exact rfl; exact rfl)
    | ((with_reducible apply Sy.caseG); (case hj => exact rfl); (case hx => exact rfl); all_goals (intro hc; try (exfalso; omega))))
  · exact .fin [_] (.inr rfl) ⟨rfl, trivial⟩ fun H' hp => ⟨rfl, hp.less (List.nil_sublist _)⟩
  · exact absurd rfl (by assumption)
end Go.Proofs.Ytcaafoibabijgaa

/- Layer 09: the program's Hash. -/
namespace Go.Proofs.Ytcaafoibabijgaa
open Go Go.Am
set_option maxRecDepth 100000
set_option linter.unusedVariables false

theorem Gl.kp {S : Nat → Prop} {H H' : AHeap} (g : Gl H) (k : Kp S H H') (h0 : ¬ S 0) (h1 : ¬ S 1) : Gl H' := by
  obtain ⟨⟨T, h⟩, ⟨T', h'⟩⟩ := g
  exact ⟨⟨T, k.get h rfl h0⟩, ⟨T', k.get h' rfl h1⟩⟩
end Go.Proofs.Ytcaafoibabijgaa

/- Layer 09: the reference's Hash. -/
namespace Go.Proofs.Ytcaafoibabijgaa
open Go Go.Am
set_option maxRecDepth 100000
set_option linter.unusedVariables false

end Go.Proofs.Ytcaafoibabijgaa

/- Layer 09: what must come. -/
namespace Go.Proofs.Ytcaafoibabijgaa
open Go Go.Am
set_option maxRecDepth 100000
set_option linter.unusedVariables false

theorem zeroM_ok : zeroM.ok := ⟨by decide, by decide, by decide, by decide, by simp [zeroM]⟩
theorem get0 : getM (msgB zeroM) = (zeroM, 0) := by kernel_rfl
end Go.Proofs.Ytcaafoibabijgaa

/- Layer 09: knows. -/
namespace Go.Proofs.Ytcaafoibabijgaa
open Go Go.Am
set_option maxRecDepth 100000
set_option linter.unusedVariables false

end Go.Proofs.Ytcaafoibabijgaa

/- Layer 09: MessageBytes. -/
namespace Go.Proofs.Ytcaafoibabijgaa
open Go Go.Am
set_option maxRecDepth 100000
set_option linter.unusedVariables false

theorem k_GetMessage' (v : Value) (l : List Nat) (G : Msg × Nat) (H : AHeap) (hG : getM l = G) (hv : SlR H 1 v l.length (ints .u8 l)) (h256 : ∀ x ∈ l, x < 256) (hl : l.length ≤ 140737488355328) :
    CallR Try.prog noPrims 96 [v] H (fun u H' => ∃ i : Nat × Option Addr × Nat, Vw i.1 l (.slice i.2.1 G.1.d.length i.2.2) G.1.d ∧ u = .tuple ⟨[msgV G.1 (.slice i.2.1 G.1.d.length i.2.2), .int .i64 ((G.2 : Nat) : Int)]⟩ ∧ Hp H 0 0 H' [] (bufM l i.1)) := by
  subst hG
  exact (k_GetMessage v l H hv h256 hl).mono fun u H' ⟨i, h1, h2, h3⟩ => by
    obtain ⟨a, c, e⟩ := h1.slice
    exact ⟨(i.1, a, c), by rw [← e]; exact h1, by rw [← e]; exact h2, h3⟩
end Go.Proofs.Ytcaafoibabijgaa
