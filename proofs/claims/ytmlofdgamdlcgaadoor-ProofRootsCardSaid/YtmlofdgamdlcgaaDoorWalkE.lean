/- Walks: proofs copied and compared, a map of one pair, the law ProofRoots. -/
import Derived.Test.YtmlofdgamdlcgaaDoorWalkD
import Derived.Test.YtmlofdgamdlcgaaDoorWalkC
import Derived.Test.YtmlofdgamdlcgaaDoorValue
set_option linter.unusedSimpArgs false
set_option linter.unusedVariables false
/- Layer 06: proofs that are copied and compared. -/
namespace Go.Proofs.YtmlofdgamdlcgaaDoor
open Go Go.Am
set_option maxRecDepth 100000
set_option linter.unusedVariables false

/-- A slice of hashes, whole. -/
def HsS (H : AHeap) (v : Value) (l : List Hsh) : Prop := (v = .slice none 0 0 ∧ l = []) ∨ ∃ b c T w, v = .slice (some ⟨b, 0, none⟩) l.length c ∧ H.get b = .cells (hcs l) T w
theorem HsS.at {H : AHeap} {v : Value} {l : List Hsh} (h : HsS H v l) : HsAt H v l := by
  rcases h with ⟨rfl, rfl⟩ | ⟨b, c, T, w, rfl, h⟩
  · exact ⟨none, 0, rfl, .inl rfl⟩
  · exact ⟨_, c, rfl, .inr ⟨b, T, w, rfl, h⟩⟩
theorem HsS.of {H H1 : AHeap} {lo hi : Nat} {Mn : Hm} {v : Value} {l : List Hsh} (h : HsS H v l) (hp : Hp H lo hi H1 [] Mn) : HsS H1 v l := by
  rcases h with h | ⟨b, c, T, w, e, h⟩
  · exact .inl h
  · exact .inr ⟨b, c, T, w, e, hp.get0 h rfl (by simp)⟩
theorem hcs_one (l : List Hsh) : oneL (hcs l) = true := by
  induction l with
  | nil => rfl
  | cons a l ih => simp only [hcs, List.map_cons, List.flatten_cons] at ih ⊢; rw [oneL_append, hC_one, ih]; rfl
theorem bvPr {mask : Hsh} {v : Value} (hv : v.cells.toList = [v]) : buildV Tryd.prog 27 [(0, hV mask), (1, v)] = some (.agg ⟨hC mask ++ [v]⟩) := bv27 (by
  simp only [fillL, plc, hV_cells, hv]
  have e1 : lay (hC zeroH ++ [Value.slice none 0 0]) 0 (hC mask) = hC mask ++ [Value.slice none 0 0] := lay_here (by simp)
  have e2 : lay (hC mask ++ [Value.slice none 0 0]) 32 [v] = hC mask ++ [v] := by
    have := lay_there (a := hC mask) (b := [Value.slice none 0 0]) (v := [v]) (o := 32) (k := 0) (by simp)
    rw [Nat.add_zero] at this
    rw [this]; rfl
  simp [e1, e2])

theorem setPr {m m' : Hsh} {x y : Value} : lay (hC m ++ [x]) 0 (hC m' ++ [y]) = hC m' ++ [y] := lay_all (by simp)
theorem c_Proof (mask : Hsh) (sv : Value) (l : List Hsh) (H : AHeap) (hl : HsS H sv l) (hn : l.length ≤ 4398046511104) : CallR Tryd.prog noPrims 7 [prV mask sv] H (fun u H' => ∃ i : Nat × Nat, True ∧ u = prV mask (.slice (some ⟨i.1, 0, none⟩) l.length i.2) ∧ Hp H 0 0 H' [] [(i.1, .cells (hcs l) 23 true)]) := by
  have hone : ∃ a c, sv = .slice a l.length c := by
    obtain ⟨a, c, e, _⟩ := hl.at
    exact ⟨a, c, e⟩
  obtain ⟨a, c, rfl⟩ := hone
  have epr : prV mask (.slice a l.length c) = .agg ⟨hC mask ++ [.slice a l.length c]⟩ := rfl
  rw [epr]
  refine CallR.sy (n := 10) Tryd.func7 rfl rfl rfl ?_
  repeat' (first
    | (with_reducible refine Sy.seq ?_)
    | (with_reducible refine Sy.regionL ?_)
    | (with_reducible refine Sy.opsnil ?_)
    | (with_reducible refine Sy.go ?_)
    | (with_reducible refine Sy.nrm ?_)
    | ((with_reducible apply Sy.drawL (id := 1) 8 [(1, 5)] (fun hi h => h = q1)); (case hp => kernel_rfl); (case hN => exact rfl); intro base hbase hM)
    | ((with_reducible refine Sy.ldN (t := 24) rfl rfl (by repeat (first | exact Has.here | apply Has.there | apply Has.app)) ldS ?_))
    | ((with_reducible apply Sy.fa (t := 26) (i := 0)); (case hd => exact rfl); (case hx => exact rfl); (case hv => exact (fa26_0 _ _)))
    | ((with_reducible apply Sy.ldN (t := 23)); (case hd => exact rfl); (case hx => exact rfl); (case hm => repeat (first | exact Has.here | apply Has.there)); (case hv => first | exact ld_agg (cs' := hC _) ag23 sz23 (by simp; done) (by first | exact cut_here (by simp; done))))
    | ((with_reducible apply Sy.fa (t := 26) (i := 1)); (case hd => exact rfl); (case hx => exact rfl); (case hv => exact (fa26_1 _ _)))
    | ((with_reducible apply Sy.dwr (SK := [(q1, .cells (hC mask ++ [.slice a l.length c]) 26 true)])); (case hw => first | exact wantY_none); (case hc => intro hcls; cases hcls); (case h1 => exact rfl); (case hS => intro h hh; subst hh; exact ⟨_, List.mem_singleton.2 rfl⟩); (case hk => exact .consN (by repeat (first | exact Has.here | apply Has.there | apply Has.app)) .nil))
    | ((with_reducible apply Sy.dand); (case hk => exact .consN (by repeat (first | exact Has.here | apply Has.there | apply Has.app)) .nil))
    | ((with_reducible apply Sy.newY (o := ⟨some 1, .box 26 _, _, _, _, _⟩)); (case ho => exact rfl); (case hd => exact rfl); (case hc => exact (nbA rfl)); intro q1)
    | ((with_reducible apply Sy.newY (o := ⟨some 2, .alloc 27, _, _, _, _⟩)); (case ho => exact rfl); (case hd => exact rfl); (case hc => exact (nwz27)); intro q2)
    | ((with_reducible apply Sy.dnew (o := ⟨some 5, .buildSlice 24 _ _, _, _, _, _⟩)); (case hw => first | exact wantY_none); (case ho => exact rfl); (case hd => exact rfl); (case hi1 => exact rfl); (case h1 => exact rfl); (case h2 => exact rfl); (case hc => exact (nbs0 Tryd.underlying24 sz23 zr23 rfl (by decide) rfl)); intro q5 hq5)
    | ((with_reducible apply Sy.dld); (case hw => first | exact wantY_none); (case hx => exact rfl); (case hb => omega); (case h2 => exact rfl)))
  rcases hl with ⟨he, rfl⟩ | ⟨b, c', T, w, he, hb⟩
  · simp only [List.length_nil, Value.slice.injEq, true_and] at he
    obtain ⟨rfl, rfl⟩ := he
    refine Sy.appZ (t := 24) (xt := 24) (ap24_24 zr23 rfl) rfl rfl rfl (.inl ⟨_, _, _, _, rfl⟩) SrcY.nil rfl ?_
    refine Sy.dand (.consN (by repeat (first | exact Has.here | apply Has.there | apply Has.app)) .nil) ?_
    repeat' (first
    | (with_reducible refine Sy.nrm ?_)
    | ((with_reducible refine Sy.build (t := 27) rfl rfl (bvPr rfl) ?_))
    | ((with_reducible refine Sy.stNa (t := 27) rfl rfl sz27 (by simp) (by simp [oneL_append, hC_one, oneL_cons, oneL_nil, Value.oneCell']) (by repeat (first | exact Turn.here | apply Turn.there | apply Turn.app)) (by simp) setPr ?_))
    | (with_reducible refine Sy.ret ?_)
    | (with_reducible refine Sy.dend ?_)
    | ((with_reducible apply Sy.dgo); (case hw => first | exact wantY_none); (case hc => intro hcls; cases hcls); (case h1 => exact rfl); (case h2 => exact rfl)))
    exact .fin [_] (.inr rfl) ⟨⟨q2, 0, _, rfl, (by repeat (first | exact Has.here | apply Has.there | apply Has.app)), ld_all ag27 (by simp [sz27])⟩, trivial⟩ fun H' hp => ⟨(q5, 0), trivial, rfl, hp.less (.cons_cons _ (List.nil_sublist _))⟩
  · simp only [Value.slice.injEq, true_and] at he
    obtain ⟨rfl, rfl⟩ := he
    have hsrc : ∀ {lo hi : Nat} {Mn : Hm}, SrcY H lo hi [] Mn 32 (.slice (some ⟨b, 0, none⟩) l.length c) l.length (hcs l) := fun {lo hi Mn} => (SrcY.of0 hb (by simp) (by rw [hcs_length]; omega)).eq (by rw [List.drop_zero, List.take_of_length_le (by rw [hcs_length]; omega)])
    by_cases hl0 : l = []
    · subst hl0
      refine Sy.appZ (t := 24) (xt := 24) (ap24_24 zr23 rfl) rfl rfl rfl (.inl ⟨_, _, _, _, rfl⟩) hsrc rfl ?_
      refine Sy.dand (.consN (by repeat (first | exact Has.here | apply Has.there | apply Has.app)) .nil) ?_
      repeat' (first
    | (with_reducible refine Sy.nrm ?_)
    | ((with_reducible refine Sy.build (t := 27) rfl rfl (bvPr rfl) ?_))
    | ((with_reducible refine Sy.stNa (t := 27) rfl rfl sz27 (by simp) (by simp [oneL_append, hC_one, oneL_cons, oneL_nil, Value.oneCell']) (by repeat (first | exact Turn.here | apply Turn.there | apply Turn.app)) (by simp) setPr ?_))
    | (with_reducible refine Sy.ret ?_)
    | (with_reducible refine Sy.dend ?_)
    | ((with_reducible apply Sy.dgo); (case hw => first | exact wantY_none); (case hc => intro hcls; cases hcls); (case h1 => exact rfl); (case h2 => exact rfl)))
      exact .fin [_] (.inr rfl) ⟨⟨q2, 0, _, rfl, (by repeat (first | exact Has.here | apply Has.there | apply Has.app)), ld_all ag27 (by simp [sz27])⟩, trivial⟩ fun H' hp => ⟨(q5, 0), trivial, rfl, hp.less (.cons_cons _ (List.nil_sublist _))⟩
    · refine Sy.appF (t := 24) (xt := 24) (ap24_24 zr23 rfl) rfl rfl rfl hsrc (hcs_one l) (by simpa using hl0) (by omega) (fun H1 hH => hH.getN (by repeat (first | exact Has.here | apply Has.there | apply Has.app))) (by simp) (old := []) rfl ?_
      intro b2
      refine Sy.dand (.consN (by repeat (first | exact Has.here | apply Has.there | apply Has.app)) .nil) ?_
      repeat' (first
    | (with_reducible refine Sy.nrm ?_)
    | ((with_reducible refine Sy.build (t := 27) rfl rfl (bvPr rfl) ?_))
    | ((with_reducible refine Sy.stNa (t := 27) rfl rfl sz27 (by simp) (by simp [oneL_append, hC_one, oneL_cons, oneL_nil, Value.oneCell']) (by repeat (first | exact Turn.here | apply Turn.there | apply Turn.app)) (by simp) setPr ?_))
    | (with_reducible refine Sy.ret ?_)
    | (with_reducible refine Sy.dend ?_)
    | ((with_reducible apply Sy.dgo); (case hw => first | exact wantY_none); (case hc => intro hcls; cases hcls); (case h1 => exact rfl); (case h2 => exact rfl)))
      exact .fin [_] (.inr rfl) ⟨⟨q2, 0, _, rfl, (by repeat (first | exact Has.here | apply Has.there | apply Has.app)), ld_all ag27 (by simp [sz27])⟩, trivial⟩ fun H' hp => ⟨(b2, 0 + l.length + 2 + 32), trivial, by rw [Nat.zero_add]; rfl, hp.less (.cons_cons _ (List.nil_sublist _))⟩
end Go.Proofs.YtmlofdgamdlcgaaDoor

/- Layer 06: proofs compared; New of one pair; knows. -/
namespace Go.Proofs.YtmlofdgamdlcgaaDoor
open Go Go.Am
set_option maxRecDepth 100000
set_option linter.unusedVariables false

theorem c_Same (mask : Hsh) (v1 v2 : Value) (l : List Hsh) (H : AHeap) (h1 : HsAt H v1 l) (h2 : HsAt H v2 l) (hn : l.length ≤ 4398046511104) : CallR Tryd.prog noPrims 17 [prV mask v1, prV mask v2] H (fun u H' => u = .bool true ∧ Hp H 0 0 H' [] []) := by
  obtain ⟨a1, c1, rfl, h1⟩ := h1
  obtain ⟨a2, c2, rfl, h2⟩ := h2
  unfold prV
  refine CallR.sy (n := 38) Tryd.func17 rfl rfl rfl ?_
  repeat' (first
    | (with_reducible refine Sy.seq ?_)
    | (with_reducible refine Sy.regionL ?_)
    | (with_reducible refine Sy.opsnil ?_)
    | (with_reducible refine Sy.go ?_)
    | (with_reducible refine Sy.nrm ?_)
    | ((with_reducible refine Sy.ldN (t := 24) rfl rfl (by repeat (first | exact Has.here | apply Has.there | apply Has.app)) ldS ?_))
    | ((with_reducible apply Sy.assign); (case hd => exact rfl); (case hx => exact rfl))
    | ((with_reducible apply Sy.fa (t := 27) (i := 0)); (case hd => exact rfl); (case hx => exact rfl); (case hv => exact (fa27_0 _ _)))
    | ((with_reducible apply Sy.ldN (t := 23)); (case hd => exact rfl); (case hx => exact rfl); (case hm => repeat (first | exact Has.here | apply Has.there)); (case hv => first | exact ld_agg (cs' := hC _) ag23 sz23 (by simp; done) (by first | exact cut_here (by simp; done))))
    | ((with_reducible apply Sy.fa (t := 26) (i := 0)); (case hd => exact rfl); (case hx => exact rfl); (case hv => exact (fa26_0 _ _)))
    | ((with_reducible apply Sy.bin (op := .neq) (t := 23)); (case hd => exact rfl); (case hx => exact rfl); (case hy => exact rfl); (case hv => exact (ne23)))
    | ((with_reducible apply Sy.move); (case hd => exact rfl); (case hx => exact rfl))
    | ((with_reducible apply Sy.fa (t := 27) (i := 1)); (case hd => exact rfl); (case hx => exact rfl); (case hv => exact (fa27_1 _ _)))
    | ((with_reducible apply Sy.lenS); (case hd => exact rfl); (case ht => exact Tryd.underlying24); (case hx => exact rfl))
    | ((with_reducible apply Sy.fa (t := 26) (i := 1)); (case hd => exact rfl); (case hx => exact rfl); (case hv => exact (fa26_1 _ _)))
    | ((with_reducible apply Sy.bin (op := .neq) (t := 3)); (case hd => exact rfl); (case hx => exact rfl); (case hy => exact rfl); (case hv => exact b_neq))
    | ((with_reducible apply Sy.pickT); (case hd => exact rfl); (case hx => exact rfl); (case hy => exact rfl))
    | ((with_reducible apply Sy.pickF); (case hd => exact rfl); (case hx => exact rfl); (case hy => exact rfl))
    | ((with_reducible apply Sy.newY (o := ⟨some 2, .box 27 _, _, _, _, _⟩)); (case ho => exact rfl); (case hd => exact rfl); (case hc => exact (nbA rfl)); intro q2)
    | ((with_reducible apply Sy.newY (o := ⟨some 3, .box 26 _, _, _, _, _⟩)); (case ho => exact rfl); (case hd => exact rfl); (case hc => exact (nbA rfl)); intro q3)
    | (with_reducible refine Sy.skip ?_)
    | (with_reducible refine Sy.ret ?_)
    | (with_reducible refine Sy.block ?_)
    | (with_reducible refine Sy.aret ?_)
    | ((with_reducible apply Sy.yes); (case hx => exact rfl))
    | ((with_reducible apply Sy.goG); (case hj => exact rfl); (case ht => exact rfl); (case hb => exact rfl))
    | ((with_reducible apply Sy.noG); (case hj => exact rfl); (case ht => exact rfl); (case hb => exact rfl); (case hc => exact rfl); (case hd => exact rfl))
    | ((with_reducible apply Sy.caseG); (case hj => exact rfl); (case hx => exact rfl); all_goals (intro hc; try (exfalso; omega)))
    | ((with_reducible apply Sy.ite); (case hx => exact rfl); all_goals (intro hc; try (exfalso; omega))))
  all_goals (try exact absurd rfl hc)
  refine Sy.loop (ι := Nat) (fun i => l.length - i) (fun i => [(2, .pointer (some ⟨q2, 0, none⟩)), (3, .pointer (some ⟨q3, 0, none⟩)), (5, .int .i64 (i : Nat))]) (fun _ => []) (fun _ => [(q3, .cells (hC mask ++ [.slice a2 l.length c2]) 26 true), (q2, .cells (hC mask ++ [.slice a1 l.length c1]) 27 true)]) (fun i => i ≤ l.length) 0 (Nat.zero_le _) ⟨rfl, rfl, rfl, trivial⟩ (fun H h => h) ?_
  intro i hi
  by_cases hlt : i < l.length
  · obtain ⟨x, hx⟩ : ∃ x, l[i]? = some x := ⟨l[i], List.getElem?_eq_getElem hlt⟩
    rcases h1 with rfl | ⟨b1, T1, w1, rfl, hb1⟩
    · simp at hlt
    rcases h2 with rfl | ⟨b2, T2, w2, rfl, hb2⟩
    · simp at hlt
    repeat' (first
    | (with_reducible refine Sy.seq ?_)
    | (with_reducible refine Sy.regionL ?_)
    | (with_reducible refine Sy.opsnil ?_)
    | (with_reducible refine Sy.go ?_)
    | (with_reducible refine Sy.nrm ?_)
    | ((with_reducible refine Sy.ldN (t := 24) rfl rfl (by repeat (first | exact Has.here | apply Has.there | apply Has.app)) ldS ?_))
    | ((with_reducible apply Sy.assign); (case hd => exact rfl); (case hx => exact rfl))
    | ((with_reducible apply Sy.bin (op := .neq) (t := 23)); (case hd => exact rfl); (case hx => exact rfl); (case hy => exact rfl); (case hv => exact (ne23)))
    | ((with_reducible apply Sy.move); (case hd => exact rfl); (case hx => exact rfl))
    | ((with_reducible apply Sy.fa (t := 27) (i := 1)); (case hd => exact rfl); (case hx => exact rfl); (case hv => exact (fa27_1 _ _)))
    | ((with_reducible apply Sy.lenS); (case hd => exact rfl); (case ht => exact Tryd.underlying24); (case hx => exact rfl))
    | ((with_reducible apply Sy.fa (t := 26) (i := 1)); (case hd => exact rfl); (case hx => exact rfl); (case hv => exact (fa26_1 _ _)))
    | ((with_reducible apply Sy.bin (op := .lss) (t := 3)); (case hd => exact rfl); (case hx => exact rfl); (case hy => exact rfl); (case hv => exact b_lss))
    | ((with_reducible apply Sy.ia (t := 24)); (case hd => exact rfl); (case hx => exact rfl); (case hy => exact rfl); (case hv => exact (ia_sl Tryd.underlying24 sz23 (by omega))))
    | ((with_reducible apply Sy.bin (op := .add) (t := 3)); (case hd => exact rfl); (case hx => exact rfl); (case hy => exact rfl); (case hv => exact (b_add (by omega))))
    | (with_reducible refine Sy.ld0 (t := 23) rfl rfl hb1 rfl (by simp only [List.forall_mem_cons, List.not_mem_nil, false_implies, implies_true, and_true, ne_eq]; first | done | omega | (repeat (first | with_reducible assumption | (refine And.intro ?_ ?_)))) (hcs_k hx (by omega)) ?_)
    | (with_reducible refine Sy.ld0 (t := 23) rfl rfl hb2 rfl (by simp only [List.forall_mem_cons, List.not_mem_nil, false_implies, implies_true, and_true, ne_eq]; first | done | omega | (repeat (first | with_reducible assumption | (refine And.intro ?_ ?_)))) (hcs_k hx (by omega)) ?_)
    | (with_reducible refine Sy.skip ?_)
    | (with_reducible refine Sy.ret ?_)
    | (with_reducible refine Sy.block ?_)
    | (with_reducible refine Sy.aret ?_)
    | (with_reducible refine Sy.inrm ?_)
    | (with_reducible refine Sy.iret ?_)
    | (with_reducible refine Sy.rret ?_)
    | ((with_reducible apply Sy.drawL (id := 6) 11 [] (fun hi h => h < hi)); (case hp => kernel_rfl); (case hN => exact rfl); intro base hbase hM; try simp only [List.forall_mem_cons, List.forall_mem_append, List.not_mem_nil, false_implies, implies_true, and_true] at hM)
    | (with_reducible refine Sy.dend ?_)
    | ((with_reducible apply Sy.dgo); (case hw => first | exact wantY_none); (case hc => intro hcls; cases hcls); (case h1 => exact rfl); (case h2 => exact rfl))
    | ((with_reducible apply Sy.ite); (case hx => exact rfl); all_goals (intro hc; try (exfalso; omega))))
    all_goals first
      | exact absurd rfl hc
      | exact Sy.rnrm (i + 1) (by omega) (by omega) ⟨rfl, rfl, rfl, trivial⟩ (fun H h => h)
  · repeat' (first
    | (with_reducible refine Sy.seq ?_)
    | (with_reducible refine Sy.regionL ?_)
    | (with_reducible refine Sy.opsnil ?_)
    | (with_reducible refine Sy.go ?_)
    | (with_reducible refine Sy.nrm ?_)
    | ((with_reducible refine Sy.ldN (t := 24) rfl rfl (by repeat (first | exact Has.here | apply Has.there | apply Has.app)) ldS ?_))
    | ((with_reducible apply Sy.assign); (case hd => exact rfl); (case hx => exact rfl))
    | ((with_reducible apply Sy.move); (case hd => exact rfl); (case hx => exact rfl))
    | ((with_reducible apply Sy.fa (t := 27) (i := 1)); (case hd => exact rfl); (case hx => exact rfl); (case hv => exact (fa27_1 _ _)))
    | ((with_reducible apply Sy.lenS); (case hd => exact rfl); (case ht => exact Tryd.underlying24); (case hx => exact rfl))
    | ((with_reducible apply Sy.bin (op := .lss) (t := 3)); (case hd => exact rfl); (case hx => exact rfl); (case hy => exact rfl); (case hv => exact b_lss))
    | (with_reducible refine Sy.exit ?_)
    | (with_reducible refine Sy.ret ?_)
    | (with_reducible refine Sy.aex ?_)
    | ((with_reducible apply Sy.iex); (case hi' => exact rfl))
    | (with_reducible refine Sy.rex ?_)
    | ((with_reducible apply Sy.ite); (case hx => exact rfl); all_goals (intro hc; try (exfalso; omega))))
    exact .fin [_] (.inr rfl) ⟨rfl, trivial⟩ fun H' hp => ⟨rfl, hp.less (List.nil_sublist _)⟩
theorem c_num6 (e : Nat) (H : AHeap) : CallR Tryd.prog noPrims 14 [.int .i64 ((e : Nat) : Int)] H (fun u H' => u = .int .i64 ((e : Nat) : Int) ∧ Hp H 0 0 H' [] []) := by
  refine CallR.sy (n := 4) Tryd.func14 rfl rfl rfl ?_
  repeat' (first
    | (with_reducible refine Sy.seq ?_)
    | (with_reducible refine Sy.regionL ?_)
    | (with_reducible refine Sy.opsnil ?_)
    | (with_reducible refine Sy.go ?_)
    | (with_reducible refine Sy.nrm ?_)
    | ((with_reducible apply Sy.assign); (case hd => exact rfl); (case hx => exact rfl))
    | ((with_reducible apply Sy.move); (case hd => exact rfl); (case hx => exact rfl))
    | (with_reducible refine Sy.ret ?_))
  exact .fin [.int .i64 ((e : Nat) : Int)] (.inr rfl) ⟨rfl, trivial⟩ fun H' hp => ⟨rfl, hp⟩

theorem plain_ints6 (k : IntKind) (l : List Nat) : plainL (ints k l) = true := by
  induction l with
  | nil => rfl
  | cons a l ih => simpa [ints, plainL, plainV] using ih
theorem keyH (h : Hsh) : keyOK Tryd.prog 23 (hV h) = true := by
  have hl : (hC h).length = 32 := hC_length h
  have hp : plainL (hC h) = true := plain_ints6 _ _
  simp [keyOK, hV, ek23, ag23, hl, hp]
theorem eqHH (h : Hsh) : eqV Tryd.prog 23 (hV h) (hV h) = some true := by
  have := eq23 (a := h) (b := h)
  simpa [binV] using this
theorem c_PutNil {m : Nat} (k v : Hsh) (H : AHeap) (g : Gl H) (hm0 : m ≠ 0) (hm1 : m ≠ 1) (hm : H.get m = .cells (mapC none ((0 : Nat) : Int) true) 75 true) :
    CallR Tryd.prog noPrims 20 [.pointer (some ⟨m, 0, none⟩), hV k, hV v] H (fun u H' => ∃ i : Option Addr × Hm, (∀ H1, TreeL H1 0 i.2 i.1 (Put1 k v .nil ((0 : Nat) : Int)).1) ∧ u = .int .i64 (((Put1 k v .nil ((0 : Nat) : Int)).2.2 : Nat) : Int) ∧ Hp H 0 0 H' [(m, .cells (mapC i.1 (Put1 k v .nil ((0 : Nat) : Int)).2.1 true) 75 true)] i.2) := by
  refine (c_Put (B := 0) (t := .nil) (k := k) (v := v) H g hm0 hm1 hm .nil (Nat.zero_le _) (lv_nil _) (by omega) (by omega)).mono ?_
  rintro u H' ⟨i, hT, hu, hp⟩
  exact ⟨i, fun H1 => hT.move fun a _ _ _ ha => absurd ha (Nat.not_lt_zero a), hu, hp⟩
set_option maxHeartbeats 2000000 in
theorem c_New1 (k v : Hsh) (b c : Nat) (w : Bool) (H : AHeap) (g : Gl H) (hb : H.get b = .cells (hC k ++ hC v) 70 w) : CallR Tryd.prog noPrims 19 [.slice (some ⟨b, 0, none⟩) 1 c] H (fun u H' => ∃ i : Nat × Option Addr × Hm, (∀ H1, TreeL H1 0 i.2.2 i.2.1 (Put1 k v .nil ((0 : Nat) : Int)).1) ∧ u = .tuple ⟨[.pointer (some ⟨i.1, 0, none⟩), .int .i64 ((0 : Nat) : Int)]⟩ ∧ Hp H 0 0 H' [] (i.2.2 ++ [(i.1, .cells (mapC i.2.1 (Put1 k v .nil ((0 : Nat) : Int)).2.1 true) 75 true)])) := by
  have h2n := g.two
  have hpair : ∀ {o : Nat}, o = 0 → aLoad Tryd.prog 70 (.cells (hC k ++ hC v) 70 w) o = some (.agg ⟨hC k ++ hC v⟩) := fun ho => by subst ho; exact ld_all ag70 (by rw [sz70]; simp)
  refine CallR.sy (n := 53) Tryd.func19 rfl rfl rfl ?_
  repeat' (first
    | (with_reducible refine Sy.seq ?_)
    | (with_reducible refine Sy.regionL ?_)
    | (with_reducible refine Sy.opsnil ?_)
    | (with_reducible refine Sy.go ?_)
    | (with_reducible refine Sy.nrm ?_)
    | ((with_reducible apply Sy.assign); (case hd => exact rfl); (case hx => exact rfl))
    | ((with_reducible apply Sy.move); (case hd => exact rfl); (case hx => exact rfl))
    | ((with_reducible apply Sy.lenS); (case hd => exact rfl); (case ht => exact Tryd.underlying71); (case hx => exact rfl))
    | ((with_reducible apply Sy.bin (op := .gtr) (t := 3)); (case hd => exact rfl); (case hx => exact rfl); (case hy => exact rfl); (case hv => exact b_gtr))
    | ((with_reducible apply Sy.build (t := 75)); (case hd => exact rfl); (case hx => exact rfl); (case hv => exact (bv75 (by first | rfl))))
    | ((with_reducible apply Sy.newY (o := ⟨some 14, .makeMap 72 _, _, _, _, _⟩)); (case ho => exact rfl); (case hd => exact rfl); (case hc => exact newY_map); intro q14)
    | ((with_reducible apply Sy.newY (o := ⟨some 16, .box 75 _, _, _, _, _⟩)); (case ho => exact rfl); (case hd => exact rfl); (case hc => exact (nbA rfl)); intro q16)
    | (with_reducible refine Sy.skip ?_)
    | (with_reducible refine Sy.block ?_)
    | ((with_reducible apply Sy.no); (case hx => exact rfl)))
  refine Sy.loop (ι := Nat) (fun i => 1 - i) (fun i => [(0, .slice (some ⟨b, 0, none⟩) 1 c), (4, .map (some q14)), (5, .pointer (some ⟨q16, 0, none⟩)), (17, .slice (some ⟨b, 0, none⟩) 1 c), (18, .int .i64 ((1 : Nat) : Int)), (19, .int .i64 (i : Nat))]) (fun _ => []) (fun i => [(q16, .cells (mapC none ((0 : Nat) : Int) true) 75 true), (q14, if i = 0 then .map [] 0 else .map [⟨hV k, .bool true, 0⟩] 1)]) (fun i => i ≤ 1) 0 (Nat.zero_le _) ⟨rfl, rfl, rfl, rfl, rfl, rfl, trivial⟩ (fun H h => h) ?_
  intro i hi
  by_cases h0 : i = 0
  · subst h0
    simp only [if_true]
    repeat' (first
    | (with_reducible refine Sy.seq ?_)
    | (with_reducible refine Sy.regionL ?_)
    | (with_reducible refine Sy.opsnil ?_)
    | (with_reducible refine Sy.go ?_)
    | (with_reducible refine Sy.nrm ?_)
    | ((with_reducible apply Sy.move); (case hd => exact rfl); (case hx => exact rfl))
    | ((with_reducible apply Sy.bin (op := .lss) (t := 3)); (case hd => exact rfl); (case hx => exact rfl); (case hy => exact rfl); (case hv => exact b_lss))
    | ((with_reducible apply Sy.ia (t := 71)); (case hd => exact rfl); (case hx => exact rfl); (case hy => exact rfl); (case hv => exact (ia_sl Tryd.underlying71 sz70 (by omega))))
    | ((with_reducible apply Sy.ld0 (t := 70)); (case hd => exact rfl); (case hx => exact rfl); (case hm => with_reducible assumption); (case hl => exact rfl); (case hn => simp only [List.forall_mem_cons, List.not_mem_nil, false_implies, implies_true, and_true, ne_eq]; first | done); (case hv => first | exact ld_all ag70 (by first | (simp [sz70, *]; done))))
    | ((with_reducible apply Sy.stNa (t := 70)); (case hx => exact rfl); (case hy => exact rfl); (case hs => exact sz70); (case hl => first | (simp; done)); (case h1 => first | (simp [oneL_append, oneL_cons, oneL_nil, hC_one, oneL_ints]; done)); (case hm => repeat (first | exact Turn.here)); (case hle => first | (simp; done)); (case hc => first | exact lay_all (by first | (simp; done))))
    | ((with_reducible apply Sy.fa (t := 70) (i := 0)); (case hd => exact rfl); (case hx => exact rfl); (case hv => exact (fa70_0 _ _)))
    | ((with_reducible apply Sy.ldN (t := 23)); (case hd => exact rfl); (case hx => exact rfl); (case hm => repeat (first | exact Has.here)); (case hv => first | exact ld_agg (cs' := hC _) ag23 sz23 (by simp; done) (by first | exact cut_here (by simp; done))))
    | ((with_reducible apply Sy.bin (op := .add) (t := 3)); (case hd => exact rfl); (case hx => exact rfl); (case hy => exact rfl); (case hv => exact (b_add (by omega))))
    | ((with_reducible refine Sy.lookup0 (v := .bool false) rfl Tryd.underlying72 rfl rfl (keyH k) (by repeat (first | exact Has.here | apply Has.there | apply Has.app)) (by kernel_rfl) ?_))
    | ((with_reducible refine Sy.mapUp0 rfl Tryd.underlying72 rfl rfl rfl (keyH k) (by repeat (first | exact Turn.here | apply Turn.there | apply Turn.app)) ?_))
    | ((with_reducible apply Sy.newY (o := ⟨some 7, .alloc 70, _, _, _, _⟩)); (case ho => exact rfl); (case hd => exact rfl); (case hc => exact (nwz70)); intro q7)
    | (with_reducible refine Sy.skip ?_)
    | (with_reducible refine Sy.block ?_)
    | (with_reducible refine Sy.inrm ?_)
    | ((with_reducible apply Sy.yes); (case hx => exact rfl))
    | ((with_reducible apply Sy.no); (case hx => exact rfl)))
    exact Sy.rnrm 1 (Nat.le_refl _) (by omega) ⟨rfl, rfl, rfl, rfl, rfl, rfl, trivial⟩ (fun H h => h.less (.cons _ (.refl _)))
  · obtain rfl : i = 1 := by omega
    rw [if_neg (by decide)]
    repeat' (first
    | (with_reducible refine Sy.seq ?_)
    | (with_reducible refine Sy.regionL ?_)
    | (with_reducible refine Sy.opsnil ?_)
    | (with_reducible refine Sy.go ?_)
    | (with_reducible refine Sy.nrm ?_)
    | ((with_reducible apply Sy.move); (case hd => exact rfl); (case hx => exact rfl))
    | ((with_reducible apply Sy.bin (op := .lss) (t := 3)); (case hd => exact rfl); (case hx => exact rfl); (case hy => exact rfl); (case hv => exact b_lss))
    | ((with_reducible refine Sy.rangeM (t := 72) rfl Tryd.underlying72 rfl (by repeat (first | exact Has.here | apply Has.there | apply Has.app)) ?_); intro q32)
    | (with_reducible refine Sy.exit ?_)
    | (with_reducible refine Sy.block ?_)
    | (with_reducible refine Sy.aex ?_)
    | ((with_reducible apply Sy.iex); (case hi' => exact rfl))
    | (with_reducible refine Sy.rex ?_)
    | ((with_reducible apply Sy.no); (case hx => exact rfl)))
    refine Sy.loop (ι := Nat) (fun i => 1 - i) (fun i => [(0, .slice (some ⟨b, 0, none⟩) 1 c), (4, .map (some q14)), (5, .pointer (some ⟨q16, 0, none⟩)), (32, .pointer (some ⟨q32, 0, none⟩))]) (fun _ => []) (fun i => [(q32, if i = 0 then .miter (some q14) 1 [] 1 else .miter (some q14) 1 [0] 1), (q16, .cells (mapC none ((0 : Nat) : Int) true) 75 true), (q14, if i = 0 then .map [⟨hV k, .bool true, 0⟩] 1 else .map [] 1)]) (fun i => i ≤ 1) 0 (Nat.zero_le _) ⟨rfl, rfl, rfl, rfl, trivial⟩ (fun H h => h) ?_
    intro i hi
    by_cases h0 : i = 0
    · subst h0
      simp only [if_true]
      repeat' (first
    | (with_reducible refine Sy.seq ?_)
    | (with_reducible refine Sy.regionL ?_)
    | (with_reducible refine Sy.opsnil ?_)
    | (with_reducible refine Sy.go ?_)
    | (with_reducible refine Sy.nrm ?_)
    | ((with_reducible apply Sy.move); (case hd => exact rfl); (case hx => exact rfl))
    | ((with_reducible apply Sy.ldN (t := 23)); (case hd => exact rfl); (case hx => exact rfl); (case hm => repeat (first | exact Has.here)); (case hv => first | exact ld_hV ag23 sz23))
    | ((with_reducible apply Sy.ext); (case hd => exact rfl); (case hx => exact rfl); (case hv => exact rfl))
    | ((with_reducible apply Sy.stNa (t := 23)); (case hx => exact rfl); (case hy => exact rfl); (case hs => exact sz23); (case hl => first | exact hC_length _); (case h1 => first | exact hC_one _); (case hm => repeat (first | exact Turn.here)); (case hle => first | (simp; done)); (case hc => first | exact lay_all (by first | (simp; done))))
    | (with_reducible refine Sy.next1 rfl rfl (by repeat (first | exact Turn.here | apply Turn.there | apply Turn.app)) (by repeat (first | exact Has.here | apply Has.there | apply Has.app)) (by decide) ?_)
    | (with_reducible refine Sy.entry1 rfl rfl (by repeat (first | exact Has.here | apply Has.there | apply Has.app)) (by repeat (first | exact Has.here | apply Has.there | apply Has.app)) ?_)
    | (with_reducible refine Sy.del1 rfl rfl Tryd.underlying72 rfl rfl (keyH k) (eqHH k) (by repeat (first | exact Turn.here | apply Turn.there | apply Turn.app)) ?_)
    | ((with_reducible apply Sy.newY (o := ⟨some 8, .alloc 23, _, _, _, _⟩)); (case ho => exact rfl); (case hd => exact rfl); (case hc => exact (nwz23)); intro q8)
    | (with_reducible refine Sy.skip ?_)
    | (with_reducible refine Sy.block ?_)
    | (with_reducible refine Sy.inrm ?_)
    | ((with_reducible apply Sy.yes); (case hx => exact rfl)))
      exact Sy.rnrm 1 (Nat.le_refl _) (by omega) ⟨rfl, rfl, rfl, rfl, trivial⟩ (fun H h => h.less (.cons _ (.refl _)))
    · obtain rfl : i = 1 := by omega
      rw [if_neg (by decide), if_neg (by decide)]
      repeat' (first
    | (with_reducible refine Sy.seq ?_)
    | (with_reducible refine Sy.regionL ?_)
    | (with_reducible refine Sy.opsnil ?_)
    | (with_reducible refine Sy.go ?_)
    | (with_reducible refine Sy.nrm ?_)
    | ((with_reducible apply Sy.move); (case hd => exact rfl); (case hx => exact rfl))
    | ((with_reducible apply Sy.lenS); (case hd => exact rfl); (case ht => exact Tryd.underlying71); (case hx => exact rfl))
    | ((with_reducible apply Sy.ext); (case hd => exact rfl); (case hx => exact rfl); (case hv => exact rfl))
    | (with_reducible refine Sy.nextE rfl rfl (by repeat (first | exact Has.here | apply Has.there | apply Has.app)) (by repeat (first | exact Has.here | apply Has.there | apply Has.app)) ?_)
    | (with_reducible refine Sy.exit ?_)
    | (with_reducible refine Sy.block ?_)
    | (with_reducible refine Sy.aex ?_)
    | ((with_reducible apply Sy.iex); (case hi' => exact rfl))
    | (with_reducible refine Sy.rex ?_)
    | ((with_reducible apply Sy.no); (case hx => exact rfl)))
      refine Sy.loop (ι := Option (Option Addr × Hm)) (fun i => if i.isNone then 1 else 0) (fun i => [(5, .pointer (some ⟨q16, 0, none⟩)), (39, .slice (some ⟨b, 0, none⟩) 1 c), (40, .int .i64 ((1 : Nat) : Int)), (41, .int .i64 (((if i.isNone then 0 else 1 : Nat) : Nat) : Int))]) (fun _ => []) (fun i => match i with | none => [(q16, .cells (mapC none ((0 : Nat) : Int) true) 75 true)] | some x => x.2 ++ [(q16, .cells (mapC x.1 (Put1 k v .nil ((0 : Nat) : Int)).2.1 true) 75 true)])
        (fun i => match i with | none => True | some x => ∀ H1, TreeL H1 0 x.2 x.1 (Put1 k v .nil ((0 : Nat) : Int)).1) none trivial ⟨rfl, rfl, rfl, rfl, trivial⟩ (fun H h => h.less (.cons _ (.cons_cons _ (List.nil_sublist _)))) ?_
      intro i hI
      cases i with
      | none =>
        simp only [Option.isNone_none, if_true]
        (try dsimp only)
        repeat' (first
    | (with_reducible refine Sy.seq ?_)
    | (with_reducible refine Sy.regionL ?_)
    | (with_reducible refine Sy.opsnil ?_)
    | (with_reducible refine Sy.go ?_)
    | (with_reducible refine Sy.nrm ?_)
    | ((with_reducible refine Sy.ldN (t := 23) rfl rfl (by repeat (first | exact Has.here | apply Has.there | apply Has.app)) ldv ?_))
    | ((with_reducible apply Sy.move); (case hd => exact rfl); (case hx => exact rfl))
    | ((with_reducible apply Sy.bin (op := .lss) (t := 3)); (case hd => exact rfl); (case hx => exact rfl); (case hy => exact rfl); (case hv => exact b_lss))
    | ((with_reducible apply Sy.ia (t := 71)); (case hd => exact rfl); (case hx => exact rfl); (case hy => exact rfl); (case hv => exact (ia_sl Tryd.underlying71 sz70 (by omega))))
    | ((with_reducible apply Sy.ld0 (t := 70)); (case hd => exact rfl); (case hx => exact rfl); (case hm => with_reducible assumption); (case hl => exact rfl); (case hn => simp only [List.forall_mem_cons, List.not_mem_nil, false_implies, implies_true, and_true, ne_eq]; first | done); (case hv => first | exact ld_all ag70 (by first | (simp [sz70, *]; done))))
    | ((with_reducible apply Sy.stNa (t := 70)); (case hx => exact rfl); (case hy => exact rfl); (case hs => exact sz70); (case hl => first | (simp; done)); (case h1 => first | (simp [oneL_append, oneL_cons, oneL_nil, hC_one, oneL_ints]; done)); (case hm => repeat (first | exact Turn.here)); (case hle => first | (simp; done)); (case hc => first | exact lay_all (by first | (simp; done))))
    | ((with_reducible apply Sy.fa (t := 70) (i := 0)); (case hd => exact rfl); (case hx => exact rfl); (case hv => exact (fa70_0 _ _)))
    | ((with_reducible apply Sy.ldN (t := 23)); (case hd => exact rfl); (case hx => exact rfl); (case hm => repeat (first | exact Has.here)); (case hv => first | exact ld_agg (cs' := hC _) ag23 sz23 (by simp; done) (by first | exact cut_here (by simp; done))))
    | ((with_reducible apply Sy.bin (op := .add) (t := 3)); (case hd => exact rfl); (case hx => exact rfl); (case hy => exact rfl); (case hv => exact (b_add (by omega))))
    | ((with_reducible apply Sy.fa (t := 70) (i := 1)); (case hd => exact rfl); (case hx => exact rfl); (case hv => exact (fa70_1 _ _)))
    | ((with_reducible apply Sy.callTN (k := 20)); (case hd => exact rfl); (case hf => exact rfl); (case hen => exact en20); (case hx => exact rfl); (case hc => intro H' hp; exact c_PutNil k v H' (g.of hp (by simp)) (by have := (hp.new_lt (h := q16) (by repeat (first | exact Has.here | apply Has.there | apply Has.app))).1; omega) (by have := (hp.new_lt (h := q16) (by repeat (first | exact Has.here | apply Has.there | apply Has.app))).1; omega) (hp.getN (by repeat (first | exact Has.here | apply Has.there | apply Has.app)))); (case ht => intro i; repeat (first | exact Turn.here | apply Turn.there)); rintro ⟨r, L⟩ hT)
    | ((with_reducible apply Sy.newY (o := ⟨some 10, .alloc 70, _, _, _, _⟩)); (case ho => exact rfl); (case hd => exact rfl); (case hc => exact (nwz70)); intro q10)
    | (with_reducible refine Sy.skip ?_)
    | (with_reducible refine Sy.block ?_)
    | (with_reducible refine Sy.inrm ?_)
    | ((with_reducible apply Sy.yes); (case hx => exact rfl)))
        exact Sy.rnrm (some (r, L)) hT (by simp) ⟨rfl, rfl, rfl, rfl, trivial⟩ (fun H h => h.less ((List.Sublist.refl L).append (.cons _ (.refl _))))
      | some x =>
        simp only [Option.isNone_some, Bool.false_eq_true, if_false] at hI ⊢
        repeat' (first
    | (with_reducible refine Sy.seq ?_)
    | (with_reducible refine Sy.regionL ?_)
    | (with_reducible refine Sy.opsnil ?_)
    | (with_reducible refine Sy.go ?_)
    | (with_reducible refine Sy.nrm ?_)
    | ((with_reducible apply Sy.assign); (case hd => exact rfl); (case hx => exact rfl))
    | ((with_reducible apply Sy.move); (case hd => exact rfl); (case hx => exact rfl))
    | ((with_reducible apply Sy.bin (op := .lss) (t := 3)); (case hd => exact rfl); (case hx => exact rfl); (case hy => exact rfl); (case hv => exact b_lss))
    | (with_reducible refine Sy.exit ?_)
    | (with_reducible refine Sy.ret ?_)
    | (with_reducible refine Sy.aex ?_)
    | ((with_reducible apply Sy.iex); (case hi' => exact rfl))
    | (with_reducible refine Sy.rex ?_)
    | ((with_reducible apply Sy.no); (case hx => exact rfl)))
        exact .fin [_, _] (.inr rfl) ⟨rfl, rfl, trivial⟩ fun H' hp => ⟨(q16, x), hI, rfl, hp⟩
end Go.Proofs.YtmlofdgamdlcgaaDoor

/- Layer 06: knows. -/
namespace Go.Proofs.YtmlofdgamdlcgaaDoor
open Go Go.Am
set_option maxRecDepth 100000
set_option linter.unusedVariables false

theorem bit_zero (d : Nat) : bitOf zeroH d = 0 := by
  have : ∀ j, zeroH.at j = 0 := fun j => by
    unfold Hsh.at zeroH
    rw [List.getD, List.getElem?_replicate]
    split <;> rfl
  unfold bitOf
  rw [this]; simp
theorem side_nil (d : Nat) : sideH zeroH [] d = zeroH := by rw [sideH, bit_zero, if_neg (by decide)]
theorem right_nil : rightB zeroH [] = true := by
  have h : ∀ i, popTo zeroH i = 0 := fun i => by
    induction i with
    | zero => rfl
    | succ i ih =>
      have e : zeroH.at i = 0 := by
        unfold Hsh.at zeroH
        rw [List.getD, List.getElem?_replicate]
        split <;> rfl
      rw [popTo, ih, e]; rfl
  simp [rightB, h]
theorem root_nil (k : Hsh) : ∀ i, rootH k zeroH [] zeroH i = zeroH
  | 0 => rfl
  | i + 1 => by
    have e : aboveH zeroH zeroH = zeroH := by rw [aboveH, if_pos ⟨rfl, rfl⟩]
    rw [rootH, side_nil, root_nil k i, e]; split <;> rfl
theorem root_tput (k v : Hsh) (hv : v ≠ zeroH) : ∀ i, i ≤ 256 → rootH k zeroH [] (leafH k v) i = (tput k v i .nil).hash
  | 0, _ => by rw [tput, if_neg hv]; rfl
  | i + 1, hi => by
    rw [rootH, side_nil, root_tput k v hv i (by omega), tput, show 256 - (i + 1) = 255 - i by omega]
    have hb := bit_le k (255 - i)
    by_cases h1 : bitOf k (255 - i) = 1
    · rw [if_pos h1, if_neg (by omega), mk_hash]; rfl
    · rw [if_neg h1, if_pos (by omega), mk_hash]; rfl
theorem rootV_put (k v : Hsh) (hv : v ≠ zeroH) : rootV k v zeroH [] = ((tput k v 256 .nil).hash, 0) := by
  rw [rootV, if_pos right_nil, root_tput k v hv 256 (Nat.le_refl _)]
theorem rootV_zero (k : Hsh) : rootV k zeroH zeroH [] = (zeroH, 0) := by
  rw [rootV, if_pos right_nil, leafH, if_pos rfl, root_nil]
theorem hs_nil (H : AHeap) : HsAt H (.slice none 0 0) [] := ⟨none, 0, rfl, .inl rfl⟩
theorem bvPr0 : buildV Tryd.prog 27 [] = some (prV zeroH (.slice none 0 0)) := bv27 rfl

set_option maxHeartbeats 4000000 in
theorem c_knows60 (t : Tree) (e : t = tput h1 h2 256 .nil) (hn : t.hash ≠ zeroH) (H : AHeap) (g : Gl H) : CallR Tryd.prog noPrims 18 [] H (fun u H' => u = .bool true ∧ Hp H 0 0 H' [] []) := by
  have h2n := g.two
  have hp1 : Put1 h1 h2 .nil ((0 : Nat) : Int) = (t, ((0 : Nat) : Int) + 1, 0) := by rw [e]; exact put1_new (by rw [tget_nil]; exact Ne.symm h2_ne) h2_ne tget_nil (by omega)
  have hr1 : rootV h1 h2 zeroH [] = (t.hash, 0) := by rw [e]; exact rootV_put h1 h2 h2_ne
  have hr0 := rootV_zero h1
  have hu : updV zeroH h1 zeroH h2 zeroH [] = (t.hash, 0) := by
    unfold updV; rw [hr0]; simp [hr1]
  have hc1 : chkV t.hash h1 h2 zeroH [] = true := by unfold chkV; rw [hr1]; simp
  have hc0 : chkV t.hash h1 zeroH zeroH [] = false := by
    unfold chkV; rw [hr0]; simp; exact fun h => hn h.symm
  have cU : ∀ {H' : AHeap} {lo hi : Nat} {Mn : Hm}, Hp H lo hi H' [] Mn → CallR Tryd.prog noPrims 10 [hV zeroH, hV h1, hV zeroH, hV h2, prV zeroH (.slice none 0 0)] H' (fun u H2 => u = tupR (t.hash, 0) ∧ Hp H' 0 0 H2 [] []) := fun hp => by
    have q := c_Update zeroH h1 zeroH h2 zeroH (.slice none 0 0) [] _ (g.of hp (by simp)) (hs_nil _) (by simp)
    rw [hu] at q; exact q
  have cC1 : ∀ {H' : AHeap} {lo hi : Nat} {Mn : Hm}, Hp H lo hi H' [] Mn → CallR Tryd.prog noPrims 15 [hV t.hash, hV h1, hV h2, prV zeroH (.slice none 0 0)] H' (fun u H2 => u = .bool true ∧ Hp H' 0 0 H2 [] []) := fun hp => by
    have q := c_Check t.hash h1 h2 zeroH (.slice none 0 0) [] _ (g.of hp (by simp)) (hs_nil _) (by simp)
    rw [hc1] at q; exact q
  have cC0 : ∀ {H' : AHeap} {lo hi : Nat} {Mn : Hm}, Hp H lo hi H' [] Mn → CallR Tryd.prog noPrims 15 [hV t.hash, hV h1, hV zeroH, prV zeroH (.slice none 0 0)] H' (fun u H2 => u = .bool false ∧ Hp H' 0 0 H2 [] []) := fun hp => by
    have q := c_Check t.hash h1 zeroH zeroH (.slice none 0 0) [] _ (g.of hp (by simp)) (hs_nil _) (by simp)
    rw [hc0] at q; exact q
  have cN : ∀ {H' : AHeap} {lo hi b c : Nat} {w : Bool} {Mn : Hm}, Hp H lo hi H' [] Mn → H'.get b = .cells (hC h1 ++ hC h2) 70 w → CallR Tryd.prog noPrims 19 [.slice (some ⟨b, 0, none⟩) 1 c] H' (fun u H2 => ∃ i : Nat × Option Addr × Hm, (∀ H1, TreeL H1 0 i.2.2 i.2.1 t) ∧ u = .tuple ⟨[.pointer (some ⟨i.1, 0, none⟩), .int .i64 ((0 : Nat) : Int)]⟩ ∧ Hp H' 0 0 H2 [] ((i.1, .cells (mapC i.2.1 (((0 : Nat) : Int) + 1) true) 75 true) :: i.2.2)) := fun {H' lo hi b c w Mn} hp hb => by
    have q := c_New1 h1 h2 b c w H' (g.of hp (by simp)) hb
    rw [hp1] at q; exact q.mono fun u H2 ⟨i, a1, a2, a3⟩ => ⟨i, a1, a2, a3.perm (List.perm_append_singleton _ _).symm⟩
  clear hp1 hr1 hr0 hu hc1 hc0 e
  refine CallR.sy (n := 54) Tryd.func18 rfl rfl rfl ?_
  repeat' (first
    | (with_reducible refine Sy.seq ?_)
    | (with_reducible refine Sy.regionL ?_)
    | (with_reducible refine Sy.opsnil ?_)
    | (with_reducible refine Sy.go ?_)
    | (with_reducible refine Sy.nrm ?_)
    | ((with_reducible refine Sy.build rfl rfl bvB1 ?_))
    | ((with_reducible refine Sy.build rfl rfl bvB2 ?_))
    | ((with_reducible refine Sy.build (t := 23) (ps := #[]) rfl rfl bvZ ?_))
    | ((with_reducible refine Sy.build (t := 27) (ps := #[]) rfl rfl bvPr0 ?_))
    | ((with_reducible refine Sy.build (t := 70) rfl rfl (bvP _ _) ?_))
    | ((with_reducible apply Sy.assign); (case hd => exact rfl); (case hx => exact rfl))
    | ((with_reducible apply Sy.move); (case hd => exact rfl); (case hx => exact rfl))
    | ((with_reducible apply Sy.ext); (case hd => exact rfl); (case hx => exact rfl); (case hv => exact rfl))
    | ((with_reducible apply Sy.stNa (t := 23)); (case hx => exact rfl); (case hy => exact rfl); (case hs => exact sz23); (case hl => first | exact hC_length _); (case h1 => first | exact hC_one _); (case hm => repeat (first | exact Turn.here)); (case hle => first | (simp; done)); (case hc => first | exact lay_all (by first | (simp; done))))
    | ((with_reducible apply Sy.bin (op := .add) (t := 3)); (case hd => exact rfl); (case hx => exact rfl); (case hy => exact rfl); (case hv => exact (b_add (by omega))))
    | ((with_reducible apply Sy.bin (op := .eql) (t := 3)); (case hd => exact rfl); (case hx => exact rfl); (case hy => exact rfl); (case hv => exact b_eql))
    | ((with_reducible apply Sy.ldN (t := 23)); (case hd => exact rfl); (case hx => exact rfl); (case hm => repeat (first | exact Has.here)); (case hv => first | exact ld_hV ag23 sz23))
    | ((with_reducible apply Sy.bin (op := .eql) (t := 23)); (case hd => exact rfl); (case hx => exact rfl); (case hy => exact rfl); (case hv => exact (eq23)))
    | ((with_reducible apply Sy.pickT); (case hd => exact rfl); (case hx => exact rfl); (case hy => exact rfl))
    | ((with_reducible apply Sy.pickF); (case hd => exact rfl); (case hx => exact rfl); (case hy => exact rfl))
    | ((with_reducible apply Sy.bin (op := .neq) (t := 23)); (case hd => exact rfl); (case hx => exact rfl); (case hy => exact rfl); (case hv => exact (ne23)))
    | ((with_reducible apply Sy.un (op := .not)); (case hd => exact rfl); (case hx => exact rfl); (case hv => exact un_notF))
    | ((with_reducible apply Sy.callN (k := 19)); (case hd => exact rfl); (case hf => exact rfl); (case hen => exact en19); (case hx => exact rfl); (case hc => intro H' hp; exact cN hp (hp.getN (by repeat (first | exact Has.here | apply Has.there | apply Has.app)))); rintro ⟨m, r, L⟩ hT)
    | ((with_reducible apply Sy.call0 (k := 10)); (case hd => exact rfl); (case hf => exact rfl); (case hen => exact en10); (case hx => exact rfl); (case hc => intro H' hp; exact cU hp))
    | ((with_reducible apply Sy.dcall0 (k := 15)); (case hw => first | exact wantY_none | exact wantY_some rfl rfl rfl); (case h1 => exact rfl); (case hS => intro h hh; exact hh); (case hi1 => exact rfl); (case hd => exact rfl); (case hf => exact rfl); (case hen => exact en15); (case hx => exact rfl); (case hc => intro H' hp; exact cC1 hp))
    | ((with_reducible apply Sy.dcall0 (k := 15)); (case hw => first | exact wantY_none | exact wantY_some rfl rfl rfl); (case h1 => exact rfl); (case hS => intro h hh; exact hh); (case hi1 => exact rfl); (case hd => exact rfl); (case hf => exact rfl); (case hen => exact en15); (case hx => exact rfl); (case hc => intro H' hp; exact cC0 hp))
    | ((with_reducible apply Sy.dcall0 (k := 14)); (case hw => first | exact wantY_none | exact wantY_some rfl rfl rfl); (case h1 => exact rfl); (case hS => intro h hh; exact hh); (case hi1 => exact rfl); (case hd => exact rfl); (case hf => exact rfl); (case hen => exact en14); (case hx => exact rfl); (case hc => intro H' hp; exact c_num6 0 H'))
    | ((with_reducible apply Sy.dcall0 (k := 23)); (case hw => first | exact wantY_some rfl rfl rfl); (case h1 => exact rfl); (case hS => intro h hh; exact hh); (case hi1 => exact rfl); (case hd => exact rfl); (case hf => exact rfl); (case hen => exact en23); (case hx => exact rfl); (case hc => intro H' hp; exact c_root (t := t) H' (hp.getN (by repeat (first | exact Has.here | apply Has.there | apply Has.app))) (TreeL.at (hT H) hp (fun p h => by simp only [List.mem_append, List.mem_cons, h, true_or, or_true]) (Nat.zero_le _)) (Nat.le_refl _)))
    | ((with_reducible apply Sy.newY (o := ⟨some 9, .buildSlice 71 _ _, _, _, _, _⟩)); (case ho => exact rfl); (case hd => exact rfl); (case hc => exact (nba1 Tryd.underlying71 sz70 zr70 rfl (by decide) rfl (by first | exact rfl))); intro q9)
    | ((with_reducible apply Sy.newY (o := ⟨some 3, .alloc 23, _, _, _, _⟩)); (case ho => exact rfl); (case hd => exact rfl); (case hc => exact (nwz23)); intro q3)
    | (with_reducible refine Sy.ret ?_)
    | ((with_reducible apply Sy.drawL (id := 3) 33 [(7, 9)] (fun hi h => h < hi)); (case hp => kernel_rfl); (case hN => exact rfl); intro base hbase hM; try simp only [List.forall_mem_cons, List.forall_mem_append, List.not_mem_nil, false_implies, implies_true, and_true] at hM)
    | (with_reducible refine Sy.dend ?_)
    | ((with_reducible apply Sy.dgo); (case hw => first | exact wantY_none | exact wantY_some rfl rfl rfl); (case hc => intro hcls; cases hcls); (case h1 => exact rfl); (case h2 => exact rfl))
    | ((with_reducible apply Sy.dld); (case hw => first | exact wantY_some rfl rfl rfl); (case hx => exact rfl); (case hb => omega); (case h2 => exact rfl))
    | ((with_reducible apply Sy.dno); (case hj => exact rfl); (case ht => exact rfl); (case hb => exact rfl); (case hc => exact rfl); (case hd => exact rfl))
    | ((with_reducible apply Sy.dcaseG); (case hj => exact rfl); (case hx => exact rfl); all_goals (intro hc; try (exfalso; omega))))
  all_goals first
    | exact absurd rfl hc
    | exact absurd hn hc
    | exact .fin [.bool true] (.inr rfl) ⟨rfl, trivial⟩ fun H' hp => ⟨rfl, hp.less (List.nil_sublist _)⟩
theorem c_knows6 (H : AHeap) (g : Gl H) : CallR Tryd.prog noPrims 18 [] H (fun u H' => u = .bool true ∧ Hp H 0 0 H' [] []) := by
  have hn := knows_val
  generalize e : tput h1 h2 256 .nil = t at hn
  exact c_knows60 t e.symm hn H g
end Go.Proofs.YtmlofdgamdlcgaaDoor

/- The law ProofRoots. -/
namespace Go.Proofs.YtmlofdgamdlcgaaDoor
open Go Go.Am
set_option maxRecDepth 100000
set_option linter.unusedVariables false

theorem eqHS {a : Hsh} : binV Tryd.prog .eql 23 (hV a) (hV a) = some (.bool true) := by rw [eq23, decide_eq_true rfl]
theorem eqNS {n : Nat} : binV Tryd.prog .eql 3 (.int .i64 ((n : Nat) : Int)) (.int .i64 ((n : Nat) : Int)) = some (.bool true) := by rw [b_eql, decide_eq_true rfl]
theorem eqBS {b : Bool} : binV Tryd.prog .eql 4 (.bool b) (.bool b) = some (.bool true) := by rw [bb_eq kd4]; cases b <;> rfl
set_option maxHeartbeats 8000000 in
theorem c_ProofRoots (root key old now mask : Hsh) (sv : Value) (l : List Hsh) (H : AHeap) (g : Gl H) (hl : HsS H sv l) (hn : l.length ≤ 4398046511104) : CallR Tryd.prog noPrims 3 [hV root, hV key, hV old, hV now, prV mask sv] H (fun u H' => u = .bool true ∧ Hp H 0 0 H' [] []) := by
  have hla := hl.at
  obtain ⟨a, c, rfl, _⟩ := hla
  -- the document's
  have rR : ∀ {H' : AHeap} {lo hi : Nat} {Mn : Hm}, Hp H lo hi H' [] Mn → CallR Tryd.prog noPrims 9 [hV key, hV old, prV mask (.slice a l.length c)] H' (fun u H2 => u = tupR (rootV key old mask l) ∧ Hp H' 0 0 H2 [] []) := fun hp => c_rRoot key old mask _ l _ (hl.of hp).at hn
  have rU : ∀ {H' : AHeap} {lo hi : Nat} {Mn : Hm}, Hp H lo hi H' [] Mn → ∀ x, CallR Tryd.prog noPrims 11 [hV x, hV key, hV old, hV now, prV mask (.slice a l.length c)] H' (fun u H2 => u = tupR (updV x key old now mask l) ∧ Hp H' 0 0 H2 [] []) := fun hp x => c_rUpdate x key old now mask _ l _ (hl.of hp).at hn
  have rC : ∀ {H' : AHeap} {lo hi : Nat} {Mn : Hm}, Hp H lo hi H' [] Mn → CallR Tryd.prog noPrims 16 [hV root, hV key, hV old, prV mask (.slice a l.length c)] H' (fun u H2 => u = .bool (chkV root key old mask l) ∧ Hp H' 0 0 H2 [] []) := fun hp => c_rCheck root key old mask _ l _ (hl.of hp).at hn
  have rG : ∀ {H' : AHeap} {lo hi : Nat} {Mn : Hm}, Hp H lo hi H' [] Mn → CallR Tryd.prog noPrims 13 [prV mask (.slice a l.length c)] H' (fun u H2 => u = .bool (rightB mask l) ∧ Hp H' 0 0 H2 [] []) := fun hp => c_rRight mask _ l _ (hl.of hp).at hn
  have pP : ∀ {H' : AHeap} {lo hi : Nat} {Mn : Hm}, Hp H lo hi H' [] Mn → CallR Tryd.prog noPrims 7 [prV mask (.slice a l.length c)] H' (fun u H2 => ∃ i : Nat × Nat, True ∧ u = .agg ⟨hC mask ++ [.slice (some ⟨i.1, 0, none⟩) l.length i.2]⟩ ∧ Hp H' 0 0 H2 [] [(i.1, .cells (hcs l) 23 true)]) := fun hp => c_Proof mask _ l _ (hl.of hp) hn
  -- the program's, of the copy
  have sA : ∀ {H' : AHeap} {b c' : Nat}, H'.get b = .cells (hcs l) 23 true → HsAt H' (.slice (some ⟨b, 0, none⟩) l.length c') l := fun h => ⟨_, _, rfl, .inr ⟨_, _, _, rfl, h⟩⟩
  have pR : ∀ {H' : AHeap} {lo hi b c' : Nat} {Mn : Hm}, Hp H lo hi H' [] Mn → H'.get b = .cells (hcs l) 23 true → CallR Tryd.prog noPrims 8 [hV key, hV old, prV mask (.slice (some ⟨b, 0, none⟩) l.length c')] H' (fun u H2 => u = tupR (rootV key old mask l) ∧ Hp H' 0 0 H2 [] []) := fun hp h => c_Root key old mask _ l _ (g.of hp (by simp)) (sA h) hn
  have pU : ∀ {H' : AHeap} {lo hi b c' : Nat} {Mn : Hm}, Hp H lo hi H' [] Mn → H'.get b = .cells (hcs l) 23 true → ∀ x, CallR Tryd.prog noPrims 10 [hV x, hV key, hV old, hV now, prV mask (.slice (some ⟨b, 0, none⟩) l.length c')] H' (fun u H2 => u = tupR (updV x key old now mask l) ∧ Hp H' 0 0 H2 [] []) := fun hp h x => c_Update x key old now mask _ l _ (g.of hp (by simp)) (sA h) hn
  have pC : ∀ {H' : AHeap} {lo hi b c' : Nat} {Mn : Hm}, Hp H lo hi H' [] Mn → H'.get b = .cells (hcs l) 23 true → CallR Tryd.prog noPrims 15 [hV root, hV key, hV old, prV mask (.slice (some ⟨b, 0, none⟩) l.length c')] H' (fun u H2 => u = .bool (chkV root key old mask l) ∧ Hp H' 0 0 H2 [] []) := fun hp h => c_Check root key old mask _ l _ (g.of hp (by simp)) (sA h) hn
  have pG : ∀ {H' : AHeap} {lo hi b c' : Nat} {Mn : Hm}, Hp H lo hi H' [] Mn → H'.get b = .cells (hcs l) 23 true → CallR Tryd.prog noPrims 12 [prV mask (.slice (some ⟨b, 0, none⟩) l.length c')] H' (fun u H2 => u = .bool (rightB mask l) ∧ Hp H' 0 0 H2 [] []) := fun hp h => c_Right mask _ l _ (sA h) hn
  have pS : ∀ {H' : AHeap} {lo hi b c' : Nat} {Mn : Hm}, Hp H lo hi H' [] Mn → H'.get b = .cells (hcs l) 23 true → CallR Tryd.prog noPrims 17 [prV mask (.slice (some ⟨b, 0, none⟩) l.length c'), prV mask (.slice a l.length c)] H' (fun u H2 => u = .bool true ∧ Hp H' 0 0 H2 [] []) := fun hp h => c_Same mask _ _ l _ (sA h) (hl.of hp).at hn
  have hU := fun x => (updV x key old now mask l)
  generalize rootV key old mask l = r0 at *
  obtain ⟨x0, e0⟩ := r0
  generalize updV root key old now mask l = r1 at *
  generalize rightB mask l = bG at *
  generalize chkV root key old mask l = bC at *
  refine CallR.sy (n := 135) Tryd.func3 rfl rfl rfl ?_
  repeat' (first
    | (with_reducible refine Sy.seq ?_)
    | (with_reducible refine Sy.regionL ?_)
    | (with_reducible refine Sy.opsnil ?_)
    | (with_reducible refine Sy.go ?_)
    | (with_reducible refine Sy.nrm ?_)
    | ((with_reducible apply Sy.assign); (case hd => exact rfl); (case hx => exact rfl))
    | ((with_reducible apply Sy.ldN (t := 26)); (case hd => exact rfl); (case hx => exact rfl); (case hm => repeat (first | exact Has.here)); (case hv => first | exact ld_all ag26 (by first | (simp [sz26, *]; done))))
    | ((with_reducible apply Sy.callN (k := 7)); (case hd => exact rfl); (case hf => exact rfl); (case hen => exact en7); (case hx => exact rfl); (case hc => intro H' hp; exact pP hp); rintro ⟨b, c2⟩ _)
    | ((with_reducible apply Sy.newY (o := ⟨some 5, .box 23 _, _, _, _, _⟩)); (case ho => exact rfl); (case hd => exact rfl); (case hc => exact (nbH rfl)); intro q5)
    | ((with_reducible apply Sy.newY (o := ⟨some 6, .box 23 _, _, _, _, _⟩)); (case ho => exact rfl); (case hd => exact rfl); (case hc => exact (nbH rfl)); intro q6)
    | ((with_reducible apply Sy.newY (o := ⟨some 7, .box 23 _, _, _, _, _⟩)); (case ho => exact rfl); (case hd => exact rfl); (case hc => exact (nbH rfl)); intro q7)
    | ((with_reducible apply Sy.newY (o := ⟨some 8, .box 23 _, _, _, _, _⟩)); (case ho => exact rfl); (case hd => exact rfl); (case hc => exact (nbH rfl)); intro q8)
    | ((with_reducible apply Sy.newY (o := ⟨some 9, .box 26 _, _, _, _, _⟩)); (case ho => exact rfl); (case hd => exact rfl); (case hc => exact (nbA rfl)); intro q9)
    | ((with_reducible apply Sy.newY (o := ⟨some 11, .alloc 27, _, _, _, _⟩)); (case ho => exact rfl); (case hd => exact rfl); (case hc => exact (nwz27)); intro q11))
  dsimp only
  repeat' (first
    | (with_reducible refine Sy.seq ?_)
    | (with_reducible refine Sy.regionL ?_)
    | (with_reducible refine Sy.opsnil ?_)
    | (with_reducible refine Sy.go ?_)
    | (with_reducible refine Sy.nrm ?_)
    | ((with_reducible refine Sy.stNa (t := 27) rfl rfl sz27 (by simp) (by simp [oneL_append, hC_one, oneL_cons, oneL_nil, Value.oneCell']) (by repeat (first | exact Turn.here | apply Turn.there | apply Turn.app)) (by simp) setPr ?_))
    | ((with_reducible refine Sy.bin (op := .eql) (t := 23) rfl rfl rfl eqHS ?_))
    | ((with_reducible refine Sy.bin (op := .eql) (t := 3) rfl rfl rfl eqNS ?_))
    | ((with_reducible refine Sy.bin (op := .eql) (t := 4) rfl rfl rfl eqBS ?_))
    | ((with_reducible apply Sy.assign); (case hd => exact rfl); (case hx => exact rfl))
    | ((with_reducible apply Sy.ldN (t := 26)); (case hd => exact rfl); (case hx => exact rfl); (case hm => repeat (first | exact Has.here | apply Has.there)); (case hv => first | exact ld_all ag26 (by first | (simp [sz26, *]; done))))
    | ((with_reducible apply Sy.ldN (t := 23)); (case hd => exact rfl); (case hx => exact rfl); (case hm => repeat (first | exact Has.here | apply Has.there)); (case hv => first | exact ld_hV ag23 sz23))
    | ((with_reducible apply Sy.ldN (t := 27)); (case hd => exact rfl); (case hx => exact rfl); (case hm => repeat (first | exact Has.here | apply Has.there)); (case hv => first | exact ld_all ag27 (by first | (simp [sz27, *]; done))))
    | ((with_reducible apply Sy.move); (case hd => exact rfl); (case hx => exact rfl))
    | ((with_reducible apply Sy.ext); (case hd => exact rfl); (case hx => exact rfl); (case hv => exact rfl))
    | ((with_reducible apply Sy.stNa (t := 23)); (case hx => exact rfl); (case hy => exact rfl); (case hs => exact sz23); (case hl => first | exact hC_length _); (case h1 => first | exact hC_one _); (case hm => repeat (first | exact Turn.here)); (case hle => first | (simp; done)); (case hc => first | exact lay_all (by first | (simp; done))))
    | ((with_reducible apply Sy.pickT); (case hd => exact rfl); (case hx => exact rfl); (case hy => exact rfl))
    | ((with_reducible apply Sy.call0 (k := 8)); (case hd => exact rfl); (case hf => exact rfl); (case hen => exact en8); (case hx => exact rfl); (case hc => intro H' hp; exact pR hp (hp.getN (by repeat (first | exact Has.here | apply Has.there | apply Has.app)))))
    | ((with_reducible apply Sy.call0 (k := 9)); (case hd => exact rfl); (case hf => exact rfl); (case hen => exact en9); (case hx => exact rfl); (case hc => intro H' hp; exact rR hp))
    | ((with_reducible apply Sy.call0 (k := 10)); (case hd => exact rfl); (case hf => exact rfl); (case hen => exact en10); (case hx => exact rfl); (case hc => intro H' hp; exact pU hp (hp.getN (by repeat (first | exact Has.here | apply Has.there | apply Has.app))) _))
    | ((with_reducible apply Sy.call0 (k := 11)); (case hd => exact rfl); (case hf => exact rfl); (case hen => exact en11); (case hx => exact rfl); (case hc => intro H' hp; exact rU hp _))
    | ((with_reducible apply Sy.dcall0 (k := 15)); (case hw => first | exact wantY_none | exact wantY_some rfl rfl rfl); (case h1 => exact rfl); (case hS => intro h hh; exact hh); (case hi1 => exact rfl); (case hd => exact rfl); (case hf => exact rfl); (case hen => exact en15); (case hx => exact rfl); (case hc => intro H' hp; exact pC hp (hp.getN (by repeat (first | exact Has.here | apply Has.there | apply Has.app)))))
    | ((with_reducible apply Sy.dcall0 (k := 16)); (case hw => first | exact wantY_none | exact wantY_some rfl rfl rfl); (case h1 => exact rfl); (case hS => intro h hh; exact hh); (case hi1 => exact rfl); (case hd => exact rfl); (case hf => exact rfl); (case hen => exact en16); (case hx => exact rfl); (case hc => intro H' hp; exact rC hp))
    | ((with_reducible apply Sy.dcall0 (k := 12)); (case hw => first | exact wantY_none | exact wantY_some rfl rfl rfl); (case h1 => exact rfl); (case hS => intro h hh; exact hh); (case hi1 => exact rfl); (case hd => exact rfl); (case hf => exact rfl); (case hen => exact en12); (case hx => exact rfl); (case hc => intro H' hp; exact pG hp (hp.getN (by repeat (first | exact Has.here | apply Has.there | apply Has.app)))))
    | ((with_reducible apply Sy.dcall0 (k := 13)); (case hw => first | exact wantY_none | exact wantY_some rfl rfl rfl); (case h1 => exact rfl); (case hS => intro h hh; exact hh); (case hi1 => exact rfl); (case hd => exact rfl); (case hf => exact rfl); (case hen => exact en13); (case hx => exact rfl); (case hc => intro H' hp; exact rG hp))
    | ((with_reducible apply Sy.dcall0 (k := 17)); (case hw => first | exact wantY_some rfl rfl rfl); (case h1 => exact rfl); (case hS => intro h hh; exact hh); (case hi1 => exact rfl); (case hd => exact rfl); (case hf => exact rfl); (case hen => exact en17); (case hx => exact rfl); (case hc => intro H' hp; exact pS hp (hp.getN (by repeat (first | exact Has.here | apply Has.there | apply Has.app)))))
    | ((with_reducible apply Sy.dcall0 (k := 14)); (case hw => first | exact wantY_some rfl rfl rfl); (case h1 => exact rfl); (case hS => intro h hh; exact hh); (case hi1 => exact rfl); (case hd => exact rfl); (case hf => exact rfl); (case hen => exact en14); (case hx => exact rfl); (case hc => intro H' hp; exact c_num6 _ H'))
    | ((with_reducible apply Sy.dcall0 (k := 18)); (case hw => first | exact wantY_some rfl rfl rfl); (case h1 => exact rfl); (case hS => intro h hh; exact hh); (case hi1 => exact rfl); (case hd => exact rfl); (case hf => exact rfl); (case hen => exact en18); (case hx => exact rfl); (case hc => intro H' hp; exact c_knows6 H' (g.of hp (by simp))))
    | ((with_reducible apply Sy.newY (o := ⟨some 12, .alloc 23, _, _, _, _⟩)); (case ho => exact rfl); (case hd => exact rfl); (case hc => exact (nwz23)); intro q12)
    | ((with_reducible apply Sy.newY (o := ⟨some 14, .alloc 23, _, _, _, _⟩)); (case ho => exact rfl); (case hd => exact rfl); (case hc => exact (nwz23)); intro q14)
    | ((with_reducible apply Sy.newY (o := ⟨some 16, .alloc 23, _, _, _, _⟩)); (case ho => exact rfl); (case hd => exact rfl); (case hc => exact (nwz23)); intro q16)
    | ((with_reducible apply Sy.newY (o := ⟨some 18, .alloc 23, _, _, _, _⟩)); (case ho => exact rfl); (case hd => exact rfl); (case hc => exact (nwz23)); intro q18)
    | ((with_reducible apply Sy.newY (o := ⟨some 20, .alloc 23, _, _, _, _⟩)); (case ho => exact rfl); (case hd => exact rfl); (case hc => exact (nwz23)); intro q20)
    | ((with_reducible apply Sy.newY (o := ⟨some 22, .alloc 23, _, _, _, _⟩)); (case ho => exact rfl); (case hd => exact rfl); (case hc => exact (nwz23)); intro q22)
    | (with_reducible refine Sy.ret ?_)
    | ((with_reducible apply Sy.drawL (id := 8) 60 [(2, 1), (22, 21), (23, 21), (24, 21), (25, 21)] (fun hi h => h < hi)); (case hp => kernel_rfl); (case hN => exact rfl); intro base hbase hM; try simp only [List.forall_mem_cons, List.forall_mem_append, List.not_mem_nil, false_implies, implies_true, and_true] at hM)
    | (with_reducible refine Sy.dend ?_)
    | ((with_reducible apply Sy.dgo); (case hw => first | exact wantY_none | exact wantY_some rfl rfl rfl); (case hc => intro hcls; cases hcls); (case h1 => exact rfl); (case h2 => exact rfl))
    | ((with_reducible apply Sy.dld); (case hw => first | exact wantY_none | exact wantY_some rfl rfl rfl); (case hx => exact rfl); (case hb => omega); (case h2 => exact rfl)))
  exact .fin [.bool true] (.inr rfl) ⟨rfl, trivial⟩ fun H' hp => ⟨rfl, hp.less (List.nil_sublist _)⟩
end Go.Proofs.YtmlofdgamdlcgaaDoor
