/- The law of batches. -/
import Derived.Test.YtjimjolfnimimaaDoorBatC
import Derived.Test.YtjimjolfnimimaaDoorMsgB
set_option linter.unusedSimpArgs false
set_option linter.unusedVariables false
/- Layer 09: MessageBatches. -/
namespace Go.Proofs.YtjimjolfnimimaaDoor
open Go Go.Am
set_option maxRecDepth 100000
set_option linter.unusedVariables false

theorem k_GetBatch' (v : Value) (l : List Nat) (G : (Nat × List Txn) × Nat) (H : AHeap) (hG : getB l = G) (hv : SlR H 1 v l.length (ints .u8 l)) (h256 : ∀ x ∈ l, x < 256) (hl : l.length ≤ 140737488355328) : CallR Tryd.prog noPrims 35 [v] H (fun u H' => ∃ i : List Tel × Nat × Nat, (tsOf i.1 = G.1.2 ∧ VwT i.2.2 l i.1) ∧ u = .tuple ⟨[.agg ⟨baC G.1.1 (accV 10 (tsC i.1) i.1.length i.2.1)⟩, .int .i64 ((G.2 : Nat) : Int)]⟩ ∧ Hp H 0 0 H' [] (accM 85 (tsC i.1) i.1.length i.2.1 ++ bufM l i.2.2)) := by
  subst hG
  exact k_GetBatch v l H hv h256 hl
theorem k_rGetBatch' (v : Value) (l : List Nat) (G : (Nat × List Txn) × Nat) (H : AHeap) (hG : getB l = G) (hv : SlR H 1 v l.length (ints .u8 l)) (h256 : ∀ x ∈ l, x < 256) (hl : l.length ≤ 140737488355328) : CallR Tryd.prog noPrims 36 [v] H (fun u H' => ∃ i : List Tel × Nat × Hm, (tsOf i.1 = G.1.2 ∧ VwL i.2.2 i.1) ∧ u = .tuple ⟨[.agg ⟨baC G.1.1 (accV 10 (tsC i.1) i.1.length i.2.1)⟩, .int .i64 ((G.2 : Nat) : Int)]⟩ ∧ Hp H 0 0 H' [] (accM 66 (tsC i.1) i.1.length i.2.1 ++ i.2.2)) := by
  subst hG
  exact k_rGetBatch v l H hv h256 hl
theorem ts_d {es : List Tel} {i o T : Nat} {x : Tel} {w : Bool} (e : es[i]? = some x) (ho : o = i * 10 + 9) : aLoad Tryd.prog 25 (.cells (tsC es) T w) o = some x.2 := ld_one ag25 (by
  have hi : i < es.length := (List.getElem?_eq_some_iff.1 e).1
  rw [tsC_cut e, List.getElem?_append_right (by rw [tsC_length, List.length_take]; omega), tsC_length, List.length_take, Nat.min_eq_left (by omega), ho, Nat.add_sub_cancel_left, List.getElem?_append_left (by simp), txC_d])
theorem CopT.at' {H H1 : AHeap} {lo hi b : Nat} {T : TypeId} {L : Hm} {es : List Tel} {Mo Mn : Hm} (hL : CopT L es) (ho : ∀ e ∈ es, e.1.ok ∧ e.1.d.length ≤ 140737488355328) (hp : Hp H lo hi H1 Mo Mn) (h1 : es.length ≠ 0 → Has Mn b (.cells (tsC es) T true)) (h2 : ∀ x o, Has L x o → Has Mn x o) : TxsAt T H1 (accV 10 (tsC es) es.length b) es := by
  refine ⟨?_, fun e he => ⟨(ho e he).1, ?_, (ho e he).2⟩⟩
  · by_cases h0 : es.length = 0
    · exact ⟨none, 0, by rw [accV, if_pos h0, h0], .inl (List.length_eq_zero_iff.1 h0)⟩
    · exact ⟨some ⟨b, 0, none⟩, _, by rw [accV, if_neg h0], .inr ⟨b, true, rfl, hp.getN (h1 h0)⟩⟩
  · obtain ⟨b1, c1, e1, hh⟩ := hL e he
    rw [e1]
    exact full_slr0 (hp.getN (h2 _ _ hh))
theorem VwL.at' {H H1 : AHeap} {lo hi b : Nat} {T : TypeId} {L : Hm} {es : List Tel} {Mo Mn : Hm} (hV : VwL L es) (hp : Hp H lo hi H1 Mo Mn) (h1' : es.length ≠ 0 → Has Mn b (.cells (tsC es) T true)) (h2' : ∀ x o, Has L x o → Has Mn x o) : TxsAt T H1 (accV 10 (tsC es) es.length b) es := by
  refine ⟨?_, fun e he => ?_⟩
  · by_cases h0 : es.length = 0
    · exact ⟨none, 0, by rw [accV, if_pos h0, h0], .inl (List.length_eq_zero_iff.1 h0)⟩
    · exact ⟨some ⟨b, 0, none⟩, _, by rw [accV, if_neg h0], .inr ⟨b, true, rfl, hp.getN (h1' h0)⟩⟩
  · obtain ⟨h1, h2, b1, h3, h4⟩ := hV e he
    exact ⟨h1, h3.slr' (fun x => hp.getN (h2' _ _ (h4 x))), h2⟩
theorem bvBa2 {ep : Nat} {v : Value} (h : v.cells.toList = [v]) : buildV Tryd.prog 71 [(0, .int .u64 ((ep : Nat) : Int)), (1, v)] = some (.agg ⟨baC ep v⟩) := bv71 (by
  have e1 : ∀ z : Int, (Value.int .u64 z).cells.toList = [.int .u64 z] := fun _ => rfl
  simp [fillL, plc, lay, h, e1])
theorem bvRBa2 {ep : Nat} {v : Value} (h : v.cells.toList = [v]) : buildV Tryd.prog 74 [(0, .int .u64 ((ep : Nat) : Int)), (1, v)] = some (.agg ⟨baC ep v⟩) := bv74 (by
  have e1 : ∀ z : Int, (Value.int .u64 z).cells.toList = [.int .u64 z] := fun _ => rfl
  simp [fillL, plc, lay, h, e1])
theorem ok_of {es ea : List Tel} (hk : tsOf ea = tsOf es) (h : ∀ e ∈ es, e.1.ok ∧ e.1.d.length ≤ 140737488355328) : ∀ e ∈ ea, e.1.ok ∧ e.1.d.length ≤ 140737488355328 := fun e he => by
  have h1 : e.1 ∈ tsOf ea := List.mem_map_of_mem he
  rw [hk] at h1
  obtain ⟨x, hx, e1⟩ := List.mem_map.1 h1
  rw [← e1]
  exact h x hx
set_option maxHeartbeats 8000000 in
theorem c_MessageBatches (ep : Nat) (es : List Tel) (l : List Nat) (v1 v : Value) (H : AHeap) (g : Gl H) (hep : ep < 18446744073709551616) (h1 : TxsAt 66 H v1 es) (hv : SlR H 1 v l.length (ints .u8 l)) (h256 : ∀ x ∈ l, x < 256) (hn : es.length < 9223372036854775808) (hl2 : l.length < 9223372036854775808) :
    CallR Tryd.prog noPrims 6 [.int .u64 ((ep : Nat) : Int), v1, v] H (fun u H' => u = .bool true) := by
  obtain ⟨va, vk, rfl⟩ := slr_form hv
  have h1' := h1
  obtain ⟨⟨a1, c1, rfl, h1⟩, hss⟩ := h1
  have hoo : ∀ e ∈ es, e.1.ok ∧ e.1.d.length ≤ 140737488355328 := fun e he => ⟨(hss e he).1, (hss e he).2.2⟩
  refine CallR.sy (n := 106) Tryd.func6 rfl rfl rfl ?_
  repeat' (first
    | (with_reducible refine Sy.seq ?_)
    | (with_reducible refine Sy.regionL ?_)
    | (with_reducible refine Sy.opsnil ?_)
    | (with_reducible refine Sy.go ?_)
    | (with_reducible refine Sy.nrm ?_)
    | ((with_reducible apply Sy.assign); exact rfl; exact rfl)
    | ((with_reducible apply Sy.move); exact rfl; exact rfl)
    | ((with_reducible apply Sy.lenS); exact rfl; exact Tryd.underlying64; exact rfl)
    | ((with_reducible apply Sy.bin (op := .gtr) (t := 3)); exact rfl; exact rfl; exact rfl; exact b_gtr)
    | ((with_reducible apply Sy.bin (op := .gtr) (t := 3)); exact rfl; exact rfl; exact rfl; exact bz_gtr)
    | ((with_reducible apply Sy.lenS); exact rfl; exact Tryd.underlying25; exact rfl)
    | ((with_reducible apply Sy.pickT); exact rfl; exact rfl; exact rfl)
    | ((with_reducible apply Sy.pickF); exact rfl; exact rfl; exact rfl)
    | ((with_reducible apply Sy.call0 (k := 9)); exact rfl; exact rfl; exact en9; exact rfl; (intro H' hp; exact c_knows9 H' (g.of hp (List.forall_mem_nil _))))
    | (with_reducible refine Sy.skip ?_)
    | (with_reducible refine Sy.ret ?_)
    | (with_reducible refine Sy.block ?_)
    | (with_reducible refine Sy.aret ?_)
    | ((with_reducible apply Sy.yes); exact rfl)
    | ((with_reducible apply Sy.goG); exact rfl; exact rfl; exact rfl)
    | ((with_reducible apply Sy.noG); exact rfl; exact rfl; exact rfl; exact rfl; exact rfl)
    | ((with_reducible apply Sy.caseG); (case hj => exact rfl); (case hx => exact rfl); all_goals (intro hc; try (exfalso; omega)))
    | ((with_reducible apply Sy.ite); (case hx => exact rfl); all_goals (intro hc; try (exfalso; omega))))
  · exact .fin [_] (.inr rfl) ⟨rfl, trivial⟩ fun H' hp => rfl
  · exact .fin [_] (.inr rfl) ⟨rfl, trivial⟩ fun H' hp => rfl
  refine Sy.loop (ι := Nat) (fun i => es.length - i) (fun i => [(0, .int .u64 ((ep : Nat) : Int)), (1, .slice a1 es.length c1), (2, .slice va l.length vk), (7, .int .i64 (i : Nat))]) (fun _ => []) (fun _ => []) (fun i => i ≤ es.length) 0 (Nat.zero_le _) ⟨rfl, rfl, rfl, rfl, trivial⟩ (fun H h => h) ?_
  rintro i hi
  by_cases hlt : i < es.length
  · obtain ⟨x, hx⟩ : ∃ x, es[i]? = some x := ⟨es[i], List.getElem?_eq_getElem hlt⟩
    rcases h1 with rfl | ⟨b1, w1, rfl, hb1⟩
    · simp at hlt
    obtain ⟨ho, hsv, hsl⟩ := hss x (List.mem_of_getElem? hx)
    obtain ⟨m, sv⟩ := x
    dsimp only at ho hsv hsl
    obtain ⟨sa, sc, rfl⟩ := slr_form hsv
    repeat' (first
    | (with_reducible refine Sy.seq ?_)
    | (with_reducible refine Sy.regionL ?_)
    | (with_reducible refine Sy.opsnil ?_)
    | (with_reducible refine Sy.go ?_)
    | (with_reducible refine Sy.nrm ?_)
    | ((with_reducible refine Sy.ld0 (t := 25) rfl rfl hb1 rfl (by simp only [List.forall_mem_cons, List.not_mem_nil, false_implies, implies_true, and_true, ne_eq]; first | done | omega | (repeat (first | with_reducible assumption | (refine And.intro ?_ ?_)))) (ts_d hx (by omega)) ?_))
    | ((with_reducible apply Sy.assign); exact rfl; exact rfl)
    | ((with_reducible apply Sy.move); exact rfl; exact rfl)
    | ((with_reducible apply Sy.lenS); exact rfl; exact Tryd.underlying64; exact rfl)
    | ((with_reducible apply Sy.bin (op := .gtr) (t := 3)); exact rfl; exact rfl; exact rfl; exact b_gtr)
    | ((with_reducible apply Sy.bin (op := .gtr) (t := 3)); exact rfl; exact rfl; exact rfl; exact bz_gtr)
    | ((with_reducible apply Sy.lenS); exact rfl; exact Tryd.underlying25; exact rfl)
    | ((with_reducible apply Sy.bin (op := .lss) (t := 3)); exact rfl; exact rfl; exact rfl; exact b_lss)
    | ((with_reducible apply Sy.bin (op := .lss) (t := 3)); exact rfl; exact rfl; exact rfl; exact bz_lss)
    | ((with_reducible apply Sy.ia (t := 64)); exact rfl; exact rfl; exact rfl; exact (ia_sl Tryd.underlying64 sz66 (by omega)))
    | ((with_reducible apply Sy.fa (t := 66) (i := 6)); exact rfl; exact rfl; exact fa66_6 _ _)
    | ((with_reducible apply Sy.bin (op := .add) (t := 3)); exact rfl; exact rfl; exact rfl; exact (b_add (by omega)))
    | ((with_reducible apply Sy.bin (op := .add) (t := 3)); exact rfl; exact rfl; exact rfl; exact (bz_add (by omega) (by omega)))
    | ((with_reducible apply Sy.fa (t := 71) (i := 0)); exact rfl; exact rfl; exact fa71_0 _ _)
    | ((with_reducible apply Sy.fa (t := 74) (i := 0)); exact rfl; exact rfl; exact fa74_0 _ _)
    | ((with_reducible apply Sy.fa (t := 71) (i := 1)); exact rfl; exact rfl; exact fa71_1 _ _)
    | ((with_reducible apply Sy.fa (t := 74) (i := 1)); exact rfl; exact rfl; exact fa74_1 _ _)
    | ((with_reducible apply Sy.call0 (k := 9)); exact rfl; exact rfl; exact en9; exact rfl; (intro H' hp; exact c_knows9 H' (g.of hp (List.forall_mem_nil _))))
    | (with_reducible refine Sy.skip ?_)
    | (with_reducible refine Sy.ret ?_)
    | (with_reducible refine Sy.block ?_)
    | (with_reducible refine Sy.aret ?_)
    | (with_reducible refine Sy.inrm ?_)
    | (with_reducible refine Sy.iret ?_)
    | (with_reducible refine Sy.rret ?_)
    | ((with_reducible apply Sy.ite); (case hx => exact rfl); all_goals (intro hc; try (exfalso; omega))))
    · exact .fin [_] (.inr rfl) ⟨rfl, trivial⟩ fun H' hp => rfl
    · exact Sy.rnrm (i + 1) (by omega) (by show es.length - (i + 1) < es.length - i; omega) ⟨rfl, rfl, rfl, rfl, trivial⟩ (fun H1 h => h.less (List.nil_sublist _))
  · clear h1
    obtain ⟨P, hP⟩ : ∃ P, putB ep (tsOf es) = P := ⟨_, rfl⟩
    obtain ⟨G, hG⟩ : ∃ G, getB l = G := ⟨_, rfl⟩
    have hG8 := (getB_ok h256).2
    rw [hG] at hG8
    repeat' (first
    | (with_reducible refine Sy.seq ?_)
    | (with_reducible refine Sy.regionL ?_)
    | (with_reducible refine Sy.opsnil ?_)
    | (with_reducible refine Sy.go ?_)
    | (with_reducible refine Sy.nrm ?_)
    | ((with_reducible apply Sy.assign); exact rfl; exact rfl)
    | ((with_reducible apply Sy.move); exact rfl; exact rfl)
    | ((with_reducible apply Sy.lenS); exact rfl; exact Tryd.underlying64; exact rfl)
    | ((with_reducible apply Sy.lenS); exact rfl; exact Tryd.underlying25; exact rfl)
    | ((with_reducible apply Sy.bin (op := .lss) (t := 3)); exact rfl; exact rfl; exact rfl; exact b_lss)
    | ((with_reducible apply Sy.bin (op := .lss) (t := 3)); exact rfl; exact rfl; exact rfl; exact bz_lss)
    | ((with_reducible apply Sy.callN (k := 10)); exact rfl; exact rfl; exact en10; exact rfl; (intro H' hp; exact k_Lent _ l H' (hv.of hp) (by omega)); rintro b -)
    | ((with_reducible apply Sy.callN (k := 33)); exact rfl; exact rfl; exact en33; exact rfl; (intro H' hp; exact k_lTxs es _ H' (h1'.of hp) (by omega) (fun e he => (hss e he).2.2)); rintro ⟨ea, bo, L⟩ ⟨hk, hL⟩)
    | (with_reducible refine Sy.exit ?_)
    | (with_reducible refine Sy.aex ?_)
    | ((with_reducible apply Sy.iex); exact rfl)
    | (with_reducible refine Sy.rex ?_)
    | ((with_reducible apply Sy.ite); (case hx => exact rfl); all_goals (intro hc; try (exfalso; omega))))
    dsimp only at hk hL ⊢
    rw [List.append_assoc]
    have hao := ok_of hk hoo
    have hal : ea.length = es.length := by have := congrArg List.length hk; simpa using this
    have hP' : putB ep (tsOf ea) = P := by rw [hk]; exact hP
    repeat' (first
    | (with_reducible refine Sy.seq ?_)
    | (with_reducible refine Sy.regionL ?_)
    | (with_reducible refine Sy.opsnil ?_)
    | (with_reducible refine Sy.go ?_)
    | (with_reducible refine Sy.nrm ?_)
    | ((with_reducible refine Sy.build (t := 71) rfl rfl (bvBa2 accV_cells) ?_))
    | ((with_reducible refine Sy.build (t := 74) rfl rfl (bvRBa2 rfl) ?_))
    | ((with_reducible apply Sy.assign); exact rfl; exact rfl)
    | ((with_reducible apply Sy.move); exact rfl; exact rfl)
    | ((with_reducible apply Sy.ext); exact rfl; exact rfl; exact rfl)
    | ((with_reducible apply Sy.callN (k := 32)); exact rfl; exact rfl; exact en32; exact rfl; (intro H' hp; exact k_PutBatch ep ea _ P H' hP' (hL.at' hao hp (fun hx => by repeat (first | exact accM_hasT hx | apply Has.app)) (fun x o hx => by repeat (first | exact Has.front hx | apply Has.app))) (by omega) hep); rintro ⟨c3, a3, k3⟩ h3)
    | ((with_reducible apply Sy.callN (k := 34)); exact rfl; exact rfl; exact en34; exact rfl; (intro H' hp; exact k_rPutBatch ep es _ P H' hP (h1'.of hp) (by omega) hep); rintro ⟨c4, a4, k4⟩ h4))
    dsimp only at h3 h4 ⊢
    repeat' (first
    | (with_reducible refine Sy.go ?_)
    | ((with_reducible apply Sy.move); exact rfl; exact rfl)
    | ((with_reducible apply Sy.ext); exact rfl; exact rfl; exact rfl)
    | ((with_reducible apply Sy.callN (k := 35)); exact rfl; exact rfl; exact en35; exact rfl; (intro H' hp; exact k_GetBatch' (.slice (some ⟨b, 0, none⟩) l.length _) l G H' hG (lent_slr (hp.getN (h := b) (o := .cells (ints .u8 (l ++ [55, 56])) 5 true) hasT)) h256 (by omega)); rintro ⟨e5, b5, c5⟩ ⟨hk5, hV5⟩)
    | ((with_reducible apply Sy.newY (o := ⟨some 13, .alloc 71, _, _, _, _⟩)); exact rfl; exact rfl; exact nwz71; intro q13)
    | ((with_reducible apply Sy.newY (o := ⟨some 15, .alloc 74, _, _, _, _⟩)); exact rfl; exact rfl; exact nwz74; intro q15))
    dsimp only at hk5 hV5 ⊢
    rw [List.append_assoc (accM 85 (tsC e5) e5.length b5)]
    repeat' (first
    | (with_reducible refine Sy.seq ?_)
    | (with_reducible refine Sy.regionL ?_)
    | (with_reducible refine Sy.opsnil ?_)
    | (with_reducible refine Sy.go ?_)
    | (with_reducible refine Sy.nrm ?_)
    | ((with_reducible refine Sy.stNa (t := 71) rfl rfl sz71 (by simp) (ba_one accV_one) (by repeat (first | exact Turn.here | apply Turn.there | apply Turn.app)) (by simp) (lay_all (by simp)) ?_))
    | ((with_reducible apply Sy.assign); exact rfl; exact rfl)
    | ((with_reducible apply Sy.move); exact rfl; exact rfl)
    | ((with_reducible apply Sy.ext); exact rfl; exact rfl; exact rfl)
    | ((with_reducible apply Sy.callN (k := 36)); exact rfl; exact rfl; exact en36; exact rfl; (intro H' hp; exact k_rGetBatch' _ l G H' hG (hv.of hp) h256 (by omega)); rintro ⟨e6, b6, L6⟩ ⟨hk6, hV6⟩)
    | ((with_reducible apply Sy.newY (o := ⟨some 13, .alloc 71, _, _, _, _⟩)); exact rfl; exact rfl; exact nwz71; intro q13)
    | ((with_reducible apply Sy.newY (o := ⟨some 15, .alloc 74, _, _, _, _⟩)); exact rfl; exact rfl; exact nwz74; intro q15))
    dsimp only at hk6 hV6 ⊢
    rw [List.append_assoc (accM 66 (tsC e6) e6.length b6)]
    have h5l : e5.length = G.1.2.length := by have := congrArg List.length hk5; simpa using this
    have h5d : ∀ e ∈ e5, e.1.d.length ≤ 140737488355328 := fun e he => (hV5 e he).2.2
    have hk56 : tsOf e5 = tsOf e6 := hk5.trans hk6.symm
    repeat' (first
    | (with_reducible refine Sy.seq ?_)
    | (with_reducible refine Sy.regionL ?_)
    | (with_reducible refine Sy.opsnil ?_)
    | (with_reducible refine Sy.go ?_)
    | (with_reducible refine Sy.nrm ?_)
    | ((with_reducible refine Sy.stNa (t := 74) rfl rfl sz74 (by simp) (ba_one accV_one) (by repeat (first | exact Turn.here | apply Turn.there | apply Turn.app)) (by simp) (lay_all (by simp)) ?_))
    | ((with_reducible refine Sy.bin (op := .eql) (t := 3) rfl rfl rfl eqNS ?_))
    | ((with_reducible refine Sy.bin (op := .eql) (t := 22) rfl rfl rfl equS ?_))
    | ((with_reducible refine Sy.ldN (t := 68) rfl rfl (by repeat (first | exact Has.here | apply Has.there | apply Has.app)) ld_bts ?_))
    | ((with_reducible refine Sy.ldN (t := 64) rfl rfl (by repeat (first | exact Has.here | apply Has.there | apply Has.app)) ld_rbts ?_))
    | ((with_reducible apply Sy.str); exact Tryd.underlying25; exact Tryd.underlying9; exact Tryd.underlying5; exact rfl; exact rfl; exact SrL.vw (by with_reducible assumption) (by intro x; repeat (first | exact bufM_has x | apply Has.there | apply Has.app)))
    | ((with_reducible apply Sy.assign); exact rfl; exact rfl)
    | ((with_reducible apply Sy.move); exact rfl; exact rfl)
    | ((with_reducible apply Sy.pickT); exact rfl; exact rfl; exact rfl)
    | ((with_reducible apply Sy.fa (t := 66) (i := 6)); exact rfl; exact rfl; exact fa66_6 _ _)
    | ((with_reducible apply Sy.ldN (t := 25)); exact rfl; exact rfl; exact hasT; (· first | exact ld_one ag25 rfl))
    | ((with_reducible apply Sy.str); exact Tryd.underlying25; exact Tryd.underlying9; exact Tryd.underlying5; exact rfl; exact rfl; (· first | assumption | exact SrL.nil | exact SrL.ofN hasT | exact SrL.of0 (by assumption) rfl))
    | ((with_reducible apply Sy.bin (op := .eql) (t := 9)); exact rfl; exact rfl; exact rfl; exact eqSS)
    | ((with_reducible apply Sy.bin (op := .eql) (t := 9)); exact rfl; exact rfl; exact rfl; exact (eqS (by assumption) (by assumption)))
    | ((with_reducible apply Sy.bin (op := .eql) (t := 3)); exact rfl; exact rfl; exact rfl; exact b_eql)
    | ((with_reducible apply Sy.bin (op := .eql) (t := 3)); exact rfl; exact rfl; exact rfl; exact bz_eql)
    | ((with_reducible apply Sy.fa (t := 71) (i := 0)); exact rfl; exact rfl; exact fa71_0 _ _)
    | ((with_reducible apply Sy.ldN (t := 22)); exact rfl; exact rfl; exact hasT; (· first | exact ld_one ag22 rfl))
    | ((with_reducible apply Sy.fa (t := 74) (i := 0)); exact rfl; exact rfl; exact fa74_0 _ _)
    | ((with_reducible apply Sy.bin (op := .eql) (t := 22)); exact rfl; exact rfl; exact rfl; exact b_eql)
    | ((with_reducible apply Sy.bin (op := .eql) (t := 22)); exact rfl; exact rfl; exact rfl; exact bz_eql)
    | ((with_reducible apply Sy.fa (t := 71) (i := 1)); exact rfl; exact rfl; exact fa71_1 _ _)
    | ((with_reducible apply Sy.ldN (t := 68)); exact rfl; exact rfl; exact hasT; (· first | exact ld_one ag68 rfl))
    | ((with_reducible apply Sy.fa (t := 74) (i := 1)); exact rfl; exact rfl; exact fa74_1 _ _)
    | ((with_reducible apply Sy.ldN (t := 64)); exact rfl; exact rfl; exact hasT; (· first | exact ld_one ag64 rfl))
    | ((with_reducible apply Sy.call0 (k := 20)); exact rfl; exact rfl; exact en20; exact rfl; (intro H' hp; exact k_lNum _ H'))
    | ((with_reducible apply Sy.call0 (k := 37)); exact rfl; exact rfl; exact en37; exact rfl; (intro H' hp; exact k_sameTxs e5 e6 _ _ H' (hV5.at hp (fun hx => by repeat (first | exact accM_hasT hx | apply Has.there | apply Has.app)) (fun hx => by repeat (first | exact bufM_has hx | apply Has.there | apply Has.app))) (hV6.at' hp (fun hx => by repeat (first | exact accM_hasT hx | apply Has.there | apply Has.app)) (fun x o hx => by repeat (first | exact Has.front hx | apply Has.there | apply Has.app))) hk56 (by omega) h5d))
    | ((with_reducible apply Sy.call0 (k := 23)); exact rfl; exact rfl; exact en23; exact rfl; (intro H' hp; exact k_Stays b _ l 5 H' (hp.getN hasT) (hv.of hp) h256 (by omega)))
    | ((with_reducible apply Sy.call0 (k := 9)); exact rfl; exact rfl; exact en9; exact rfl; (intro H' hp; exact c_knows9 H' (g.of hp (List.forall_mem_nil _))))
    | (with_reducible refine Sy.ret ?_)
    | ((with_reducible apply Sy.goG); exact rfl; exact rfl; exact rfl))
    exact .fin [_] (.inr rfl) ⟨rfl, trivial⟩ fun H' hp => rfl
end Go.Proofs.YtjimjolfnimimaaDoor
