/- Batches out of bytes, the programs. -/
import Derived.Test.YtcaafoibabijgaaBatB
import Derived.Test.YtcaafoibabijgaaMsgB
set_option linter.unusedSimpArgs false
set_option linter.unusedVariables false
/- Layer 09: the program's GetBatch. -/
namespace Go.Proofs.Ytcaafoibabijgaa
open Go Go.Am
set_option maxRecDepth 100000
set_option linter.unusedVariables false

theorem k_tx' {p c : Nat} {lb : List Nat} {r : Rd} {v : Value} {R : Txn × Rd} {H : AHeap} (hR : rdT r = R) (h : RdAt H p c lb r v) :
    CallR Try.prog noPrims 56 [.pointer (some ⟨p, 0, none⟩)] H (fun u H' => ∃ i : Value × Option Addr × Nat, (Vw c lb i.1 R.2.l ∧ Vw c lb (.slice i.2.1 R.1.d.length i.2.2) R.1.d) ∧ u = txV R.1 (.slice i.2.1 R.1.d.length i.2.2) ∧ Hp H 0 0 H' [(p, .cells (rdC i.1 R.2.e) 127 true)] []) := by
  subst hR
  exact (k_tx h).mono fun u H' ⟨i, ⟨h1, h2⟩, h3, h4⟩ => by
    obtain ⟨a, c, e⟩ := h2.slice
    exact ⟨(i.1, a, c), ⟨h1, by rw [← e]; exact h2⟩, by rw [← e]; exact h3, h4⟩
theorem bvBa {ep : Nat} : buildV Try.prog 78 [(0, .int .u64 ((ep : Nat) : Int))] = some (.agg ⟨baC ep (.slice none 0 0)⟩) := bv78 rfl
theorem bvBa0 : buildV Try.prog 78 [] = some (.agg ⟨baC 0 (.slice none 0 0)⟩) := bv78 rfl
theorem ld_ba {ep : Nat} {v : Value} {T : TypeId} {b : Bool} : aLoad Try.prog 78 (.cells (baC ep v) T b) 0 = some (.agg ⟨baC ep v⟩) := load_all ag78 sz78 rfl
theorem ld_bts {ep : Nat} {v : Value} {T : TypeId} {b : Bool} : aLoad Try.prog 76 (.cells (baC ep v) T b) (0 + 1) = some v := ld_one ag76 rfl
theorem set_ba {ep : Nat} {v w : Value} : (baC ep v).set (0 + 1) w = baC ep w := rfl
/-- Views of what a reader has. -/
def VwT (c : Nat) (lb : List Nat) (es : List Tel) : Prop := ∀ e ∈ es, e.1.ok ∧ Vw c lb e.2 e.1.d ∧ e.1.d.length ≤ 140737488355328
theorem VwT.at {H H1 : AHeap} {lo hi b c : Nat} {T : TypeId} {lb : List Nat} {es : List Tel} {Mo Mn : Hm} (hV : VwT c lb es) (hp : Hp H lo hi H1 Mo Mn) (h1 : es.length ≠ 0 → Has Mn b (.cells (tsC es) T true)) (h2 : lb ≠ [] → Has Mn c (.cells (ints .u8 lb) 5 true)) : TxsAt T H1 (accV 10 (tsC es) es.length b) es := by
  refine ⟨?_, fun e he => ⟨(hV e he).1, (hV e he).2.1.slr' (fun x => hp.getN (h2 x)), (hV e he).2.2⟩⟩
  by_cases h0 : es.length = 0
  · exact ⟨none, 0, by rw [accV, if_pos h0, h0], .inl (List.length_eq_zero_iff.1 h0)⟩
  · exact ⟨some ⟨b, 0, none⟩, _, by rw [accV, if_neg h0], .inr ⟨b, true, rfl, hp.getN (h1 h0)⟩⟩
theorem k_doneB {p c ep : Nat} {lb : List Nat} {r : Rd} {v v1 : Value} {es : List Tel} {H : AHeap} (h : RdAt H p c lb r v) (h1 : TxsAt 59 H v1 es) (hn : es.length ≤ 4398046511104) :
    CallR Try.prog noPrims 57 [.pointer (some ⟨p, 0, none⟩), .iface 78 (.agg ⟨baC ep v1⟩)] H (fun u H' => u = .bool (decide (rdDone r = 0) && rightBB (tsOf es)) ∧ Hp H 0 0 H' [] []) := by
  refine CallR.sy (n := 12) Try.func57 rfl rfl rfl ?_
  repeat' (first
    | (with_reducible refine Sy.seq ?_)
    | (with_reducible refine Sy.regionL ?_)
    | (with_reducible refine Sy.opsnil ?_)
    | (with_reducible refine Sy.go ?_)
    | (with_reducible refine Sy.nrm ?_)
    | ((with_reducible apply Sy.assign); exact rfl; exact rfl)
    | ((with_reducible apply Sy.move); exact rfl; exact rfl)
    | ((with_reducible apply Sy.bin (op := .eql) (t := 27)); exact rfl; exact rfl; exact rfl; exact b_eql)
    | ((with_reducible apply Sy.bin (op := .eql) (t := 27)); exact rfl; exact rfl; exact rfl; exact bz_eql)
    | ((with_reducible apply Sy.pickT); exact rfl; exact rfl; exact rfl)
    | ((with_reducible apply Sy.pickF); exact rfl; exact rfl; exact rfl)
    | ((with_reducible apply Sy.call0 (k := 66)); exact rfl; exact rfl; exact en66; exact rfl; (intro H' hp; exact k_rdDone (h.of hp (List.forall_mem_nil _))))
    | ((with_reducible apply Sy.inv0 (k := 103)); exact rfl; exact rfl; exact mf103; exact en103; exact rfl; (intro H' hp; exact c_bright ep es v1 H' (h1.of hp) hn))
    | (with_reducible refine Sy.ret ?_)
    | ((with_reducible apply Sy.goG); exact rfl; exact rfl; exact rfl)
    | ((with_reducible apply Sy.noG); exact rfl; exact rfl; exact rfl; exact rfl; exact rfl)
    | ((with_reducible apply Sy.caseG); (case hj => exact rfl); (case hx => exact rfl); all_goals (intro hc; try (exfalso; omega))))
  all_goals exact .fin [_] (.inr rfl) ⟨rfl, trivial⟩ fun H' hp => ⟨by show tupV [_] = _; simp [tupV, hc], hp⟩
theorem tsB_lt {ts : List Txn} (ho : ∀ m ∈ ts, m.ok) : ∀ x ∈ tsB ts, x < 256 := fun x hx => by
  unfold tsB at hx
  obtain ⟨l, hl, hx⟩ := List.mem_flatten.1 hx
  obtain ⟨m, hm, rfl⟩ := List.mem_map.1 hl
  unfold txB at hx
  rcases List.mem_append.1 hx with hx | hx
  · exact u64s_lt _ x hx
  · rcases List.mem_append.1 hx with hx | hx
    · exact be256_lt _ x hx
    · rcases List.mem_append.1 hx with hx | hx
      · exact be64_lt _ x hx
      · exact blobN_lt (ho m hm).d x hx
theorem k_doneB' {p c ep : Nat} {lb : List Nat} {r : Rd} {v v1 : Value} {es : List Tel} {H : AHeap} {D : Bool} (hD : (decide (rdDone r = 0) && rightBB (tsOf es)) = D) (h : RdAt H p c lb r v) (h1 : TxsAt 59 H v1 es) (hn : es.length ≤ 4398046511104) :
    CallR Try.prog noPrims 57 [.pointer (some ⟨p, 0, none⟩), .iface 78 (.agg ⟨baC ep v1⟩)] H (fun u H' => u = .bool D ∧ Hp H 0 0 H' [] []) := by
  subst hD
  exact k_doneB h h1 hn
theorem Sy.meetB {ι : Type} {P : Program} {pr : Prims} {f : Nat} {n : Nat} {H0 : AHeap} {lo hi : Nat} {E : Env} {Mo Mn : Hm} {c : Code} {id : Nat} {K : AS → Prop} {Q : AEx → AS → Prop} (E' : ι → Env) (Mo' Mn' : ι → Hm) (I : ι → Prop) (h : Sy n H0 lo hi E Mo Mn (CodeY P pr f c (inBlock id (andThen (meetQ n H0 lo hi E' Mo' Mn' I) Q))))
    (k : ∀ i, I i → Sy n H0 lo hi (E' i) (Mo' i) (Mn' i) K) : Sy n H0 lo hi E Mo Mn (CodeY P pr f c (inBlock id (andThen K Q))) :=
  h.imp fun s hs => ⟨hs.run.mono fun e s' he => by
    have key : ∀ s', meetQ n H0 lo hi E' Mo' Mn' I s' → K s' := fun s' ⟨i, hi, x, y, z⟩ => k i hi s'.tm s'.H x y z
    cases e with
    | normal => exact key _ he
    | exit i =>
      simp only [inBlock_exit] at he ⊢
      split at he
      · rename_i hc
        rw [if_pos hc]
        exact key _ he
      · rename_i hc
        rw [if_neg hc]
        exact he
    | goto l => exact he
    | ret => exact he⟩
/-- What stands behind the loop of GetBatch. -/
structure GetE (l : List Nat) (c ep : Nat) (G : (Nat × List Txn) × Nat) (es : List Tel) (v : Value) (r : Rd) : Prop where
  vt : VwT c l es
  vv : Vw c l v r.l
  n8 : es.length ≤ 8
  bad : ¬ (rdDone r = 0 ∧ rightBB (tsOf es) = true) → G = ((0, []), 21)
  good : rdDone r = 0 → rightBB (tsOf es) = true → batB ep (tsOf es) = l → G = ((ep, tsOf es), 0)
  bad2 : rdDone r = 0 → rightBB (tsOf es) = true → ¬ batB ep (tsOf es) = l → G = ((0, []), 21)
theorem GetE.bad3 {l : List Nat} {c ep : Nat} {G : (Nat × List Txn) × Nat} {es : List Tel} {v : Value} {r : Rd} (h : GetE l c ep G es v r) (h1 : rdDone r = 0) (h2 : rightBB (tsOf es) = true) (h3 : es.length = 0) (h4 : 16 < l.length) : G = ((0, []), 21) := h.bad2 h1 h2 fun h5 => by
  have h6 : es = [] := List.length_eq_zero_iff.1 h3
  subst h6
  have := congrArg List.length h5
  rw [batB_eq] at this
  simp [tsB] at this
  omega
theorem batB_256 {l : List Nat} {c ep : Nat} {es : List Tel} (hV : VwT c l es) : ∀ x ∈ batB ep (tsOf es), x < 256 := by
  intro x hx
  rw [batB_eq] at hx
  rcases List.mem_append.1 hx with hx | hx
  · exact be64_lt _ x hx
  · rcases List.mem_append.1 hx with hx | hx
    · exact be64_lt _ x hx
    · exact tsB_lt (fun m hm => by
        obtain ⟨e, he, rfl⟩ := List.mem_map.1 hm
        exact (hV e he).1) x hx
theorem batB_n {ep : Nat} {ts : List Txn} (h : rightBB ts = true) : (batB ep ts).length ≤ 65536 := by
  have h8 := rightBB_n h
  have := batTo_len (ep := ep) h8.2 ts.length
  show (batTo ep ts ts.length).length ≤ 65536
  omega
theorem k_bytesB' (ep : Nat) (es : List Tel) (v : Value) (L : List Nat) (H : AHeap) (hP : putB ep (tsOf es) = (L, 0)) (h1 : TxsAt 59 H v es) (hn : es.length ≤ 8) (hep : ep < 18446744073709551616) :
    CallR Try.prog noPrims 39 [.iface 78 (.agg ⟨baC ep v⟩)] H (fun u H' => ∃ i : Nat × Option Addr × Nat, Vw i.1 L (.slice i.2.1 L.length i.2.2) L ∧ u = .tuple ⟨[.slice i.2.1 L.length i.2.2, .int .i64 ((0 : Nat) : Int)]⟩ ∧ Hp H 0 0 H' [] (bufM L i.1)) :=
  k_bytesB ep es v (L, 0) H hP h1 (by omega) hep
set_option maxHeartbeats 4000000 in
theorem k_GetBatch (v : Value) (l : List Nat) (H : AHeap) (hv : SlR H 1 v l.length (ints .u8 l)) (h256 : ∀ x ∈ l, x < 256) (hl : l.length ≤ 140737488355328) : CallR Try.prog noPrims 40 [v] H (fun u H' => ∃ i : List Tel × Nat × Nat, (tsOf i.1 = (getB l).1.2 ∧ VwT i.2.2 l i.1) ∧ u = .tuple ⟨[.agg ⟨baC (getB l).1.1 (accV 10 (tsC i.1) i.1.length i.2.1)⟩, .int .i64 (((getB l).2 : Nat) : Int)]⟩ ∧ Hp H 0 0 H' [] (accM 59 (tsC i.1) i.1.length i.2.1 ++ bufM l i.2.2)) := by
  obtain ⟨va, vk, rfl⟩ := slr_form hv
  refine CallR.sy (n := 59) Try.func40 rfl rfl rfl ?_
  repeat' (first
    | (with_reducible refine Sy.seq ?_)
    | (with_reducible refine Sy.regionL ?_)
    | (with_reducible refine Sy.opsnil ?_)
    | (with_reducible refine Sy.go ?_)
    | (with_reducible refine Sy.nrm ?_)
    | ((with_reducible apply Sy.assign); exact rfl; exact rfl)
    | ((with_reducible apply Sy.move); exact rfl; exact rfl)
    | ((with_reducible apply Sy.callN (k := 52)); exact rfl; exact rfl; exact en52; exact rfl; (intro H' hp; exact k_NewReader _ l H' (hv.of hp) hl); rintro ⟨p, c, v1⟩ h1)
    | ((with_reducible apply Sy.newY (o := ⟨some 2, .alloc 78, _, _, _, _⟩)); exact rfl; exact rfl; exact nwz78; intro q2)
    | ((with_reducible apply Sy.newY (o := ⟨some 5, .alloc 78, _, _, _, _⟩)); exact rfl; exact rfl; exact nwz78; intro q5)
    | (with_reducible refine Sy.scope ?_))
  dsimp only at h1 ⊢
  rw [List.cons_append]
  repeat' (first
    | (with_reducible refine Sy.seq ?_)
    | (with_reducible refine Sy.regionL ?_)
    | (with_reducible refine Sy.opsnil ?_)
    | (with_reducible refine Sy.go ?_)
    | (with_reducible refine Sy.nrm ?_)
    | ((with_reducible refine Sy.build (t := 78) rfl rfl bvBa ?_))
    | ((with_reducible apply Sy.assign); exact rfl; exact rfl)
    | ((with_reducible apply Sy.move); exact rfl; exact rfl)
    | ((with_reducible apply Sy.stNa (t := 78)); exact rfl; exact rfl; exact sz78; (· first | exact rfl | (simp; done)); (· first | exact rfl); exact turnT; (· first | (simp; done)); (· first | exact lay_all (by first | (simp; done)) | exact rfl))
    | ((with_reducible apply Sy.callTN (k := 53)); exact rfl; exact rfl; exact en53; exact rfl; (case hc => intro H' hp; exact k_rdUint (RdAt.new (c := c) hp hasT (fun hx => by repeat (first | exact bufM_has hx | apply Has.there)) h1 h256 hl)); (intro i; exact turnT); rintro v2 h2)
    | ((with_reducible apply Sy.callTN (k := 54)); exact rfl; exact rfl; exact en54; exact rfl; (case hc => intro H' hp; exact k_rdCount (most := 8) (RdAt.n1 (r := (⟨l, 0⟩ : Rd).next 8) (c := c) hp hasT h2 (fun hx => by repeat (first | exact bufM_has hx | apply Has.there)) h256 hl) (by decide)); (intro i; exact turnT); rintro v3 h3)
    | ((with_reducible apply Sy.newY (o := ⟨some 2, .alloc 78, _, _, _, _⟩)); exact rfl; exact rfl; exact nwz78; intro q2)
    | ((with_reducible apply Sy.newY (o := ⟨some 5, .alloc 78, _, _, _, _⟩)); exact rfl; exact rfl; exact nwz78; intro q5)
    | (with_reducible refine Sy.label ?_)
    | (with_reducible refine Sy.block ?_))
  rw [List.nil_append]
  have hl1 := Rd.next_lt (r := ⟨l, 0⟩) (k := 8) h256
  have hr2 := rdCnt_lt (m := 8) hl1
  have hn8 := rdCnt_most 8 ((⟨l, 0⟩ : Rd).next 8)
  have hcan : (rdCnt 8 ((⟨l, 0⟩ : Rd).next 8)).2.e = 0 → l = be64 (rdU ⟨l, 0⟩) ++ (be64 (rdCnt 8 ((⟨l, 0⟩ : Rd).next 8)).1 ++ (rdCnt 8 ((⟨l, 0⟩ : Rd).next 8)).2.l) := fun h => by
    obtain ⟨e2, c2, _⟩ := can_cnt h hl1
    obtain ⟨_, c3⟩ := can_u e2 h256
    dsimp only at c3
    rw [← c2]; exact c3
  have hep : rdU ⟨l, 0⟩ < 18446744073709551616 := rdU_lt h256
  have hG : getB l = if rdDone (rdTs (rdCnt 8 ((⟨l, 0⟩ : Rd).next 8)).2 (rdCnt 8 ((⟨l, 0⟩ : Rd).next 8)).1).2 = 0 ∧ rightBB (rdTs (rdCnt 8 ((⟨l, 0⟩ : Rd).next 8)).2 (rdCnt 8 ((⟨l, 0⟩ : Rd).next 8)).1).1 = true then ((rdU ⟨l, 0⟩, (rdTs (rdCnt 8 ((⟨l, 0⟩ : Rd).next 8)).2 (rdCnt 8 ((⟨l, 0⟩ : Rd).next 8)).1).1), 0) else ((0, []), 21) := rfl
  have hgb : ∀ (ep : Nat) (ts : List Txn), ep < 18446744073709551616 → (∀ m ∈ ts, m.ok) → rightBB ts = true → batB ep ts = l → getB l = ((ep, ts), 0) := fun ep ts h1 h2 h3 h4 => by
    have := get_bat (r := []) h1 h2 h3
    rw [List.append_nil, h4, if_pos rfl] at this
    exact this
  have hcB := can_B h256
  generalize getB l = G at hG hgb hcB ⊢
  generalize rdU ⟨l, 0⟩ = ep at hcan hep hG ⊢
  generalize rdCnt 8 ((⟨l, 0⟩ : Rd).next 8) = N2 at h3 hr2 hn8 hcan hG ⊢
  obtain ⟨n, r2⟩ := N2
  dsimp only at h3 hr2 hn8 hcan hG ⊢
  refine Sy.meetB (ι := List Tel × Nat × Value × Rd) (fun i => [(0, .slice va l.length vk), (2, .pointer (some ⟨q2, 0, none⟩)), (4, .pointer (some ⟨p, 0, none⟩)), (5, .pointer (some ⟨q5, 0, none⟩))]) (fun _ => []) (fun i => (q5, .cells (baC ep (accV 10 (tsC i.1) i.1.length i.2.1)) 78 true) :: (p, .cells (rdC i.2.2.1 i.2.2.2.e) 127 true) :: (accM 59 (tsC i.1) i.1.length i.2.1 ++ (bufM l c ++ [(q2, AObj.cells [Value.int .u64 ((0 : Nat) : Int), Value.slice none 0 0] 78 true)]))) (fun i => GetE l c ep G i.1 i.2.2.1 i.2.2.2) ?_ (fun i hI => ?_)
  rotate_left
  · obtain ⟨es, bo, v4, r⟩ := i
    dsimp only at hI ⊢
    clear hr2 hn8 hcan hG hgb hcB h3 hl1
    have hV := hI.vt
    have hv4 := hI.vv
    have hn8 := hI.n8
    obtain ⟨D, hD⟩ : ∃ D, (decide (rdDone r = 0) && rightBB (tsOf es)) = D := ⟨_, rfl⟩
    cases D with
    | false =>
      have hGb : G = ((0, []), 21) := hI.bad fun h => by rw [h.1, h.2] at hD; simp at hD
      subst hGb
      clear hI
      repeat' (first
    | (with_reducible refine Sy.seq ?_)
    | (with_reducible refine Sy.regionL ?_)
    | (with_reducible refine Sy.opsnil ?_)
    | (with_reducible refine Sy.go ?_)
    | (with_reducible refine Sy.nrm ?_)
    | ((with_reducible refine Sy.ldN (t := 78) rfl rfl (by repeat (first | exact Has.here | apply Has.there | apply Has.app)) ld_ba ?_))
    | ((with_reducible refine Sy.build (t := 78) (ps := #[]) rfl rfl bvBa0 ?_))
    | ((with_reducible apply Sy.assign); exact rfl; exact rfl)
    | ((with_reducible apply Sy.move); exact rfl; exact rfl)
    | ((with_reducible apply Sy.stNa (t := 78)); exact rfl; exact rfl; exact sz78; (· first | exact rfl | (simp; done)); (· first | exact rfl); exact turnT; (· first | (simp; done)); (· first | exact lay_all (by first | (simp; done)) | exact rfl))
    | ((with_reducible apply Sy.iface); exact rfl; exact rfl; exact if78)
    | ((with_reducible apply Sy.un (op := .not)); exact rfl; exact rfl; exact un_notT)
    | ((with_reducible apply Sy.un (op := .not)); exact rfl; exact rfl; exact un_notF)
    | ((with_reducible apply Sy.un (op := .not)); exact rfl; exact rfl; exact un_notD)
    | ((with_reducible apply Sy.un (op := .not)); exact rfl; exact rfl; exact un_not)
    | ((with_reducible apply Sy.pickT); exact rfl; exact rfl; exact rfl)
    | ((with_reducible apply Sy.call0 (k := 57)); exact rfl; exact rfl; exact en57; exact rfl; (intro H' hp; exact k_doneB' (r := r) (es := es) hD (RdAt.n1 (r := r) (c := c) hp hasT hv4 (fun hx => by repeat (first | exact bufM_has hx | apply Has.there | apply Has.app)) h256 hl) (hV.at hp (fun hx => by repeat (first | exact accM_hasT hx | apply Has.there | apply Has.app)) (fun hx => by repeat (first | exact bufM_has hx | apply Has.there | apply Has.app))) (by omega)))
    | (with_reducible refine Sy.ret ?_)
    | (with_reducible refine Sy.aret ?_)
    | (with_reducible refine Sy.sret ?_)
    | ((with_reducible apply Sy.yes); exact rfl)
    | ((with_reducible apply Sy.noG); exact rfl; exact rfl; exact rfl; exact rfl; exact rfl)
    | ((with_reducible apply Sy.noGu); exact rfl; exact rfl; exact rfl))
      all_goals exact .fin [.agg ⟨baC 0 (.slice none 0 0)⟩, _] (.inr rfl) ⟨⟨_, _, _, rfl, (by repeat (first | exact Has.here | apply Has.there | apply Has.app)), ld_ba⟩, rfl, trivial⟩ fun H' hp => ⟨([], 0, c), ⟨rfl, by simp [VwT]⟩, rfl, hp.less (.cons _ (.cons _ ((List.sublist_append_left _ _).trans (List.sublist_append_right _ _))))⟩
    | true =>
      have hD2 : rdDone r = 0 ∧ rightBB (tsOf es) = true := by simpa using hD
      have hP : putB ep (tsOf es) = (batB ep (tsOf es), 0) := by rw [putB, if_pos hD2.2]
      have hLt := batB_256 (ep := ep) hV
      have hLn := batB_n (ep := ep) hD2.2
      have hgood := hI.good hD2.1 hD2.2
      have hbad2 := hI.bad2 hD2.1 hD2.2
      have hbad3 := hI.bad3 hD2.1 hD2.2
      generalize batB ep (tsOf es) = L at hP hLt hLn hgood hbad2
      clear hI hD2
      repeat' (first
    | (with_reducible refine Sy.seq ?_)
    | (with_reducible refine Sy.regionL ?_)
    | (with_reducible refine Sy.opsnil ?_)
    | (with_reducible refine Sy.go ?_)
    | (with_reducible refine Sy.nrm ?_)
    | ((with_reducible apply Sy.lenA); exact rfl; exact Try.underlying76; exact rfl)
    | ((with_reducible refine Sy.stNa (t := 78) rfl rfl sz78 (by simp) (ba_one accV_one) (by repeat (first | exact Turn.here | apply Turn.there | apply Turn.app)) (by simp) (lay_all (by simp)) ?_))
    | ((with_reducible refine Sy.ldN (t := 78) rfl rfl (by repeat (first | exact Has.here | apply Has.there | apply Has.app)) ld_ba ?_))
    | ((with_reducible refine Sy.ldN (t := 76) rfl rfl (by repeat (first | exact Has.here | apply Has.there | apply Has.app)) ld_bts ?_))
    | ((with_reducible refine Sy.build (t := 78) (ps := #[]) rfl rfl bvBa0 ?_))
    | ((with_reducible apply Sy.assign); exact rfl; exact rfl)
    | ((with_reducible apply Sy.move); exact rfl; exact rfl)
    | ((with_reducible apply Sy.stNa (t := 78)); exact rfl; exact rfl; exact sz78; (· first | exact rfl | (simp; done)); (· first | exact rfl); exact turnT; (· first | (simp; done)); (· first | exact lay_all (by first | (simp; done)) | exact rfl))
    | ((with_reducible apply Sy.bin (op := .gtr) (t := 3)); exact rfl; exact rfl; exact rfl; exact b_gtr)
    | ((with_reducible apply Sy.bin (op := .gtr) (t := 3)); exact rfl; exact rfl; exact rfl; exact bz_gtr)
    | ((with_reducible apply Sy.bin (op := .eql) (t := 3)); exact rfl; exact rfl; exact rfl; exact b_eql)
    | ((with_reducible apply Sy.bin (op := .eql) (t := 3)); exact rfl; exact rfl; exact rfl; exact bz_eql)
    | ((with_reducible apply Sy.fa (t := 78) (i := 1)); exact rfl; exact rfl; exact fa78_1 _ _)
    | ((with_reducible apply Sy.iface); exact rfl; exact rfl; exact if78)
    | ((with_reducible apply Sy.un (op := .not)); exact rfl; exact rfl; exact un_notT)
    | ((with_reducible apply Sy.un (op := .not)); exact rfl; exact rfl; exact un_notF)
    | ((with_reducible apply Sy.un (op := .not)); exact rfl; exact rfl; exact un_notD)
    | ((with_reducible apply Sy.un (op := .not)); exact rfl; exact rfl; exact un_not)
    | ((with_reducible apply Sy.lenS); exact rfl; exact Try.underlying76; exact rfl)
    | ((with_reducible apply Sy.lenS); exact rfl; exact Try.underlying23; exact rfl)
    | ((with_reducible apply Sy.pickT); exact rfl; exact rfl; exact rfl)
    | ((with_reducible apply Sy.pickF); exact rfl; exact rfl; exact rfl)
    | ((with_reducible apply Sy.ext); exact rfl; exact rfl; exact rfl)
    | ((with_reducible apply Sy.call0 (k := 57)); exact rfl; exact rfl; exact en57; exact rfl; (intro H' hp; exact k_doneB' (r := r) (es := es) hD (RdAt.n1 (r := r) (c := c) hp hasT hv4 (fun hx => by repeat (first | exact bufM_has hx | apply Has.there | apply Has.app)) h256 hl) (hV.at hp (fun hx => by repeat (first | exact accM_hasT hx | apply Has.there | apply Has.app)) (fun hx => by repeat (first | exact bufM_has hx | apply Has.there | apply Has.app))) (by omega)))
    | ((with_reducible apply Sy.callN (k := 39)); exact rfl; exact rfl; exact en39; exact rfl; (intro H' hp; exact k_bytesB' ep es _ L H' hP (hV.at hp (fun hx => by repeat (first | exact accM_hasT hx | apply Has.there | apply Has.app)) (fun hx => by repeat (first | exact bufM_has hx | apply Has.there | apply Has.app))) hn8 hep); rintro ⟨c7, a7, k7⟩ h7)
    | ((with_reducible apply Sy.call0 (k := 58)); exact rfl; exact rfl; exact en58; exact rfl; (intro H' hp; exact c_EqualB L l _ _ H' (h7.slr' (fun hx => hp.getN (by repeat (first | exact bufM_has hx | apply Has.there | apply Has.app)))) (hv.of hp) hLt h256 (by omega) (by omega)))
    | (with_reducible refine Sy.skip ?_)
    | (with_reducible refine Sy.ret ?_)
    | (with_reducible refine Sy.aret ?_)
    | (with_reducible refine Sy.sret ?_)
    | ((with_reducible apply Sy.no); exact rfl)
    | ((with_reducible apply Sy.goG); exact rfl; exact rfl; exact rfl)
    | ((with_reducible apply Sy.noG); exact rfl; exact rfl; exact rfl; exact rfl; exact rfl)
    | ((with_reducible apply Sy.caseG); (case hj => exact rfl); (case hx => exact rfl); all_goals (intro hc; try (exfalso; omega)))
    | ((with_reducible apply Sy.ite); (case hx => exact rfl); all_goals (intro hc; try (exfalso; omega))))
      all_goals first
        | (rw [hbad3 (by assumption) (by assumption)]; exact .fin [.agg ⟨baC 0 (.slice none 0 0)⟩, _] (.inr rfl) ⟨⟨_, _, _, rfl, (by repeat (first | exact Has.here | apply Has.there | apply Has.app)), ld_ba⟩, rfl, trivial⟩ fun H' hp => ⟨([], 0, c), ⟨rfl, by simp [VwT]⟩, rfl, hp.less (.cons _ (.cons _ ((List.sublist_append_left _ _).trans (List.sublist_append_right _ _))))⟩)
        | (rw [hbad2 hc]; exact .fin [.agg ⟨baC 0 (.slice none 0 0)⟩, _] (.inr rfl) ⟨⟨_, _, _, rfl, (by repeat (first | exact Has.here | apply Has.there | apply Has.app)), ld_ba⟩, rfl, trivial⟩ fun H' hp => ⟨([], 0, c), ⟨rfl, by simp [VwT]⟩, rfl, hp.less (List.Sublist.trans (.cons _ (.cons _ ((List.sublist_append_left _ _).trans (List.sublist_append_right _ _)))) (List.sublist_append_right _ _))⟩)
        | (rw [hgood (Decidable.not_not.1 hc)]; exact .fin [.agg ⟨baC ep (accV 10 (tsC es) es.length bo)⟩, _] (.inr rfl) ⟨⟨_, _, _, rfl, (by repeat (first | exact Has.here | apply Has.there | apply Has.app)), ld_ba⟩, rfl, trivial⟩ fun H' hp => ⟨(es, bo, c), ⟨rfl, hV⟩, rfl, hp.less (List.Sublist.trans (.cons _ (.cons _ (List.Sublist.append_left (List.sublist_append_left _ _) _))) (List.sublist_append_right _ _))⟩)
  refine Sy.loop (ι := Nat × List Tel × Nat × Value) (fun i => n - i.1) (fun i => [(0, .slice va l.length vk), (2, .pointer (some ⟨q2, 0, none⟩)), (4, .pointer (some ⟨p, 0, none⟩)), (5, .pointer (some ⟨q5, 0, none⟩)), (6, .int .i64 (((n - i.1 : Nat)) : Int))]) (fun _ => []) (fun i => (q5, .cells (baC ep (accV 10 (tsC i.2.1) i.2.1.length i.2.2.1)) 78 true) :: (p, .cells (rdC i.2.2.2 (rdTs r2 i.1).2.e) 127 true) :: (accM 59 (tsC i.2.1) i.2.1.length i.2.2.1 ++ (bufM l c ++ [(q2, AObj.cells [Value.int .u64 ((0 : Nat) : Int), Value.slice none 0 0] 78 true)]))) (fun i => i.1 ≤ n ∧ tsOf i.2.1 = (rdTs r2 i.1).1 ∧ VwT c l i.2.1 ∧ Vw c l i.2.2.2 (rdTs r2 i.1).2.l) (0, [], 0, v3) ⟨Nat.zero_le _, rfl, by simp [VwT], h3⟩ ⟨rfl, rfl, rfl, rfl, rfl, trivial⟩ (fun H h => by dsimp only; rw [rdTs_0]; exact h) ?_
  rintro ⟨i, es, bo, v4⟩ ⟨hi, hk, hV, hv4⟩
  dsimp only at hi hk hV hv4 ⊢
  have hel : es.length = i := by have := congrArg List.length hk; rw [List.length_map, rdTs_len] at this; exact this
  have hrl := rdTs_lt hr2 i
  have hS1 := rdTs_s r2 i
  have hcT := can_Ts hr2 i
  have hle := hv4.le
  by_cases hlt : i < n ∧ (rdTs r2 i).2.l.length ≠ 0
  · obtain ⟨hlt, hne⟩ := hlt
    clear hG hcan hgb hcB hcT
    obtain ⟨⟨ts, r⟩, hS⟩ : ∃ x, rdTs r2 i = x := ⟨_, rfl⟩
    rw [hS] at hk hv4 hrl hS1 hle hne
    rw [hS]
    dsimp only at hk hv4 hrl hS1 hle hne ⊢
    have hok := rdT_ok hrl
    obtain ⟨⟨m, r'⟩, hR⟩ : ∃ x, rdT r = x := ⟨_, rfl⟩
    rw [hR] at hok hS1
    dsimp only at hok hS1
    repeat' (first
    | (with_reducible refine Sy.seq ?_)
    | (with_reducible refine Sy.regionL ?_)
    | (with_reducible refine Sy.opsnil ?_)
    | (with_reducible refine Sy.go ?_)
    | (with_reducible refine Sy.nrm ?_)
    | ((with_reducible apply Sy.drawL (id := 7) 8 [(1, 3)] (fun hi h => h = q5)); (case hp => kernel_rfl); (case hN => exact rfl); intro base hbase hM; try simp only [List.forall_mem_cons, List.forall_mem_append, List.not_mem_nil, false_implies, implies_true, and_true] at hM)
    | ((with_reducible refine Sy.ldN (t := 76) rfl rfl (by repeat (first | exact Has.here | apply Has.there | apply Has.app)) ld_bts ?_))
    | ((with_reducible apply Sy.appB (t := 76) (xt := 76)); exact (ap76_76 zr59 rfl); exact rfl; exact rfl; exact rfl; exact SrcY.tx (m := m) hasT; exact txC_oneS _ _ _ _; (· rw [txC_length]); (· omega); exact pullT; exact tsC_length _; exact tsC_snoc es (m, _); intro q28)
    | ((with_reducible apply Sy.stN1 (t := 76)); exact rfl; exact rfl; exact sz76; exact accV_cells; exact accV_oneL; exact turnT; (· simp); exact set_ba)
    | ((with_reducible apply Sy.assign); exact rfl; exact rfl)
    | ((with_reducible apply Sy.move); exact rfl; exact rfl)
    | ((with_reducible apply Sy.bin (op := .gtr) (t := 3)); exact rfl; exact rfl; exact rfl; exact b_gtr)
    | ((with_reducible apply Sy.bin (op := .gtr) (t := 3)); exact rfl; exact rfl; exact rfl; exact bz_gtr)
    | ((with_reducible apply Sy.bin (op := .eql) (t := 3)); exact rfl; exact rfl; exact rfl; exact b_eql)
    | ((with_reducible apply Sy.bin (op := .eql) (t := 3)); exact rfl; exact rfl; exact rfl; exact bz_eql)
    | ((with_reducible apply Sy.fa (t := 78) (i := 1)); exact rfl; exact rfl; exact fa78_1 _ _)
    | ((with_reducible apply Sy.bin (op := .sub) (t := 3)); exact rfl; exact rfl; exact rfl; exact (b_sub (by omega) (by omega)))
    | ((with_reducible apply Sy.bin (op := .sub) (t := 3)); exact rfl; exact rfl; exact rfl; exact (bz_sub (by omega) (by omega)))
    | ((with_reducible apply Sy.dgo); (· first | exact wantY_none); (· intro hcls; cases hcls); exact rfl; exact rfl)
    | ((with_reducible apply Sy.dwr); (case hw => first | exact wantY_none); (case hc => intro hcls; cases hcls); (case h1 => exact rfl); (case hk => exact .consN (b := q5) hasT .nil); (case hS => intro h hh; subst hh; exact ⟨_, List.mem_singleton.2 rfl⟩))
    | ((with_reducible apply Sy.dand); (case hk => exact .consN (b := q5) hasT .nil))
    | ((with_reducible apply Sy.call0 (k := 55)); exact rfl; exact rfl; exact en55; exact rfl; (intro H' hp; exact k_rdLeft (RdAt.n1 (r := r) (c := c) hp hasT hv4 (fun hx => by repeat (first | exact bufM_has hx | apply Has.there | apply Has.app)) h256 hl)))
    | ((with_reducible apply Sy.callTN (k := 56)); exact rfl; exact rfl; exact en56; exact rfl; (case hc => intro H' hp; exact k_tx' hR (RdAt.n1 (r := r) (c := c) hp hasT hv4 (fun hx => by repeat (first | exact bufM_has hx | apply Has.there | apply Has.app)) h256 hl)); (intro i; exact turnT); rintro ⟨v5, a5, k5⟩ ⟨h5, h6⟩)
    | ((with_reducible apply Sy.dnew (o := ⟨some 27, .buildSlice 76 _ _, _, _, _, _⟩)); (· first | exact wantY_none); exact rfl; exact rfl; exact rfl; exact rfl; exact rfl; (· exact (nba1 Try.underlying76 sz59 zr59 rfl (by decide) rfl (by first | (simp; done)))); intro q27 hq27)
    | ((with_reducible apply Sy.dnew (o := ⟨some 27, .buildSlice 76 _ _, _, _, _, _⟩)); (· first | exact wantY_none); exact rfl; exact rfl; exact rfl; exact rfl; exact rfl; (· exact (newY_bs Try.underlying76 sz59 zr59 rfl (by decide) rfl (by first | rfl | (simp [List.drop_append, List.take_append, List.getElem?_append, lay, hC_length, ints_length, ints_drop, ints_take, ints_append, List.drop_of_length_le, List.take_of_length_le, List.map_append, List.set_append, Value.cells]; done)))); intro q27 hq27)
    | (with_reducible refine Sy.skip ?_)
    | (with_reducible refine Sy.block ?_)
    | (with_reducible refine Sy.inrm ?_)
    | (with_reducible refine Sy.dend ?_)
    | ((with_reducible apply Sy.dgo); (· first | exact wantY_none); (· intro hcls; cases hcls); exact rfl; exact rfl)
    | ((with_reducible apply Sy.dld); (· first | exact wantY_none); exact rfl; (· first | omega); exact rfl)
    | ((with_reducible apply Sy.ite); (case hx => exact rfl); all_goals (intro hc; try (exfalso; omega))))
    dsimp only
    have e1 : ∀ s : Tel, (es ++ [s]).length = es.length + 1 := fun s => by simp
    refine Sy.rnrm (i + 1, es ++ [(m, .slice a5 m.d.length k5)], q28, v5) ⟨by omega, ?_, fun e he => ?_, by rw [hS1]; exact h5⟩ (by dsimp only; omega) ⟨rfl, rfl, rfl, rfl, rfl, trivial⟩ (fun H1 h => ?_)
    · dsimp only
      rw [hS1, tsOf, List.map_append]
      rw [tsOf] at hk
      rw [hk]; rfl
    · rcases List.mem_append.1 he with he | he
      · exact hV e he
      · rw [List.mem_singleton] at he
        subst he
        exact ⟨hok.1, h6, by dsimp only; omega⟩
    · dsimp only
      rw [hS1, e1]
      exact (h.less (.cons_cons _ (.cons _ (.refl _)))).perm (List.perm_middle (l₁ := [_, _]))
  · have hE : GetE l c ep G es v4 (rdTs r2 i).2 := by
      have hOK : G.2 = 0 → i = n ∧ rdDone (rdTs r2 i).2 = 0 ∧ rightBB (tsOf es) = true ∧ G = ((ep, tsOf es), 0) := fun h => by
        rw [hG] at h
        split at h
        · rename_i hc
          obtain ⟨c1, c2⟩ := hc
          have hin : i = n := by
            by_cases hin : i = n
            · exact hin
            · have h0 : (rdTs r2 i).2.l = [] := List.length_eq_zero_iff.1 (by omega)
              have h2 := rdT_nil h0
              have h3 : (rdTs r2 (i + 1)).2.e ≠ 0 := by rw [hS1]; exact h2
              exact absurd (rdDone_0 c1).1 (rdTs_e hr2 h3 n (by omega))
          subst hin
          refine ⟨rfl, c1, by rw [hk]; exact c2, ?_⟩
          rw [hG, if_pos ⟨c1, c2⟩, hk]
        · simp at h
      have hbad : G.2 ≠ 0 → G = ((0, []), 21) := fun h => by
        rw [hG] at h ⊢
        split
        · rename_i hc
          rw [if_pos hc] at h
          exact absurd rfl h
        · rfl
      refine ⟨hV, hv4, by omega, fun h => hbad fun h0 => ?_, fun h1 h2 h => ?_, fun h1 h2 h => hbad fun h0 => ?_⟩
      · obtain ⟨_, h1, h2, _⟩ := hOK h0
        exact h ⟨h1, h2⟩
      · exact hgb ep (tsOf es) hep (fun m hm => by
          obtain ⟨e, he, rfl⟩ := List.mem_map.1 hm
          exact (hV e he).1) h2 h
      · obtain ⟨_, _, _, h4⟩ := hOK h0
        have := (hcB h0).1
        rw [h4] at this
        exact h this.symm
    clear hG hgb hcB hcan hcT hS1 hk
    generalize rdTs r2 i = S at hE hrl hv4 hlt hle ⊢
    obtain ⟨ts, r⟩ := S
    dsimp only at hE hrl hv4 hlt hle ⊢
    repeat' (first
    | (with_reducible refine Sy.seq ?_)
    | (with_reducible refine Sy.regionL ?_)
    | (with_reducible refine Sy.opsnil ?_)
    | (with_reducible refine Sy.go ?_)
    | (with_reducible refine Sy.nrm ?_)
    | ((with_reducible apply Sy.move); exact rfl; exact rfl)
    | ((with_reducible apply Sy.bin (op := .gtr) (t := 3)); exact rfl; exact rfl; exact rfl; exact b_gtr)
    | ((with_reducible apply Sy.bin (op := .gtr) (t := 3)); exact rfl; exact rfl; exact rfl; exact bz_gtr)
    | ((with_reducible apply Sy.bin (op := .eql) (t := 3)); exact rfl; exact rfl; exact rfl; exact b_eql)
    | ((with_reducible apply Sy.bin (op := .eql) (t := 3)); exact rfl; exact rfl; exact rfl; exact bz_eql)
    | ((with_reducible apply Sy.call0 (k := 55)); exact rfl; exact rfl; exact en55; exact rfl; (intro H' hp; exact k_rdLeft (RdAt.n1 (r := r) (c := c) hp hasT hv4 (fun hx => by repeat (first | exact bufM_has hx | apply Has.there | apply Has.app)) h256 hl)))
    | (with_reducible refine Sy.skip ?_)
    | (with_reducible refine Sy.exit ?_)
    | (with_reducible refine Sy.block ?_)
    | (with_reducible refine Sy.aex ?_)
    | ((with_reducible apply Sy.iex); exact rfl)
    | ((with_reducible apply Sy.iex2); exact rfl)
    | (with_reducible refine Sy.rex ?_)
    | ((with_reducible apply Sy.ite); (case hx => exact rfl); all_goals (intro hc; try (exfalso; omega))))
    all_goals exact Sy.met (es, bo, v4, r) hE ⟨rfl, rfl, rfl, rfl, trivial⟩ (fun H h => h)
end Go.Proofs.Ytcaafoibabijgaa

/- Layer 09: bytes that are cut, or have some behind them. -/
namespace Go.Proofs.Ytcaafoibabijgaa
open Go Go.Am
set_option maxRecDepth 100000
set_option linter.unusedVariables false

theorem rdTs_ok {r : Rd} (h : ∀ x ∈ r.l, x < 256) : ∀ i, ∀ m ∈ (rdTs r i).1, m.ok
  | 0 => by simp [rdTs_0]
  | i + 1 => fun m hm => by
    rw [rdTs_s] at hm
    dsimp only at hm
    rcases List.mem_append.1 hm with hm | hm
    · exact rdTs_ok h i m hm
    · rw [List.mem_singleton] at hm
      rw [hm]
      exact (rdT_ok (rdTs_lt h i)).1
theorem getB_ok {l : List Nat} (hl : ∀ x ∈ l, x < 256) : (∀ m ∈ (getB l).1.2, m.ok) ∧ (getB l).1.2.length ≤ 8 := by
  have hl1 := Rd.next_lt (r := ⟨l, 0⟩) (k := 8) hl
  have hl2 := rdCnt_lt (m := 8) hl1
  have hok := rdTs_ok hl2
  unfold getB
  split
  · rename_i hc
    exact ⟨hok _, (rightBB_n hc.2).1⟩
  · exact ⟨by simp, by simp⟩
theorem getB_bad (l : List Nat) : getB l = ((0, []), 21) ∨ (getB l).2 = 0 := by
  unfold getB; split
  · exact .inr rfl
  · exact .inl rfl
theorem batB_lt {ep : Nat} {ts : List Txn} (ho : ∀ m ∈ ts, m.ok) : ∀ x ∈ batB ep ts, x < 256 := fun x hx => by
  rw [batB_eq] at hx
  rcases List.mem_append.1 hx with hx | hx
  · exact be64_lt _ x hx
  · rcases List.mem_append.1 hx with hx | hx
    · exact be64_lt _ x hx
    · unfold tsB at hx
      obtain ⟨l, hl, hx⟩ := List.mem_flatten.1 hx
      obtain ⟨m, hm, rfl⟩ := List.mem_map.1 hl
      unfold txB at hx
      rcases List.mem_append.1 hx with hx | hx
      · exact u64s_lt _ x hx
      · rcases List.mem_append.1 hx with hx | hx
        · exact be256_lt _ x hx
        · rcases List.mem_append.1 hx with hx | hx
          · exact be64_lt _ x hx
          · exact blobN_lt (ho m hm).d x hx
end Go.Proofs.Ytcaafoibabijgaa

/- Layer 09: MessageBatches. -/
namespace Go.Proofs.Ytcaafoibabijgaa
open Go Go.Am
set_option maxRecDepth 100000
set_option linter.unusedVariables false

theorem CopT.at' {H H1 : AHeap} {lo hi b : Nat} {T : TypeId} {L : Hm} {es : List Tel} {Mo Mn : Hm} (hL : CopT L es) (ho : ∀ e ∈ es, e.1.ok ∧ e.1.d.length ≤ 140737488355328) (hp : Hp H lo hi H1 Mo Mn) (h1 : es.length ≠ 0 → Has Mn b (.cells (tsC es) T true)) (h2 : ∀ x o, Has L x o → Has Mn x o) : TxsAt T H1 (accV 10 (tsC es) es.length b) es := by
  refine ⟨?_, fun e he => ⟨(ho e he).1, ?_, (ho e he).2⟩⟩
  · by_cases h0 : es.length = 0
    · exact ⟨none, 0, by rw [accV, if_pos h0, h0], .inl (List.length_eq_zero_iff.1 h0)⟩
    · exact ⟨some ⟨b, 0, none⟩, _, by rw [accV, if_neg h0], .inr ⟨b, true, rfl, hp.getN (h1 h0)⟩⟩
  · obtain ⟨b1, c1, e1, hh⟩ := hL e he
    rw [e1]
    exact full_slr0 (hp.getN (h2 _ _ hh))
theorem VwL.at' {H H1 : AHeap} {lo hi b : Nat} {T : TypeId} {L : Hm} {es : List Tel} {Mo Mn : Hm} (hV : VwL L es) (hp : Hp H lo hi H1 Mo Mn) (h1' : es.length ≠ 0 → Has Mn b (.cells (tsC es) T true)) (h2' : ∀ x o, Has L x o → Has Mn x o) : TxsAt T H1 (accV 10 (tsC es) es.length b) es := by
  refine ⟨?_, fun e he => ?_⟩
  · by_cases h0 : es.length = 0
    · exact ⟨none, 0, by rw [accV, if_pos h0, h0], .inl (List.length_eq_zero_iff.1 h0)⟩
    · exact ⟨some ⟨b, 0, none⟩, _, by rw [accV, if_neg h0], .inr ⟨b, true, rfl, hp.getN (h1' h0)⟩⟩
  · obtain ⟨h1, h2, b1, h3, h4⟩ := hV e he
    exact ⟨h1, h3.slr' (fun x => hp.getN (h2' _ _ (h4 x))), h2⟩
theorem bvBa2 {ep : Nat} {v : Value} (h : v.cells.toList = [v]) : buildV Try.prog 78 [(0, .int .u64 ((ep : Nat) : Int)), (1, v)] = some (.agg ⟨baC ep v⟩) := bv78 (by
  have e1 : ∀ z : Int, (Value.int .u64 z).cells.toList = [.int .u64 z] := fun _ => rfl
  simp [fillL, plc, lay, h, e1])
end Go.Proofs.Ytcaafoibabijgaa
