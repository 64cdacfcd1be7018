/- Batches out of bytes, the references and what they are. -/
import Derived.Test.YtcaafoibabijgaaBatA
import Derived.Test.YtcaafoibabijgaaCodecB
set_option linter.unusedSimpArgs false
set_option linter.unusedVariables false
/- Layer 09: messages, Txs, batches: read as written, written as read. -/
namespace Go.Proofs.Ytcaafoibabijgaa
open Go Go.Am
set_option maxRecDepth 100000
set_option linter.unusedVariables false

theorem rdCnt_lt {m : Nat} {r : Rd} (h : ∀ x ∈ r.l, x < 256) : ∀ x ∈ (rdCnt m r).2.l, x < 256 := by
  unfold rdCnt
  split
  · exact h
  · split
    · exact h
    · exact Rd.next_lt h
theorem rdCnt_u {m : Nat} {r : Rd} : (rdCnt m r).2.l.length ≤ r.l.length := by
  have := next_len (r := r) (k := 8)
  unfold rdCnt
  split
  · exact Nat.le_refl _
  · split
    · exact Nat.le_refl _
    · show (r.next 8).l.length ≤ _; omega
theorem rdCnt_most (m : Nat) (r : Rd) : (rdCnt m r).1 ≤ m := by
  unfold rdCnt
  split
  · exact Nat.zero_le _
  · split
    · exact Nat.zero_le _
    · show rdU r ≤ m
      omega
theorem rdT_eq (r : Rd) : rdT r = (⟨(((rdCnt 9 r).1 : Nat) : Int), rdU (rdCnt 9 r).2, rdU ((rdCnt 9 r).2.next 8), rdU (((rdCnt 9 r).2.next 8).next 8), rdW ((((rdCnt 9 r).2.next 8).next 8).next 8), rdU (((((rdCnt 9 r).2.next 8).next 8).next 8).next 32), (rdBlob ((((((rdCnt 9 r).2.next 8).next 8).next 8).next 32).next 8)).1⟩, (rdBlob ((((((rdCnt 9 r).2.next 8).next 8).next 8).next 32).next 8)).2) := rfl
theorem rdT_ok {r : Rd} (h : ∀ x ∈ r.l, x < 256) : (rdT r).1.ok ∧ (rdT r).1.d.length ≤ r.l.length ∧ (∀ x ∈ (rdT r).2.l, x < 256) := by
  have h0 := rdCnt_lt (m := 9) h
  have h1 := Rd.next_lt (k := 8) h0
  have h2 := Rd.next_lt (k := 8) h1
  have h3 := Rd.next_lt (k := 8) h2
  have h4 := Rd.next_lt (k := 32) h3
  have h5 := Rd.next_lt (k := 8) h4
  have l0 := rdCnt_u (m := 9) (r := r)
  have l1 := next_len (r := (rdCnt 9 r).2) (k := 8)
  have l2 := next_len (r := (rdCnt 9 r).2.next 8) (k := 8)
  have l3 := next_len (r := ((rdCnt 9 r).2.next 8).next 8) (k := 8)
  have l4 := next_len (r := (((rdCnt 9 r).2.next 8).next 8).next 8) (k := 32)
  have l5 := next_len (r := ((((rdCnt 9 r).2.next 8).next 8).next 8).next 32) (k := 8)
  have b := rdBlob_lt h5
  have hc := rdCnt_most 9 r
  rw [rdT_eq]
  dsimp only
  generalize rdBlob ((((((rdCnt 9 r).2.next 8).next 8).next 8).next 32).next 8) = B at b ⊢
  have a1 := rdU_lt h0
  have a2 := rdU_lt h1
  have a3 := rdU_lt h2
  have a4 := rdU_lt h4
  generalize rdU (((((rdCnt 9 r).2.next 8).next 8).next 8).next 32) = g at a4 ⊢
  generalize rdW ((((rdCnt 9 r).2.next 8).next 8).next 8) = w
  generalize rdU (((rdCnt 9 r).2.next 8).next 8) = t at a3 ⊢
  generalize rdU ((rdCnt 9 r).2.next 8) = n at a2 ⊢
  generalize rdU (rdCnt 9 r).2 = f at a1 ⊢
  generalize (rdCnt 9 r).1 = k at hc ⊢
  refine ⟨⟨⟨?_, ?_⟩, a1, a2, a3, a4, b.1⟩, ?_, b.2.1⟩
  · dsimp only; omega
  · dsimp only; omega
  · have := b.2.2; omega
theorem can_T {r : Rd} (h : (rdT r).2.e = 0) (hl : ∀ x ∈ r.l, x < 256) : r.e = 0 ∧ r.l = txB (rdT r).1 ++ (rdT r).2.l := by
  rw [rdT_eq] at h ⊢
  dsimp only at h ⊢
  have h0 := rdCnt_lt (m := 9) hl
  have h1 := Rd.next_lt (k := 8) h0
  have h2 := Rd.next_lt (k := 8) h1
  have h3 := Rd.next_lt (k := 8) h2
  have h4 := Rd.next_lt (k := 32) h3
  have h5 := Rd.next_lt (k := 8) h4
  obtain ⟨e6, c6⟩ := can_blob h h5
  obtain ⟨e5, c5⟩ := can_u e6 h4
  obtain ⟨e4, c4⟩ := can_w e5 h3
  obtain ⟨e3, c3⟩ := can_u e4 h2
  obtain ⟨e2, c2⟩ := can_u e3 h1
  obtain ⟨e1, c1⟩ := can_u e2 h0
  obtain ⟨e0, c0, _⟩ := can_cnt e1 hl
  refine ⟨e0, ?_⟩
  rw [c0, c1, c2, c3, c4, c5, c6]
  simp [txB, u64s]
theorem rdT_app {m : Txn} {r : List Nat} (ho : m.ok) (hk : 0 ≤ m.k ∧ m.k ≤ 9) (hd : m.d.length ≤ 65536) : rdT ⟨txB m ++ r, 0⟩ = (m, ⟨r, 0⟩) := by
  have e : txB m ++ r = be64 m.k.toNat ++ (be64 m.f ++ (be64 m.n ++ (be64 m.t ++ (be256 m.w ++ (be64 m.g ++ (blobN m.d ++ r)))))) := by simp [txB, u64s]
  rw [e, rdT_eq]
  rw [rdCnt_app (by omega) (by omega)]
  dsimp only
  rw [rdU_app ho.f, next_u, rdU_app ho.n, next_u, rdU_app ho.t, next_u, rdW_app, next_w, rdU_app ho.g, next_u, rdBlob_app hd]
  rw [Int.toNat_of_nonneg hk.1]
def rdTs (r : Rd) : Nat → List Txn × Rd
  | 0 => ([], r)
  | i + 1 => ((rdTs r i).1 ++ [(rdT (rdTs r i).2).1], (rdT (rdTs r i).2).2)
theorem rdTs_0 (r : Rd) : rdTs r 0 = ([], r) := rfl
theorem rdTs_s (r : Rd) (i : Nat) : rdTs r (i + 1) = ((rdTs r i).1 ++ [(rdT (rdTs r i).2).1], (rdT (rdTs r i).2).2) := rfl
theorem rdTs_len (r : Rd) : ∀ i, (rdTs r i).1.length = i
  | 0 => rfl
  | i + 1 => by simp [rdTs, rdTs_len r i]
theorem rdTs_lt {r : Rd} (h : ∀ x ∈ r.l, x < 256) : ∀ i, ∀ x ∈ (rdTs r i).2.l, x < 256
  | 0 => h
  | i + 1 => by rw [rdTs_s]; dsimp only; exact (rdT_ok (rdTs_lt h i)).2.2
def tsB (ts : List Txn) : List Nat := (ts.map txB).flatten
theorem can_Ts {r : Rd} (hl : ∀ x ∈ r.l, x < 256) (i : Nat) : (rdTs r i).2.e = 0 → r.e = 0 ∧ r.l = tsB (rdTs r i).1 ++ (rdTs r i).2.l := by
  induction i with
  | zero =>
    rw [rdTs_0]
    dsimp only
    exact fun h => ⟨h, by simp [tsB]⟩
  | succ i ih =>
    have hlt := rdTs_lt hl i
    rw [rdTs_s]
    dsimp only
    generalize rdTs r i = S at ih hlt ⊢
    obtain ⟨ts, r'⟩ := S
    dsimp only at ih hlt ⊢
    intro h
    obtain ⟨e1, c1⟩ := can_T h hlt
    obtain ⟨e0, c0⟩ := ih e1
    refine ⟨e0, ?_⟩
    rw [c0, c1]
    simp [tsB]
theorem rdT_e {r : Rd} (h : r.e ≠ 0) (hl : ∀ x ∈ r.l, x < 256) : (rdT r).2.e ≠ 0 := fun x => h (can_T x hl).1
theorem rdTs_e {r : Rd} {i : Nat} (hl : ∀ x ∈ r.l, x < 256) (h : (rdTs r i).2.e ≠ 0) : ∀ j, i ≤ j → (rdTs r j).2.e ≠ 0 := fun j hj => by
  induction j with
  | zero => obtain rfl : i = 0 := by omega
            exact h
  | succ j ih =>
    by_cases he : i = j + 1
    · subst he; exact h
    · rw [rdTs_s]; dsimp only; exact rdT_e (ih (by omega)) (rdTs_lt hl j)
/-- Nothing is left: the next Tx is none. -/
theorem rdT_nil {r : Rd} (hl : r.l = []) : (rdT r).2.e ≠ 0 := fun x => by
  obtain ⟨_, h⟩ := can_T x (by simp [hl])
  rw [hl] at h
  have := congrArg List.length h
  rw [List.length_append, txB_length] at this
  simp at this
  omega
def getB (l : List Nat) : (Nat × List Txn) × Nat :=
  if rdDone (rdTs (rdCnt 8 ((⟨l, 0⟩ : Rd).next 8)).2 (rdCnt 8 ((⟨l, 0⟩ : Rd).next 8)).1).2 = 0 ∧ rightBB (rdTs (rdCnt 8 ((⟨l, 0⟩ : Rd).next 8)).2 (rdCnt 8 ((⟨l, 0⟩ : Rd).next 8)).1).1 = true then ((rdU ⟨l, 0⟩, (rdTs (rdCnt 8 ((⟨l, 0⟩ : Rd).next 8)).2 (rdCnt 8 ((⟨l, 0⟩ : Rd).next 8)).1).1), 0) else ((0, []), 21)
theorem rdDone_0 {r : Rd} (h : rdDone r = 0) : r.e = 0 ∧ r.l = [] := by
  unfold rdDone at h
  split at h
  · simp at h
  · rename_i hn
    refine ⟨h, ?_⟩
    by_cases h0 : r.l = []
    · exact h0
    · exact absurd ⟨h, List.length_pos_iff.2 h0⟩ hn
theorem rdDone_ok {r : Rd} (h1 : r.e = 0) (h2 : r.l = []) : rdDone r = 0 := by
  unfold rdDone
  rw [if_neg (by rw [h2]; simp), h1]
theorem batB_eq (ep : Nat) (ts : List Txn) : batB ep ts = be64 ep ++ (be64 ts.length ++ tsB ts) := by
  simp [batB, batTo, tsB, u64s]
/-- What a batch was read from. -/
theorem can_B {l : List Nat} (hl : ∀ x ∈ l, x < 256) (h : (getB l).2 = 0) : l = batB (getB l).1.1 (getB l).1.2 ∧ rightBB (getB l).1.2 = true ∧ (getB l).1.1 < 18446744073709551616 := by
  unfold getB at h ⊢
  split
  · rename_i hc
    obtain ⟨hd, hr⟩ := hc
    obtain ⟨h1, h2⟩ := rdDone_0 hd
    have hl1 := Rd.next_lt (r := ⟨l, 0⟩) (k := 8) hl
    have hl2 := rdCnt_lt (m := 8) hl1
    obtain ⟨e1, c1⟩ := can_Ts hl2 _ h1
    obtain ⟨e2, c2, _⟩ := can_cnt e1 hl1
    obtain ⟨_, c3⟩ := can_u e2 hl
    refine ⟨?_, hr, rdU_lt hl⟩
    rw [h2, List.append_nil] at c1
    dsimp only at c3 ⊢
    rw [batB_eq, rdTs_len, ← c1, ← c2]
    exact c3
  · rename_i hc
    rw [if_neg hc] at h
    simp at h
theorem rdTs_app (ts : List Txn) (r : List Nat) (ho : ∀ m ∈ ts, m.ok ∧ rightTB m = true) : ∀ i, i ≤ ts.length → rdTs ⟨tsB ts ++ r, 0⟩ i = (ts.take i, ⟨tsB (ts.drop i) ++ r, 0⟩)
  | 0, _ => by simp [rdTs]
  | i + 1, hi => by
    have hx : ts[i]? = some ts[i] := List.getElem?_eq_getElem hi
    obtain ⟨h1, h2⟩ := ho ts[i] (List.getElem_mem hi)
    have h3 := rightTB_k h2
    have e : tsB (ts.drop i) = txB ts[i] ++ tsB (ts.drop (i + 1)) := by rw [List.drop_eq_getElem_cons hi]; unfold tsB; rw [List.map_cons, List.flatten_cons]
    rw [rdTs, rdTs_app ts r ho i (by omega)]
    dsimp only
    rw [e, List.append_assoc, rdT_app h1 ⟨h3.1, by omega⟩ (by omega), List.take_add_one, hx]
    rfl
/-- What stands behind a batch's bytes is left. -/
theorem rd_bat {ep : Nat} {ts : List Txn} {r : List Nat} (hep : ep < 18446744073709551616) (ho : ∀ m ∈ ts, m.ok) (hr : rightBB ts = true) : rdU ⟨batB ep ts ++ r, 0⟩ = ep ∧ rdTs (rdCnt 8 ((⟨batB ep ts ++ r, 0⟩ : Rd).next 8)).2 (rdCnt 8 ((⟨batB ep ts ++ r, 0⟩ : Rd).next 8)).1 = (ts, ⟨r, 0⟩) := by
  obtain ⟨h8, hall⟩ := rightBB_n hr
  rw [batB_eq, List.append_assoc, List.append_assoc, rdU_app hep, next_u, rdCnt_app (by omega) h8]
  refine ⟨rfl, ?_⟩
  dsimp only
  rw [rdTs_app ts r (fun m hm => ⟨ho m hm, List.all_eq_true.1 hall m hm⟩) _ (Nat.le_refl _), List.take_length, List.drop_length]
  rfl
theorem get_bat {ep : Nat} {ts : List Txn} {r : List Nat} (hep : ep < 18446744073709551616) (ho : ∀ m ∈ ts, m.ok) (hr : rightBB ts = true) : getB (batB ep ts ++ r) = if r = [] then ((ep, ts), 0) else ((0, []), 21) := by
  obtain ⟨h1, h2⟩ := rd_bat (r := r) hep ho hr
  unfold getB
  rw [h1, h2]
  dsimp only
  by_cases h0 : r = []
  · subst h0
    rw [if_pos ⟨rdDone_ok rfl rfl, hr⟩, if_pos rfl]
  · rw [if_neg (fun x => h0 (rdDone_0 x.1).2), if_neg h0]
end Go.Proofs.Ytcaafoibabijgaa

/- Layer 09: equal rows of bytes. -/
namespace Go.Proofs.Ytcaafoibabijgaa
open Go Go.Am
set_option maxRecDepth 100000
set_option linter.unusedVariables false

theorem sl_el {x : List Nat} {cs : List Value} {o i n : Nat} {T : TypeId} {w : Bool} {y : Nat} (h : (cs.drop o).take n = ints .u8 x) (hi : x[i]? = some y) (hn : i < n) {k : Nat} (hk : k = o + i) : aLoad Try.prog 5 (.cells cs T w) k = some (.int .u8 ((y : Nat) : Int)) := by
  subst hk
  refine ld_one ag5 ?_
  have h1 : ((cs.drop o).take n)[i]? = some (.int .u8 ((y : Nat) : Int)) := by rw [h, ints, List.getElem?_map, hi]; rfl
  rw [List.getElem?_take_of_lt hn, List.getElem?_drop] at h1
  exact h1
set_option maxHeartbeats 2000000 in
theorem c_EqualB (x y : List Nat) (v1 v2 : Value) (H : AHeap) (h1 : SlR H 1 v1 x.length (ints .u8 x)) (h2 : SlR H 1 v2 y.length (ints .u8 y)) (hx : ∀ z ∈ x, z < 256) (hy : ∀ z ∈ y, z < 256) (hl : x.length < 9223372036854775808) (hl2 : y.length < 9223372036854775808) : CallR Try.prog noPrims 58 [v1, v2] H (fun u H' => u = .bool (decide (x = y)) ∧ Hp H 0 0 H' [] []) := by
  obtain ⟨a1, c1, rfl⟩ := slr_form h1
  obtain ⟨a2, c2, rfl⟩ := slr_form h2
  refine CallR.sy (n := 26) Try.func58 rfl rfl rfl ?_
  repeat' (first
    | (with_reducible refine Sy.seq ?_)
    | (with_reducible refine Sy.regionL ?_)
    | (with_reducible refine Sy.opsnil ?_)
    | (with_reducible refine Sy.go ?_)
    | (with_reducible refine Sy.nrm ?_)
    | ((with_reducible apply Sy.assign); exact rfl; exact rfl)
    | ((with_reducible apply Sy.move); exact rfl; exact rfl)
    | ((with_reducible apply Sy.lenS); exact rfl; exact Try.underlying23; exact rfl)
    | ((with_reducible apply Sy.bin (op := .neq) (t := 3)); exact rfl; exact rfl; exact rfl; exact b_neq)
    | ((with_reducible apply Sy.bin (op := .neq) (t := 3)); exact rfl; exact rfl; exact rfl; exact bz_neq)
    | ((with_reducible apply Sy.bin (op := .neq) (t := 5)); exact rfl; exact rfl; exact rfl; exact b_neq)
    | ((with_reducible apply Sy.bin (op := .neq) (t := 5)); exact rfl; exact rfl; exact rfl; exact bz_neq)
    | (with_reducible refine Sy.skip ?_)
    | (with_reducible refine Sy.ret ?_)
    | (with_reducible refine Sy.block ?_)
    | (with_reducible refine Sy.aret ?_)
    | ((with_reducible apply Sy.ite); (case hx => exact rfl); all_goals (intro hc; try (exfalso; omega))))
  · refine .fin [_] (.inr rfl) ⟨rfl, trivial⟩ fun H' hp => ⟨?_, hp⟩
    rw [decide_eq_false (fun e => hc (by rw [e]))]; rfl
  have hxy : x.length = y.length := by omega
  refine Sy.loop (ι := Nat) (fun i => x.length - i) (fun i => [(0, .slice a1 x.length c1), (1, .slice a2 y.length c2), (12, .int .i64 ((x.length : Nat) : Int)), (13, .int .i64 (i : Nat))]) (fun _ => []) (fun _ => []) (fun i => i ≤ x.length ∧ x.take i = y.take i) 0 ⟨Nat.zero_le _, by simp⟩ ⟨rfl, rfl, rfl, rfl, trivial⟩ (fun H h => h) ?_
  rintro i ⟨hi, hI⟩
  by_cases hlt : i < x.length
  · obtain ⟨z1, hz1⟩ : ∃ z, x[i]? = some z := ⟨x[i], List.getElem?_eq_getElem hlt⟩
    obtain ⟨z2, hz2⟩ : ∃ z, y[i]? = some z := ⟨y[i]'(by omega), List.getElem?_eq_getElem (by omega)⟩
    have b1 := hx z1 (List.mem_of_getElem? hz1)
    have b2 := hy z2 (List.mem_of_getElem? hz2)
    generalize hn1 : x.length = n1 at *
    generalize hn2 : y.length = n2 at *
    generalize hcx : ints .u8 x = cx at *
    generalize hcy : ints .u8 y = cy at *
    cases h1 with
    | nil => omega
    | emp => omega
    | mk g1 l1 t1 =>
      cases h2 with
      | nil => omega
      | emp => omega
      | mk g2 l2 t2 =>
        rw [Nat.mul_one] at t1 t2
        rw [← hcx] at t1
        rw [← hcy] at t2
        repeat' (first
    | (with_reducible refine Sy.seq ?_)
    | (with_reducible refine Sy.regionL ?_)
    | (with_reducible refine Sy.opsnil ?_)
    | (with_reducible refine Sy.go ?_)
    | (with_reducible refine Sy.nrm ?_)
    | ((with_reducible refine Sy.ld0 (t := 5) rfl rfl g1 rfl (by simp only [List.forall_mem_cons, List.not_mem_nil, false_implies, implies_true, and_true, ne_eq]; first | done | omega | (repeat (first | with_reducible assumption | (refine And.intro ?_ ?_)))) (sl_el t1 hz1 (by omega) (by omega)) ?_))
    | ((with_reducible refine Sy.ld0 (t := 5) rfl rfl g2 rfl (by simp only [List.forall_mem_cons, List.not_mem_nil, false_implies, implies_true, and_true, ne_eq]; first | done | omega | (repeat (first | with_reducible assumption | (refine And.intro ?_ ?_)))) (sl_el t2 hz2 (by omega) (by omega)) ?_))
    | ((with_reducible apply Sy.assign); exact rfl; exact rfl)
    | ((with_reducible apply Sy.move); exact rfl; exact rfl)
    | ((with_reducible apply Sy.bin (op := .neq) (t := 3)); exact rfl; exact rfl; exact rfl; exact b_neq)
    | ((with_reducible apply Sy.bin (op := .neq) (t := 3)); exact rfl; exact rfl; exact rfl; exact bz_neq)
    | ((with_reducible apply Sy.bin (op := .lss) (t := 3)); exact rfl; exact rfl; exact rfl; exact b_lss)
    | ((with_reducible apply Sy.bin (op := .lss) (t := 3)); exact rfl; exact rfl; exact rfl; exact bz_lss)
    | ((with_reducible apply Sy.ia (t := 23)); exact rfl; exact rfl; exact rfl; exact (ia_sl10 Try.underlying23 sz5 (by omega)))
    | ((with_reducible apply Sy.ia (t := 23)); exact rfl; exact rfl; exact rfl; exact (ia_sl1 Try.underlying23 sz5 (by omega)))
    | ((with_reducible apply Sy.bin (op := .neq) (t := 5)); exact rfl; exact rfl; exact rfl; exact b_neq)
    | ((with_reducible apply Sy.bin (op := .neq) (t := 5)); exact rfl; exact rfl; exact rfl; exact bz_neq)
    | ((with_reducible apply Sy.bin (op := .add) (t := 3)); exact rfl; exact rfl; exact rfl; exact (b_add (by omega)))
    | ((with_reducible apply Sy.bin (op := .add) (t := 3)); exact rfl; exact rfl; exact rfl; exact (bz_add (by omega) (by omega)))
    | (with_reducible refine Sy.skip ?_)
    | (with_reducible refine Sy.ret ?_)
    | (with_reducible refine Sy.block ?_)
    | (with_reducible refine Sy.aret ?_)
    | (with_reducible refine Sy.inrm ?_)
    | (with_reducible refine Sy.iret ?_)
    | (with_reducible refine Sy.rret ?_)
    | ((with_reducible apply Sy.drawL (id := 6) 9 [] (fun hi h => h < hi)); (case hp => kernel_rfl); (case hN => exact rfl); intro base hbase hM; try simp only [List.forall_mem_cons, List.forall_mem_append, List.not_mem_nil, false_implies, implies_true, and_true] at hM)
    | (with_reducible refine Sy.dend ?_)
    | ((with_reducible apply Sy.dgo); (· first | exact wantY_none); (· intro hcls; cases hcls); exact rfl; exact rfl)
    | ((with_reducible apply Sy.ite); (case hx => exact rfl); all_goals (intro hc; try (exfalso; omega))))
        · refine .fin [_] (.inr rfl) ⟨rfl, trivial⟩ fun H' hp => ⟨?_, hp⟩
          rw [decide_eq_false (fun e => by subst e; exact hc (Option.some.inj (hz1.symm.trans hz2)))]; rfl
        · have hz : z1 = z2 := by omega
          refine Sy.rnrm (i + 1) ⟨by omega, ?_⟩ (by show n1 - (i + 1) < n1 - i; omega) ⟨rfl, rfl, rfl, rfl, trivial⟩ (fun H1 h => h)
          rw [List.take_add_one, List.take_add_one, hz1, hz2, hz, hI]
  · obtain rfl : i = x.length := by omega
    repeat' (first
    | (with_reducible refine Sy.seq ?_)
    | (with_reducible refine Sy.regionL ?_)
    | (with_reducible refine Sy.opsnil ?_)
    | (with_reducible refine Sy.go ?_)
    | (with_reducible refine Sy.nrm ?_)
    | ((with_reducible apply Sy.assign); exact rfl; exact rfl)
    | ((with_reducible apply Sy.bin (op := .lss) (t := 3)); exact rfl; exact rfl; exact rfl; exact b_lss)
    | ((with_reducible apply Sy.bin (op := .lss) (t := 3)); exact rfl; exact rfl; exact rfl; exact bz_lss)
    | (with_reducible refine Sy.exit ?_)
    | (with_reducible refine Sy.ret ?_)
    | (with_reducible refine Sy.aex ?_)
    | ((with_reducible apply Sy.iex); exact rfl)
    | (with_reducible refine Sy.rex ?_)
    | ((with_reducible apply Sy.ite); (case hx => exact rfl); all_goals (intro hc; try (exfalso; omega))))
    refine .fin [_] (.inr rfl) ⟨rfl, trivial⟩ fun H' hp => ⟨?_, hp⟩
    rw [List.take_length, hxy, List.take_length] at hI
    rw [decide_eq_true hI]; rfl
end Go.Proofs.Ytcaafoibabijgaa

/- Layer 09: the laws' copies of Txs; the same Txs. -/
namespace Go.Proofs.Ytcaafoibabijgaa
open Go Go.Am
set_option maxRecDepth 100000
set_option linter.unusedVariables false

open TxN in
set_option maxHeartbeats 1000000 in
theorem k_lRefTx (m : Txn) (a : Option Addr) (k : Nat) (H : AHeap) (ho : m.ok) (hv : SlR H 1 (.slice a m.d.length k) m.d.length (ints .u8 m.d)) (hl : m.d.length ≤ 140737488355328) :
    CallR Try.prog noPrims 43 [txV m (.slice a m.d.length k)] H (fun u H' => ∃ i : Nat × Nat, True ∧ u = txV m (.slice (some ⟨i.1, 0, none⟩) m.d.length i.2) ∧ Hp H 0 0 H' [] [(i.1, .cells (ints .u8 m.d) 5 true)]) := by
  by_cases h0 : m.d = []
  · obtain ⟨kk, f, n, t, w, g, d⟩ := m
    dsimp only at h0 hv hl ⊢
    subst h0
    have hv0 : SlR H 1 (.slice a 0 k) 0 [] := hv
    have hmg := txC_g ⟨kk, f, n, t, w, g, []⟩ (.slice a 0 k)
    have hmd := txC_d ⟨kk, f, n, t, w, g, []⟩ (.slice a 0 k)
    refine CallR.sy (n := 20) Try.func43 rfl rfl rfl ?_
    show Sy _ _ _ _ (envOf 0 [txV ⟨kk, f, n, t, w, g, []⟩ (.slice a 0 k)]) _ _ _
    repeat' (first
    | (with_reducible refine Sy.seq ?_)
    | (with_reducible refine Sy.regionL ?_)
    | (with_reducible refine Sy.opsnil ?_)
    | (with_reducible refine Sy.go ?_)
    | (with_reducible refine Sy.nrm ?_)
    | ((with_reducible apply Sy.drawL (id := 1) 18 [(1, 15), (3, 15), (5, 15), (7, 15), (9, 15), (11, 15)] (fun hi h => h = q1)); (case hp => kernel_rfl); (case hN => exact rfl); intro base hbase hM; try simp only [List.forall_mem_cons, List.forall_mem_append, List.not_mem_nil, false_implies, implies_true, and_true] at hM)
    | ((with_reducible apply Sy.appZ (t := 23) (xt := 23)); exact (ap23_23 zr5 rfl); exact rfl; exact rfl; exact rfl; exact .inl ⟨_, _, _, _, rfl⟩; exact SrcY.ofR (by with_reducible assumption) rfl; exact rfl)
    | ((with_reducible apply Sy.fa (t := 59) (i := 0)); exact rfl; exact rfl; exact fa59_0 _ _)
    | ((with_reducible apply Sy.ldN (t := 3)); exact rfl; exact rfl; exact hasT; (· first | exact ld_one ag3 rfl | exact ld_one ag3 (by with_reducible assumption)))
    | ((with_reducible apply Sy.fa (t := 59) (i := 1)); exact rfl; exact rfl; exact fa59_1 _ _)
    | ((with_reducible apply Sy.ldN (t := 53)); exact rfl; exact rfl; exact hasT; (· first | exact ld_one ag53 rfl | exact ld_one ag53 (by with_reducible assumption)))
    | ((with_reducible apply Sy.fa (t := 59) (i := 2)); exact rfl; exact rfl; exact fa59_2 _ _)
    | ((with_reducible apply Sy.fa (t := 59) (i := 3)); exact rfl; exact rfl; exact fa59_3 _ _)
    | ((with_reducible apply Sy.fa (t := 59) (i := 4)); exact rfl; exact rfl; exact fa59_4 _ _)
    | ((with_reducible apply Sy.ldN (t := 55)); exact rfl; exact rfl; exact hasT; (· first | exact ld_agg ag55 sz55 (by first | (simp; done)) (by first | with_reducible exact cut_kids)))
    | ((with_reducible apply Sy.fa (t := 59) (i := 5)); exact rfl; exact rfl; exact fa59_5 _ _)
    | ((with_reducible apply Sy.fa (t := 59) (i := 6)); exact rfl; exact rfl; exact fa59_6 _ _)
    | ((with_reducible apply Sy.ldN (t := 23)); exact rfl; exact rfl; exact hasT; (· first | exact ld_one ag23 rfl | exact ld_one ag23 (by with_reducible assumption)))
    | ((with_reducible apply Sy.dgo); (· first | exact wantY_none); (· intro hcls; cases hcls); exact rfl; exact rfl)
    | ((with_reducible apply Sy.dwr); (case hw => first | exact wantY_none); (case hc => intro hcls; cases hcls); (case h1 => exact rfl); (case hk => exact .consN (b := q1) hasT .nil); (case hS => intro h hh; subst hh; exact ⟨_, List.mem_singleton.2 rfl⟩))
    | ((with_reducible apply Sy.dand); (case hk => exact .consN (b := q1) hasT .nil))
    | ((with_reducible apply Sy.newY (o := ⟨some 1, .box 59 _, _, _, _, _⟩)); exact rfl; exact rfl; exact nbA rfl; intro q1)
    | ((with_reducible apply Sy.newY (o := ⟨some 2, .alloc 84, _, _, _, _⟩)); exact rfl; exact rfl; exact nwz84; intro q2)
    | ((with_reducible apply Sy.dnew (o := ⟨some 15, .buildSlice 23 _ _, _, _, _, _⟩)); (· first | exact wantY_none); exact rfl; exact rfl; exact rfl; exact rfl; exact rfl; exact (nbs0 Try.underlying23 sz5 zr5 rfl (by decide) rfl); intro q15 hq15)
    | ((with_reducible apply Sy.dnew (o := ⟨some 15, .buildSlice 23 _ _, _, _, _, _⟩)); (· first | exact wantY_none); exact rfl; exact rfl; exact rfl; exact rfl; exact rfl; (· exact (newY_bs Try.underlying23 sz5 zr5 rfl (by decide) rfl (by first | rfl | (simp [List.drop_append, List.take_append, List.getElem?_append, lay, hC_length, ints_length, ints_drop, ints_take, ints_append, List.drop_of_length_le, List.take_of_length_le, List.map_append, List.set_append, Value.cells]; done)))); intro q15 hq15)
    | ((with_reducible apply Sy.dgo); (· first | exact wantY_none); (· intro hcls; cases hcls); exact rfl; exact rfl)
    | ((with_reducible apply Sy.dld); (· first | exact wantY_none); exact rfl; (· first | omega); exact rfl))
    refine Sy.build (t := 84) rfl rfl (bvRTx (m := ⟨kk, f, n, t, w, g, []⟩) rfl) ?_
    repeat' (first
    | (with_reducible refine Sy.nrm ?_)
    | ((with_reducible apply Sy.stNa (t := 84)); exact rfl; exact rfl; exact sz84; (· first | (simp; done)); (· first | (simp [oneL_append, oneL_cons, oneL_nil, hC_one, oneL_ints]; done)); exact turnT; (· first | (simp; done)); (· first | exact lay_all (by first | (simp; done))))
    | ((with_reducible apply Sy.dgo); (· first | exact wantY_none); (· intro hcls; cases hcls); exact rfl; exact rfl)
    | (with_reducible refine Sy.ret ?_)
    | (with_reducible refine Sy.dend ?_)
    | ((with_reducible apply Sy.dgo); (· first | exact wantY_none); (· intro hcls; cases hcls); exact rfl; exact rfl))
    exact .fin [txV ⟨kk, f, n, t, w, g, []⟩ _] (.inr rfl) ⟨⟨_, _, _, rfl, (by repeat (first | exact Has.here | apply Has.there | apply Has.app)), ld_rtall⟩, trivial⟩ fun H' hp => ⟨(q15, 0), trivial, rfl, hp.less (.cons_cons _ (List.nil_sublist _))⟩
  · have hmg := txC_g m (.slice a m.d.length k)
    have hmd := txC_d m (.slice a m.d.length k)
    have hne : m.d.length ≠ 0 := fun e => h0 (List.length_eq_zero_iff.1 e)
    refine CallR.sy (n := 20) Try.func43 rfl rfl rfl ?_
    repeat' (first
    | (with_reducible refine Sy.seq ?_)
    | (with_reducible refine Sy.regionL ?_)
    | (with_reducible refine Sy.opsnil ?_)
    | (with_reducible refine Sy.go ?_)
    | (with_reducible refine Sy.nrm ?_)
    | ((with_reducible apply Sy.drawL (id := 1) 18 [(1, 15), (3, 15), (5, 15), (7, 15), (9, 15), (11, 15)] (fun hi h => h = q1)); (case hp => kernel_rfl); (case hN => exact rfl); intro base hbase hM; try simp only [List.forall_mem_cons, List.forall_mem_append, List.not_mem_nil, false_implies, implies_true, and_true] at hM)
    | ((with_reducible apply Sy.fa (t := 59) (i := 0)); exact rfl; exact rfl; exact fa59_0 _ _)
    | ((with_reducible apply Sy.ldN (t := 3)); exact rfl; exact rfl; exact hasT; (· first | exact ld_one ag3 rfl | exact ld_one ag3 (by with_reducible assumption)))
    | ((with_reducible apply Sy.fa (t := 59) (i := 1)); exact rfl; exact rfl; exact fa59_1 _ _)
    | ((with_reducible apply Sy.ldN (t := 53)); exact rfl; exact rfl; exact hasT; (· first | exact ld_one ag53 rfl | exact ld_one ag53 (by with_reducible assumption)))
    | ((with_reducible apply Sy.fa (t := 59) (i := 2)); exact rfl; exact rfl; exact fa59_2 _ _)
    | ((with_reducible apply Sy.fa (t := 59) (i := 3)); exact rfl; exact rfl; exact fa59_3 _ _)
    | ((with_reducible apply Sy.fa (t := 59) (i := 4)); exact rfl; exact rfl; exact fa59_4 _ _)
    | ((with_reducible apply Sy.ldN (t := 55)); exact rfl; exact rfl; exact hasT; (· first | exact ld_agg ag55 sz55 (by first | (simp; done)) (by first | with_reducible exact cut_kids)))
    | ((with_reducible apply Sy.fa (t := 59) (i := 5)); exact rfl; exact rfl; exact fa59_5 _ _)
    | ((with_reducible apply Sy.fa (t := 59) (i := 6)); exact rfl; exact rfl; exact fa59_6 _ _)
    | ((with_reducible apply Sy.ldN (t := 23)); exact rfl; exact rfl; exact hasT; (· first | exact ld_one ag23 rfl | exact ld_one ag23 (by with_reducible assumption)))
    | ((with_reducible apply Sy.appFN (t := 23) (xt := 23)); exact ap23_23 zr5 rfl; exact rfl; exact rfl; exact rfl; (· first | exact SrcY.ofR (by with_reducible assumption) rfl); (· first | exact oneL_ints _ _ | exact rfl); (· first | omega); (· first | omega); exact hasT; (· first | omega); (· first | exact rfl); (· first | exact rfl); intro q18)
    | ((with_reducible apply Sy.dgo); (· first | exact wantY_none); (· intro hcls; cases hcls); exact rfl; exact rfl)
    | ((with_reducible apply Sy.dwr); (case hw => first | exact wantY_none); (case hc => intro hcls; cases hcls); (case h1 => exact rfl); (case hk => exact .consN (b := q1) hasT .nil); (case hS => intro h hh; subst hh; exact ⟨_, List.mem_singleton.2 rfl⟩))
    | ((with_reducible apply Sy.dand); (case hk => exact .consN (b := q1) hasT .nil))
    | ((with_reducible apply Sy.newY (o := ⟨some 1, .box 59 _, _, _, _, _⟩)); exact rfl; exact rfl; exact nbA rfl; intro q1)
    | ((with_reducible apply Sy.newY (o := ⟨some 2, .alloc 84, _, _, _, _⟩)); exact rfl; exact rfl; exact nwz84; intro q2)
    | ((with_reducible apply Sy.dnew (o := ⟨some 15, .buildSlice 23 _ _, _, _, _, _⟩)); (· first | exact wantY_none); exact rfl; exact rfl; exact rfl; exact rfl; exact rfl; exact (nbs0 Try.underlying23 sz5 zr5 rfl (by decide) rfl); intro q15 hq15)
    | ((with_reducible apply Sy.dnew (o := ⟨some 15, .buildSlice 23 _ _, _, _, _, _⟩)); (· first | exact wantY_none); exact rfl; exact rfl; exact rfl; exact rfl; exact rfl; (· exact (newY_bs Try.underlying23 sz5 zr5 rfl (by decide) rfl (by first | rfl | (simp [List.drop_append, List.take_append, List.getElem?_append, lay, hC_length, ints_length, ints_drop, ints_take, ints_append, List.drop_of_length_le, List.take_of_length_le, List.map_append, List.set_append, Value.cells]; done)))); intro q15 hq15)
    | ((with_reducible apply Sy.dgo); (· first | exact wantY_none); (· intro hcls; cases hcls); exact rfl; exact rfl)
    | ((with_reducible apply Sy.dld); (· first | exact wantY_none); exact rfl; (· first | omega); exact rfl))
    refine Sy.build (t := 84) rfl rfl (bvRTx (m := m) (by first | rfl | exact (CopyV.one (by assumption)))) ?_
    rw [Nat.zero_add m.d.length, show List.take (0 * 1) (List.drop 0 ([] : List Value)) ++ ints .u8 m.d = ints .u8 m.d by simp]
    repeat' (first
    | (with_reducible refine Sy.nrm ?_)
    | ((with_reducible apply Sy.stNa (t := 84)); exact rfl; exact rfl; exact sz84; (· first | (simp; done)); (· first | (simp [oneL_append, oneL_cons, oneL_nil, hC_one, oneL_ints]; done)); exact turnT; (· first | (simp; done)); (· first | exact lay_all (by first | (simp; done))))
    | ((with_reducible apply Sy.dgo); (· first | exact wantY_none); (· intro hcls; cases hcls); exact rfl; exact rfl)
    | (with_reducible refine Sy.ret ?_)
    | (with_reducible refine Sy.dend ?_)
    | ((with_reducible apply Sy.dgo); (· first | exact wantY_none); (· intro hcls; cases hcls); exact rfl; exact rfl))
    exact .fin [txV m (.slice (some ⟨q18, 0, none⟩) m.d.length (m.d.length + 2 + 1))] (.inr rfl) ⟨⟨_, _, _, rfl, (by repeat (first | exact Has.here | apply Has.there | apply Has.app)), ld_rtall⟩, trivial⟩ fun H' hp => ⟨(q18, m.d.length + 2 + 1), trivial, rfl, hp.less (.cons_cons _ (List.nil_sublist _))⟩
theorem eqZS {n : Int} : binV Try.prog .eql 3 (.int .i64 n) (.int .i64 n) = some (.bool true) := by rw [bz_eql, decide_eq_true rfl]
theorem equS {n : Nat} : binV Try.prog .eql 53 (.int .u64 ((n : Nat) : Int)) (.int .u64 ((n : Nat) : Int)) = some (.bool true) := by rw [b_eql, decide_eq_true rfl]
theorem eqWS {a : Wd} : binV Try.prog .eql 55 (wV a) (wV a) = some (.bool true) := by rw [eqW, decide_eq_true rfl]
open TxN in
set_option maxHeartbeats 1000000 in
theorem k_SameTx (m : Txn) (a a' : Option Addr) (k k' : Nat) (H : AHeap) (ho : m.ok) (hv : SlR H 1 (.slice a m.d.length k) m.d.length (ints .u8 m.d)) (hv' : SlR H 1 (.slice a' m.d.length k') m.d.length (ints .u8 m.d)) :
    CallR Try.prog noPrims 44 [txV m (.slice a m.d.length k), txV m (.slice a' m.d.length k')] H (fun u H' => u = .bool true ∧ Hp H 0 0 H' [] []) := by
  have hmg := txC_g m (.slice a m.d.length k)
  have hmd := txC_d m (.slice a m.d.length k)
  have hmg' := txC_g m (.slice a' m.d.length k')
  have hmd' := txC_d m (.slice a' m.d.length k')
  refine CallR.sy (n := 54) Try.func44 rfl rfl rfl ?_
  repeat' (first
    | (with_reducible refine Sy.seq ?_)
    | (with_reducible refine Sy.regionL ?_)
    | (with_reducible refine Sy.opsnil ?_)
    | (with_reducible refine Sy.go ?_)
    | (with_reducible refine Sy.nrm ?_)
    | ((with_reducible refine Sy.bin (op := .eql) (t := 3) rfl rfl rfl eqZS ?_))
    | ((with_reducible refine Sy.bin (op := .eql) (t := 53) rfl rfl rfl equS ?_))
    | ((with_reducible refine Sy.bin (op := .eql) (t := 55) rfl rfl rfl eqWS ?_))
    | ((with_reducible apply Sy.assign); exact rfl; exact rfl)
    | ((with_reducible apply Sy.fa (t := 84) (i := 0)); exact rfl; exact rfl; exact fa84_0 _ _)
    | ((with_reducible apply Sy.ldN (t := 3)); exact rfl; exact rfl; exact hasT; (· first | exact ld_one ag3 rfl | exact ld_one ag3 (by with_reducible assumption)))
    | ((with_reducible apply Sy.bin (op := .eql) (t := 3)); exact rfl; exact rfl; exact rfl; exact b_eql)
    | ((with_reducible apply Sy.bin (op := .eql) (t := 3)); exact rfl; exact rfl; exact rfl; exact bz_eql)
    | ((with_reducible apply Sy.move); exact rfl; exact rfl)
    | ((with_reducible apply Sy.fa (t := 84) (i := 1)); exact rfl; exact rfl; exact fa84_1 _ _)
    | ((with_reducible apply Sy.ldN (t := 53)); exact rfl; exact rfl; exact hasT; (· first | exact ld_one ag53 rfl | exact ld_one ag53 (by with_reducible assumption)))
    | ((with_reducible apply Sy.bin (op := .eql) (t := 53)); exact rfl; exact rfl; exact rfl; exact b_eql)
    | ((with_reducible apply Sy.bin (op := .eql) (t := 53)); exact rfl; exact rfl; exact rfl; exact bz_eql)
    | ((with_reducible apply Sy.pickT); exact rfl; exact rfl; exact rfl)
    | ((with_reducible apply Sy.fa (t := 84) (i := 2)); exact rfl; exact rfl; exact fa84_2 _ _)
    | ((with_reducible apply Sy.fa (t := 84) (i := 3)); exact rfl; exact rfl; exact fa84_3 _ _)
    | ((with_reducible apply Sy.fa (t := 84) (i := 4)); exact rfl; exact rfl; exact fa84_4 _ _)
    | ((with_reducible apply Sy.ldN (t := 55)); exact rfl; exact rfl; exact hasT; (· first | exact ld_agg ag55 sz55 (by first | (simp; done)) (by first | with_reducible exact cut_kids)))
    | ((with_reducible apply Sy.bin (op := .eql) (t := 55)); exact rfl; exact rfl; exact rfl; (· exact (eq55 (by first | rfl | assumption | (simp; done)) (by first | rfl | assumption | (simp; done)))))
    | ((with_reducible apply Sy.fa (t := 84) (i := 5)); exact rfl; exact rfl; exact fa84_5 _ _)
    | ((with_reducible apply Sy.fa (t := 84) (i := 6)); exact rfl; exact rfl; exact fa84_6 _ _)
    | ((with_reducible apply Sy.ldN (t := 23)); exact rfl; exact rfl; exact hasT; (· first | exact ld_one ag23 rfl | exact ld_one ag23 (by with_reducible assumption)))
    | ((with_reducible apply Sy.str); exact Try.underlying23; exact Try.underlying9; exact Try.underlying5; exact rfl; exact rfl; (· first | exact SrL.of0 (by assumption) rfl))
    | ((with_reducible apply Sy.bin (op := .eql) (t := 9)); exact rfl; exact rfl; exact rfl; exact eqSS)
    | ((with_reducible apply Sy.bin (op := .eql) (t := 9)); exact rfl; exact rfl; exact rfl; exact (eqS (by assumption) (by assumption)))
    | ((with_reducible apply Sy.newY (o := ⟨some 2, .box 84 _, _, _, _, _⟩)); exact rfl; exact rfl; exact nbA rfl; intro q2)
    | ((with_reducible apply Sy.newY (o := ⟨some 3, .box 84 _, _, _, _, _⟩)); exact rfl; exact rfl; exact nbA rfl; intro q3)
    | (with_reducible refine Sy.ret ?_)
    | ((with_reducible apply Sy.goG); exact rfl; exact rfl; exact rfl))
  all_goals exact .fin [_] (.inr rfl) ⟨rfl, trivial⟩ fun H' hp => ⟨rfl, hp.less (List.nil_sublist _)⟩
end Go.Proofs.Ytcaafoibabijgaa

/- Layer 09: the laws' rows of Txs. -/
namespace Go.Proofs.Ytcaafoibabijgaa
open Go Go.Am
set_option maxRecDepth 100000
set_option linter.unusedVariables false

/-- The bytes of some Txs lie in L. -/
def CopT (L : Hm) (es : List Tel) : Prop := ∀ e ∈ es, ∃ b c, e.2 = .slice (some ⟨b, 0, none⟩) e.1.d.length c ∧ Has L b (.cells (ints .u8 e.1.d) 5 true)
theorem CopT.more {L : Hm} {es : List Tel} {m : Txn} {b c : Nat} (h : CopT L es) : CopT ((b, .cells (ints .u8 m.d) 5 true) :: L) (es ++ [(m, .slice (some ⟨b, 0, none⟩) m.d.length c)]) := fun e he => by
  rcases List.mem_append.1 he with he | he
  · obtain ⟨b, c, h1, h2⟩ := h e he
    exact ⟨b, c, h1, .there h2⟩
  · rw [List.mem_singleton] at he
    subst he
    exact ⟨b, c, rfl, .here⟩
theorem full_slr0 {H : AHeap} {b c : Nat} {x : List Nat} {T : TypeId} {w : Bool} (h : H.get b = .cells (ints .u8 x) T w) : SlR H 1 (.slice (some ⟨b, 0, none⟩) x.length c) x.length (ints .u8 x) := .mk h (by simp) (by rw [List.drop_zero, List.take_of_length_le (by simp)])
theorem accM_hasT {T : TypeId} {cs : List Value} {k b : Nat} {M : Hm} (h : k ≠ 0) : Has (accM T cs k b ++ M) b (.cells cs T true) := by
  simp only [accM, if_neg h]; exact .here
theorem CopT.at {H H1 : AHeap} {lo hi b : Nat} {T : TypeId} {L : Hm} {es : List Tel} (hL : CopT L es) (ho : ∀ e ∈ es, e.1.ok ∧ e.1.d.length ≤ 140737488355328) (hp : Hp H lo hi H1 [] (accM T (tsC es) es.length b ++ L)) : TxsAt T H1 (accV 10 (tsC es) es.length b) es := by
  refine ⟨?_, fun e he => ⟨(ho e he).1, ?_, (ho e he).2⟩⟩
  · by_cases h0 : es.length = 0
    · exact ⟨none, 0, by rw [accV, if_pos h0, h0], .inl (List.length_eq_zero_iff.1 h0)⟩
    · exact ⟨some ⟨b, 0, none⟩, _, by rw [accV, if_neg h0], .inr ⟨b, true, rfl, hp.getN (accM_hasT h0)⟩⟩
  · obtain ⟨b1, c1, e1, hh⟩ := hL e he
    rw [e1]
    exact full_slr0 (hp.getN (.app hh))
theorem tsC_snoc (es : List Tel) (e : Tel) : tsC es ++ txC e.1 e.2 = tsC (es ++ [e]) := by rw [tsC_append]; simp [tsC]
theorem SrcY.tx {H0 : AHeap} {lo hi q c T : Nat} {w : Bool} {Mo Mn : Hm} {m : Txn} {v : Value} (hm : Has Mn q (.cells (txC m v) T w)) : SrcY H0 lo hi Mo Mn 10 (.slice (some ⟨q, 0, none⟩) 1 c) 1 (txC m v) :=
  (SrcY.ofN hm (by rw [txC_length]; omega)).eq (by rw [List.drop_zero, List.take_of_length_le (by rw [txC_length]; omega)])
end Go.Proofs.Ytcaafoibabijgaa

/- Layer 09: the reference's GetBatch. -/
namespace Go.Proofs.Ytcaafoibabijgaa
open Go Go.Am
set_option maxRecDepth 100000
set_option linter.unusedVariables false

/-- Bytes of some Txs, each in a row of its own in L. -/
def VwL (L : Hm) (es : List Tel) : Prop := ∀ e ∈ es, e.1.ok ∧ e.1.d.length ≤ 140737488355328 ∧ ∃ b, Vw b e.1.d e.2 e.1.d ∧ (e.1.d ≠ [] → Has L b (.cells (ints .u8 e.1.d) 5 true))
theorem VwL.more {L : Hm} {es : List Tel} {m : Txn} {v : Value} {b : Nat} (h : VwL L es) (ho : m.ok) (hl : m.d.length ≤ 140737488355328) (hv : Vw b m.d v m.d) : VwL (bufM m.d b ++ L) (es ++ [(m, v)]) := fun e he => by
  rcases List.mem_append.1 he with he | he
  · obtain ⟨h1, h2, b1, h3, h4⟩ := h e he
    exact ⟨h1, h2, b1, h3, fun x => .app (h4 x)⟩
  · rw [List.mem_singleton] at he
    subst he
    exact ⟨ho, hl, b, hv, fun x => bufM_has x⟩
theorem VwL.at {H H1 : AHeap} {lo hi b : Nat} {T : TypeId} {L : Hm} {es : List Tel} {Mo : Hm} (hV : VwL L es) (hp : Hp H lo hi H1 Mo (accM T (tsC es) es.length b ++ L)) : TxsAt T H1 (accV 10 (tsC es) es.length b) es := by
  refine ⟨?_, fun e he => ?_⟩
  · by_cases h0 : es.length = 0
    · exact ⟨none, 0, by rw [accV, if_pos h0, h0], .inl (List.length_eq_zero_iff.1 h0)⟩
    · exact ⟨some ⟨b, 0, none⟩, _, by rw [accV, if_neg h0], .inr ⟨b, true, rfl, hp.getN (accM_hasT h0)⟩⟩
  · obtain ⟨h1, h2, b1, h3, h4⟩ := hV e he
    exact ⟨h1, h3.slr' (fun x => hp.getN (.app (h4 x))), h2⟩
theorem Sy.lenA {P : Program} {pr : Prims} {n : Nat} {H0 : AHeap} {lo hi : Nat} {E : Env} {Mo Mn : Hm} {K : AS → Prop} {d : Nat} {ty : TypeId} {p : String} {a : Array Edge} {g : Option (Nat × Bool)} {t e : TypeId} {x : Operand} {sz k b : Nat} {l : List Value} (hd : Nat.blt d n = true) (ht : P.underlying t = some (.slice e)) (hx : ev E x = some (accV sz l k b)) (h : Sy n H0 lo hi ((d, .int .i64 (k : Int)) :: E) Mo Mn K) :
    Sy n H0 lo hi E Mo Mn (StepY P pr ⟨some d, .call ⟨.builtin .len, #[x], #[t]⟩, ty, p, a, g⟩ K) := by
  by_cases h0 : k = 0
  · subst h0
    exact Sy.lenS hd ht (by rw [hx]; rfl) h
  · exact Sy.lenS hd ht (by rw [hx, accV, if_neg h0]) h
theorem ba_one {ep : Nat} {v : Value} (h : v.oneCell' = true) : oneL (baC ep v) = true := by simp [oneL_cons, oneL_nil, h, oneI]
end Go.Proofs.Ytcaafoibabijgaa

/- Layer 09: the reference's GetBatch, walked. -/
namespace Go.Proofs.Ytcaafoibabijgaa
open Go Go.Am
set_option maxRecDepth 100000
set_option linter.unusedVariables false

end Go.Proofs.Ytcaafoibabijgaa
