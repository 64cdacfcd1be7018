/- DerivePrefix. -/
import Derived.Test.YtcaafoibabijgaaDerC
set_option linter.unusedSimpArgs false
set_option linter.unusedVariables false
/- Layer 14: DerivePrefix. -/
namespace Go.Proofs.Ytcaafoibabijgaa
open Go Go.Am
set_option maxRecDepth 100000
set_option linter.unusedVariables false

theorem Small.mono {xs : List Kel} (h : ∀ x ∈ xs, SmallK x) : ∀ x ∈ xs, x.ms.length ≤ 100 ∧ x.bs.length ≤ 100 ∧ ∀ e ∈ x.ms, e.1.d.length ≤ 1000 := fun x hx => ⟨by have := (h x hx).1; omega, by have := (h x hx).2.1; omega, (h x hx).2.2.2⟩
theorem KsQ.acc {L : Hm} {TM TB b : Nat} {xs : List Kel} (h : ∀ x ∈ xs, KelQ (knL L) TM x) : KsQ (knL (accM TB (ksC xs) xs.length b ++ L)) TM TB (accV 2 (ksC xs) xs.length b) xs := ⟨RwQ.acc fun h0 => accM_hasT h0, fun x hx => (h x hx).mono kn_app⟩
/-- Blocks, their row's pointer named. -/
theorem k_lBlocksQ (xs : List Kel) (v : Value) (H : AHeap) (h : KsQ (knH H) 66 64 v xs) (hn : xs.length ≤ 20) (hs : ∀ x ∈ xs, SmallK x) :
    CallR Try.prog noPrims 11 [v] H (fun u H' => ∃ i : List Kel × Option Addr × Nat × Hm, (i.1.map Kel.p = xs.map Kel.p ∧ KsQ (knL i.2.2.2) 57 38 (.slice i.2.1 i.1.length i.2.2.1) i.1) ∧ u = .slice i.2.1 i.1.length i.2.2.1 ∧ Hp H 0 0 H' [] i.2.2.2) := by
  refine (k_lBlocks xs v H h (by omega) (Small.mono hs)).mono fun u H' ⟨⟨ys, bo, L⟩, ⟨h1, h2⟩, h3, h4⟩ => ?_
  dsimp only at h1 h2 h3 h4
  obtain ⟨⟨a, c, e, hr⟩, hq⟩ := KsQ.acc (TB := 38) (b := bo) h2
  rw [e] at h3
  exact ⟨(ys, a, c, _), ⟨h1, ⟨⟨a, c, rfl, hr⟩, hq⟩⟩, h3, h4⟩
/-- Copies of small blocks are small. -/
theorem small_of {xs ys : List Kel} (e : ys.map Kel.p = xs.map Kel.p) (h : ∀ x ∈ xs, SmallK x) : ∀ y ∈ ys, y.bs.length ≤ 1000 ∧ y.ms.length ≤ 1000 := fun y hy => by
  have hm : y.p ∈ ys.map Kel.p := List.mem_map_of_mem hy
  rw [e] at hm
  obtain ⟨x, hx, exy⟩ := List.mem_map.1 hm
  have h1 := congrArg (fun b : Blk => b.ds.length) exy
  have h2 := congrArg (fun b : Blk => b.bs.length) exy
  simp only [Kel.p, List.length_map] at h1 h2
  obtain ⟨s1, s2, _, _⟩ := h x hx
  exact ⟨by omega, by omega⟩
/-- All inputs, their row's pointer named. -/
theorem k_AllQ (xs : List Kel) (w : Int) (v : Value) (A : List (List Inp)) (H : AHeap) (hA : allD (xs.map Kel.p) w = A) (h : KsQ (knH H) 57 38 v xs) (hx : xs.length ≤ 1000) (hb : ∀ x ∈ xs, x.bs.length ≤ 1000 ∧ x.ms.length ≤ 1000) :
    CallR Try.prog noPrims 20 [v, .int .i64 w] H (fun u H' => ∃ i : List Ael × Option Addr × Nat × Hm, (asOf i.1 = A ∧ i.1.length = A.length ∧ AsQ (knL i.2.2.2) 61 26 (.slice i.2.1 i.1.length i.2.2.1) i.1) ∧ u = .slice i.2.1 i.1.length i.2.2.1 ∧ Hp H 0 0 H' [] i.2.2.2) := by
  refine (k_All xs w v A H hA h hx hb).mono fun u H' ⟨⟨es, bo, L⟩, ⟨h1, h2⟩, h3, h4⟩ => ?_
  dsimp only at h1 h2 h3 h4
  have hr : RwQ (knL (accM 26 (asC es) es.length bo ++ L)) 26 (accV 1 (asC es) es.length bo) es.length (asC es) := RwQ.acc fun h0 => accM_hasT h0
  obtain ⟨a, c, e, hr2⟩ := hr
  rw [e] at h3
  exact ⟨(es, a, c, _), ⟨h1, by rw [← h1, List.length_map], ⟨⟨a, c, rfl, hr2⟩, fun e he => (h2 e he).mono kn_app⟩⟩, h3, h4⟩
theorem as_one {es : List Ael} {i o T : Nat} {e : List Iel} {v : Value} {w : Bool} (h : es[i]? = some (e, v)) (ho : o = i) : aLoad Try.prog 26 (.cells (asC es) T w) o = some v := ld_one ag26 (by rw [ho, asC, List.getElem?_map, h]; rfl)
theorem SrcY.acc {H0 : AHeap} {lo hi n bo T sz : Nat} {Mo Mn : Hm} {cs : List Value} (hl : cs.length = n * sz) (k : n ≠ 0 → Has Mn bo (.cells cs T true)) : SrcY H0 lo hi Mo Mn sz (accV sz cs n bo) n cs := by
  by_cases h0 : n = 0
  · subst h0
    obtain rfl : cs = [] := List.length_eq_zero_iff.1 (by omega)
    rw [accV, if_pos rfl]
    exact fun _ _ => by simp [srcCells]
  · rw [accV, if_neg h0]
    exact (SrcY.ofN (k h0) (by omega)).eq (by rw [List.drop_zero, List.take_of_length_le (by omega)])
theorem ksC_one {Q : Kn} {T : Nat} {xs : List Kel} (h : ∀ x ∈ xs, KelQ Q T x) : oneL (ksC xs) = true := by
  induction xs with
  | nil => rfl
  | cons x r ih =>
    obtain ⟨⟨⟨a, c, e1, -⟩, -⟩, ⟨⟨a', c', e2, -⟩, -⟩⟩ := h x (List.mem_cons_self ..)
    have := ih fun y hy => h y (List.mem_cons_of_mem _ hy)
    show oneL (x.c ++ ksC r) = true
    rw [oneL_append, this, Kel.c, e1, e2]
    rfl
theorem max_z {P : Program} {k : IntKind} {a b : Int} {ts : Array TypeId} {t : TypeId} : prunP P (Builtin.max_ ts t ⟨[.int k a, .int k b]⟩) = some (.int k (max a b)) := by
  have : (if a < b then b else a) = max a b := by split <;> omega
  simp [prunP, Builtin.max_, Builtin.max2, plainV, this]
section
variable {P : Program} {pr : Prims} {n : Nat} {H0 : AHeap} {lo hi : Nat} {E : Env} {Mo Mn : Hm} {K : AS → Prop} {d : Nat} {ty : TypeId} {p : String} {aa : Array Edge} {g : Option (Nat × Bool)} {ts : Array TypeId}
theorem Sy.maxZ {x y : Operand} {k : IntKind} {a b : Int} (hd : Nat.blt d n = true) (hx : ev E x = some (.int k a)) (hy : ev E y = some (.int k b)) (h : Sy n H0 lo hi ((d, .int k (max a b)) :: E) Mo Mn K) :
    Sy n H0 lo hi E Mo Mn (StepY P pr ⟨some d, .call ⟨.builtin .max, #[x, y], ts⟩, ty, p, aa, g⟩ K) :=
  .pureV rfl hd rfl (fun tm hE => by
    have h1 : pop P (aval tm) ⟨some d, .call ⟨.builtin .max, #[x, y], ts⟩, ty, p, aa, g⟩ = if ([x, y].all fun z => plainV (aval tm z)) = true then prunP P (Builtin.max_ ts ty ⟨[x, y].map (aval tm)⟩) else none := rfl
    rw [h1, if_pos (by simp [hE.ev hx, hE.ev hy, plainV])]
    simp only [List.map_cons, List.map_nil, hE.ev hx, hE.ev hy]
    exact max_z) h
end
theorem neZ {a b : Int} (h : a = b) : binV Try.prog .neq 3 (.int .i64 a) (.int .i64 b) = some (.bool false) := by rw [bz_neq, decide_eq_false (by simp [h])]
theorem knownD_mono {h h2 w : Int} (e : h ≤ h2) : knownD h w ≤ knownD h2 w := by
  unfold knownD
  split
  · split
    · omega
    · rename_i hc; simp only [not_or] at hc; omega
  · rename_i hc
    simp only [not_or] at hc
    rw [if_neg (by intro x; rcases x with x | x; exact hc.1 x; omega)]
    omega
theorem allD_len' (ls : List Blk) (w : Int) : (allD ls w).length = (knownD ls.length w).toNat := by simp [allD]
theorem allD_get {ls more : List Blk} {w : Int} {i : Nat} (h : i < (allD ls w).length) : (allD (ls ++ more) w)[i]? = (allD ls w)[i]? := by
  rw [allD_len'] at h
  have hr : rightD w = true := by
    cases hr : rightD w
    · unfold knownD at h; rw [hr] at h; simp at h
    · rfl
  have hm : knownD ls.length w ≤ knownD (ls ++ more).length w := knownD_mono (by rw [List.length_append]; omega)
  unfold allD
  rw [List.getElem?_map, List.getElem?_map, List.getElem?_range (by omega), List.getElem?_range (by omega)]
  simp only [Option.map_some]
  rw [inputsD_app hr (by omega) (by omega)]
theorem scanB_d {n : Nat} {bs : List (List Nat)} (h : ∀ c ∈ bs, ∀ x ∈ c, x < 256) : ∀ {k : Nat} {y : Nat × List Txn} {j : Nat}, scanB n bs k = some (y, j) → ∀ t ∈ y.2, t.d.length ≤ 256 := by
  induction bs with
  | nil => intro k y j e; simp [scanB] at e
  | cons c r ih =>
    intro k y j e
    rw [scanB_step] at e
    split at e
    · rename_i hc
      obtain ⟨rfl, rfl⟩ := Prod.mk.inj (Option.some.inj e)
      intro t ht
      have hr := (can_B (h c (List.mem_cons_self ..)) hc.1).2.1
      exact (rightTB_k (List.all_eq_true.1 (rightBB_n hr).2 t ht)).2.2.1
    · exact ih (fun c hc => h c (List.mem_cons_of_mem _ hc)) e
theorem scanL_d {n : Nat} {ls : List Blk} (h : ∀ b ∈ ls, b.ok) : ∀ {i : Nat} {y : Nat × List Txn} {p : Nat × Nat}, scanL n ls i = some (y, p) → ∀ t ∈ y.2, t.d.length ≤ 256 := by
  induction ls with
  | nil => intro k y j e; simp [scanL] at e
  | cons b r ih =>
    intro i y p e
    rw [scanL_step] at e
    split at e
    · rename_i y' k hs
      obtain ⟨rfl, _⟩ := Prod.mk.inj (Option.some.inj e)
      exact scanB_d (h b (List.mem_cons_self ..)).bs hs
    · exact ih (fun b hb => h b (List.mem_cons_of_mem _ hb)) e
theorem batchD_d (ls : List Blk) (n w : Int) (h : ∀ b ∈ ls, b.ok) : ∀ t ∈ (batchD ls n w).1.2, t.d.length ≤ 256 := by
  unfold batchD
  split
  · simp
  · have hl : ∀ b ∈ laterD ls n.toNat w.toNat, b.ok := fun b hb => h b (List.mem_of_mem_drop (List.mem_of_mem_take hb))
    unfold orB
    split
    · rename_i x hx
      obtain ⟨y, p⟩ := x
      exact scanL_d hl hx
    · simp
/-- Inputs of small blocks are small. -/
theorem inputsD_small (xs : List Kel) (n w : Int) (h : ∀ x ∈ xs, SmallK x ∧ x.p.ok) : (inputsD (xs.map Kel.p) n w).1.length ≤ 28 ∧ ∀ x ∈ (inputsD (xs.map Kel.p) n w).1, x.m.d.length ≤ 1000000 ∧ x.t.d.length ≤ 1000000 := by
  have hok : ∀ b ∈ xs.map Kel.p, b.ok := fun b hb => by
    obtain ⟨x, hx, rfl⟩ := List.mem_map.1 hb
    exact (h x hx).2
  unfold inputsD
  split
  · exact ⟨by simp, by simp⟩
  split
  · exact ⟨by simp, by simp⟩
  have h8 := batchD_8 (xs.map Kel.p) n w hok
  have hd := batchD_d (xs.map Kel.p) n w hok
  have hg : ((xs.map Kel.p).getD (n.toNat - 1) ⟨[], []⟩).ds.length ≤ 20 ∧ ∀ m ∈ ((xs.map Kel.p).getD (n.toNat - 1) ⟨[], []⟩).ds, m.d.length ≤ 1000 := by
    rw [List.getD_eq_getElem?_getD, List.getElem?_map]
    cases hx : xs[n.toNat - 1]? with
    | none => simp
    | some x =>
      obtain ⟨s1, _, _, s4⟩ := (h x (List.mem_of_getElem? hx)).1
      simp only [Option.map_some, Option.getD_some, Kel.p, List.length_map]
      exact ⟨s1, fun m hm => by
        obtain ⟨e, he, rfl⟩ := List.mem_map.1 hm
        exact s4 e he⟩
  refine ⟨by simp only [List.length_append, List.length_map]; omega, fun x hx => ?_⟩
  dsimp only at hx
  rcases List.mem_append.1 hx with hx | hx
  · obtain ⟨m, hm, rfl⟩ := List.mem_map.1 hx
    have := hg.2 m hm
    exact ⟨by show m.d.length ≤ _; omega, by simp [depI, zeroT]⟩
  · obtain ⟨t, ht, rfl⟩ := List.mem_map.1 hx
    have := hd t ht
    exact ⟨by simp [txI, zeroM], by show t.d.length ≤ _; omega⟩
theorem knownD_up {h w : Int} (h0 : 0 ≤ h) : knownD h w ≤ h := by
  unfold knownD
  split
  · omega
  · rename_i hc
    simp only [not_or] at hc
    have := rightD_le (w := w) (by simpa using hc.1)
    omega
theorem allD_at {ls : List Blk} {w : Int} {i : Nat} (h : i < (allD ls w).length) : (allD ls w)[i]? = some (inputsD ls ((i : Int) + 1) w).1 := by
  rw [allD_len'] at h
  unfold allD
  rw [List.getElem?_map, List.getElem?_range h]
  rfl
set_option maxHeartbeats 8000000 in
theorem c_DerivePrefix (xs ys : List Kel) (w : Int) (v1 v2 : Value) (H : AHeap) (hx : KsQ (knH H) 66 64 v1 xs) (hy : KsQ (knH H) 66 64 v2 ys) (hw : -9223372036854775808 ≤ w ∧ w < 9223372036854775808) (hxn : xs.length < 4611686018427387904) (hyn : ys.length < 4611686018427387904) (hxb : ∀ x ∈ xs, x.bs.length < 4611686018427387904 ∧ x.ms.length < 4611686018427387904) (hyb : ∀ x ∈ ys, x.bs.length < 4611686018427387904 ∧ x.ms.length < 4611686018427387904) :
    CallR Try.prog noPrims 5 [v1, v2, .int .i64 w] H (fun u H' => u = .bool true) := by
  have hx' := hx
  have hy' := hy
  obtain ⟨⟨a1, c1, rfl, -⟩, hxs⟩ := hx
  obtain ⟨⟨a2, c2, rfl, -⟩, hys⟩ := hy
  refine CallR.sy (n := 68) Try.func5 rfl rfl rfl ?_
  repeat' (first
    | (with_reducible refine Sy.seq ?_)
    | (with_reducible refine Sy.regionL ?_)
    | (with_reducible refine Sy.opsnil ?_)
    | (with_reducible refine Sy.go ?_)
    | (with_reducible refine Sy.nrm ?_)
    | ((with_reducible apply Sy.assign); exact rfl; exact rfl)
    | ((with_reducible apply Sy.move); exact rfl; exact rfl)
    | ((with_reducible apply Sy.callN (k := 8)); exact rfl; exact rfl; exact en8; exact rfl; (intro H' hp; exact k_Big xs _ H' (hx'.mono (kn_of hp)) hxn hxb); rintro B1 hB1))
  cases B1 with
  | true =>
    repeat' (first
    | (with_reducible refine Sy.seq ?_)
    | (with_reducible refine Sy.regionL ?_)
    | (with_reducible refine Sy.opsnil ?_)
    | (with_reducible refine Sy.go ?_)
    | (with_reducible refine Sy.nrm ?_)
    | ((with_reducible apply Sy.assign); exact rfl; exact rfl)
    | ((with_reducible apply Sy.pickT); exact rfl; exact rfl; exact rfl)
    | ((with_reducible apply Sy.call0 (k := 9)); exact rfl; exact rfl; exact en9; exact rfl; (intro H' hp; exact c_knows14 H'))
    | (with_reducible refine Sy.ret ?_)
    | (with_reducible refine Sy.aret ?_)
    | ((with_reducible apply Sy.yes); exact rfl)
    | ((with_reducible apply Sy.noG); exact rfl; exact rfl; exact rfl; exact rfl; exact rfl))
    exact .fin [_] (.inr rfl) ⟨rfl, trivial⟩ fun H' hp => rfl
  | false =>
    obtain ⟨hxl, hxS⟩ := hB1 rfl
    repeat' (first
    | (with_reducible refine Sy.seq ?_)
    | (with_reducible refine Sy.regionL ?_)
    | (with_reducible refine Sy.opsnil ?_)
    | (with_reducible refine Sy.go ?_)
    | (with_reducible refine Sy.nrm ?_)
    | ((with_reducible apply Sy.assign); exact rfl; exact rfl)
    | ((with_reducible apply Sy.move); exact rfl; exact rfl)
    | ((with_reducible apply Sy.pickF); exact rfl; exact rfl; exact rfl)
    | ((with_reducible apply Sy.callN (k := 8)); exact rfl; exact rfl; exact en8; exact rfl; (intro H' hp; exact k_Big ys _ H' (hy'.mono (kn_of hp)) hyn hyb); rintro B2 hB2)
    | ((with_reducible apply Sy.call0 (k := 9)); exact rfl; exact rfl; exact en9; exact rfl; (intro H' hp; exact c_knows14 H'))
    | (with_reducible refine Sy.skip ?_)
    | (with_reducible refine Sy.ret ?_)
    | (with_reducible refine Sy.aret ?_)
    | ((with_reducible apply Sy.goG); exact rfl; exact rfl; exact rfl)
    | ((with_reducible apply Sy.iteB); (case hx => exact rfl); all_goals intro hc))
    · exact .fin [_] (.inr rfl) ⟨rfl, trivial⟩ fun H' hp => rfl
    obtain ⟨hyl, hyS⟩ := hB2 hc
    obtain ⟨A, hA⟩ : ∃ A, allD (xs.map Kel.p) w = A := ⟨_, rfl⟩
    obtain ⟨B, hB⟩ : ∃ B, allD (xs.map Kel.p ++ ys.map Kel.p) w = B := ⟨_, rfl⟩
    repeat' (first
    | (with_reducible refine Sy.go ?_)
    | ((with_reducible apply Sy.move); exact rfl; exact rfl)
    | ((with_reducible apply Sy.callN (k := 11)); exact rfl; exact rfl; exact en11; exact rfl; (intro H' hp; exact k_lBlocksQ xs _ H' (hx'.mono (kn_of hp)) hxl hxS); rintro ⟨ox, ax, cx, Lx⟩ ⟨hkx, hqx⟩))
    dsimp only at hkx hqx ⊢
    have hoxl : ox.length = xs.length := by have := congrArg List.length hkx; simpa using this
    repeat' (first
    | (with_reducible refine Sy.seq ?_)
    | (with_reducible refine Sy.regionL ?_)
    | (with_reducible refine Sy.opsnil ?_)
    | (with_reducible refine Sy.go ?_)
    | (with_reducible refine Sy.nrm ?_)
    | ((with_reducible apply Sy.assign); exact rfl; exact rfl)
    | ((with_reducible apply Sy.move); exact rfl; exact rfl)
    | ((with_reducible apply Sy.callN (k := 20)); exact rfl; exact rfl; exact en20; exact rfl; (intro H' hp; exact k_AllQ ox w _ A H' (by rw [hkx]; exact hA) (hqx.mono (kn_new hp (fun x o h => by repeat (first | exact Has.front h)))) (by omega) (small_of hkx hxS)); rintro ⟨oa, aa, ca, La⟩ ⟨hka, -, hqa⟩))
    dsimp only at hka hqa ⊢
    repeat' (first
    | (with_reducible refine Sy.go ?_)
    | ((with_reducible apply Sy.move); exact rfl; exact rfl)
    | ((with_reducible apply Sy.callN (k := 11)); exact rfl; exact rfl; exact en11; exact rfl; (intro H' hp; exact k_lBlocks xs _ H' (hx'.mono (kn_of hp)) (by omega) (Small.mono hxS)); rintro ⟨ox2, bx2, Lx2⟩ ⟨hkx2, hqx2⟩)
    | ((with_reducible apply Sy.callN (k := 11)); exact rfl; exact rfl; exact en11; exact rfl; (intro H' hp; exact k_lBlocks ys _ H' (hy'.mono (kn_of hp)) (by omega) (Small.mono hyS)); rintro ⟨oy, by2, Ly⟩ ⟨hky, hqy⟩))
    dsimp only at hkx2 hqx2 hky hqy ⊢
    rw [List.append_assoc, List.append_assoc]
    have hox2l : ox2.length = xs.length := by have := congrArg List.length hkx2; simpa using this
    have hoyl : oy.length = ys.length := by have := congrArg List.length hky; simpa using this
    apply Sy.appB (t := 30) (xt := 30) (ap30_30 zr38 rfl) rfl rfl rfl (SrcY.acc (ksC_length oy) (fun h0 => by repeat (first | exact accM_hasT h0 | apply Has.there | apply Has.app))) (ksC_one hqy) (ksC_length oy) (by omega) pullT (ksC_length ox2) (ksC_append ox2 oy).symm
    intro q25
    rw [← List.length_append]
    have hal : oa.length = (knownD xs.length w).toNat := by
      have := congrArg List.length hka
      rw [List.length_map] at this
      rw [this, ← hA, allD_len', List.length_map]
    have hBl : B.length = (knownD ((xs.length + ys.length : Nat) : Int) w).toNat := by
      rw [← hB, allD_len', List.length_append, List.length_map, List.length_map]
    have hmo : knownD xs.length w ≤ knownD ((xs.length + ys.length : Nat) : Int) w := knownD_mono (by omega)
    by_cases hr : rightD w = true
    · obtain ⟨hw1, hw2⟩ := rightD_le hr
      have hmx : ((oa.length : Nat) : Int) = max ((0 : Nat) : Int) ((xs.length : Int) - w) := by
        rw [hal]
        unfold knownD
        rw [hr]
        split
        · rename_i hc
          rcases hc with hc | hc
          · simp at hc
          · omega
        · rename_i hc; simp only [not_or] at hc; omega
      repeat' (first
    | (with_reducible refine Sy.seq ?_)
    | (with_reducible refine Sy.regionL ?_)
    | (with_reducible refine Sy.opsnil ?_)
    | (with_reducible refine Sy.go ?_)
    | (with_reducible refine Sy.nrm ?_)
    | ((with_reducible refine Sy.bin (op := .sub) (t := 3) rfl rfl rfl (bz_sub (by omega) (by omega)) ?_))
    | ((with_reducible apply Sy.maxZ); exact rfl; exact rfl; exact rfl)
    | ((with_reducible refine Sy.bin (op := .neq) (t := 3) rfl rfl rfl (neZ hmx) ?_))
    | ((with_reducible apply Sy.assign); exact rfl; exact rfl)
    | ((with_reducible apply Sy.move); exact rfl; exact rfl)
    | ((with_reducible apply Sy.pickT); exact rfl; exact rfl; exact rfl)
    | ((with_reducible apply Sy.pickF); exact rfl; exact rfl; exact rfl)
    | ((with_reducible apply Sy.lenS); exact rfl; exact Try.underlying47; exact rfl)
    | ((with_reducible apply Sy.bin (op := .lss) (t := 3)); exact rfl; exact rfl; exact rfl; exact b_lss)
    | ((with_reducible apply Sy.bin (op := .lss) (t := 3)); exact rfl; exact rfl; exact rfl; exact bz_lss)
    | ((with_reducible apply Sy.bin (op := .geq) (t := 3)); exact rfl; exact rfl; exact rfl; exact b_geq)
    | ((with_reducible apply Sy.bin (op := .geq) (t := 3)); exact rfl; exact rfl; exact rfl; exact bz_geq)
    | ((with_reducible apply Sy.bin (op := .leq) (t := 3)); exact rfl; exact rfl; exact rfl; exact b_leq)
    | ((with_reducible apply Sy.bin (op := .leq) (t := 3)); exact rfl; exact rfl; exact rfl; exact bz_leq)
    | ((with_reducible apply Sy.lenS); exact rfl; exact Try.underlying22; exact rfl)
    | ((with_reducible apply Sy.callN (k := 20)); exact rfl; exact rfl; exact en20; exact rfl; (intro H' hp; exact k_AllQ (ox2 ++ oy) w _ B H' (by rw [List.map_append, hkx2, hky]; exact hB) ⟨(RwQ.acc (L := accM 38 (ksC (ox2 ++ oy)) (ox2 ++ oy).length q25) (fun h0 => by have := accM_hasT (T := 38) (cs := ksC (ox2 ++ oy)) (b := q25) (M := []) h0; rwa [List.append_nil] at this)).mono (kn_new hp (fun x o h => by repeat (first | exact Has.front h | apply Has.app))), fun x hx => (List.mem_append.1 hx).elim (fun hx => (hqx2 x hx).mono (kn_new hp (fun x o h => by repeat (first | exact Has.front h | apply Has.app)))) (fun hx => (hqy x hx).mono (kn_new hp (fun x o h => by repeat (first | exact Has.front h | apply Has.app))))⟩ (by rw [List.length_append]; omega) (fun x hx => (List.mem_append.1 hx).elim (small_of hkx2 hxS x) (small_of hky hyS x))); rintro ⟨ob, ab, cb, Lb⟩ ⟨hkb, hbl, hqb⟩)
    | (with_reducible refine Sy.skip ?_)
    | (with_reducible refine Sy.block ?_)
    | ((with_reducible apply Sy.no); exact rfl)
    | ((with_reducible apply Sy.goG); exact rfl; exact rfl; exact rfl)
    | ((with_reducible apply Sy.caseG); (case hj => exact rfl); (case hx => exact rfl); all_goals (intro hc; try (exfalso; omega))))
      dsimp only at hkb hbl hqb ⊢
      obtain ⟨⟨aa', ca', ea1, hra⟩, hea⟩ := hqa
      obtain ⟨rfl, -, rfl⟩ := Value.slice.inj ea1
      obtain ⟨⟨ab', cb', eb1, hrb⟩, heb⟩ := hqb
      obtain ⟨rfl, -, rfl⟩ := Value.slice.inj eb1
      have hAl : A.length = oa.length := by rw [← hka, List.length_map]
      refine Sy.loop (ι := Nat) (fun i => oa.length - i) (fun i => [(7, .slice aa oa.length ca), (8, .slice ab ob.length cb), (9, .int .i64 (i : Nat))]) (fun _ => []) (fun _ => Lb ++ La) (fun i => i ≤ oa.length) 0 (Nat.zero_le _) ⟨rfl, rfl, rfl, trivial⟩ (fun H h => h.less (List.Sublist.append_left (((((List.sublist_append_left La _).trans (List.sublist_append_right Lx2 _)).trans (List.sublist_append_right Ly _)).trans (List.sublist_append_right _ _)).trans (List.sublist_append_right _ _)) Lb)) ?_
      rintro i hi
      by_cases hlt : i < oa.length
      · obtain ⟨⟨ea, va⟩, hxe⟩ : ∃ y, oa[i]? = some y := ⟨oa[i], List.getElem?_eq_getElem hlt⟩
        obtain ⟨⟨eb, vb⟩, hye⟩ : ∃ y, ob[i]? = some y := ⟨ob[i]'(by omega), List.getElem?_eq_getElem (by omega)⟩
        obtain ⟨ba, wa, rfl, hba⟩ := hra.resolve_left (by omega)
        obtain ⟨bb, wb, rfl, hbb⟩ := hrb.resolve_left (by omega)
        have hqa2 := hea _ (List.mem_of_getElem? hxe)
        have hqb2 := heb _ (List.mem_of_getElem? hye)
        dsimp only at hqa2 hqb2
        have hil : i < (allD (xs.map Kel.p) w).length := by rw [hA]; omega
        have hAi : A[i]? = some (isOf ea) := by rw [← hka, List.getElem?_map, hxe]; rfl
        have hBi : B[i]? = some (isOf eb) := by rw [← hkb, List.getElem?_map, hye]; rfl
        have hAB : isOf ea = isOf eb := by
          rw [← hB, allD_get hil, hA, hAi] at hBi
          exact Option.some.inj hBi
        have hsm := inputsD_small xs ((i : Int) + 1) w (fun x hx => ⟨hxS x hx, Kel.ok (hxs x hx)⟩)
        have hAe : isOf ea = (inputsD (xs.map Kel.p) ((i : Int) + 1) w).1 := by
          rw [← hA, allD_at hil] at hAi
          exact (Option.some.inj hAi).symm
        rw [← hAe] at hsm
        have hel : ea.length ≤ 10000 := by have := hsm.1; rw [List.length_map] at this; omega
        have hed : ∀ e ∈ ea, e.x.m.d.length ≤ 1000000 ∧ e.x.t.d.length ≤ 1000000 := fun e he => hsm.2 e.x (List.mem_map_of_mem he)
        have hab : i < ob.length := by omega
        have h20 : oa.length ≤ 20 := by have := knownD_up (h := (xs.length : Int)) (w := w) (by omega); omega
        clear hsm hAe hAi hBi hil hea heb hra hrb hxS hyS hxs hys hB1 hB2 hx' hy' hkx2 hqx2 hky hqy hkx hqx hxb hyb hmx hmo hBl hal
        repeat' (first
    | (with_reducible refine Sy.seq ?_)
    | (with_reducible refine Sy.regionL ?_)
    | (with_reducible refine Sy.opsnil ?_)
    | (with_reducible refine Sy.go ?_)
    | (with_reducible refine Sy.nrm ?_)
    | ((with_reducible apply Sy.ldN (t := 26)); exact rfl; exact rfl; exact Has.app hba; exact as_one hxe (by omega))
    | ((with_reducible apply Sy.ldN (t := 26)); exact rfl; exact rfl; exact Has.front hbb; exact as_one hye (by omega))
    | ((with_reducible apply Sy.assign); exact rfl; exact rfl)
    | ((with_reducible apply Sy.move); exact rfl; exact rfl)
    | ((with_reducible apply Sy.lenS); exact rfl; exact Try.underlying47; exact rfl)
    | ((with_reducible apply Sy.bin (op := .lss) (t := 3)); exact rfl; exact rfl; exact rfl; exact b_lss)
    | ((with_reducible apply Sy.bin (op := .lss) (t := 3)); exact rfl; exact rfl; exact rfl; exact bz_lss)
    | ((with_reducible apply Sy.lenS); exact rfl; exact Try.underlying22; exact rfl)
    | ((with_reducible apply Sy.ia (t := 47)); exact rfl; exact rfl; exact rfl; exact (ia_sl10 Try.underlying47 sz26 (by omega)))
    | ((with_reducible apply Sy.ia (t := 47)); exact rfl; exact rfl; exact rfl; exact (ia_sl1 Try.underlying47 sz26 (by omega)))
    | ((with_reducible apply Sy.un (op := .not)); exact rfl; exact rfl; exact un_notT)
    | ((with_reducible apply Sy.un (op := .not)); exact rfl; exact rfl; exact un_notF)
    | ((with_reducible apply Sy.un (op := .not)); exact rfl; exact rfl; exact un_notD)
    | ((with_reducible apply Sy.un (op := .not)); exact rfl; exact rfl; exact un_not)
    | ((with_reducible apply Sy.bin (op := .add) (t := 3)); exact rfl; exact rfl; exact rfl; exact (b_add (by omega)))
    | ((with_reducible apply Sy.bin (op := .add) (t := 3)); exact rfl; exact rfl; exact rfl; exact (bz_add (by omega) (by omega)))
    | ((with_reducible apply Sy.dcall0 (k := 14)); (first | exact wantY_none); exact rfl; (intro h hh; first | exact hh); exact rfl; exact rfl; exact rfl; exact en14; exact rfl; (intro H' hp; exact k_alike ea eb va vb H' (hqa2.mono (kn_new hp fun x o h => Has.app h)) (hqb2.mono (kn_new hp fun x o h => Has.front h)) hAB hel hed))
    | (with_reducible refine Sy.skip ?_)
    | (with_reducible refine Sy.block ?_)
    | (with_reducible refine Sy.inrm ?_)
    | ((with_reducible apply Sy.drawL (id := 10) 10 [] (fun hi h => h < hi)); (case hp => kernel_rfl); (case hN => exact rfl); intro base hbase hM; try simp only [List.forall_mem_cons, List.forall_mem_append, List.not_mem_nil, false_implies, implies_true, and_true] at hM)
    | ((with_reducible apply Sy.no); exact rfl)
    | (with_reducible refine Sy.dend ?_)
    | ((with_reducible apply Sy.dgo); (· first | exact wantY_none); (· intro hcls; cases hcls); exact rfl; exact rfl)
    | ((with_reducible apply Sy.ite); (case hx => exact rfl); all_goals (intro hc; try (exfalso; omega))))
        exact Sy.rnrm (i + 1) (by omega) (by show oa.length - (i + 1) < oa.length - i; omega) ⟨rfl, rfl, rfl, trivial⟩ (fun H1 h => h)
      · obtain rfl : i = oa.length := by omega
        repeat' (first
    | (with_reducible refine Sy.seq ?_)
    | (with_reducible refine Sy.regionL ?_)
    | (with_reducible refine Sy.opsnil ?_)
    | (with_reducible refine Sy.go ?_)
    | (with_reducible refine Sy.nrm ?_)
    | ((with_reducible apply Sy.assign); exact rfl; exact rfl)
    | ((with_reducible apply Sy.move); exact rfl; exact rfl)
    | ((with_reducible apply Sy.lenS); exact rfl; exact Try.underlying47; exact rfl)
    | ((with_reducible apply Sy.bin (op := .lss) (t := 3)); exact rfl; exact rfl; exact rfl; exact b_lss)
    | ((with_reducible apply Sy.bin (op := .lss) (t := 3)); exact rfl; exact rfl; exact rfl; exact bz_lss)
    | ((with_reducible apply Sy.lenS); exact rfl; exact Try.underlying22; exact rfl)
    | ((with_reducible apply Sy.call0 (k := 9)); exact rfl; exact rfl; exact en9; exact rfl; (intro H' hp; exact c_knows14 H'))
    | (with_reducible refine Sy.exit ?_)
    | (with_reducible refine Sy.ret ?_)
    | (with_reducible refine Sy.aex ?_)
    | ((with_reducible apply Sy.iex); exact rfl)
    | (with_reducible refine Sy.rex ?_)
    | ((with_reducible apply Sy.ite); (case hx => exact rfl); all_goals (intro hc; try (exfalso; omega))))
        exact .fin [_] (.inr rfl) ⟨rfl, trivial⟩ fun H' hp => rfl
    · have hk0 : ∀ h : Int, knownD h w = 0 := fun h => by
        unfold knownD
        rw [if_pos (.inl (by simpa using hr))]
      have hw2 : w < 1 ∨ 64 < w := by
        simp only [rightD, Bool.and_eq_true, decide_eq_true_eq] at hr
        omega
      rw [hk0] at hal hBl
      have hal0 : oa.length = 0 := by rw [hal]; rfl
      have hBl0 : B.length = 0 := by rw [hBl]; rfl
      clear hal hBl hmo
      repeat' (first
    | (with_reducible refine Sy.seq ?_)
    | (with_reducible refine Sy.regionL ?_)
    | (with_reducible refine Sy.opsnil ?_)
    | (with_reducible refine Sy.go ?_)
    | (with_reducible refine Sy.nrm ?_)
    | ((with_reducible apply Sy.assign); exact rfl; exact rfl)
    | ((with_reducible apply Sy.move); exact rfl; exact rfl)
    | ((with_reducible apply Sy.pickT); exact rfl; exact rfl; exact rfl)
    | ((with_reducible apply Sy.pickF); exact rfl; exact rfl; exact rfl)
    | ((with_reducible apply Sy.lenS); exact rfl; exact Try.underlying47; exact rfl)
    | ((with_reducible apply Sy.bin (op := .lss) (t := 3)); exact rfl; exact rfl; exact rfl; exact b_lss)
    | ((with_reducible apply Sy.bin (op := .lss) (t := 3)); exact rfl; exact rfl; exact rfl; exact bz_lss)
    | ((with_reducible apply Sy.bin (op := .geq) (t := 3)); exact rfl; exact rfl; exact rfl; exact b_geq)
    | ((with_reducible apply Sy.bin (op := .geq) (t := 3)); exact rfl; exact rfl; exact rfl; exact bz_geq)
    | ((with_reducible apply Sy.bin (op := .leq) (t := 3)); exact rfl; exact rfl; exact rfl; exact b_leq)
    | ((with_reducible apply Sy.bin (op := .leq) (t := 3)); exact rfl; exact rfl; exact rfl; exact bz_leq)
    | ((with_reducible apply Sy.lenS); exact rfl; exact Try.underlying22; exact rfl)
    | ((with_reducible apply Sy.callN (k := 20)); exact rfl; exact rfl; exact en20; exact rfl; (intro H' hp; exact k_AllQ (ox2 ++ oy) w _ B H' (by rw [List.map_append, hkx2, hky]; exact hB) ⟨(RwQ.acc (L := accM 38 (ksC (ox2 ++ oy)) (ox2 ++ oy).length q25) (fun h0 => by have := accM_hasT (T := 38) (cs := ksC (ox2 ++ oy)) (b := q25) (M := []) h0; rwa [List.append_nil] at this)).mono (kn_new hp (fun x o h => by repeat (first | exact Has.front h | apply Has.app))), fun x hx => (List.mem_append.1 hx).elim (fun hx => (hqx2 x hx).mono (kn_new hp (fun x o h => by repeat (first | exact Has.front h | apply Has.app)))) (fun hx => (hqy x hx).mono (kn_new hp (fun x o h => by repeat (first | exact Has.front h | apply Has.app))))⟩ (by rw [List.length_append]; omega) (fun x hx => (List.mem_append.1 hx).elim (small_of hkx2 hxS x) (small_of hky hyS x))); rintro ⟨ob, ab, cb, Lb⟩ ⟨hkb, hbl, hqb⟩)
    | (with_reducible refine Sy.skip ?_)
    | (with_reducible refine Sy.block ?_)
    | ((with_reducible apply Sy.no); exact rfl)
    | ((with_reducible apply Sy.goG); exact rfl; exact rfl; exact rfl)
    | ((with_reducible apply Sy.noG); exact rfl; exact rfl; exact rfl; exact rfl; exact rfl)
    | ((with_reducible apply Sy.caseG); (case hj => exact rfl); (case hx => exact rfl); all_goals (intro hc; try (exfalso; omega))))
      all_goals refine Sy.loop (ι := Nat) (fun i => 0) (fun i => [(7, .slice aa oa.length ca), (9, .int .i64 ((0 : Nat) : Int))]) (fun _ => []) (fun _ => []) (fun i => True) 0 trivial ⟨rfl, rfl, trivial⟩ (fun H h => h.less (List.nil_sublist _)) ?_
      all_goals rintro i -
      all_goals repeat' (first
    | (with_reducible refine Sy.seq ?_)
    | (with_reducible refine Sy.regionL ?_)
    | (with_reducible refine Sy.opsnil ?_)
    | (with_reducible refine Sy.go ?_)
    | (with_reducible refine Sy.nrm ?_)
    | ((with_reducible apply Sy.assign); exact rfl; exact rfl)
    | ((with_reducible apply Sy.move); exact rfl; exact rfl)
    | ((with_reducible apply Sy.lenS); exact rfl; exact Try.underlying47; exact rfl)
    | ((with_reducible apply Sy.bin (op := .lss) (t := 3)); exact rfl; exact rfl; exact rfl; exact b_lss)
    | ((with_reducible apply Sy.bin (op := .lss) (t := 3)); exact rfl; exact rfl; exact rfl; exact bz_lss)
    | ((with_reducible apply Sy.lenS); exact rfl; exact Try.underlying22; exact rfl)
    | ((with_reducible apply Sy.call0 (k := 9)); exact rfl; exact rfl; exact en9; exact rfl; (intro H' hp; exact c_knows14 H'))
    | (with_reducible refine Sy.exit ?_)
    | (with_reducible refine Sy.ret ?_)
    | (with_reducible refine Sy.aex ?_)
    | ((with_reducible apply Sy.iex); exact rfl)
    | (with_reducible refine Sy.rex ?_)
    | ((with_reducible apply Sy.ite); (case hx => exact rfl); all_goals (intro hc; try (exfalso; omega))))
      all_goals exact .fin [_] (.inr rfl) ⟨rfl, trivial⟩ fun H' hp => rfl
end Go.Proofs.Ytcaafoibabijgaa
