/- The batch of a number. -/
import Derived.Test.YtcaafoibabijgaaDerA
set_option linter.unusedSimpArgs false
set_option linter.unusedVariables false
/- Layer 14: the batch of a number. -/
namespace Go.Proofs.Ytcaafoibabijgaa
open Go Go.Am
set_option maxRecDepth 100000
set_option linter.unusedVariables false

theorem c_dright (w : Int) (H : AHeap) : CallR Try.prog noPrims 26 [.int .i64 w] H (fun u H' => u = .bool (rightD w) ∧ Hp H 0 0 H' [] []) := by
  refine CallR.sy (n := 9) Try.func26 rfl rfl rfl ?_
  repeat' (first
    | (with_reducible refine Sy.seq ?_)
    | (with_reducible refine Sy.regionL ?_)
    | (with_reducible refine Sy.opsnil ?_)
    | (with_reducible refine Sy.go ?_)
    | (with_reducible refine Sy.nrm ?_)
    | ((with_reducible apply Sy.assign); exact rfl; exact rfl)
    | ((with_reducible apply Sy.move); exact rfl; exact rfl)
    | ((with_reducible apply Sy.bin (op := .geq) (t := 3)); exact rfl; exact rfl; exact rfl; exact b_geq)
    | ((with_reducible apply Sy.bin (op := .geq) (t := 3)); exact rfl; exact rfl; exact rfl; exact bz_geq)
    | ((with_reducible apply Sy.bin (op := .leq) (t := 3)); exact rfl; exact rfl; exact rfl; exact b_leq)
    | ((with_reducible apply Sy.bin (op := .leq) (t := 3)); exact rfl; exact rfl; exact rfl; exact bz_leq)
    | ((with_reducible apply Sy.pickT); exact rfl; exact rfl; exact rfl)
    | ((with_reducible apply Sy.pickF); exact rfl; exact rfl; exact rfl)
    | (with_reducible refine Sy.ret ?_)
    | ((with_reducible apply Sy.goG); exact rfl; exact rfl; exact rfl)
    | ((with_reducible apply Sy.noG); exact rfl; exact rfl; exact rfl; exact rfl; exact rfl)
    | ((with_reducible apply Sy.caseG); (case hj => exact rfl); (case hx => exact rfl); all_goals (intro hc; try (exfalso; omega))))
  all_goals exact .fin [_] (.inr rfl) ⟨rfl, trivial⟩ fun H' hp => ⟨by refine congrArg Value.bool ?_; clear hp; unfold rightD; rw [Bool.eq_iff_iff]; simp; try omega, hp.less (List.nil_sublist _)⟩
theorem c_dright' (w : Int) (R : Bool) (H : AHeap) (hR : rightD w = R) : CallR Try.prog noPrims 26 [.int .i64 w] H (fun u H' => u = .bool R ∧ Hp H 0 0 H' [] []) := by
  subst hR; exact c_dright w H
theorem c_Known (h w : Int) (K : Int) (H : AHeap) (hK : knownD h w = K) (hh : 0 ≤ h ∧ h < 4611686018427387904) : CallR Try.prog noPrims 17 [.int .i64 h, .int .i64 w] H (fun u H' => u = .int .i64 K ∧ Hp H 0 0 H' [] []) := by
  obtain ⟨R, hR⟩ : ∃ R, rightD w = R := ⟨_, rfl⟩
  unfold knownD at hK
  rw [hR] at hK
  cases R with
  | false =>
    rw [if_pos (.inl rfl)] at hK
    subst hK
    refine CallR.sy (n := 16) Try.func17 rfl rfl rfl ?_
    repeat' (first
    | (with_reducible refine Sy.seq ?_)
    | (with_reducible refine Sy.regionL ?_)
    | (with_reducible refine Sy.opsnil ?_)
    | (with_reducible refine Sy.go ?_)
    | (with_reducible refine Sy.nrm ?_)
    | ((with_reducible apply Sy.assign); exact rfl; exact rfl)
    | ((with_reducible apply Sy.move); exact rfl; exact rfl)
    | ((with_reducible apply Sy.un (op := .not)); exact rfl; exact rfl; exact un_notT)
    | ((with_reducible apply Sy.un (op := .not)); exact rfl; exact rfl; exact un_notF)
    | ((with_reducible apply Sy.un (op := .not)); exact rfl; exact rfl; exact un_notD)
    | ((with_reducible apply Sy.un (op := .not)); exact rfl; exact rfl; exact un_not)
    | ((with_reducible apply Sy.pickT); exact rfl; exact rfl; exact rfl)
    | ((with_reducible apply Sy.call0 (k := 26)); exact rfl; exact rfl; exact en26; exact rfl; (intro H' hp; exact c_dright' w false H' hR))
    | (with_reducible refine Sy.ret ?_)
    | (with_reducible refine Sy.aret ?_)
    | ((with_reducible apply Sy.yes); exact rfl)
    | ((with_reducible apply Sy.noG); exact rfl; exact rfl; exact rfl; exact rfl; exact rfl))
    all_goals exact .fin [_] (.inr rfl) ⟨rfl, trivial⟩ fun H' hp => ⟨rfl, hp.less (List.nil_sublist _)⟩
  | true =>
    obtain ⟨hw1, hw2⟩ := rightD_le hR
    refine CallR.sy (n := 16) Try.func17 rfl rfl rfl ?_
    repeat' (first
    | (with_reducible refine Sy.seq ?_)
    | (with_reducible refine Sy.regionL ?_)
    | (with_reducible refine Sy.opsnil ?_)
    | (with_reducible refine Sy.go ?_)
    | (with_reducible refine Sy.nrm ?_)
    | ((with_reducible refine Sy.bin (op := .sub) (t := 3) rfl rfl rfl (bz_sub (by omega) (by omega)) ?_))
    | ((with_reducible apply Sy.assign); exact rfl; exact rfl)
    | ((with_reducible apply Sy.move); exact rfl; exact rfl)
    | ((with_reducible apply Sy.un (op := .not)); exact rfl; exact rfl; exact un_notT)
    | ((with_reducible apply Sy.un (op := .not)); exact rfl; exact rfl; exact un_notF)
    | ((with_reducible apply Sy.un (op := .not)); exact rfl; exact rfl; exact un_notD)
    | ((with_reducible apply Sy.un (op := .not)); exact rfl; exact rfl; exact un_not)
    | ((with_reducible apply Sy.bin (op := .lss) (t := 3)); exact rfl; exact rfl; exact rfl; exact b_lss)
    | ((with_reducible apply Sy.bin (op := .lss) (t := 3)); exact rfl; exact rfl; exact rfl; exact bz_lss)
    | ((with_reducible apply Sy.pickF); exact rfl; exact rfl; exact rfl)
    | ((with_reducible apply Sy.call0 (k := 26)); exact rfl; exact rfl; exact en26; exact rfl; (intro H' hp; exact c_dright' w true H' hR))
    | (with_reducible refine Sy.skip ?_)
    | (with_reducible refine Sy.ret ?_)
    | (with_reducible refine Sy.aret ?_)
    | ((with_reducible apply Sy.goG); exact rfl; exact rfl; exact rfl)
    | ((with_reducible apply Sy.ite); (case hx => exact rfl); all_goals (intro hc; try (exfalso; omega))))
    · rw [if_pos (.inr (by simpa using hc))] at hK
      subst hK
      exact .fin [_] (.inr rfl) ⟨rfl, trivial⟩ fun H' hp => ⟨rfl, hp.less (List.nil_sublist _)⟩
    · rw [if_neg (by simp; simpa using hc)] at hK
      subst hK
      exact .fin [_] (.inr rfl) ⟨rfl, trivial⟩ fun H' hp => ⟨rfl, hp.less (List.nil_sublist _)⟩
set_option maxHeartbeats 4000000 in
theorem k_batch (xs : List Kel) (n w : Nat) (v : Value) (B : (Nat × List Txn) × Nat × Nat) (H : AHeap) (hB : batchD (xs.map Kel.p) (n : Int) (w : Int) = B) (h : KsQ (knH H) 57 38 v xs) (hn : 1 ≤ n ∧ n ≤ xs.length) (hw : 1 ≤ w ∧ w ≤ 64) (hx : xs.length ≤ 1000) (hb : ∀ x ∈ xs, x.bs.length ≤ 1000) :
    CallR Try.prog noPrims 28 [v, .int .i64 ((n : Nat) : Int), .int .i64 ((w : Nat) : Int)] H (fun u H' => ∃ i : List Tel × Value × Hm, (tsOf i.1 = B.1.2 ∧ TsQ (knL i.2.2) 59 i.2.1 i.1 ∧ i.2.1.oneCell' = true ∧ i.2.1.cells.toList = [i.2.1]) ∧ u = .tuple ⟨[.agg ⟨baC B.1.1 i.2.1⟩, .int .i64 ((B.2.1 : Nat) : Int), .int .i64 ((B.2.2 : Nat) : Int)]⟩ ∧ Hp H 0 0 H' [] i.2.2) := by
  have hR : rightD ((w : Nat) : Int) = true := by simp [rightD]; omega
  have hB2 : orB (scanL n (laterD (xs.map Kel.p) n w) (n + 1)) = B := by
    rw [← hB, batchD, if_neg (by rw [hR]; simp; omega), Int.toNat_natCast, Int.toNat_natCast]
  clear hB
  obtain ⟨⟨a1, c1, rfl, h1⟩, hss⟩ := h
  obtain ⟨b1, w1, rfl, hb1⟩ : ∃ b w, a1 = some ⟨b, 0, none⟩ ∧ knH H b (ksC xs) 38 w := h1.resolve_left (by omega)
  obtain ⟨M, hM⟩ : ∃ M, min (xs.length - n) w = M := ⟨_, rfl⟩
  have hM64 : M ≤ 64 := by omega
  have hMl : (laterD (xs.map Kel.p) n w).length = M := by simp [laterD, ← hM]
  have hlat : ∀ i, i < M → ∃ x, xs[n + i]? = some x ∧ (laterD (xs.map Kel.p) n w)[i]? = some x.p := fun i hi => by
    have hl : n + i < xs.length := by omega
    refine ⟨xs[n + i], List.getElem?_eq_getElem hl, ?_⟩
    unfold laterD
    rw [List.getElem?_take_of_lt (by simp; omega), List.getElem?_drop, List.getElem?_map, List.getElem?_eq_getElem hl]
    rfl
  generalize laterD (xs.map Kel.p) n w = lat at hB2 hMl hlat
  obtain ⟨S, hS⟩ : ∃ S, scanL n lat (n + 1) = S := ⟨_, rfl⟩
  rw [hS] at hB2
  refine CallR.sy (n := 81) Try.func28 rfl rfl rfl ?_
  repeat' (first
    | (with_reducible refine Sy.seq ?_)
    | (with_reducible refine Sy.regionL ?_)
    | (with_reducible refine Sy.opsnil ?_)
    | (with_reducible refine Sy.go ?_)
    | (with_reducible refine Sy.nrm ?_)
    | ((with_reducible apply Sy.assign); exact rfl; exact rfl)
    | ((with_reducible apply Sy.move); exact rfl; exact rfl)
    | ((with_reducible apply Sy.un (op := .not)); exact rfl; exact rfl; exact un_notT)
    | ((with_reducible apply Sy.un (op := .not)); exact rfl; exact rfl; exact un_notF)
    | ((with_reducible apply Sy.un (op := .not)); exact rfl; exact rfl; exact un_notD)
    | ((with_reducible apply Sy.un (op := .not)); exact rfl; exact rfl; exact un_not)
    | ((with_reducible apply Sy.bin (op := .lss) (t := 3)); exact rfl; exact rfl; exact rfl; exact b_lss)
    | ((with_reducible apply Sy.bin (op := .lss) (t := 3)); exact rfl; exact rfl; exact rfl; exact bz_lss)
    | ((with_reducible apply Sy.pickF); exact rfl; exact rfl; exact rfl)
    | ((with_reducible apply Sy.lenS); exact rfl; exact Try.underlying30; exact rfl)
    | ((with_reducible apply Sy.bin (op := .gtr) (t := 3)); exact rfl; exact rfl; exact rfl; exact b_gtr)
    | ((with_reducible apply Sy.bin (op := .gtr) (t := 3)); exact rfl; exact rfl; exact rfl; exact bz_gtr)
    | ((with_reducible apply Sy.bin (op := .sub) (t := 3)); exact rfl; exact rfl; exact rfl; exact (b_sub (by omega) (by omega)))
    | ((with_reducible apply Sy.bin (op := .sub) (t := 3)); exact rfl; exact rfl; exact rfl; exact (bz_sub (by omega) (by omega)))
    | ((with_reducible apply Sy.minI); exact rfl; exact rfl; exact rfl)
    | ((with_reducible apply Sy.bin (op := .add) (t := 3)); exact rfl; exact rfl; exact rfl; exact (b_add (by omega)))
    | ((with_reducible apply Sy.bin (op := .add) (t := 3)); exact rfl; exact rfl; exact rfl; exact (bz_add (by omega) (by omega)))
    | ((with_reducible apply Sy.sl (t := 30)); exact rfl; exact rfl; exact rfl; exact rfl; exact rfl; exact (sl_mid Try.underlying30 sz38 (by omega) (by omega)))
    | ((with_reducible apply Sy.lenS); exact rfl; exact Try.underlying35; exact rfl)
    | ((with_reducible apply Sy.call0 (k := 26)); exact rfl; exact rfl; exact en26; exact rfl; (intro H' hp; exact c_dright' _ true H' hR))
    | ((with_reducible apply Sy.newY (o := ⟨some 6, .alloc 78, _, _, _, _⟩)); exact rfl; exact rfl; exact nwz78; intro q6)
    | ((with_reducible apply Sy.newY (o := ⟨some 11, .alloc 38, _, _, _, _⟩)); exact rfl; exact rfl; exact nwz38; intro q11)
    | ((with_reducible apply Sy.newY (o := ⟨some 14, .alloc 78, _, _, _, _⟩)); exact rfl; exact rfl; exact nwz78; intro q14)
    | (with_reducible refine Sy.skip ?_)
    | (with_reducible refine Sy.label ?_)
    | (with_reducible refine Sy.block ?_)
    | (with_reducible refine Sy.scope ?_)
    | ((with_reducible apply Sy.goG); exact rfl; exact rfl; exact rfl)
    | ((with_reducible apply Sy.caseG); (case hj => exact rfl); (case hx => exact rfl); all_goals (intro hc; try (exfalso; omega)))
    | ((with_reducible apply Sy.ite); (case hx => exact rfl); all_goals (intro hc; try (exfalso; omega))))
  rw [hM, Nat.add_sub_cancel]
  generalize hcc : (if c1 = xs.length then if M + n = xs.length then M else M + 1 else if c1 = xs.length + 2 + 2 then M + 2 + 2 else M + 1) = cc
  clear hcc
  refine Sy.loop (ι := Nat) (fun i => M - i) (fun i => [(1, .int .i64 ((n : Nat) : Int)), (6, .pointer (some ⟨q6, 0, none⟩)), (7, .int .i64 ((0 : Nat) : Int)), (8, .int .i64 ((0 : Nat) : Int)), (41, .slice (some ⟨b1, 0 + n * 2, none⟩) M cc), (42, .int .i64 ((M : Nat) : Int)), (43, .int .i64 ((i : Nat) : Int))]) (fun _ => []) (fun _ => [(q6, .cells (baC 0 (.slice none 0 0)) 78 true)]) (fun i => i ≤ M ∧ scanL n (lat.drop i) (n + 1 + i) = S) 0 ⟨Nat.zero_le _, hS⟩ ⟨rfl, rfl, rfl, rfl, rfl, rfl, rfl, trivial⟩ (fun H h => h) ?_
  rintro i ⟨hi, hSi⟩
  by_cases hlt : i < M
  · obtain ⟨x, hxe, hle⟩ := hlat i hlt
    have hxm := List.mem_of_getElem? hxe
    obtain ⟨⟨⟨am, cm, hmv, -⟩, -⟩, ⟨⟨ab, cb, hbv, hbr⟩, hbs⟩⟩ := hss x hxm
    have hbl := hb x hxm
    have hdr : lat.drop i = x.p :: lat.drop (i + 1) := by
      obtain ⟨h0, h00⟩ := List.getElem?_eq_some_iff.1 hle
      rw [← h00, ← List.drop_eq_getElem_cons h0]
    rw [hdr, scanL_step] at hSi
    obtain ⟨S1, hS1⟩ : ∃ S1, scanB n x.p.bs 0 = S1 := ⟨_, rfl⟩
    rw [hS1] at hSi
    obtain ⟨ms, mv, bs, bv⟩ := x
    dsimp only at hbv hbr hbs hbl hmv
    subst hbv hmv
    have hpb : (Kel.p ⟨ms, .slice am ms.length cm, bs, .slice ab bs.length cb⟩).bs = bs.map (·.1) := rfl
    rw [hpb] at hS1
    have hnone : S1 = none → scanL n (lat.drop (i + 1)) (n + 1 + (i + 1)) = S := fun e => by rw [← hSi, e]; rfl
    have hsome : ∀ y k, S1 = some (y, k) → S = some (y, n + 1 + i, k) := fun y k e => by rw [← hSi, e]
    clear hpb hdr hle hS hSi hlat hss hb hMl hM
    repeat' (first
    | (with_reducible refine Sy.seq ?_)
    | (with_reducible refine Sy.regionL ?_)
    | (with_reducible refine Sy.opsnil ?_)
    | (with_reducible refine Sy.go ?_)
    | (with_reducible refine Sy.nrm ?_)
    | ((with_reducible refine Sy.ld0 (t := 38) rfl rfl hb1 rfl (by simp only [List.forall_mem_cons, List.not_mem_nil, false_implies, implies_true, and_true, ne_eq]; first | done | omega | (repeat (first | with_reducible assumption | (refine And.intro ?_ ?_)))) (ks_all ag38 sz38 hxe (by omega)) ?_))
    | ((with_reducible refine Sy.stNa (t := 38) rfl rfl sz38 rfl rfl (by repeat (first | exact Turn.here | apply Turn.there | apply Turn.app)) (by simp) (lay_all (by simp)) ?_))
    | ((with_reducible apply Sy.assign); exact rfl; exact rfl)
    | ((with_reducible apply Sy.move); exact rfl; exact rfl)
    | ((with_reducible apply Sy.bin (op := .lss) (t := 3)); exact rfl; exact rfl; exact rfl; exact b_lss)
    | ((with_reducible apply Sy.bin (op := .lss) (t := 3)); exact rfl; exact rfl; exact rfl; exact bz_lss)
    | ((with_reducible apply Sy.lenS); exact rfl; exact Try.underlying30; exact rfl)
    | ((with_reducible apply Sy.ldN (t := 78)); exact rfl; exact rfl; exact hasT; (· first | exact ld_all ag78 (by first | exact sz78 | (simp [sz78, *]; done)) | exact ld_agg ag78 sz78 (by first | (simp; done) | (simp; omega)) (by first | with_reducible exact cut_kids | rfl | (simp [List.drop_append, List.take_append, List.getElem?_append, lay, hC_length, ints_length, ints_drop, ints_take, ints_append, List.drop_of_length_le, List.take_of_length_le, List.map_append, List.set_append, Value.cells]; done))))
    | ((with_reducible apply Sy.ia (t := 30)); exact rfl; exact rfl; exact rfl; exact (ia_sl Try.underlying30 sz38 (by omega)))
    | ((with_reducible apply Sy.ldN (t := 38)); exact rfl; exact rfl; exact hasT; (· first | exact ld_all ag38 (by first | exact sz38 | (simp [sz38, *]; done)) | exact ld_agg ag38 sz38 (by first | (simp; done) | (simp; omega)) (by first | with_reducible exact cut_kids | rfl | (simp [List.drop_append, List.take_append, List.getElem?_append, lay, hC_length, ints_length, ints_drop, ints_take, ints_append, List.drop_of_length_le, List.take_of_length_le, List.map_append, List.set_append, Value.cells]; done))))
    | ((with_reducible apply Sy.fa (t := 38) (i := 1)); exact rfl; exact rfl; exact fa38_1 _ _)
    | ((with_reducible apply Sy.ldN (t := 35)); exact rfl; exact rfl; exact hasT; (· first | exact ld_one ag35 rfl))
    | ((with_reducible apply Sy.lenS); exact rfl; exact Try.underlying35; exact rfl)
    | ((with_reducible apply Sy.ia (t := 35)); exact rfl; exact rfl; exact rfl; exact (ia_sl10 Try.underlying35 sz23 (by omega)))
    | ((with_reducible apply Sy.ia (t := 35)); exact rfl; exact rfl; exact rfl; exact (ia_sl1 Try.underlying35 sz23 (by omega)))
    | ((with_reducible apply Sy.ldN (t := 23)); exact rfl; exact rfl; exact hasT; (· first | exact ld_one ag23 rfl))
    | ((with_reducible apply Sy.fa (t := 78) (i := 0)); exact rfl; exact rfl; exact fa78_0 _ _)
    | ((with_reducible apply Sy.ldN (t := 53)); exact rfl; exact rfl; exact hasT; (· first | exact ld_one ag53 rfl))
    | ((with_reducible apply Sy.newY (o := ⟨some 6, .alloc 78, _, _, _, _⟩)); exact rfl; exact rfl; exact nwz78; intro q6)
    | ((with_reducible apply Sy.newY (o := ⟨some 11, .alloc 38, _, _, _, _⟩)); exact rfl; exact rfl; exact nwz38; intro q11)
    | ((with_reducible apply Sy.newY (o := ⟨some 14, .alloc 78, _, _, _, _⟩)); exact rfl; exact rfl; exact nwz78; intro q14)
    | (with_reducible refine Sy.skip ?_)
    | (with_reducible refine Sy.block ?_)
    | ((with_reducible apply Sy.ite); (case hx => exact rfl); all_goals (intro hc; try (exfalso; omega))))
    refine Sy.loop (ι := Nat) (fun k => bs.length - k) (fun k => [(1, .int .i64 ((n : Nat) : Int)), (6, .pointer (some ⟨q6, 0, none⟩)), (7, .int .i64 ((0 : Nat) : Int)), (8, .int .i64 ((0 : Nat) : Int)), (41, .slice (some ⟨b1, 0 + n * 2, none⟩) M cc), (42, .int .i64 ((M : Nat) : Int)), (43, .int .i64 ((i : Nat) : Int)), (10, .int .i64 ((i : Nat) : Int)), (49, .slice ab bs.length cb), (50, .int .i64 ((bs.length : Nat) : Int)), (51, .int .i64 ((k : Nat) : Int))]) (fun _ => []) (fun _ => [(q6, .cells (baC 0 (.slice none 0 0)) 78 true)]) (fun k => k ≤ bs.length ∧ scanB n ((bs.map (·.1)).drop k) k = S1) 0 ⟨Nat.zero_le _, hS1⟩ ⟨rfl, rfl, rfl, rfl, rfl, rfl, rfl, rfl, rfl, rfl, rfl, trivial⟩ (fun H h => h.less (.cons _ (.refl _))) ?_
    rintro k ⟨hk, hSk⟩
    by_cases hkl : k < bs.length
    · obtain ⟨⟨l, sv⟩, hse⟩ : ∃ y, bs[k]? = some y := ⟨bs[k], List.getElem?_eq_getElem hkl⟩
      obtain ⟨h256, hsv, hll⟩ := hbs _ (List.mem_of_getElem? hse)
      obtain ⟨bb, wb, rfl, hbb⟩ := hbr.resolve_left (by omega)
      dsimp only at h256 hsv hll
      have hsr := hsv.slr (H := H) (fun _ _ _ _ h => h)
      have hdr : (bs.map (·.1)).drop k = l :: (bs.map (·.1)).drop (k + 1) := by
        have h0 : (bs.map (·.1))[k]? = some l := by rw [List.getElem?_map, hse]; rfl
        obtain ⟨h1, h2⟩ := List.getElem?_eq_some_iff.1 h0
        rw [← h2, ← List.drop_eq_getElem_cons h1]
      rw [hdr, scanB_step] at hSk
      obtain ⟨G, hG⟩ : ∃ G, getB l = G := ⟨_, rfl⟩
      rw [hG] at hSk
      have hmiss : ¬ (G.2 = 0 ∧ G.1.1 = n) → scanB n ((bs.map (·.1)).drop (k + 1)) (k + 1) = S1 := fun h => by rw [if_neg h] at hSk; exact hSk
      have hhit : G.2 = 0 → G.1.1 = n → S1 = some (G.1, k) := fun h1 h2 => by rw [if_pos ⟨h1, h2⟩] at hSk; exact hSk.symm
      clear hSk hdr hbs hxm hxe hbr hnone
      repeat' (first
    | (with_reducible refine Sy.seq ?_)
    | (with_reducible refine Sy.regionL ?_)
    | (with_reducible refine Sy.opsnil ?_)
    | (with_reducible refine Sy.go ?_)
    | (with_reducible refine Sy.nrm ?_)
    | ((with_reducible refine Sy.ld0 (t := 23) rfl rfl hbb rfl (by simp only [List.forall_mem_cons, List.not_mem_nil, false_implies, implies_true, and_true, ne_eq]; first | done | omega | (repeat (first | with_reducible assumption | (refine And.intro ?_ ?_)))) (bs_one hse (by omega)) ?_))
    | ((with_reducible apply Sy.assign); exact rfl; exact rfl)
    | ((with_reducible apply Sy.move); exact rfl; exact rfl)
    | ((with_reducible apply Sy.bin (op := .lss) (t := 3)); exact rfl; exact rfl; exact rfl; exact b_lss)
    | ((with_reducible apply Sy.bin (op := .lss) (t := 3)); exact rfl; exact rfl; exact rfl; exact bz_lss)
    | ((with_reducible apply Sy.ia (t := 30)); exact rfl; exact rfl; exact rfl; exact (ia_sl Try.underlying30 sz38 (by omega)))
    | ((with_reducible apply Sy.ia (t := 35)); exact rfl; exact rfl; exact rfl; exact (ia_sl10 Try.underlying35 sz23 (by omega)))
    | ((with_reducible apply Sy.ia (t := 35)); exact rfl; exact rfl; exact rfl; exact (ia_sl1 Try.underlying35 sz23 (by omega)))
    | ((with_reducible apply Sy.ext); exact rfl; exact rfl; exact rfl)
    | ((with_reducible apply Sy.callN (k := 40)); exact rfl; exact rfl; exact en40; exact rfl; (intro H' hp; exact k_GetBatchQ _ l G H' hG (hsr.of hp) h256 (by omega)); rintro ⟨e5, v5, L5⟩ ⟨hk5, hT5, h15, hc5⟩)
    | ((with_reducible apply Sy.newY (o := ⟨some 6, .alloc 78, _, _, _, _⟩)); exact rfl; exact rfl; exact nwz78; intro q6)
    | ((with_reducible apply Sy.newY (o := ⟨some 11, .alloc 38, _, _, _, _⟩)); exact rfl; exact rfl; exact nwz38; intro q11)
    | ((with_reducible apply Sy.newY (o := ⟨some 14, .alloc 78, _, _, _, _⟩)); exact rfl; exact rfl; exact nwz78; intro q14)
    | (with_reducible refine Sy.skip ?_)
    | (with_reducible refine Sy.block ?_)
    | ((with_reducible apply Sy.ite); (case hx => exact rfl); all_goals (intro hc; try (exfalso; omega))))
      dsimp only at hk5 hT5 h15 hc5 ⊢
      repeat' (first
    | (with_reducible refine Sy.seq ?_)
    | (with_reducible refine Sy.regionL ?_)
    | (with_reducible refine Sy.opsnil ?_)
    | (with_reducible refine Sy.go ?_)
    | (with_reducible refine Sy.nrm ?_)
    | ((with_reducible refine Sy.stNa (t := 78) rfl rfl sz78 (by simp) (ba_one h15) (by repeat (first | exact Turn.here | apply Turn.there | apply Turn.app)) (by simp) (lay_all (by simp)) ?_))
    | ((with_reducible refine Sy.ldN (t := 78) rfl rfl (by repeat (first | exact Has.here | apply Has.there | apply Has.app)) ld_ba ?_))
    | ((with_reducible apply Sy.assign); exact rfl; exact rfl)
    | ((with_reducible apply Sy.move); exact rfl; exact rfl)
    | ((with_reducible apply Sy.pickT); exact rfl; exact rfl; exact rfl)
    | ((with_reducible apply Sy.pickF); exact rfl; exact rfl; exact rfl)
    | ((with_reducible apply Sy.ldN (t := 78)); exact rfl; exact rfl; exact hasT; (· first | exact ld_all ag78 (by first | exact sz78 | (simp [sz78, *]; done)) | exact ld_agg ag78 sz78 (by first | (simp; done) | (simp; omega)) (by first | with_reducible exact cut_kids | rfl | (simp [List.drop_append, List.take_append, List.getElem?_append, lay, hC_length, ints_length, ints_drop, ints_take, ints_append, List.drop_of_length_le, List.take_of_length_le, List.map_append, List.set_append, Value.cells]; done))))
    | ((with_reducible apply Sy.bin (op := .add) (t := 3)); exact rfl; exact rfl; exact rfl; exact (b_add (by omega)))
    | ((with_reducible apply Sy.bin (op := .add) (t := 3)); exact rfl; exact rfl; exact rfl; exact (bz_add (by omega) (by omega)))
    | ((with_reducible apply Sy.ldN (t := 38)); exact rfl; exact rfl; exact hasT; (· first | exact ld_all ag38 (by first | exact sz38 | (simp [sz38, *]; done)) | exact ld_agg ag38 sz38 (by first | (simp; done) | (simp; omega)) (by first | with_reducible exact cut_kids | rfl | (simp [List.drop_append, List.take_append, List.getElem?_append, lay, hC_length, ints_length, ints_drop, ints_take, ints_append, List.drop_of_length_le, List.take_of_length_le, List.map_append, List.set_append, Value.cells]; done))))
    | ((with_reducible apply Sy.fa (t := 38) (i := 1)); exact rfl; exact rfl; exact fa38_1 _ _)
    | ((with_reducible apply Sy.ldN (t := 35)); exact rfl; exact rfl; exact hasT; (· first | exact ld_one ag35 rfl))
    | ((with_reducible apply Sy.ldN (t := 23)); exact rfl; exact rfl; exact hasT; (· first | exact ld_one ag23 rfl))
    | ((with_reducible apply Sy.bin (op := .neq) (t := 27)); exact rfl; exact rfl; exact rfl; exact b_neq)
    | ((with_reducible apply Sy.bin (op := .neq) (t := 27)); exact rfl; exact rfl; exact rfl; exact bz_neq)
    | ((with_reducible apply Sy.fa (t := 78) (i := 0)); exact rfl; exact rfl; exact fa78_0 _ _)
    | ((with_reducible apply Sy.ldN (t := 53)); exact rfl; exact rfl; exact hasT; (· first | exact ld_one ag53 rfl))
    | ((with_reducible apply Sy.conv (D := 0) (T := .bool)); exact rfl; exact Try.underlying3; exact Try.underlying53; exact rfl; exact (wrap_u64x (by omega)))
    | ((with_reducible apply Sy.conv (D := 0) (T := .bool)); exact rfl; exact Try.underlying3; exact Try.underlying53; exact rfl; exact wrap_u64 _)
    | ((with_reducible apply Sy.bin (op := .neq) (t := 53)); exact rfl; exact rfl; exact rfl; exact b_neq)
    | ((with_reducible apply Sy.bin (op := .neq) (t := 53)); exact rfl; exact rfl; exact rfl; exact bz_neq)
    | (with_reducible refine Sy.skip ?_)
    | (with_reducible refine Sy.exit ?_)
    | (with_reducible refine Sy.ret ?_)
    | (with_reducible refine Sy.aex ?_)
    | ((with_reducible apply Sy.iex); exact rfl)
    | ((with_reducible apply Sy.iex2); exact rfl)
    | (with_reducible refine Sy.sret ?_)
    | (with_reducible refine Sy.rex ?_)
    | ((with_reducible apply Sy.yes); exact rfl)
    | ((with_reducible apply Sy.goG); exact rfl; exact rfl; exact rfl)
    | ((with_reducible apply Sy.noG); exact rfl; exact rfl; exact rfl; exact rfl; exact rfl)
    | ((with_reducible apply Sy.caseG); (case hj => exact rfl); (case hx => exact rfl); all_goals (intro hc; try (exfalso; omega)))
    | ((with_reducible apply Sy.ite); (case hx => exact rfl); all_goals (intro hc; try (exfalso; omega))))
      · exact Sy.rnrm (k + 1) ⟨by omega, hmiss fun h => hc h.1⟩ (by show bs.length - (k + 1) < bs.length - k; omega) ⟨rfl, rfl, rfl, rfl, rfl, rfl, rfl, rfl, rfl, rfl, rfl, trivial⟩ (fun H1 h => h.less (.cons _ (List.sublist_append_right _ _)))
      · exact Sy.rnrm (k + 1) ⟨by omega, hmiss fun h => hc h.2⟩ (by show bs.length - (k + 1) < bs.length - k; omega) ⟨rfl, rfl, rfl, rfl, rfl, rfl, rfl, rfl, rfl, rfl, rfl, trivial⟩ (fun H1 h => h.less (.cons _ (List.sublist_append_right _ _)))
      · have hSS := hsome _ _ (hhit (by omega) (Decidable.not_not.1 hc))
        subst hSS
        subst hB2
        refine .fin [.agg ⟨baC G.1.1 v5⟩, _, _] (.inr rfl) ⟨⟨_, _, _, rfl, (by repeat (first | exact Has.here | apply Has.there | apply Has.app)), ld_ba⟩, rfl, rfl, trivial⟩ fun H' hp => ⟨(e5, v5, L5), ⟨hk5, hT5, h15, hc5⟩, rfl, hp.less ?_⟩
        exact .cons _ (List.sublist_append_left _ _)
    · obtain rfl : k = bs.length := by omega
      have hSn : S1 = none := by rw [← hSk, List.drop_of_length_le (by simp)]; rfl
      subst hSn
      repeat' (first
    | (with_reducible refine Sy.seq ?_)
    | (with_reducible refine Sy.regionL ?_)
    | (with_reducible refine Sy.opsnil ?_)
    | (with_reducible refine Sy.go ?_)
    | (with_reducible refine Sy.nrm ?_)
    | ((with_reducible apply Sy.move); exact rfl; exact rfl)
    | ((with_reducible apply Sy.bin (op := .lss) (t := 3)); exact rfl; exact rfl; exact rfl; exact b_lss)
    | ((with_reducible apply Sy.bin (op := .lss) (t := 3)); exact rfl; exact rfl; exact rfl; exact bz_lss)
    | ((with_reducible apply Sy.bin (op := .add) (t := 3)); exact rfl; exact rfl; exact rfl; exact (b_add (by omega)))
    | ((with_reducible apply Sy.bin (op := .add) (t := 3)); exact rfl; exact rfl; exact rfl; exact (bz_add (by omega) (by omega)))
    | (with_reducible refine Sy.exit ?_)
    | (with_reducible refine Sy.aex ?_)
    | (with_reducible refine Sy.inrm ?_)
    | ((with_reducible apply Sy.iex); exact rfl)
    | (with_reducible refine Sy.rex ?_)
    | ((with_reducible apply Sy.ite); (case hx => exact rfl); all_goals (intro hc; try (exfalso; omega))))
      exact Sy.rnrm (i + 1) ⟨by omega, hnone rfl⟩ (by show M - (i + 1) < M - i; omega) ⟨rfl, rfl, rfl, rfl, rfl, rfl, rfl, trivial⟩ (fun H1 h => h)
  · obtain rfl : i = M := by omega
    have hSn : S = none := by rw [← hSi, List.drop_of_length_le (by omega)]; rfl
    subst hSn
    subst hB2
    repeat' (first
    | (with_reducible refine Sy.seq ?_)
    | (with_reducible refine Sy.regionL ?_)
    | (with_reducible refine Sy.opsnil ?_)
    | (with_reducible refine Sy.go ?_)
    | (with_reducible refine Sy.nrm ?_)
    | ((with_reducible refine Sy.ldN (t := 78) rfl rfl (by repeat (first | exact Has.here | apply Has.there | apply Has.app)) ld_ba ?_))
    | ((with_reducible refine Sy.stNa (t := 78) rfl rfl sz78 (by simp) rfl (by repeat (first | exact Turn.here | apply Turn.there | apply Turn.app)) (by simp) (lay_all (by simp)) ?_))
    | ((with_reducible apply Sy.assign); exact rfl; exact rfl)
    | ((with_reducible apply Sy.move); exact rfl; exact rfl)
    | ((with_reducible apply Sy.bin (op := .lss) (t := 3)); exact rfl; exact rfl; exact rfl; exact b_lss)
    | ((with_reducible apply Sy.bin (op := .lss) (t := 3)); exact rfl; exact rfl; exact rfl; exact bz_lss)
    | (with_reducible refine Sy.exit ?_)
    | (with_reducible refine Sy.ret ?_)
    | (with_reducible refine Sy.aex ?_)
    | ((with_reducible apply Sy.iex); exact rfl)
    | (with_reducible refine Sy.sret ?_)
    | (with_reducible refine Sy.rex ?_)
    | ((with_reducible apply Sy.ite); (case hx => exact rfl); all_goals (intro hc; try (exfalso; omega))))
    exact .fin [.agg ⟨baC 0 (.slice none 0 0)⟩, _, _] (.inr rfl) ⟨⟨_, _, _, rfl, (by repeat (first | exact Has.here | apply Has.there | apply Has.app)), ld_ba⟩, rfl, rfl, trivial⟩ fun H' hp => ⟨([], .slice none 0 0, []), ⟨rfl, ⟨⟨none, 0, rfl, .inl rfl⟩, by simp⟩, rfl, rfl⟩, rfl, hp.less (List.nil_sublist _)⟩
end Go.Proofs.Ytcaafoibabijgaa
