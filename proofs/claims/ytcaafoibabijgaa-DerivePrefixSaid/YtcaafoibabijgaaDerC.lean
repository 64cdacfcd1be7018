/- Inputs, all inputs, the same inputs, small blocks, what must come. -/
import Derived.Test.YtcaafoibabijgaaDerB
import Derived.Test.YtcaafoibabijgaaDerA
import Derived.Test.YtcaafoibabijgaaBatC
set_option linter.unusedSimpArgs false
set_option linter.unusedVariables false
/- Layer 14: the inputs of a number. -/
namespace Go.Proofs.Ytcaafoibabijgaa
open Go Go.Am
set_option maxRecDepth 100000
set_option linter.unusedVariables false

theorem k_Clone' (v : Value) (l : List Nat) (H : AHeap) (hv : SlR H 1 v l.length (ints .u8 l)) (hl : l.length ≤ 140737488355328) :
    CallR Try.prog noPrims 27 [v] H (fun u H' => ∃ i : Nat × Option Addr × Nat, Vw i.1 l (.slice i.2.1 l.length i.2.2) l ∧ u = .slice i.2.1 l.length i.2.2 ∧ Hp H 0 0 H' [] (bufM l i.1)) :=
  (k_Clone v l H hv hl).mono fun u H' ⟨i, h1, h2, h3⟩ => by
    obtain ⟨a, c, e⟩ := h1.slice
    exact ⟨(i.1, a, c), by rw [← e]; exact h1, by rw [← e]; exact h2, h3⟩
theorem setM8 {m : Msg} {v0 v : Value} : (msgC m v0).set (0 + 8) v = msgC m v := by
  obtain ⟨n, s, t, w, g, d⟩ := m
  obtain ⟨x, y, z, u, e⟩ := wC_nil (w := w)
  simp only [msgC, e]
  rfl
theorem fill_i3 {m : Msg} {v1 : Value} : fillL (plc [(0, 1), (1, 4), (5, 9), (14, 10)]) (inC zeroI (.slice none 0 0) (.slice none 0 0)) [(0, .bool true), (1, wV m.w), (2, msgV m v1)] = some (inC (depI m) v1 (.slice none zeroT.d.length 0)) := by
  have e1 : (Value.bool true).cells.toList = [.bool true] := rfl
  have e2 : (wV m.w).cells.toList = wC m.w := rfl
  have e3 : (msgV m v1).cells.toList = msgC m v1 := rfl
  have s0 : lay (inC zeroI (.slice none 0 0) (.slice none 0 0)) 0 [.bool true] = inC ⟨true, zeroW, zeroM, zeroT⟩ (.slice none 0 0) (.slice none 0 0) := rfl
  have s1 : lay (inC ⟨true, zeroW, zeroM, zeroT⟩ (.slice none 0 0) (.slice none 0 0)) 1 (wC m.w) = inC ⟨true, m.w, zeroM, zeroT⟩ (.slice none 0 0) (.slice none 0 0) := setIw
  have s2 : lay (inC ⟨true, m.w, zeroM, zeroT⟩ (.slice none 0 0) (.slice none 0 0)) 5 (msgC m v1) = inC ⟨true, m.w, m, zeroT⟩ v1 (.slice none 0 0) := setIm
  have p0 : plc [(0, 1), (1, 4), (5, 9), (14, 10)] 0 = some (0, 1) := rfl
  have p1 : plc [(0, 1), (1, 4), (5, 9), (14, 10)] 1 = some (1, 4) := rfl
  have p2 : plc [(0, 1), (1, 4), (5, 9), (14, 10)] 2 = some (5, 9) := rfl
  rw [fillL, p0]
  dsimp only
  rw [if_pos ⟨by rw [e1]; rfl, by rw [e1]; simp⟩, e1, s0, fillL, p1]
  dsimp only
  rw [if_pos ⟨by rw [e2]; simp, by rw [e2]; simp⟩, e2, s1, fillL, p2]
  dsimp only
  rw [if_pos ⟨by rw [e3]; simp, by rw [e3]; simp⟩, e3, s2, fillL]
  rfl
theorem fill_i5 {t : Txn} {v2 : Value} : fillL (plc [(0, 1), (1, 4), (5, 9), (14, 10)]) (inC zeroI (.slice none 0 0) (.slice none 0 0)) [(3, txV t v2)] = some (inC (txI t) (.slice none zeroM.d.length 0) v2) := by
  have e4 : (txV t v2).cells.toList = txC t v2 := rfl
  have s3 : lay (inC zeroI (.slice none 0 0) (.slice none 0 0)) 14 (txC t v2) = inC ⟨false, zeroW, zeroM, t⟩ (.slice none 0 0) v2 := setIt
  have p3 : plc [(0, 1), (1, 4), (5, 9), (14, 10)] 3 = some (14, 10) := rfl
  rw [fillL, p3]
  dsimp only
  rw [if_pos ⟨by rw [e4]; simp, by rw [e4]; simp⟩, e4, s3, fillL]
  rfl
theorem bvI3 {m : Msg} {v1 : Value} : buildV Try.prog 61 [(0, .bool true), (1, wV m.w), (2, msgV m v1)] = some (inV (depI m) v1 (.slice none zeroT.d.length 0)) := bv61 fill_i3
theorem bvI5 {t : Txn} {v2 : Value} : buildV Try.prog 61 [(3, txV t v2)] = some (inV (txI t) (.slice none zeroM.d.length 0) v2) := bv61 fill_i5
theorem ms_all2 {es : List Mel} {i o T t : Nat} {m : Msg} {v : Value} {w : Bool} (hag : aggT Try.prog t = true) (hsz : szT Try.prog t = some 9) (e : es[i]? = some (m, v)) (ho : o = i * 9) : aLoad Try.prog t (.cells (msC es) T w) o = some (msgV m v) := ms_all hag hsz e ho
theorem ts_all2 {es : List Tel} {i o T t : Nat} {m : Txn} {v : Value} {w : Bool} (hag : aggT Try.prog t = true) (hsz : szT Try.prog t = some 10) (e : es[i]? = some (m, v)) (ho : o = i * 10) : aLoad Try.prog t (.cells (tsC es) T w) o = some (txV m v) := ts_all hag hsz e ho
theorem ks_mv {es : List Kel} {i o T : Nat} {x : Kel} {w : Bool} (e : es[i]? = some x) (ho : o = i * 2) : aLoad Try.prog 36 (.cells (ksC es) T w) o = some x.mv := ld_one ag36 (by rw [ho]; exact ks_get (j := 0) e (by omega))
open MsgN in
set_option maxHeartbeats 4000000 in
theorem k_Inputs (xs : List Kel) (n w : Int) (v : Value) (I : List Inp × Nat) (H : AHeap) (hI : inputsD (xs.map Kel.p) n w = I) (h : KsQ (knH H) 57 38 v xs) (hx : xs.length ≤ 1000) (hb : ∀ x ∈ xs, x.bs.length ≤ 1000 ∧ x.ms.length ≤ 1000) :
    CallR Try.prog noPrims 10 [v, .int .i64 n, .int .i64 w] H (fun u H' => ∃ i : List Iel × Nat × Hm, (isOf i.1 = I.1 ∧ ∀ e ∈ i.1, IelQ (knL i.2.2) e) ∧ u = .tuple ⟨[accV 24 (isC i.1) i.1.length i.2.1, .int .i64 ((I.2 : Nat) : Int)]⟩ ∧ Hp H 0 0 H' [] (accM 61 (isC i.1) i.1.length i.2.1 ++ i.2.2)) := by
  obtain ⟨R, hR⟩ : ∃ R, rightD w = R := ⟨_, rfl⟩
  have hlen : (xs.map Kel.p).length = xs.length := by simp
  obtain ⟨K, hK⟩ : ∃ K, knownD (xs.length : Int) w = K := ⟨_, rfl⟩
  unfold inputsD at hI
  rw [hR, hlen, hK] at hI
  have hh := h
  obtain ⟨⟨a1, c1, rfl, h1⟩, hss⟩ := h
  cases R with
  | false =>
    rw [if_pos rfl] at hI
    subst hI
    refine CallR.sy (n := 76) Try.func10 rfl rfl rfl ?_
    repeat' (first
    | (with_reducible refine Sy.seq ?_)
    | (with_reducible refine Sy.regionL ?_)
    | (with_reducible refine Sy.opsnil ?_)
    | (with_reducible refine Sy.go ?_)
    | (with_reducible refine Sy.nrm ?_)
    | ((with_reducible apply Sy.assign); exact rfl; exact rfl)
    | ((with_reducible apply Sy.move); exact rfl; exact rfl)
    | ((with_reducible apply Sy.un (op := .not)); exact rfl; exact rfl; exact un_notT)
    | ((with_reducible apply Sy.un (op := .not)); exact rfl; exact rfl; exact un_notF)
    | ((with_reducible apply Sy.un (op := .not)); exact rfl; exact rfl; exact un_notD)
    | ((with_reducible apply Sy.un (op := .not)); exact rfl; exact rfl; exact un_not)
    | ((with_reducible apply Sy.call0 (k := 26)); exact rfl; exact rfl; exact en26; exact rfl; (intro H' hp; exact c_dright' _ false H' hR))
    | (with_reducible refine Sy.ret ?_)
    | (with_reducible refine Sy.block ?_)
    | (with_reducible refine Sy.aret ?_)
    | (with_reducible refine Sy.iret ?_)
    | ((with_reducible apply Sy.yes); exact rfl))
    exact .fin [_, _] (.inr rfl) ⟨rfl, rfl, trivial⟩ fun H' hp => ⟨([], 0, []), ⟨rfl, by simp⟩, rfl, hp⟩
  | true =>
    rw [if_neg (by simp)] at hI
    by_cases hb0 : n < 1 ∨ K < n
    · rw [if_pos hb0] at hI
      subst hI
      refine CallR.sy (n := 76) Try.func10 rfl rfl rfl ?_
      repeat' (first
    | (with_reducible refine Sy.seq ?_)
    | (with_reducible refine Sy.regionL ?_)
    | (with_reducible refine Sy.opsnil ?_)
    | (with_reducible refine Sy.go ?_)
    | (with_reducible refine Sy.nrm ?_)
    | ((with_reducible apply Sy.assign); exact rfl; exact rfl)
    | ((with_reducible apply Sy.move); exact rfl; exact rfl)
    | ((with_reducible apply Sy.un (op := .not)); exact rfl; exact rfl; exact un_notT)
    | ((with_reducible apply Sy.un (op := .not)); exact rfl; exact rfl; exact un_notF)
    | ((with_reducible apply Sy.un (op := .not)); exact rfl; exact rfl; exact un_notD)
    | ((with_reducible apply Sy.un (op := .not)); exact rfl; exact rfl; exact un_not)
    | ((with_reducible apply Sy.bin (op := .lss) (t := 3)); exact rfl; exact rfl; exact rfl; exact b_lss)
    | ((with_reducible apply Sy.bin (op := .lss) (t := 3)); exact rfl; exact rfl; exact rfl; exact bz_lss)
    | ((with_reducible apply Sy.lenS); exact rfl; exact Try.underlying30; exact rfl)
    | ((with_reducible apply Sy.bin (op := .gtr) (t := 3)); exact rfl; exact rfl; exact rfl; exact b_gtr)
    | ((with_reducible apply Sy.bin (op := .gtr) (t := 3)); exact rfl; exact rfl; exact rfl; exact bz_gtr)
    | ((with_reducible apply Sy.pickT); exact rfl; exact rfl; exact rfl)
    | ((with_reducible apply Sy.pickF); exact rfl; exact rfl; exact rfl)
    | ((with_reducible apply Sy.lenS); exact rfl; exact Try.underlying36; exact rfl)
    | ((with_reducible apply Sy.lenS); exact rfl; exact Try.underlying76; exact rfl)
    | ((with_reducible apply Sy.call0 (k := 26)); exact rfl; exact rfl; exact en26; exact rfl; (intro H' hp; exact c_dright' _ true H' hR))
    | ((with_reducible apply Sy.call0 (k := 17)); exact rfl; exact rfl; exact en17; exact rfl; (intro H' hp; exact c_Known _ _ K H' hK (by omega)))
    | (with_reducible refine Sy.ret ?_)
    | (with_reducible refine Sy.block ?_)
    | (with_reducible refine Sy.aret ?_)
    | (with_reducible refine Sy.iret ?_)
    | ((with_reducible apply Sy.yes); exact rfl)
    | ((with_reducible apply Sy.no); exact rfl)
    | ((with_reducible apply Sy.goG); exact rfl; exact rfl; exact rfl)
    | ((with_reducible apply Sy.noG); exact rfl; exact rfl; exact rfl; exact rfl; exact rfl)
    | ((with_reducible apply Sy.caseG); (case hj => exact rfl); (case hx => exact rfl); all_goals (intro hc; try (exfalso; omega)))
    | ((with_reducible apply Sy.ite); (case hx => exact rfl); all_goals (intro hc; try (exfalso; omega))))
      all_goals exact .fin [_, _] (.inr rfl) ⟨rfl, rfl, trivial⟩ fun H' hp => ⟨([], 0, []), ⟨rfl, by simp⟩, rfl, hp.less (List.nil_sublist _)⟩
    · rw [if_neg hb0] at hI
      obtain ⟨hw1, hw2⟩ := rightD_le hR
      have hK2 := knownD_le (h := (xs.length : Int)) hR (by omega)
      obtain ⟨n, rfl⟩ : ∃ n' : Nat, n = (n' : Int) := ⟨n.toNat, by omega⟩
      obtain ⟨w, rfl⟩ : ∃ w' : Nat, w = (w' : Int) := ⟨w.toNat, by omega⟩
      obtain ⟨b1, w1, rfl, hb1⟩ : ∃ b w, a1 = some ⟨b, 0, none⟩ ∧ knH H b (ksC xs) 38 w := h1.resolve_left (by omega)
      have hnl : n - 1 < xs.length := by omega
      obtain ⟨x, hxe⟩ : ∃ x, xs[n - 1]? = some x := ⟨xs[n - 1], List.getElem?_eq_getElem hnl⟩
      have hxm := List.mem_of_getElem? hxe
      have hxs := (hb x hxm).2
      obtain ⟨⟨⟨am, cm, hmv, hm1⟩, hms⟩, -⟩ := hss x hxm
      obtain ⟨ms, mv, bs, bv⟩ := x
      dsimp only at hmv hm1 hms hxs
      subst hmv
      obtain ⟨B, hB⟩ : ∃ B, batchD (xs.map Kel.p) (n : Int) (w : Int) = B := ⟨_, rfl⟩
      have hI2 : I = (ms.map (fun e => depI e.1) ++ B.1.2.map txI, 0) := by
        rw [← hI, hB, Int.toNat_natCast]
        have : (xs.map Kel.p).getD (n - 1) ⟨[], []⟩ = Kel.p ⟨ms, .slice am ms.length cm, bs, bv⟩ := by rw [List.getD_eq_getElem?_getD, List.getElem?_map, hxe]; rfl
        rw [this]
        simp [Kel.p]
      have hKn : (n : Int) ≤ K := by omega
      have hn1 : 1 ≤ n := by omega
      have hxB : ∀ x ∈ xs, x.bs.length ≤ 1000 := fun x hx => (hb x hx).1
      subst hI2
      clear hI hb0
      refine CallR.sy (n := 76) Try.func10 rfl rfl rfl ?_
      repeat' (first
    | (with_reducible refine Sy.seq ?_)
    | (with_reducible refine Sy.regionL ?_)
    | (with_reducible refine Sy.opsnil ?_)
    | (with_reducible refine Sy.go ?_)
    | (with_reducible refine Sy.nrm ?_)
    | ((with_reducible refine Sy.ld0 (t := 36) rfl rfl hb1 rfl (by simp only [List.forall_mem_cons, List.not_mem_nil, false_implies, implies_true, and_true, ne_eq]; first | done | omega | (repeat (first | with_reducible assumption | (refine And.intro ?_ ?_)))) (ks_mv hxe (by omega)) ?_))
    | ((with_reducible apply Sy.assign); exact rfl; exact rfl)
    | ((with_reducible apply Sy.move); exact rfl; exact rfl)
    | ((with_reducible apply Sy.un (op := .not)); exact rfl; exact rfl; exact un_notT)
    | ((with_reducible apply Sy.un (op := .not)); exact rfl; exact rfl; exact un_notF)
    | ((with_reducible apply Sy.un (op := .not)); exact rfl; exact rfl; exact un_notD)
    | ((with_reducible apply Sy.un (op := .not)); exact rfl; exact rfl; exact un_not)
    | ((with_reducible apply Sy.bin (op := .lss) (t := 3)); exact rfl; exact rfl; exact rfl; exact b_lss)
    | ((with_reducible apply Sy.bin (op := .lss) (t := 3)); exact rfl; exact rfl; exact rfl; exact bz_lss)
    | ((with_reducible apply Sy.lenS); exact rfl; exact Try.underlying30; exact rfl)
    | ((with_reducible apply Sy.bin (op := .gtr) (t := 3)); exact rfl; exact rfl; exact rfl; exact b_gtr)
    | ((with_reducible apply Sy.bin (op := .gtr) (t := 3)); exact rfl; exact rfl; exact rfl; exact bz_gtr)
    | ((with_reducible apply Sy.pickF); exact rfl; exact rfl; exact rfl)
    | ((with_reducible apply Sy.bin (op := .sub) (t := 3)); exact rfl; exact rfl; exact rfl; exact (b_sub (by omega) (by omega)))
    | ((with_reducible apply Sy.bin (op := .sub) (t := 3)); exact rfl; exact rfl; exact rfl; exact (bz_sub (by omega) (by omega)))
    | ((with_reducible apply Sy.ia (t := 30)); exact rfl; exact rfl; exact rfl; exact (ia_sl Try.underlying30 sz38 (by omega)))
    | ((with_reducible apply Sy.fa (t := 38) (i := 0)); exact rfl; exact rfl; exact fa38_0 _ _)
    | ((with_reducible apply Sy.lenS); exact rfl; exact Try.underlying36; exact rfl)
    | ((with_reducible apply Sy.ia (t := 36)); exact rfl; exact rfl; exact rfl; exact (ia_sl Try.underlying36 sz57 (by omega)))
    | ((with_reducible apply Sy.fa (t := 57) (i := 5)); exact rfl; exact rfl; exact fa57_5 _ _)
    | ((with_reducible apply Sy.fa (t := 57) (i := 3)); exact rfl; exact rfl; exact fa57_3 _ _)
    | ((with_reducible apply Sy.fa (t := 78) (i := 1)); exact rfl; exact rfl; exact fa78_1 _ _)
    | ((with_reducible apply Sy.lenS); exact rfl; exact Try.underlying76; exact rfl)
    | ((with_reducible apply Sy.ia (t := 76)); exact rfl; exact rfl; exact rfl; exact (ia_sl Try.underlying76 sz59 (by omega)))
    | ((with_reducible apply Sy.call0 (k := 26)); exact rfl; exact rfl; exact en26; exact rfl; (intro H' hp; exact c_dright' _ true H' hR))
    | ((with_reducible apply Sy.call0 (k := 17)); exact rfl; exact rfl; exact en17; exact rfl; (intro H' hp; exact c_Known _ _ K H' hK (by omega)))
    | (with_reducible refine Sy.skip ?_)
    | (with_reducible refine Sy.block ?_)
    | (with_reducible refine Sy.inrm ?_)
    | ((with_reducible apply Sy.no); exact rfl)
    | ((with_reducible apply Sy.goG); exact rfl; exact rfl; exact rfl)
    | ((with_reducible apply Sy.caseG); (case hj => exact rfl); (case hx => exact rfl); all_goals (intro hc; try (exfalso; omega)))
    | ((with_reducible apply Sy.ite); (case hx => exact rfl); all_goals (intro hc; try (exfalso; omega))))
      refine Sy.loop (ι := Nat × List Iel × Nat × Hm) (fun i => ms.length - i.1) (fun i => [(0, .slice (some ⟨b1, 0, none⟩) xs.length c1), (1, .int .i64 ((n : Nat) : Int)), (2, .int .i64 ((w : Nat) : Int)), (8, accV 24 (isC i.2.1) i.2.1.length i.2.2.1), (36, .slice am ms.length cm), (37, .int .i64 ((ms.length : Nat) : Int)), (38, .int .i64 (i.1 : Nat))]) (fun _ => []) (fun i => accM 61 (isC i.2.1) i.2.1.length i.2.2.1 ++ i.2.2.2) (fun i => i.1 ≤ ms.length ∧ isOf i.2.1 = (ms.map fun e => depI e.1).take i.1 ∧ ∀ e ∈ i.2.1, IelQ (knL i.2.2.2) e) (0, [], 0, []) ⟨Nat.zero_le _, rfl, by simp⟩ ⟨rfl, rfl, rfl, rfl, rfl, rfl, rfl, trivial⟩ (fun H h => h) ?_
      rintro ⟨i, out, bo, L⟩ ⟨hi, hk, hL⟩
      dsimp only at hi hk hL ⊢
      have hol : out.length = i := by have := congrArg List.length hk; simp at this; omega
      by_cases hlt : i < ms.length
      · obtain ⟨⟨m, sv⟩, hse⟩ : ∃ y, ms[i]? = some y := ⟨ms[i], List.getElem?_eq_getElem hlt⟩
        obtain ⟨hmo, hsv, hml⟩ := hms _ (List.mem_of_getElem? hse)
        obtain ⟨bm, wm, rfl, hbm⟩ := hm1.resolve_left (by omega)
        dsimp only at hmo hsv hml
        have hkx : (ms.map fun e => depI e.1)[i]? = some (depI m) := by rw [List.getElem?_map, hse]; rfl
        have hsr := hsv.slr (H := H) (fun _ _ _ _ h => h)
        obtain ⟨sa, sc, rfl⟩ := slr_form hsr
        have hmd := msgC_d m (.slice sa m.d.length sc)
        clear hh hss hms hb hxB hB hxm hxe h1 hm1
        repeat' (first
    | (with_reducible refine Sy.seq ?_)
    | (with_reducible refine Sy.regionL ?_)
    | (with_reducible refine Sy.opsnil ?_)
    | (with_reducible refine Sy.go ?_)
    | (with_reducible refine Sy.nrm ?_)
    | ((with_reducible refine Sy.ld0 (t := 57) rfl rfl hbm rfl (by simp only [List.forall_mem_cons, List.not_mem_nil, false_implies, implies_true, and_true, ne_eq]; first | done | omega | (repeat (first | with_reducible assumption | (refine And.intro ?_ ?_)))) (ms_all2 ag57 sz57 hse (by omega)) ?_))
    | ((with_reducible apply Sy.stN1 (t := 23)); exact rfl; exact rfl; exact sz23; exact rfl; exact rfl; exact turnT; (· simp); exact setM8)
    | ((with_reducible refine Sy.ldN (t := 57) rfl rfl (by repeat (first | exact Has.here | apply Has.there | apply Has.app)) ld_mall ?_))
    | ((with_reducible refine Sy.build (t := 61) rfl rfl bvI3 ?_))
    | ((with_reducible apply Sy.appB (t := 26) (xt := 26)); exact (ap26_26 zr61 rfl); exact rfl; exact rfl; exact rfl; exact SrcY.row hasT (inC_length _ _ _); exact inC_oneS _ _ _ _ _ _ _; (· rw [inC_length]); (· omega); exact pullT; exact isC_length _; exact isC_snoc out ⟨depI m, _, _⟩; intro q52)
    | ((with_reducible apply Sy.assign); exact rfl; exact rfl)
    | ((with_reducible apply Sy.move); exact rfl; exact rfl)
    | ((with_reducible apply Sy.bin (op := .lss) (t := 3)); exact rfl; exact rfl; exact rfl; exact b_lss)
    | ((with_reducible apply Sy.bin (op := .lss) (t := 3)); exact rfl; exact rfl; exact rfl; exact bz_lss)
    | ((with_reducible apply Sy.ia (t := 30)); exact rfl; exact rfl; exact rfl; exact (ia_sl Try.underlying30 sz38 (by omega)))
    | ((with_reducible apply Sy.fa (t := 38) (i := 0)); exact rfl; exact rfl; exact fa38_0 _ _)
    | ((with_reducible apply Sy.ldN (t := 36)); exact rfl; exact rfl; exact hasT; (· first | exact ld_one ag36 (by with_reducible assumption)))
    | ((with_reducible apply Sy.ia (t := 36)); exact rfl; exact rfl; exact rfl; exact (ia_sl Try.underlying36 sz57 (by omega)))
    | ((with_reducible apply Sy.ldN (t := 57)); exact rfl; exact rfl; exact hasT; (· first | exact ld_agg ag57 sz57 (by first | (simp; done)) (by first | with_reducible exact cut_kids)))
    | ((with_reducible apply Sy.stNa (t := 57)); exact rfl; exact rfl; exact sz57; (· first | (simp; done)); (· first | (simp [oneL_append, oneL_cons, oneL_nil, hC_one, oneL_ints]; done)); exact turnT; (· first | (simp; done)); (· first | exact lay_all (by first | (simp; done))))
    | ((with_reducible apply Sy.fa (t := 57) (i := 5)); exact rfl; exact rfl; exact fa57_5 _ _)
    | ((with_reducible apply Sy.ldN (t := 23)); exact rfl; exact rfl; exact hasT; (· first | exact ld_one ag23 (by with_reducible assumption)))
    | ((with_reducible apply Sy.fa (t := 57) (i := 3)); exact rfl; exact rfl; exact fa57_3 _ _)
    | ((with_reducible apply Sy.ldN (t := 55)); exact rfl; exact rfl; exact hasT; (· first | exact ld_agg ag55 sz55 (by first | (simp; done)) (by first | with_reducible exact cut_kids)))
    | ((with_reducible apply Sy.bin (op := .add) (t := 3)); exact rfl; exact rfl; exact rfl; exact (b_add (by omega)))
    | ((with_reducible apply Sy.bin (op := .add) (t := 3)); exact rfl; exact rfl; exact rfl; exact (bz_add (by omega) (by omega)))
    | ((with_reducible apply Sy.stNa (t := 78)); exact rfl; exact rfl; exact sz78; (· first | (simp; done)); (· first | (simp [oneL_append, oneL_cons, oneL_nil, hC_one, oneL_ints]; done)); exact turnT; (· first | (simp; done)); (· first | exact lay_all (by first | (simp; done))))
    | ((with_reducible apply Sy.fa (t := 78) (i := 1)); exact rfl; exact rfl; exact fa78_1 _ _)
    | ((with_reducible apply Sy.ldN (t := 76)); exact rfl; exact rfl; exact hasT; (· first | exact ld_one ag76 (by with_reducible assumption)))
    | ((with_reducible apply Sy.ia (t := 76)); exact rfl; exact rfl; exact rfl; exact (ia_sl Try.underlying76 sz59 (by omega)))
    | ((with_reducible apply Sy.ldN (t := 59)); exact rfl; exact rfl; exact hasT; (· first | exact ld_agg ag59 sz59 (by first | (simp; done)) (by first | with_reducible exact cut_kids)))
    | ((with_reducible apply Sy.stNa (t := 59)); exact rfl; exact rfl; exact sz59; (· first | (simp; done)); (· first | (simp [oneL_append, oneL_cons, oneL_nil, hC_one, oneL_ints]; done)); exact turnT; (· first | (simp; done)); (· first | exact lay_all (by first | (simp; done))))
    | ((with_reducible apply Sy.callN (k := 27)); exact rfl; exact rfl; exact en27; exact rfl; (intro H' hp; exact k_Clone' _ m.d H' (hsr.of hp) (by omega)); rintro ⟨cq, aq, kq⟩ hv')
    | ((with_reducible apply Sy.newY (o := ⟨some 10, .alloc 57, _, _, _, _⟩)); exact rfl; exact rfl; exact nwz57; intro q10)
    | ((with_reducible apply Sy.newY (o := ⟨some 51, .buildSlice 26 _ _, _, _, _, _⟩)); exact rfl; exact rfl; (· exact (nba1 Try.underlying26 sz61 zr61 rfl (by decide) rfl (by first | (simp; done)))); intro q51)
    | ((with_reducible apply Sy.newY (o := ⟨some 51, .buildSlice 26 _ _, _, _, _, _⟩)); exact rfl; exact rfl; (· exact (newY_bs Try.underlying26 sz61 zr61 rfl (by decide) rfl (by first | rfl | (simp [List.drop_append, List.take_append, List.getElem?_append, lay, hC_length, ints_length, ints_drop, ints_take, ints_append, List.drop_of_length_le, List.take_of_length_le, List.map_append, List.set_append, Value.cells]; done)))); intro q51)
    | ((with_reducible apply Sy.newY (o := ⟨some 11, .alloc 78, _, _, _, _⟩)); exact rfl; exact rfl; exact nwz78; intro q11)
    | ((with_reducible apply Sy.newY (o := ⟨some 15, .alloc 59, _, _, _, _⟩)); exact rfl; exact rfl; exact nwz59; intro q15)
    | ((with_reducible apply Sy.newY (o := ⟨some 72, .buildSlice 26 _ _, _, _, _, _⟩)); exact rfl; exact rfl; (· exact (nba1 Try.underlying26 sz61 zr61 rfl (by decide) rfl (by first | (simp; done)))); intro q72)
    | ((with_reducible apply Sy.newY (o := ⟨some 72, .buildSlice 26 _ _, _, _, _, _⟩)); exact rfl; exact rfl; (· exact (newY_bs Try.underlying26 sz61 zr61 rfl (by decide) rfl (by first | rfl | (simp [List.drop_append, List.take_append, List.getElem?_append, lay, hC_length, ints_length, ints_drop, ints_take, ints_append, List.drop_of_length_le, List.take_of_length_le, List.map_append, List.set_append, Value.cells]; done)))); intro q72)
    | (with_reducible refine Sy.skip ?_)
    | (with_reducible refine Sy.block ?_)
    | (with_reducible refine Sy.inrm ?_)
    | ((with_reducible apply Sy.ite); (case hx => exact rfl); all_goals (intro hc; try (exfalso; omega))))
        dsimp only at hv' ⊢
        have e1 : ∀ s : Iel, (out ++ [s]).length = out.length + 1 := fun s => by simp
        refine Sy.rnrm (i + 1, out ++ [⟨depI m, .slice aq m.d.length kq, .slice none zeroT.d.length 0⟩], q52, bufM m.d cq ++ L) ⟨by omega, ?_, fun e he => ?_⟩ (by dsimp only; omega) ⟨rfl, rfl, rfl, by rw [e1]; rfl, rfl, rfl, rfl, trivial⟩ (fun H1 h => ?_)
        · dsimp only
          rw [isOf, List.map_append, List.take_add_one, hkx]
          rw [isOf] at hk
          rw [hk]; rfl
        · rcases List.mem_append.1 he with he | he
          · exact (hL e he).mono kn_app
          · rw [List.mem_singleton] at he; subst he
            exact ⟨⟨hmo, zeroT_ok⟩, (SlQ.vw (T := 5) (w := true) hv' fun x => bufM_has' x).mono kn_front, SlQ.nil, hml, by simp [depI, zeroT]⟩
        · dsimp only
          rw [e1]
          exact h.less (List.Sublist.append_left (.cons _ (List.Sublist.append_left (.cons _ (.refl _)) _)) _)
      · obtain rfl : i = ms.length := by omega
        have hk2 : isOf out = ms.map fun e => depI e.1 := by rw [hk]; exact List.take_of_length_le (by simp)
        clear hk hlt hi
        repeat' (first
    | (with_reducible refine Sy.seq ?_)
    | (with_reducible refine Sy.regionL ?_)
    | (with_reducible refine Sy.opsnil ?_)
    | (with_reducible refine Sy.go ?_)
    | (with_reducible refine Sy.nrm ?_)
    | ((with_reducible apply Sy.move); exact rfl; exact rfl)
    | ((with_reducible apply Sy.bin (op := .lss) (t := 3)); exact rfl; exact rfl; exact rfl; exact b_lss)
    | ((with_reducible apply Sy.bin (op := .lss) (t := 3)); exact rfl; exact rfl; exact rfl; exact bz_lss)
    | ((with_reducible apply Sy.ext); exact rfl; exact rfl; exact rfl)
    | ((with_reducible apply Sy.callN (k := 28)); exact rfl; exact rfl; exact en28; exact rfl; (intro H' hp; exact k_batch xs n w _ B H' hB (hh.mono (kn_of hp)) ⟨hn1, by omega⟩ ⟨by omega, by omega⟩ hx hxB); rintro ⟨e5, v5, L5⟩ ⟨hk5, hT5, h15, hc5⟩)
    | ((with_reducible apply Sy.newY (o := ⟨some 10, .alloc 57, _, _, _, _⟩)); exact rfl; exact rfl; exact nwz57; intro q10)
    | ((with_reducible apply Sy.newY (o := ⟨some 11, .alloc 78, _, _, _, _⟩)); exact rfl; exact rfl; exact nwz78; intro q11)
    | ((with_reducible apply Sy.newY (o := ⟨some 15, .alloc 59, _, _, _, _⟩)); exact rfl; exact rfl; exact nwz59; intro q15)
    | (with_reducible refine Sy.exit ?_)
    | (with_reducible refine Sy.aex ?_)
    | ((with_reducible apply Sy.iex); exact rfl)
    | (with_reducible refine Sy.rex ?_)
    | ((with_reducible apply Sy.ite); (case hx => exact rfl); all_goals (intro hc; try (exfalso; omega))))
        dsimp only at hk5 hT5 h15 hc5 ⊢
        obtain ⟨⟨a5, k5, rfl, hr5⟩, ht5⟩ := hT5
        have h58 : e5.length ≤ 8 := by
          have := congrArg List.length hk5
          rw [List.length_map] at this
          rw [this, ← hB]
          exact batchD_8 _ _ _ (fun b hb => by
            obtain ⟨x, hx, rfl⟩ := List.mem_map.1 hb
            exact Kel.ok (hh.2 x hx))
        repeat' (first
    | (with_reducible refine Sy.seq ?_)
    | (with_reducible refine Sy.regionL ?_)
    | (with_reducible refine Sy.opsnil ?_)
    | (with_reducible refine Sy.go ?_)
    | (with_reducible refine Sy.nrm ?_)
    | ((with_reducible refine Sy.stNa (t := 78) rfl rfl sz78 (by simp) (ba_one rfl) (by repeat (first | exact Turn.here | apply Turn.there | apply Turn.app)) (by simp) (lay_all (by simp)) ?_))
    | ((with_reducible refine Sy.ldN (t := 76) rfl rfl (by repeat (first | exact Has.here | apply Has.there | apply Has.app)) ld_bts ?_))
    | ((with_reducible apply Sy.assign); exact rfl; exact rfl)
    | ((with_reducible apply Sy.move); exact rfl; exact rfl)
    | ((with_reducible apply Sy.lenS); exact rfl; exact Try.underlying30; exact rfl)
    | ((with_reducible apply Sy.fa (t := 38) (i := 0)); exact rfl; exact rfl; exact fa38_0 _ _)
    | ((with_reducible apply Sy.lenS); exact rfl; exact Try.underlying36; exact rfl)
    | ((with_reducible apply Sy.fa (t := 57) (i := 5)); exact rfl; exact rfl; exact fa57_5 _ _)
    | ((with_reducible apply Sy.fa (t := 57) (i := 3)); exact rfl; exact rfl; exact fa57_3 _ _)
    | ((with_reducible apply Sy.fa (t := 78) (i := 1)); exact rfl; exact rfl; exact fa78_1 _ _)
    | ((with_reducible apply Sy.lenS); exact rfl; exact Try.underlying76; exact rfl)
    | (with_reducible refine Sy.block ?_))
        refine Sy.loop (ι := Nat × List Iel × Nat × Hm) (fun i => e5.length - i.1) (fun i => [(8, accV 24 (isC i.2.1) i.2.1.length i.2.2.1), (63, .slice a5 e5.length k5), (64, .int .i64 ((e5.length : Nat) : Int)), (65, .int .i64 (i.1 : Nat))]) (fun _ => []) (fun i => accM 61 (isC i.2.1) i.2.1.length i.2.2.1 ++ (i.2.2.2 ++ L5)) (fun i => i.1 ≤ e5.length ∧ isOf i.2.1 = (ms.map fun e => depI e.1) ++ (e5.map fun e => txI e.1).take i.1 ∧ ∀ e ∈ i.2.1, IelQ (knL (i.2.2.2 ++ L5)) e) (0, out, bo, L) ⟨Nat.zero_le _, by simp [hk2], fun e he => (hL e he).mono kn_front⟩ ⟨rfl, rfl, rfl, rfl, trivial⟩ (fun H h => by
          dsimp only
          rw [← List.append_assoc]
          exact (h.less (.cons _ (.refl _))).perm List.perm_append_comm) ?_
        rintro ⟨i, out2, bo2, L2⟩ ⟨hi, hk, hL2⟩
        dsimp only at hi hk hL2 ⊢
        have hol2 : out2.length = ms.length + i := by have := congrArg List.length hk; simp at this; omega
        by_cases hlt : i < e5.length
        · obtain ⟨⟨t, sv⟩, hse⟩ : ∃ y, e5[i]? = some y := ⟨e5[i], List.getElem?_eq_getElem hlt⟩
          obtain ⟨hto, hsv, htl⟩ := ht5 _ (List.mem_of_getElem? hse)
          obtain ⟨b5, w5, rfl, hb5⟩ := hr5.resolve_left (by omega)
          dsimp only at hto hsv htl
          have hkx : (e5.map fun e => txI e.1)[i]? = some (txI t) := by rw [List.getElem?_map, hse]; rfl
          obtain ⟨sa, sc, rfl⟩ := hsv.form
          clear hh hss hms hb hxB hB hxm hxe h1 hm1 ht5 hr5 hk5 hL
          repeat' (first
    | (with_reducible refine Sy.seq ?_)
    | (with_reducible refine Sy.regionL ?_)
    | (with_reducible refine Sy.opsnil ?_)
    | (with_reducible refine Sy.go ?_)
    | (with_reducible refine Sy.nrm ?_)
    | ((with_reducible refine Sy.ldN (t := 59) rfl rfl (Has.app (Has.app hb5)) (ts_all2 ag59 sz59 hse (by omega)) ?_))
    | ((with_reducible refine Sy.ldN (t := 59) rfl rfl (by repeat (first | exact Has.here | apply Has.there | apply Has.app)) ld_tall ?_))
    | ((with_reducible refine Sy.build (t := 61) rfl rfl bvI5 ?_))
    | ((with_reducible apply Sy.appB (t := 26) (xt := 26)); exact (ap26_26 zr61 rfl); exact rfl; exact rfl; exact rfl; exact SrcY.row hasT (inC_length _ _ _); exact inC_oneS _ _ _ _ _ _ _; (· rw [inC_length]); (· omega); exact pullT; exact isC_length _; exact isC_snoc out2 ⟨txI t, _, _⟩; intro q73)
    | ((with_reducible apply Sy.assign); exact rfl; exact rfl)
    | ((with_reducible apply Sy.move); exact rfl; exact rfl)
    | ((with_reducible apply Sy.bin (op := .lss) (t := 3)); exact rfl; exact rfl; exact rfl; exact b_lss)
    | ((with_reducible apply Sy.bin (op := .lss) (t := 3)); exact rfl; exact rfl; exact rfl; exact bz_lss)
    | ((with_reducible apply Sy.ia (t := 30)); exact rfl; exact rfl; exact rfl; exact (ia_sl Try.underlying30 sz38 (by omega)))
    | ((with_reducible apply Sy.ia (t := 36)); exact rfl; exact rfl; exact rfl; exact (ia_sl Try.underlying36 sz57 (by omega)))
    | ((with_reducible apply Sy.stNa (t := 57)); exact rfl; exact rfl; exact sz57; (· first | (simp; done)); (· first | (simp [oneL_append, oneL_cons, oneL_nil, hC_one, oneL_ints]; done)); exact turnT; (· first | (simp; done)); (· first | exact lay_all (by first | (simp; done))))
    | ((with_reducible apply Sy.bin (op := .add) (t := 3)); exact rfl; exact rfl; exact rfl; exact (b_add (by omega)))
    | ((with_reducible apply Sy.bin (op := .add) (t := 3)); exact rfl; exact rfl; exact rfl; exact (bz_add (by omega) (by omega)))
    | ((with_reducible apply Sy.stNa (t := 78)); exact rfl; exact rfl; exact sz78; (· first | (simp; done)); (· first | (simp [oneL_append, oneL_cons, oneL_nil, hC_one, oneL_ints]; done)); exact turnT; (· first | (simp; done)); (· first | exact lay_all (by first | (simp; done))))
    | ((with_reducible apply Sy.ia (t := 76)); exact rfl; exact rfl; exact rfl; exact (ia_sl Try.underlying76 sz59 (by omega)))
    | ((with_reducible apply Sy.stNa (t := 59)); exact rfl; exact rfl; exact sz59; (· first | (simp; done)); (· first | (simp [oneL_append, oneL_cons, oneL_nil, hC_one, oneL_ints]; done)); exact turnT; (· first | (simp; done)); (· first | exact lay_all (by first | (simp; done))))
    | ((with_reducible apply Sy.newY (o := ⟨some 10, .alloc 57, _, _, _, _⟩)); exact rfl; exact rfl; exact nwz57; intro q10)
    | ((with_reducible apply Sy.newY (o := ⟨some 51, .buildSlice 26 _ _, _, _, _, _⟩)); exact rfl; exact rfl; (· exact (nba1 Try.underlying26 sz61 zr61 rfl (by decide) rfl (by first | (simp; done)))); intro q51)
    | ((with_reducible apply Sy.newY (o := ⟨some 51, .buildSlice 26 _ _, _, _, _, _⟩)); exact rfl; exact rfl; (· exact (newY_bs Try.underlying26 sz61 zr61 rfl (by decide) rfl (by first | rfl | (simp [List.drop_append, List.take_append, List.getElem?_append, lay, hC_length, ints_length, ints_drop, ints_take, ints_append, List.drop_of_length_le, List.take_of_length_le, List.map_append, List.set_append, Value.cells]; done)))); intro q51)
    | ((with_reducible apply Sy.newY (o := ⟨some 11, .alloc 78, _, _, _, _⟩)); exact rfl; exact rfl; exact nwz78; intro q11)
    | ((with_reducible apply Sy.newY (o := ⟨some 15, .alloc 59, _, _, _, _⟩)); exact rfl; exact rfl; exact nwz59; intro q15)
    | ((with_reducible apply Sy.newY (o := ⟨some 72, .buildSlice 26 _ _, _, _, _, _⟩)); exact rfl; exact rfl; (· exact (nba1 Try.underlying26 sz61 zr61 rfl (by decide) rfl (by first | (simp; done)))); intro q72)
    | ((with_reducible apply Sy.newY (o := ⟨some 72, .buildSlice 26 _ _, _, _, _, _⟩)); exact rfl; exact rfl; (· exact (newY_bs Try.underlying26 sz61 zr61 rfl (by decide) rfl (by first | rfl | (simp [List.drop_append, List.take_append, List.getElem?_append, lay, hC_length, ints_length, ints_drop, ints_take, ints_append, List.drop_of_length_le, List.take_of_length_le, List.map_append, List.set_append, Value.cells]; done)))); intro q72)
    | (with_reducible refine Sy.skip ?_)
    | (with_reducible refine Sy.block ?_)
    | (with_reducible refine Sy.inrm ?_)
    | ((with_reducible apply Sy.ite); (case hx => exact rfl); all_goals (intro hc; try (exfalso; omega))))
          have e1 : ∀ s : Iel, (out2 ++ [s]).length = out2.length + 1 := fun s => by simp
          refine Sy.rnrm (i + 1, out2 ++ [⟨txI t, .slice none zeroM.d.length 0, .slice sa t.d.length sc⟩], q73, L2) ⟨by omega, ?_, fun e he => ?_⟩ (by dsimp only; omega) ⟨by rw [e1]; rfl, rfl, rfl, rfl, trivial⟩ (fun H1 h => ?_)
          · dsimp only
            rw [isOf, List.map_append, List.take_add_one, hkx]
            rw [isOf] at hk
            rw [hk, List.append_assoc]; rfl
          · rcases List.mem_append.1 he with he | he
            · exact hL2 e he
            · rw [List.mem_singleton] at he; subst he
              exact ⟨⟨zeroM_ok, hto⟩, SlQ.nil, hsv.mono kn_app, by simp [txI, zeroM], htl⟩
          · dsimp only
            rw [e1]
            exact h.less (List.Sublist.append_left (.cons _ (.cons _ (.refl _))) _)
        · obtain rfl : i = e5.length := by omega
          repeat' (first
    | (with_reducible refine Sy.seq ?_)
    | (with_reducible refine Sy.regionL ?_)
    | (with_reducible refine Sy.opsnil ?_)
    | (with_reducible refine Sy.go ?_)
    | (with_reducible refine Sy.nrm ?_)
    | ((with_reducible apply Sy.assign); exact rfl; exact rfl)
    | ((with_reducible apply Sy.move); exact rfl; exact rfl)
    | ((with_reducible apply Sy.bin (op := .lss) (t := 3)); exact rfl; exact rfl; exact rfl; exact b_lss)
    | ((with_reducible apply Sy.bin (op := .lss) (t := 3)); exact rfl; exact rfl; exact rfl; exact bz_lss)
    | (with_reducible refine Sy.exit ?_)
    | (with_reducible refine Sy.ret ?_)
    | (with_reducible refine Sy.aex ?_)
    | ((with_reducible apply Sy.iex); exact rfl)
    | (with_reducible refine Sy.rex ?_)
    | ((with_reducible apply Sy.ite); (case hx => exact rfl); all_goals (intro hc; try (exfalso; omega))))
          exact .fin [_, _] (.inr rfl) ⟨rfl, rfl, trivial⟩ fun H' hp => ⟨(out2, bo2, L2 ++ L5), ⟨by rw [hk, List.take_of_length_le (by simp), ← hk5, List.map_map]; rfl, hL2⟩, rfl, hp⟩
end Go.Proofs.Ytcaafoibabijgaa

/- Layer 14: all inputs. -/
namespace Go.Proofs.Ytcaafoibabijgaa
open Go Go.Am
set_option maxRecDepth 100000
set_option linter.unusedVariables false

theorem knownD_0 {h w : Int} : 0 ≤ knownD h w := by
  unfold knownD; split
  · omega
  · rename_i hc; simp only [not_or] at hc; omega
theorem k_InputsQ (xs : List Kel) (n w : Int) (v : Value) (I : List Inp × Nat) (H : AHeap) (hI : inputsD (xs.map Kel.p) n w = I) (h : KsQ (knH H) 57 38 v xs) (hx : xs.length ≤ 1000) (hb : ∀ x ∈ xs, x.bs.length ≤ 1000 ∧ x.ms.length ≤ 1000) :
    CallR Try.prog noPrims 10 [v, .int .i64 n, .int .i64 w] H (fun u H' => ∃ i : List Iel × Option Addr × Nat × Hm, (isOf i.1 = I.1 ∧ IsQ (knL i.2.2.2) 61 (.slice i.2.1 i.1.length i.2.2.1) i.1) ∧ u = .tuple ⟨[.slice i.2.1 i.1.length i.2.2.1, .int .i64 ((I.2 : Nat) : Int)]⟩ ∧ Hp H 0 0 H' [] i.2.2.2) := by
  refine (k_Inputs xs n w v I H hI h hx hb).mono fun u H' ⟨⟨es, bo, L⟩, ⟨h1, h2⟩, h3, h4⟩ => ?_
  dsimp only at h1 h2 h3 h4
  have hr : RwQ (knL (accM 61 (isC es) es.length bo ++ L)) 61 (accV 24 (isC es) es.length bo) es.length (isC es) := RwQ.acc fun h0 => accM_hasT h0
  obtain ⟨a, c, e, hr2⟩ := hr
  rw [e] at h3
  exact ⟨(es, a, c, _), ⟨h1, ⟨⟨a, c, rfl, hr2⟩, fun e he => (h2 e he).mono kn_app⟩⟩, h3, h4⟩
abbrev asOf (es : List Ael) : List (List Inp) := es.map fun e => isOf e.1
set_option maxHeartbeats 4000000 in
theorem k_All (xs : List Kel) (w : Int) (v : Value) (A : List (List Inp)) (H : AHeap) (hA : allD (xs.map Kel.p) w = A) (h : KsQ (knH H) 57 38 v xs) (hx : xs.length ≤ 1000) (hb : ∀ x ∈ xs, x.bs.length ≤ 1000 ∧ x.ms.length ≤ 1000) :
    CallR Try.prog noPrims 20 [v, .int .i64 w] H (fun u H' => ∃ i : List Ael × Nat × Hm, (asOf i.1 = A ∧ ∀ e ∈ i.1, IsQ (knL i.2.2) 61 e.2 e.1) ∧ u = accV 1 (asC i.1) i.1.length i.2.1 ∧ Hp H 0 0 H' [] (accM 26 (asC i.1) i.1.length i.2.1 ++ i.2.2)) := by
  have hh := h
  obtain ⟨⟨a1, c1, rfl, -⟩, -⟩ := h
  obtain ⟨K, hK⟩ : ∃ K : Nat, knownD (xs.length : Int) w = (K : Int) := ⟨(knownD (xs.length : Int) w).toNat, by have := knownD_0 (h := (xs.length : Int)) (w := w); omega⟩
  have hKl : K ≤ 1000 := by
    have : knownD (xs.length : Int) w ≤ 1000 := by
      unfold knownD; split
      · omega
      · rename_i hc
        have hr : rightD w = true := by cases hw : rightD w <;> simp_all
        have := rightD_le hr
        omega
    omega
  have hA2 : A = (List.range K).map fun i : Nat => (inputsD (xs.map Kel.p) ((i + 1 : Nat) : Int) w).1 := by
    rw [← hA, allD, List.length_map, hK, Int.toNat_natCast]
    rfl
  clear hA
  refine CallR.sy (n := 30) Try.func20 rfl rfl rfl ?_
  repeat' (first
    | (with_reducible refine Sy.seq ?_)
    | (with_reducible refine Sy.regionL ?_)
    | (with_reducible refine Sy.opsnil ?_)
    | (with_reducible refine Sy.go ?_)
    | (with_reducible refine Sy.nrm ?_)
    | ((with_reducible apply Sy.assign); exact rfl; exact rfl)
    | ((with_reducible apply Sy.move); exact rfl; exact rfl)
    | ((with_reducible apply Sy.lenS); exact rfl; exact Try.underlying30; exact rfl)
    | ((with_reducible apply Sy.call0 (k := 17)); exact rfl; exact rfl; exact en17; exact rfl; (intro H' hp; exact c_Known _ _ _ H' hK (by omega)))
    | (with_reducible refine Sy.block ?_))
  refine Sy.loop (ι := Nat × List Ael × Nat × Hm) (fun i => K - i.1) (fun i => [(0, .slice a1 xs.length c1), (1, .int .i64 w), (5, accV 1 (asC i.2.1) i.2.1.length i.2.2.1), (12, .int .i64 ((K : Nat) : Int)), (13, .int .i64 (i.1 : Nat))]) (fun _ => []) (fun i => accM 26 (asC i.2.1) i.2.1.length i.2.2.1 ++ i.2.2.2) (fun i => i.1 ≤ K ∧ asOf i.2.1 = A.take i.1 ∧ ∀ e ∈ i.2.1, IsQ (knL i.2.2.2) 61 e.2 e.1) (0, [], 0, []) ⟨Nat.zero_le _, rfl, by simp⟩ ⟨rfl, rfl, rfl, rfl, rfl, trivial⟩ (fun H h => h) ?_
  rintro ⟨i, out, bo, L⟩ ⟨hi, hk, hL⟩
  dsimp only at hi hk hL ⊢
  have hAl : A.length = K := by rw [hA2]; simp
  have hol : out.length = i := by have := congrArg List.length hk; simp at this; omega
  by_cases hlt : i < K
  · obtain ⟨I, hI⟩ : ∃ I, inputsD (xs.map Kel.p) ((i + 1 : Nat) : Int) w = I := ⟨_, rfl⟩
    have hkx : A[i]? = some I.1 := by rw [hA2, List.getElem?_map, List.getElem?_range hlt, ← hI]; rfl
    clear hA2
    repeat' (first
    | (with_reducible refine Sy.seq ?_)
    | (with_reducible refine Sy.regionL ?_)
    | (with_reducible refine Sy.opsnil ?_)
    | (with_reducible refine Sy.go ?_)
    | (with_reducible refine Sy.nrm ?_)
    | ((with_reducible apply Sy.appB (t := 47) (xt := 47)); exact (ap47_47 zr26 rfl); exact rfl; exact rfl; exact rfl; exact SrcY.row hasT rfl; exact rfl; exact rfl; (· omega); exact pullT; (rw [asC_length, Nat.mul_one]); exact asC_snoc out (ei, _); intro q27)
    | ((with_reducible apply Sy.assign); exact rfl; exact rfl)
    | ((with_reducible apply Sy.move); exact rfl; exact rfl)
    | ((with_reducible apply Sy.bin (op := .lss) (t := 3)); exact rfl; exact rfl; exact rfl; exact b_lss)
    | ((with_reducible apply Sy.bin (op := .lss) (t := 3)); exact rfl; exact rfl; exact rfl; exact bz_lss)
    | ((with_reducible apply Sy.bin (op := .add) (t := 3)); exact rfl; exact rfl; exact rfl; exact (b_add (by omega)))
    | ((with_reducible apply Sy.bin (op := .add) (t := 3)); exact rfl; exact rfl; exact rfl; exact (bz_add (by omega) (by omega)))
    | ((with_reducible apply Sy.ext); exact rfl; exact rfl; exact rfl)
    | ((with_reducible apply Sy.callN (k := 10)); exact rfl; exact rfl; exact en10; exact rfl; (intro H' hp; exact k_InputsQ xs _ w _ I H' hI (hh.mono (kn_of hp)) hx hb); rintro ⟨ei, ai, ci, Li⟩ ⟨hki, hLi⟩)
    | ((with_reducible apply Sy.newY (o := ⟨some 26, .buildSlice 47 _ _, _, _, _, _⟩)); exact rfl; exact rfl; exact (nbs1 Try.underlying47 sz26 zr26 rfl (by decide) rfl rfl); intro q26)
    | ((with_reducible apply Sy.newY (o := ⟨some 26, .buildSlice 47 _ _, _, _, _, _⟩)); exact rfl; exact rfl; (· exact (newY_bs Try.underlying47 sz26 zr26 rfl (by decide) rfl (by first | rfl | (simp [List.drop_append, List.take_append, List.getElem?_append, lay, hC_length, ints_length, ints_drop, ints_take, ints_append, List.drop_of_length_le, List.take_of_length_le, List.map_append, List.set_append, Value.cells]; done)))); intro q26)
    | (with_reducible refine Sy.skip ?_)
    | (with_reducible refine Sy.block ?_)
    | (with_reducible refine Sy.inrm ?_)
    | ((with_reducible apply Sy.ite); (case hx => exact rfl); all_goals (intro hc; try (exfalso; omega))))
    dsimp only at hki hLi ⊢
    have e1 : ∀ s : Ael, (out ++ [s]).length = out.length + 1 := fun s => by simp
    refine Sy.rnrm (i + 1, out ++ [(ei, .slice ai ei.length ci)], q27, Li ++ L) ⟨by omega, ?_, fun e he => ?_⟩ (by dsimp only; omega) ⟨rfl, rfl, by rw [e1]; rfl, rfl, rfl, trivial⟩ (fun H1 h => ?_)
    · dsimp only
      rw [asOf, List.map_append, List.take_add_one, hkx]
      rw [asOf] at hk
      rw [hk, List.map_singleton, hki]; rfl
    · rcases List.mem_append.1 he with he | he
      · exact (hL e he).mono kn_app
      · rw [List.mem_singleton] at he; subst he; exact hLi.mono kn_front
    · dsimp only
      rw [e1]
      exact h.less (List.Sublist.append_left (.cons _ (.refl _)) _)
  · obtain rfl : i = K := by omega
    repeat' (first
    | (with_reducible refine Sy.seq ?_)
    | (with_reducible refine Sy.regionL ?_)
    | (with_reducible refine Sy.opsnil ?_)
    | (with_reducible refine Sy.go ?_)
    | (with_reducible refine Sy.nrm ?_)
    | ((with_reducible apply Sy.assign); exact rfl; exact rfl)
    | ((with_reducible apply Sy.move); exact rfl; exact rfl)
    | ((with_reducible apply Sy.bin (op := .lss) (t := 3)); exact rfl; exact rfl; exact rfl; exact b_lss)
    | ((with_reducible apply Sy.bin (op := .lss) (t := 3)); exact rfl; exact rfl; exact rfl; exact bz_lss)
    | (with_reducible refine Sy.exit ?_)
    | (with_reducible refine Sy.ret ?_)
    | (with_reducible refine Sy.aex ?_)
    | ((with_reducible apply Sy.iex); exact rfl)
    | (with_reducible refine Sy.rex ?_)
    | ((with_reducible apply Sy.ite); (case hx => exact rfl); all_goals (intro hc; try (exfalso; omega))))
    exact .fin [_] (.inr rfl) ⟨rfl, trivial⟩ fun H' hp => ⟨(out, bo, L), ⟨by rw [hk]; exact List.take_of_length_le (by omega), hL⟩, rfl, hp⟩
end Go.Proofs.Ytcaafoibabijgaa

/- Layer 14: the same inputs; small blocks. -/
namespace Go.Proofs.Ytcaafoibabijgaa
open Go Go.Am
set_option maxRecDepth 100000
set_option linter.unusedVariables false

theorem is_all2 {es : List Iel} {i o T t : Nat} {x : Inp} {v1 v2 : Value} {w : Bool} (hag : aggT Try.prog t = true) (hsz : szT Try.prog t = some 24) (e : es[i]? = some ⟨x, v1, v2⟩) (ho : o = i * 24) : aLoad Try.prog t (.cells (isC es) T w) o = some (inV x v1 v2) := is_all hag hsz e ho
set_option maxHeartbeats 4000000 in
theorem k_same14 (ea eb : List Iel) (v1 v2 : Value) (H : AHeap) (h1 : IsQ (knH H) 61 v1 ea) (h2 : IsQ (knH H) 86 v2 eb) (hk : isOf ea = isOf eb) (hn : ea.length ≤ 10000) (hd : ∀ e ∈ ea, e.x.m.d.length ≤ 1000000 ∧ e.x.t.d.length ≤ 1000000) : CallR Try.prog noPrims 19 [v1, v2] H (fun u H' => u = .bool true ∧ Hp H 0 0 H' [] []) := by
  obtain ⟨⟨a1, c1, rfl, h1⟩, hs1⟩ := h1
  obtain ⟨⟨a2, c2, rfl, h2⟩, hs2⟩ := h2
  have hlen : ea.length = eb.length := by have := congrArg List.length hk; simpa using this
  refine CallR.sy (n := 28) Try.func19 rfl rfl rfl ?_
  repeat' (first
    | (with_reducible refine Sy.seq ?_)
    | (with_reducible refine Sy.regionL ?_)
    | (with_reducible refine Sy.opsnil ?_)
    | (with_reducible refine Sy.go ?_)
    | (with_reducible refine Sy.nrm ?_)
    | ((with_reducible apply Sy.assign); exact rfl; exact rfl)
    | ((with_reducible apply Sy.move); exact rfl; exact rfl)
    | ((with_reducible apply Sy.lenS); exact rfl; exact Try.underlying26; exact rfl)
    | ((with_reducible apply Sy.lenS); exact rfl; exact Try.underlying42; exact rfl)
    | ((with_reducible apply Sy.bin (op := .neq) (t := 3)); exact rfl; exact rfl; exact rfl; exact b_neq)
    | ((with_reducible apply Sy.bin (op := .neq) (t := 3)); exact rfl; exact rfl; exact rfl; exact bz_neq)
    | (with_reducible refine Sy.skip ?_)
    | (with_reducible refine Sy.block ?_)
    | ((with_reducible apply Sy.ite); (case hx => exact rfl); all_goals (intro hc; try (exfalso; omega))))
  refine Sy.loop (ι := Nat) (fun i => ea.length - i) (fun i => [(0, .slice a1 ea.length c1), (1, .slice a2 eb.length c2), (5, .int .i64 (i : Nat))]) (fun _ => []) (fun _ => []) (fun i => i ≤ ea.length) 0 (Nat.zero_le _) ⟨rfl, rfl, rfl, trivial⟩ (fun H h => h) ?_
  rintro i hi
  by_cases hlt : i < ea.length
  · obtain ⟨⟨x, s1, s2⟩, hx⟩ : ∃ x, ea[i]? = some x := ⟨ea[i], List.getElem?_eq_getElem hlt⟩
    obtain ⟨⟨y, r1, r2⟩, hy⟩ : ∃ y, eb[i]? = some y := ⟨eb[i]'(by omega), List.getElem?_eq_getElem (by omega)⟩
    obtain ⟨b1, w1, rfl, hb1⟩ := h1.resolve_left (by omega)
    obtain ⟨b2, w2, rfl, hb2⟩ := h2.resolve_left (by omega)
    obtain ⟨ho, hv1, hv2, hl1, hl2⟩ := hs1 _ (List.mem_of_getElem? hx)
    obtain ⟨_, hw1, hw2, _, _⟩ := hs2 _ (List.mem_of_getElem? hy)
    obtain ⟨hd1, hd2⟩ := hd _ (List.mem_of_getElem? hx)
    have hxy : x = y := by
      have a : (isOf ea)[i]? = some x := by rw [List.getElem?_map, hx]; rfl
      have b : (isOf eb)[i]? = some y := by rw [List.getElem?_map, hy]; rfl
      rw [hk, b] at a
      exact (Option.some.inj a).symm
    subst hxy
    dsimp only at ho hv1 hv2 hl1 hl2 hw1 hw2 hd1 hd2
    have q1 := hv1.slr (H := H) (fun _ _ _ _ h => h)
    have q2 := hv2.slr (H := H) (fun _ _ _ _ h => h)
    have q3 := hw1.slr (H := H) (fun _ _ _ _ h => h)
    have q4 := hw2.slr (H := H) (fun _ _ _ _ h => h)
    obtain ⟨sa1, sc1, rfl⟩ := slr_form q1
    obtain ⟨sa2, sc2, rfl⟩ := slr_form q2
    obtain ⟨sa3, sc3, rfl⟩ := slr_form q3
    obtain ⟨sa4, sc4, rfl⟩ := slr_form q4
    have hbn : b2 < H.next := get_live_lt (by rw [show H.get b2 = _ from hb2]; rfl)
    clear hs1 hs2 hd h1 h2 hk
    repeat' (first
    | (with_reducible refine Sy.seq ?_)
    | (with_reducible refine Sy.regionL ?_)
    | (with_reducible refine Sy.opsnil ?_)
    | (with_reducible refine Sy.go ?_)
    | (with_reducible refine Sy.nrm ?_)
    | ((with_reducible refine Sy.ld0 (t := 61) rfl rfl hb1 rfl (by simp only [List.forall_mem_cons, List.not_mem_nil, false_implies, implies_true, and_true, ne_eq]; first | done | omega | (repeat (first | with_reducible assumption | (refine And.intro ?_ ?_)))) (is_all2 ag61 sz61 hx (by omega)) ?_))
    | ((with_reducible refine Sy.ld0 (t := 86) rfl rfl hb2 rfl (by simp only [List.forall_mem_cons, List.not_mem_nil, false_implies, implies_true, and_true, ne_eq]; first | done | omega | (repeat (first | with_reducible assumption | (refine And.intro ?_ ?_)))) (is_all2 ag86 sz86 hy (by omega)) ?_))
    | ((with_reducible apply Sy.assign); exact rfl; exact rfl)
    | ((with_reducible apply Sy.move); exact rfl; exact rfl)
    | ((with_reducible apply Sy.lenS); exact rfl; exact Try.underlying26; exact rfl)
    | ((with_reducible apply Sy.lenS); exact rfl; exact Try.underlying42; exact rfl)
    | ((with_reducible apply Sy.bin (op := .lss) (t := 3)); exact rfl; exact rfl; exact rfl; exact b_lss)
    | ((with_reducible apply Sy.bin (op := .lss) (t := 3)); exact rfl; exact rfl; exact rfl; exact bz_lss)
    | ((with_reducible apply Sy.ia (t := 26)); exact rfl; exact rfl; exact rfl; exact (ia_sl Try.underlying26 sz61 (by omega)))
    | ((with_reducible apply Sy.ia (t := 42)); exact rfl; exact rfl; exact rfl; exact (ia_sl Try.underlying42 sz86 (by omega)))
    | ((with_reducible apply Sy.un (op := .not)); exact rfl; exact rfl; exact un_notT)
    | ((with_reducible apply Sy.un (op := .not)); exact rfl; exact rfl; exact un_notF)
    | ((with_reducible apply Sy.un (op := .not)); exact rfl; exact rfl; exact un_notD)
    | ((with_reducible apply Sy.un (op := .not)); exact rfl; exact rfl; exact un_not)
    | ((with_reducible apply Sy.bin (op := .add) (t := 3)); exact rfl; exact rfl; exact rfl; exact (b_add (by omega)))
    | ((with_reducible apply Sy.bin (op := .add) (t := 3)); exact rfl; exact rfl; exact rfl; exact (bz_add (by omega) (by omega)))
    | ((with_reducible apply Sy.dcall (k := 30)); (first | exact wantY_none); exact rfl; (intro h hh; first | exact hh); exact rfl; exact rfl; exact rfl; exact en30; exact rfl; (intro H' hp; exact k_lRef x sa1 sa2 sc1 sc2 H' ho (q1.of hp) (q2.of hp) hd1 hd2); rintro ⟨⟨b7, c7⟩, b8, c8⟩ -)
    | ((with_reducible apply Sy.dcall0 (k := 32)); (first | exact wantY_none); exact rfl; (intro h hh; first | exact hh); exact rfl; exact rfl; exact rfl; exact en32; exact rfl; (intro H' hp; exact k_SameI x (some ⟨b7, 0, none⟩) (some ⟨b8, 0, none⟩) sa3 sa4 c7 c8 sc3 sc4 H' ho (full_slr hp (b := b7) (T := 5) (w := true) hasT) (full_slr hp (b := b8) (T := 5) (w := true) hasT) (q3.of hp) (q4.of hp)))
    | (with_reducible refine Sy.skip ?_)
    | (with_reducible refine Sy.block ?_)
    | (with_reducible refine Sy.inrm ?_)
    | ((with_reducible apply Sy.drawL (id := 6) 11 [(8, 4)] (fun hi h => h < hi)); (case hp => kernel_rfl); (case hN => exact rfl); intro base hbase hM; try simp only [List.forall_mem_cons, List.forall_mem_append, List.not_mem_nil, false_implies, implies_true, and_true] at hM)
    | ((with_reducible apply Sy.no); exact rfl)
    | (with_reducible refine Sy.dend ?_)
    | ((with_reducible apply Sy.dgo); (· first | exact wantY_none); (· intro hcls; cases hcls); exact rfl; exact rfl)
    | ((with_reducible apply Sy.dld); (· first | exact wantY_none); exact rfl; (· first | omega); exact rfl)
    | ((with_reducible apply Sy.ite); (case hx => exact rfl); all_goals (intro hc; try (exfalso; omega))))
    exact Sy.rnrm (i + 1) (by omega) (by show ea.length - (i + 1) < ea.length - i; omega) ⟨rfl, rfl, rfl, trivial⟩ (fun H1 h => h.less (List.nil_sublist _))
  · obtain rfl : i = ea.length := by omega
    repeat' (first
    | (with_reducible refine Sy.seq ?_)
    | (with_reducible refine Sy.regionL ?_)
    | (with_reducible refine Sy.opsnil ?_)
    | (with_reducible refine Sy.go ?_)
    | (with_reducible refine Sy.nrm ?_)
    | ((with_reducible apply Sy.assign); exact rfl; exact rfl)
    | ((with_reducible apply Sy.move); exact rfl; exact rfl)
    | ((with_reducible apply Sy.lenS); exact rfl; exact Try.underlying26; exact rfl)
    | ((with_reducible apply Sy.lenS); exact rfl; exact Try.underlying42; exact rfl)
    | ((with_reducible apply Sy.bin (op := .lss) (t := 3)); exact rfl; exact rfl; exact rfl; exact b_lss)
    | ((with_reducible apply Sy.bin (op := .lss) (t := 3)); exact rfl; exact rfl; exact rfl; exact bz_lss)
    | (with_reducible refine Sy.exit ?_)
    | (with_reducible refine Sy.ret ?_)
    | (with_reducible refine Sy.aex ?_)
    | ((with_reducible apply Sy.iex); exact rfl)
    | (with_reducible refine Sy.rex ?_)
    | ((with_reducible apply Sy.ite); (case hx => exact rfl); all_goals (intro hc; try (exfalso; omega))))
    exact .fin [_] (.inr rfl) ⟨rfl, trivial⟩ fun H' hp => ⟨rfl, hp⟩
set_option maxHeartbeats 4000000 in
theorem k_alike (ea eb : List Iel) (v1 v2 : Value) (H : AHeap) (h1 : IsQ (knH H) 61 v1 ea) (h2 : IsQ (knH H) 61 v2 eb) (hk : isOf ea = isOf eb) (hn : ea.length ≤ 10000) (hd : ∀ e ∈ ea, e.x.m.d.length ≤ 1000000 ∧ e.x.t.d.length ≤ 1000000) : CallR Try.prog noPrims 14 [v1, v2] H (fun u H' => u = .bool true ∧ Hp H 0 0 H' [] []) := by
  have hlen : ea.length = eb.length := by have := congrArg List.length hk; simpa using this
  have hde : ∀ e ∈ eb, e.x.m.d.length ≤ 1000000 ∧ e.x.t.d.length ≤ 1000000 := fun e he => by
    have hm : e.x ∈ isOf eb := List.mem_map_of_mem he
    rw [← hk] at hm
    obtain ⟨y, hy, ey⟩ := List.mem_map.1 hm
    rw [← ey]
    exact hd y hy
  obtain ⟨⟨a2, c2, rfl, h2⟩, hs2⟩ := h2
  refine CallR.sy (n := 24) Try.func14 rfl rfl rfl ?_
  repeat' (first
    | (with_reducible refine Sy.seq ?_)
    | (with_reducible refine Sy.regionL ?_)
    | (with_reducible refine Sy.opsnil ?_)
    | (with_reducible refine Sy.go ?_)
    | (with_reducible refine Sy.nrm ?_)
    | ((with_reducible apply Sy.assign); exact rfl; exact rfl)
    | (with_reducible refine Sy.block ?_))
  refine Sy.loop (ι := Nat × List Iel × Nat × Hm) (fun i => eb.length - i.1) (fun i => [(0, v1), (1, .slice a2 eb.length c2), (5, accV 24 (isC i.2.1) i.2.1.length i.2.2.1), (6, .int .i64 (i.1 : Nat))]) (fun _ => []) (fun i => accM 86 (isC i.2.1) i.2.1.length i.2.2.1 ++ i.2.2.2) (fun i => i.1 ≤ eb.length ∧ isOf i.2.1 = (isOf eb).take i.1 ∧ ∀ e ∈ i.2.1, IelQ (knL i.2.2.2) e) (0, [], 0, []) ⟨Nat.zero_le _, rfl, by simp⟩ ⟨rfl, rfl, rfl, rfl, trivial⟩ (fun H h => h) ?_
  rintro ⟨i, out, bo, L⟩ ⟨hi, hko, hL⟩
  dsimp only at hi hko hL ⊢
  have hol : out.length = i := by have := congrArg List.length hko; simp at this; omega
  by_cases hlt : i < eb.length
  · obtain ⟨⟨x, s1, s2⟩, hx⟩ : ∃ x, eb[i]? = some x := ⟨eb[i], List.getElem?_eq_getElem hlt⟩
    obtain ⟨b2, w2, rfl, hb2⟩ := h2.resolve_left (by omega)
    obtain ⟨ho, hv1, hv2, hl1, hl2⟩ := hs2 _ (List.mem_of_getElem? hx)
    obtain ⟨hd1, hd2⟩ := hde _ (List.mem_of_getElem? hx)
    dsimp only at ho hv1 hv2 hl1 hl2 hd1 hd2
    have hkx : (isOf eb)[i]? = some x := by rw [List.getElem?_map, hx]; rfl
    have q1 := hv1.slr (H := H) (fun _ _ _ _ h => h)
    have q2 := hv2.slr (H := H) (fun _ _ _ _ h => h)
    obtain ⟨sa1, sc1, rfl⟩ := slr_form q1
    obtain ⟨sa2, sc2, rfl⟩ := slr_form q2
    clear h1 hs2 hd hde h2 hk
    repeat' (first
    | (with_reducible refine Sy.seq ?_)
    | (with_reducible refine Sy.regionL ?_)
    | (with_reducible refine Sy.opsnil ?_)
    | (with_reducible refine Sy.go ?_)
    | (with_reducible refine Sy.nrm ?_)
    | ((with_reducible refine Sy.ld0 (t := 61) rfl rfl hb2 rfl (by simp only [List.forall_mem_cons, List.not_mem_nil, false_implies, implies_true, and_true, ne_eq]; first | done | omega | (repeat (first | with_reducible assumption | (refine And.intro ?_ ?_)))) (is_all2 ag61 sz61 hx (by omega)) ?_))
    | ((with_reducible apply Sy.appB (t := 42) (xt := 42)); exact (ap42_42 zr86 rfl); exact rfl; exact rfl; exact rfl; exact SrcY.row hasT (inC_length _ _ _); exact inC_oneS _ _ _ _ _ _ _; (· rw [inC_length]); (· omega); exact pullT; exact isC_length _; exact isC_snoc out ⟨x, _, _⟩; intro q20)
    | ((with_reducible apply Sy.assign); exact rfl; exact rfl)
    | ((with_reducible apply Sy.move); exact rfl; exact rfl)
    | ((with_reducible apply Sy.lenS); exact rfl; exact Try.underlying26; exact rfl)
    | ((with_reducible apply Sy.bin (op := .lss) (t := 3)); exact rfl; exact rfl; exact rfl; exact b_lss)
    | ((with_reducible apply Sy.bin (op := .lss) (t := 3)); exact rfl; exact rfl; exact rfl; exact bz_lss)
    | ((with_reducible apply Sy.ia (t := 26)); exact rfl; exact rfl; exact rfl; exact (ia_sl Try.underlying26 sz61 (by omega)))
    | ((with_reducible apply Sy.bin (op := .add) (t := 3)); exact rfl; exact rfl; exact rfl; exact (b_add (by omega)))
    | ((with_reducible apply Sy.bin (op := .add) (t := 3)); exact rfl; exact rfl; exact rfl; exact (bz_add (by omega) (by omega)))
    | ((with_reducible apply Sy.callN (k := 30)); exact rfl; exact rfl; exact en30; exact rfl; (intro H' hp; exact k_lRef x sa1 sa2 sc1 sc2 H' ho (q1.of hp) (q2.of hp) hd1 hd2); rintro ⟨⟨b7, c7⟩, b8, c8⟩ -)
    | ((with_reducible apply Sy.newY (o := ⟨some 19, .buildSlice 42 _ _, _, _, _, _⟩)); exact rfl; exact rfl; (· exact (nba1 Try.underlying42 sz86 zr86 rfl (by decide) rfl (by first | (simp; done)))); intro q19)
    | ((with_reducible apply Sy.newY (o := ⟨some 19, .buildSlice 42 _ _, _, _, _, _⟩)); exact rfl; exact rfl; (· exact (newY_bs Try.underlying42 sz86 zr86 rfl (by decide) rfl (by first | rfl | (simp [List.drop_append, List.take_append, List.getElem?_append, lay, hC_length, ints_length, ints_drop, ints_take, ints_append, List.drop_of_length_le, List.take_of_length_le, List.map_append, List.set_append, Value.cells]; done)))); intro q19)
    | (with_reducible refine Sy.skip ?_)
    | (with_reducible refine Sy.block ?_)
    | (with_reducible refine Sy.inrm ?_)
    | ((with_reducible apply Sy.ite); (case hx => exact rfl); all_goals (intro hc; try (exfalso; omega))))
    dsimp only
    have e1 : ∀ s : Iel, (out ++ [s]).length = out.length + 1 := fun s => by simp
    refine Sy.rnrm (i + 1, out ++ [⟨x, .slice (some ⟨b7, 0, none⟩) x.m.d.length c7, .slice (some ⟨b8, 0, none⟩) x.t.d.length c8⟩], q20, (b8, .cells (ints .u8 x.t.d) 5 true) :: (b7, .cells (ints .u8 x.m.d) 5 true) :: L) ⟨by omega, ?_, fun e he => ?_⟩ (by dsimp only; omega) ⟨rfl, rfl, by rw [e1]; rfl, rfl, trivial⟩ (fun H1 h => ?_)
    · dsimp only
      rw [isOf, List.map_append, List.take_add_one, hkx]
      rw [isOf] at hko
      rw [hko]; rfl
    · rcases List.mem_append.1 he with he | he
      · exact ((hL e he).mono kn_cons).mono kn_cons
      · rw [List.mem_singleton] at he; subst he
        exact ⟨ho, SlQ.here.mono kn_cons, SlQ.here, hl1, hl2⟩
    · dsimp only
      rw [e1]
      exact h.less (List.Sublist.append_left (.cons _ (.refl _)) _)
  · obtain rfl : i = eb.length := by omega
    have hk3 : isOf ea = isOf out := by rw [hk, hko]; exact (List.take_of_length_le (by simp)).symm
    repeat' (first
    | (with_reducible refine Sy.seq ?_)
    | (with_reducible refine Sy.regionL ?_)
    | (with_reducible refine Sy.opsnil ?_)
    | (with_reducible refine Sy.go ?_)
    | (with_reducible refine Sy.nrm ?_)
    | ((with_reducible apply Sy.assign); exact rfl; exact rfl)
    | ((with_reducible apply Sy.move); exact rfl; exact rfl)
    | ((with_reducible apply Sy.lenS); exact rfl; exact Try.underlying26; exact rfl)
    | ((with_reducible apply Sy.bin (op := .lss) (t := 3)); exact rfl; exact rfl; exact rfl; exact b_lss)
    | ((with_reducible apply Sy.bin (op := .lss) (t := 3)); exact rfl; exact rfl; exact rfl; exact bz_lss)
    | ((with_reducible apply Sy.call0 (k := 19)); exact rfl; exact rfl; exact en19; exact rfl; (intro H' hp; exact k_same14 ea out v1 _ H' (h1.mono (kn_of hp)) ⟨(RwQ.acc (L := accM 86 (isC out) out.length bo ++ L) fun h0 => accM_hasT h0).mono (kn_new hp fun x o h => h), fun e he => ((hL e he).mono kn_app).mono (kn_new hp fun x o h => h)⟩ hk3 hn hd))
    | (with_reducible refine Sy.exit ?_)
    | (with_reducible refine Sy.ret ?_)
    | (with_reducible refine Sy.aex ?_)
    | ((with_reducible apply Sy.iex); exact rfl)
    | (with_reducible refine Sy.rex ?_)
    | ((with_reducible apply Sy.ite); (case hx => exact rfl); all_goals (intro hc; try (exfalso; omega))))
    exact .fin [_] (.inr rfl) ⟨rfl, trivial⟩ fun H' hp => ⟨rfl, hp.less (List.nil_sublist _)⟩
end Go.Proofs.Ytcaafoibabijgaa

/- Layer 14: are blocks small? -/
namespace Go.Proofs.Ytcaafoibabijgaa
open Go Go.Am
set_option maxRecDepth 100000
set_option linter.unusedVariables false

def SmallK (x : Kel) : Prop := x.ms.length ≤ 20 ∧ x.bs.length ≤ 20 ∧ (∀ e ∈ x.bs, e.1.length ≤ 5000) ∧ ∀ e ∈ x.ms, e.1.d.length ≤ 1000
theorem ks_mvR {es : List Kel} {i o T : Nat} {x : Kel} {w : Bool} (e : es[i]? = some x) (ho : o = i * 2) : aLoad Try.prog 62 (.cells (ksC es) T w) o = some x.mv := ld_one ag62 (by rw [ho]; exact ks_get (j := 0) e (by omega))
theorem ks_bvR {es : List Kel} {i o T : Nat} {x : Kel} {w : Bool} (e : es[i]? = some x) (ho : o = i * 2 + 1) : aLoad Try.prog 35 (.cells (ksC es) T w) o = some x.bv := ld_one ag35 (by rw [ho]; exact ks_get (j := 1) e (by omega))
theorem ms_d {es : List Mel} {i o T : Nat} {m : Msg} {v : Value} {w : Bool} (e : es[i]? = some (m, v)) (ho : o = i * 9 + 8) : aLoad Try.prog 23 (.cells (msC es) T w) o = some v := ld_one ag23 (by
  obtain ⟨hi, _⟩ := List.getElem?_eq_some_iff.1 e
  rw [msC_cut e, List.getElem?_append_right (by rw [msC_length, List.length_take]; omega), msC_length, List.length_take, Nat.min_eq_left (by omega), ho, Nat.add_sub_cancel_left, List.getElem?_append_left (by simp), msgC_d])
set_option maxHeartbeats 4000000 in
theorem k_Big (xs : List Kel) (v : Value) (H : AHeap) (h : KsQ (knH H) 66 64 v xs) (hx : xs.length < 4611686018427387904) (hb : ∀ x ∈ xs, x.bs.length < 4611686018427387904 ∧ x.ms.length < 4611686018427387904) :
    CallR Try.prog noPrims 8 [v] H (fun u H' => ∃ B : Bool, (B = false → xs.length ≤ 20 ∧ ∀ x ∈ xs, SmallK x) ∧ u = .bool B ∧ Hp H 0 0 H' [] []) := by
  obtain ⟨⟨a1, c1, rfl, h1⟩, hss⟩ := h
  refine CallR.sy (n := 76) Try.func8 rfl rfl rfl ?_
  repeat' (first
    | (with_reducible refine Sy.seq ?_)
    | (with_reducible refine Sy.regionL ?_)
    | (with_reducible refine Sy.opsnil ?_)
    | (with_reducible refine Sy.go ?_)
    | (with_reducible refine Sy.nrm ?_)
    | ((with_reducible apply Sy.assign); exact rfl; exact rfl)
    | (with_reducible refine Sy.block ?_))
  refine Sy.loop (ι := Nat) (fun i => xs.length - i) (fun i => [(0, .slice a1 xs.length c1), (3, .int .i64 (i : Nat))]) (fun _ => []) (fun _ => []) (fun i => i ≤ xs.length ∧ ∀ j x, j < i → xs[j]? = some x → SmallK x) 0 ⟨Nat.zero_le _, fun j x hj => by omega⟩ ⟨rfl, rfl, trivial⟩ (fun H h => h) ?_
  rintro i ⟨hi, hS⟩
  by_cases hlt : i < xs.length
  · by_cases h30 : i < 30
    · obtain ⟨⟨ms, mv, bs, bv⟩, hxe⟩ : ∃ x, xs[i]? = some x := ⟨xs[i], List.getElem?_eq_getElem hlt⟩
      obtain ⟨b1, w1, rfl, hb1⟩ := h1.resolve_left (by omega)
      have hxm := List.mem_of_getElem? hxe
      obtain ⟨⟨⟨am, cm, hmv, hm1⟩, hms⟩, ⟨⟨ab, cb, hbv, hbr⟩, hbs⟩⟩ := hss _ hxm
      obtain ⟨hbl, hml⟩ := hb _ hxm
      dsimp only at hmv hm1 hms hbv hbr hbs hbl hml
      subst hmv hbv
      clear hss hb
      repeat' (first
    | (with_reducible refine Sy.seq ?_)
    | (with_reducible refine Sy.regionL ?_)
    | (with_reducible refine Sy.opsnil ?_)
    | (with_reducible refine Sy.go ?_)
    | (with_reducible refine Sy.nrm ?_)
    | ((with_reducible refine Sy.ld0 (t := 62) rfl rfl hb1 rfl (by simp only [List.forall_mem_cons, List.not_mem_nil, false_implies, implies_true, and_true, ne_eq]; first | done | omega | (repeat (first | with_reducible assumption | (refine And.intro ?_ ?_)))) (ks_mvR hxe (by omega)) ?_))
    | ((with_reducible refine Sy.ld0 (t := 35) rfl rfl hb1 rfl (by simp only [List.forall_mem_cons, List.not_mem_nil, false_implies, implies_true, and_true, ne_eq]; first | done | omega | (repeat (first | with_reducible assumption | (refine And.intro ?_ ?_)))) (ks_bvR hxe (by omega)) ?_))
    | ((with_reducible apply Sy.assign); exact rfl; exact rfl)
    | ((with_reducible apply Sy.move); exact rfl; exact rfl)
    | ((with_reducible apply Sy.lenS); exact rfl; exact Try.underlying22; exact rfl)
    | ((with_reducible apply Sy.bin (op := .lss) (t := 3)); exact rfl; exact rfl; exact rfl; exact b_lss)
    | ((with_reducible apply Sy.bin (op := .lss) (t := 3)); exact rfl; exact rfl; exact rfl; exact bz_lss)
    | ((with_reducible apply Sy.pickT); exact rfl; exact rfl; exact rfl)
    | ((with_reducible apply Sy.pickF); exact rfl; exact rfl; exact rfl)
    | ((with_reducible apply Sy.ia (t := 22)); exact rfl; exact rfl; exact rfl; exact (ia_sl Try.underlying22 sz64 (by omega)))
    | ((with_reducible apply Sy.fa (t := 64) (i := 0)); exact rfl; exact rfl; exact fa64_0 _ _)
    | ((with_reducible apply Sy.lenS); exact rfl; exact Try.underlying62; exact rfl)
    | ((with_reducible apply Sy.bin (op := .gtr) (t := 3)); exact rfl; exact rfl; exact rfl; exact b_gtr)
    | ((with_reducible apply Sy.bin (op := .gtr) (t := 3)); exact rfl; exact rfl; exact rfl; exact bz_gtr)
    | ((with_reducible apply Sy.fa (t := 64) (i := 1)); exact rfl; exact rfl; exact fa64_1 _ _)
    | ((with_reducible apply Sy.lenS); exact rfl; exact Try.underlying35; exact rfl)
    | ((with_reducible apply Sy.ia (t := 35)); exact rfl; exact rfl; exact rfl; exact (ia_sl10 Try.underlying35 sz23 (by omega)))
    | ((with_reducible apply Sy.ia (t := 35)); exact rfl; exact rfl; exact rfl; exact (ia_sl1 Try.underlying35 sz23 (by omega)))
    | ((with_reducible apply Sy.lenS); exact rfl; exact Try.underlying23; exact rfl)
    | ((with_reducible apply Sy.ia (t := 62)); exact rfl; exact rfl; exact rfl; exact (ia_sl Try.underlying62 sz66 (by omega)))
    | ((with_reducible apply Sy.fa (t := 66) (i := 5)); exact rfl; exact rfl; exact fa66_5 _ _)
    | (with_reducible refine Sy.skip ?_)
    | (with_reducible refine Sy.ret ?_)
    | (with_reducible refine Sy.block ?_)
    | (with_reducible refine Sy.aret ?_)
    | (with_reducible refine Sy.iret ?_)
    | (with_reducible refine Sy.rret ?_)
    | ((with_reducible apply Sy.yes); exact rfl)
    | ((with_reducible apply Sy.goG); exact rfl; exact rfl; exact rfl)
    | ((with_reducible apply Sy.noG); exact rfl; exact rfl; exact rfl; exact rfl; exact rfl)
    | ((with_reducible apply Sy.caseG); (case hj => exact rfl); (case hx => exact rfl); all_goals (intro hc; try (exfalso; omega)))
    | ((with_reducible apply Sy.ite); (case hx => exact rfl); all_goals (intro hc; try (exfalso; omega))))
      · exact .fin [_] (.inr rfl) ⟨rfl, trivial⟩ fun H' hp => ⟨true, by simp, rfl, hp⟩
      · exact .fin [_] (.inr rfl) ⟨rfl, trivial⟩ fun H' hp => ⟨true, by simp, rfl, hp⟩
      refine Sy.loop (ι := Nat) (fun k => bs.length - k) (fun k => [(0, .slice (some ⟨b1, 0, none⟩) xs.length c1), (3, .int .i64 (i : Nat)), (4, .int .i64 (k : Nat))]) (fun _ => []) (fun _ => []) (fun k => k ≤ bs.length ∧ ∀ j x, j < k → bs[j]? = some x → x.1.length ≤ 5000) 0 ⟨Nat.zero_le _, fun j x hj => by omega⟩ ⟨rfl, rfl, rfl, trivial⟩ (fun H h => h) ?_
      rintro k ⟨hk, hSk⟩
      by_cases hkl : k < bs.length
      · obtain ⟨⟨l, sv⟩, hse⟩ : ∃ y, bs[k]? = some y := ⟨bs[k], List.getElem?_eq_getElem hkl⟩
        obtain ⟨-, hsv, hll⟩ := hbs _ (List.mem_of_getElem? hse)
        obtain ⟨bb, wb, rfl, hbb⟩ := hbr.resolve_left (by omega)
        dsimp only at hsv hll
        obtain ⟨sa, sc, rfl⟩ := hsv.form
        clear hms hm1 hbs hbr h1
        repeat' (first
    | (with_reducible refine Sy.seq ?_)
    | (with_reducible refine Sy.regionL ?_)
    | (with_reducible refine Sy.opsnil ?_)
    | (with_reducible refine Sy.go ?_)
    | (with_reducible refine Sy.nrm ?_)
    | ((with_reducible refine Sy.ld0 (t := 35) rfl rfl hb1 rfl (by simp only [List.forall_mem_cons, List.not_mem_nil, false_implies, implies_true, and_true, ne_eq]; first | done | omega | (repeat (first | with_reducible assumption | (refine And.intro ?_ ?_)))) (ks_bvR hxe (by omega)) ?_))
    | ((with_reducible refine Sy.ld0 (t := 23) rfl rfl hbb rfl (by simp only [List.forall_mem_cons, List.not_mem_nil, false_implies, implies_true, and_true, ne_eq]; first | done | omega | (repeat (first | with_reducible assumption | (refine And.intro ?_ ?_)))) (bs_one hse (by omega)) ?_))
    | ((with_reducible apply Sy.assign); exact rfl; exact rfl)
    | ((with_reducible apply Sy.move); exact rfl; exact rfl)
    | ((with_reducible apply Sy.lenS); exact rfl; exact Try.underlying22; exact rfl)
    | ((with_reducible apply Sy.bin (op := .lss) (t := 3)); exact rfl; exact rfl; exact rfl; exact b_lss)
    | ((with_reducible apply Sy.bin (op := .lss) (t := 3)); exact rfl; exact rfl; exact rfl; exact bz_lss)
    | ((with_reducible apply Sy.ia (t := 22)); exact rfl; exact rfl; exact rfl; exact (ia_sl Try.underlying22 sz64 (by omega)))
    | ((with_reducible apply Sy.fa (t := 64) (i := 0)); exact rfl; exact rfl; exact fa64_0 _ _)
    | ((with_reducible apply Sy.lenS); exact rfl; exact Try.underlying62; exact rfl)
    | ((with_reducible apply Sy.bin (op := .gtr) (t := 3)); exact rfl; exact rfl; exact rfl; exact b_gtr)
    | ((with_reducible apply Sy.bin (op := .gtr) (t := 3)); exact rfl; exact rfl; exact rfl; exact bz_gtr)
    | ((with_reducible apply Sy.fa (t := 64) (i := 1)); exact rfl; exact rfl; exact fa64_1 _ _)
    | ((with_reducible apply Sy.lenS); exact rfl; exact Try.underlying35; exact rfl)
    | ((with_reducible apply Sy.ia (t := 35)); exact rfl; exact rfl; exact rfl; exact (ia_sl10 Try.underlying35 sz23 (by omega)))
    | ((with_reducible apply Sy.ia (t := 35)); exact rfl; exact rfl; exact rfl; exact (ia_sl1 Try.underlying35 sz23 (by omega)))
    | ((with_reducible apply Sy.lenS); exact rfl; exact Try.underlying23; exact rfl)
    | ((with_reducible apply Sy.bin (op := .add) (t := 3)); exact rfl; exact rfl; exact rfl; exact (b_add (by omega)))
    | ((with_reducible apply Sy.bin (op := .add) (t := 3)); exact rfl; exact rfl; exact rfl; exact (bz_add (by omega) (by omega)))
    | ((with_reducible apply Sy.ia (t := 62)); exact rfl; exact rfl; exact rfl; exact (ia_sl Try.underlying62 sz66 (by omega)))
    | ((with_reducible apply Sy.fa (t := 66) (i := 5)); exact rfl; exact rfl; exact fa66_5 _ _)
    | (with_reducible refine Sy.skip ?_)
    | (with_reducible refine Sy.ret ?_)
    | (with_reducible refine Sy.block ?_)
    | (with_reducible refine Sy.aret ?_)
    | (with_reducible refine Sy.inrm ?_)
    | (with_reducible refine Sy.iret ?_)
    | (with_reducible refine Sy.rret ?_)
    | ((with_reducible apply Sy.ite); (case hx => exact rfl); all_goals (intro hc; try (exfalso; omega))))
        · exact .fin [_] (.inr rfl) ⟨rfl, trivial⟩ fun H' hp => ⟨true, by simp, rfl, hp⟩
        · refine Sy.rnrm (k + 1) ⟨by omega, fun j x hj hx => ?_⟩ (by show bs.length - (k + 1) < bs.length - k; omega) ⟨rfl, rfl, rfl, trivial⟩ (fun H1 h => h)
          by_cases e : j = k
          · subst e; rw [hse] at hx; obtain rfl := Option.some.inj hx; dsimp only; omega
          · exact hSk j x (by omega) hx
      · obtain rfl : k = bs.length := by omega
        repeat' (first
    | (with_reducible refine Sy.seq ?_)
    | (with_reducible refine Sy.regionL ?_)
    | (with_reducible refine Sy.opsnil ?_)
    | (with_reducible refine Sy.go ?_)
    | (with_reducible refine Sy.nrm ?_)
    | ((with_reducible refine Sy.ld0 (t := 35) rfl rfl hb1 rfl (by simp only [List.forall_mem_cons, List.not_mem_nil, false_implies, implies_true, and_true, ne_eq]; first | done | omega | (repeat (first | with_reducible assumption | (refine And.intro ?_ ?_)))) (ks_bvR hxe (by omega)) ?_))
    | ((with_reducible apply Sy.assign); exact rfl; exact rfl)
    | ((with_reducible apply Sy.move); exact rfl; exact rfl)
    | ((with_reducible apply Sy.lenS); exact rfl; exact Try.underlying22; exact rfl)
    | ((with_reducible apply Sy.bin (op := .lss) (t := 3)); exact rfl; exact rfl; exact rfl; exact b_lss)
    | ((with_reducible apply Sy.bin (op := .lss) (t := 3)); exact rfl; exact rfl; exact rfl; exact bz_lss)
    | ((with_reducible apply Sy.ia (t := 22)); exact rfl; exact rfl; exact rfl; exact (ia_sl Try.underlying22 sz64 (by omega)))
    | ((with_reducible apply Sy.fa (t := 64) (i := 0)); exact rfl; exact rfl; exact fa64_0 _ _)
    | ((with_reducible apply Sy.lenS); exact rfl; exact Try.underlying62; exact rfl)
    | ((with_reducible apply Sy.fa (t := 64) (i := 1)); exact rfl; exact rfl; exact fa64_1 _ _)
    | ((with_reducible apply Sy.lenS); exact rfl; exact Try.underlying35; exact rfl)
    | ((with_reducible apply Sy.ia (t := 35)); exact rfl; exact rfl; exact rfl; exact (ia_sl10 Try.underlying35 sz23 (by omega)))
    | ((with_reducible apply Sy.ia (t := 35)); exact rfl; exact rfl; exact rfl; exact (ia_sl1 Try.underlying35 sz23 (by omega)))
    | ((with_reducible apply Sy.lenS); exact rfl; exact Try.underlying23; exact rfl)
    | ((with_reducible apply Sy.ia (t := 62)); exact rfl; exact rfl; exact rfl; exact (ia_sl Try.underlying62 sz66 (by omega)))
    | ((with_reducible apply Sy.fa (t := 66) (i := 5)); exact rfl; exact rfl; exact fa66_5 _ _)
    | (with_reducible refine Sy.exit ?_)
    | (with_reducible refine Sy.block ?_)
    | (with_reducible refine Sy.aex ?_)
    | ((with_reducible apply Sy.iex); exact rfl)
    | (with_reducible refine Sy.rex ?_)
    | ((with_reducible apply Sy.ite); (case hx => exact rfl); all_goals (intro hc; try (exfalso; omega))))
        refine Sy.loop (ι := Nat) (fun k => ms.length - k) (fun k => [(0, .slice (some ⟨b1, 0, none⟩) xs.length c1), (3, .int .i64 (i : Nat)), (5, .int .i64 (k : Nat))]) (fun _ => []) (fun _ => []) (fun k => k ≤ ms.length ∧ ∀ j x, j < k → ms[j]? = some x → x.1.d.length ≤ 1000) 0 ⟨Nat.zero_le _, fun j x hj => by omega⟩ ⟨rfl, rfl, rfl, trivial⟩ (fun H h => h) ?_
        rintro k ⟨hk, hTk⟩
        by_cases hkl : k < ms.length
        · obtain ⟨⟨m, sv⟩, hse⟩ : ∃ y, ms[k]? = some y := ⟨ms[k], List.getElem?_eq_getElem hkl⟩
          obtain ⟨-, hsv, hll⟩ := hms _ (List.mem_of_getElem? hse)
          obtain ⟨bm, wm, rfl, hbm⟩ := hm1.resolve_left (by omega)
          dsimp only at hsv hll
          obtain ⟨sa, sc, rfl⟩ := hsv.form
          clear hms hm1 hbs hbr h1
          repeat' (first
    | (with_reducible refine Sy.seq ?_)
    | (with_reducible refine Sy.regionL ?_)
    | (with_reducible refine Sy.opsnil ?_)
    | (with_reducible refine Sy.go ?_)
    | (with_reducible refine Sy.nrm ?_)
    | ((with_reducible refine Sy.ld0 (t := 62) rfl rfl hb1 rfl (by simp only [List.forall_mem_cons, List.not_mem_nil, false_implies, implies_true, and_true, ne_eq]; first | done | omega | (repeat (first | with_reducible assumption | (refine And.intro ?_ ?_)))) (ks_mvR hxe (by omega)) ?_))
    | ((with_reducible refine Sy.ld0 (t := 23) rfl rfl hbm rfl (by simp only [List.forall_mem_cons, List.not_mem_nil, false_implies, implies_true, and_true, ne_eq]; first | done | omega | (repeat (first | with_reducible assumption | (refine And.intro ?_ ?_)))) (ms_d hse (by omega)) ?_))
    | ((with_reducible apply Sy.assign); exact rfl; exact rfl)
    | ((with_reducible apply Sy.move); exact rfl; exact rfl)
    | ((with_reducible apply Sy.lenS); exact rfl; exact Try.underlying22; exact rfl)
    | ((with_reducible apply Sy.bin (op := .lss) (t := 3)); exact rfl; exact rfl; exact rfl; exact b_lss)
    | ((with_reducible apply Sy.bin (op := .lss) (t := 3)); exact rfl; exact rfl; exact rfl; exact bz_lss)
    | ((with_reducible apply Sy.ia (t := 22)); exact rfl; exact rfl; exact rfl; exact (ia_sl Try.underlying22 sz64 (by omega)))
    | ((with_reducible apply Sy.fa (t := 64) (i := 0)); exact rfl; exact rfl; exact fa64_0 _ _)
    | ((with_reducible apply Sy.lenS); exact rfl; exact Try.underlying62; exact rfl)
    | ((with_reducible apply Sy.bin (op := .gtr) (t := 3)); exact rfl; exact rfl; exact rfl; exact b_gtr)
    | ((with_reducible apply Sy.bin (op := .gtr) (t := 3)); exact rfl; exact rfl; exact rfl; exact bz_gtr)
    | ((with_reducible apply Sy.fa (t := 64) (i := 1)); exact rfl; exact rfl; exact fa64_1 _ _)
    | ((with_reducible apply Sy.lenS); exact rfl; exact Try.underlying35; exact rfl)
    | ((with_reducible apply Sy.ia (t := 35)); exact rfl; exact rfl; exact rfl; exact (ia_sl10 Try.underlying35 sz23 (by omega)))
    | ((with_reducible apply Sy.ia (t := 35)); exact rfl; exact rfl; exact rfl; exact (ia_sl1 Try.underlying35 sz23 (by omega)))
    | ((with_reducible apply Sy.lenS); exact rfl; exact Try.underlying23; exact rfl)
    | ((with_reducible apply Sy.bin (op := .add) (t := 3)); exact rfl; exact rfl; exact rfl; exact (b_add (by omega)))
    | ((with_reducible apply Sy.bin (op := .add) (t := 3)); exact rfl; exact rfl; exact rfl; exact (bz_add (by omega) (by omega)))
    | ((with_reducible apply Sy.ia (t := 62)); exact rfl; exact rfl; exact rfl; exact (ia_sl Try.underlying62 sz66 (by omega)))
    | ((with_reducible apply Sy.fa (t := 66) (i := 5)); exact rfl; exact rfl; exact fa66_5 _ _)
    | (with_reducible refine Sy.skip ?_)
    | (with_reducible refine Sy.ret ?_)
    | (with_reducible refine Sy.block ?_)
    | (with_reducible refine Sy.aret ?_)
    | (with_reducible refine Sy.inrm ?_)
    | (with_reducible refine Sy.iret ?_)
    | (with_reducible refine Sy.rret ?_)
    | ((with_reducible apply Sy.ite); (case hx => exact rfl); all_goals (intro hc; try (exfalso; omega))))
          · exact .fin [_] (.inr rfl) ⟨rfl, trivial⟩ fun H' hp => ⟨true, by simp, rfl, hp⟩
          · refine Sy.rnrm (k + 1) ⟨by omega, fun j x hj hx => ?_⟩ (by show ms.length - (k + 1) < ms.length - k; omega) ⟨rfl, rfl, rfl, trivial⟩ (fun H1 h => h)
            by_cases e : j = k
            · subst e; rw [hse] at hx; obtain rfl := Option.some.inj hx; dsimp only; omega
            · exact hTk j x (by omega) hx
        · obtain rfl : k = ms.length := by omega
          repeat' (first
    | (with_reducible refine Sy.seq ?_)
    | (with_reducible refine Sy.regionL ?_)
    | (with_reducible refine Sy.opsnil ?_)
    | (with_reducible refine Sy.go ?_)
    | (with_reducible refine Sy.nrm ?_)
    | ((with_reducible refine Sy.ld0 (t := 62) rfl rfl hb1 rfl (by simp only [List.forall_mem_cons, List.not_mem_nil, false_implies, implies_true, and_true, ne_eq]; first | done | omega | (repeat (first | with_reducible assumption | (refine And.intro ?_ ?_)))) (ks_mvR hxe (by omega)) ?_))
    | ((with_reducible apply Sy.assign); exact rfl; exact rfl)
    | ((with_reducible apply Sy.move); exact rfl; exact rfl)
    | ((with_reducible apply Sy.lenS); exact rfl; exact Try.underlying22; exact rfl)
    | ((with_reducible apply Sy.bin (op := .lss) (t := 3)); exact rfl; exact rfl; exact rfl; exact b_lss)
    | ((with_reducible apply Sy.bin (op := .lss) (t := 3)); exact rfl; exact rfl; exact rfl; exact bz_lss)
    | ((with_reducible apply Sy.ia (t := 22)); exact rfl; exact rfl; exact rfl; exact (ia_sl Try.underlying22 sz64 (by omega)))
    | ((with_reducible apply Sy.fa (t := 64) (i := 0)); exact rfl; exact rfl; exact fa64_0 _ _)
    | ((with_reducible apply Sy.lenS); exact rfl; exact Try.underlying62; exact rfl)
    | ((with_reducible apply Sy.fa (t := 64) (i := 1)); exact rfl; exact rfl; exact fa64_1 _ _)
    | ((with_reducible apply Sy.lenS); exact rfl; exact Try.underlying35; exact rfl)
    | ((with_reducible apply Sy.ia (t := 35)); exact rfl; exact rfl; exact rfl; exact (ia_sl10 Try.underlying35 sz23 (by omega)))
    | ((with_reducible apply Sy.ia (t := 35)); exact rfl; exact rfl; exact rfl; exact (ia_sl1 Try.underlying35 sz23 (by omega)))
    | ((with_reducible apply Sy.lenS); exact rfl; exact Try.underlying23; exact rfl)
    | ((with_reducible apply Sy.bin (op := .add) (t := 3)); exact rfl; exact rfl; exact rfl; exact (b_add (by omega)))
    | ((with_reducible apply Sy.bin (op := .add) (t := 3)); exact rfl; exact rfl; exact rfl; exact (bz_add (by omega) (by omega)))
    | ((with_reducible apply Sy.ia (t := 62)); exact rfl; exact rfl; exact rfl; exact (ia_sl Try.underlying62 sz66 (by omega)))
    | ((with_reducible apply Sy.fa (t := 66) (i := 5)); exact rfl; exact rfl; exact fa66_5 _ _)
    | (with_reducible refine Sy.exit ?_)
    | (with_reducible refine Sy.aex ?_)
    | (with_reducible refine Sy.inrm ?_)
    | ((with_reducible apply Sy.iex); exact rfl)
    | (with_reducible refine Sy.rex ?_)
    | ((with_reducible apply Sy.ite); (case hx => exact rfl); all_goals (intro hc; try (exfalso; omega))))
          refine Sy.rnrm (i + 1) ⟨by omega, fun j x hj hx => ?_⟩ (by show xs.length - (i + 1) < xs.length - i; omega) ⟨rfl, rfl, trivial⟩ (fun H1 h => h)
          by_cases e : j = i
          · subst e; rw [hxe] at hx; obtain rfl := Option.some.inj hx
            refine ⟨by dsimp only; omega, by dsimp only; omega, fun e he => ?_, fun e he => ?_⟩
            · obtain ⟨q, hq⟩ := List.getElem?_of_mem he
              exact hSk q e (List.getElem?_eq_some_iff.1 hq).1 hq
            · obtain ⟨q, hq⟩ := List.getElem?_of_mem he
              exact hTk q e (List.getElem?_eq_some_iff.1 hq).1 hq
          · exact hS j x (by omega) hx
    · repeat' (first
    | (with_reducible refine Sy.seq ?_)
    | (with_reducible refine Sy.regionL ?_)
    | (with_reducible refine Sy.opsnil ?_)
    | (with_reducible refine Sy.go ?_)
    | (with_reducible refine Sy.nrm ?_)
    | ((with_reducible apply Sy.assign); exact rfl; exact rfl)
    | ((with_reducible apply Sy.move); exact rfl; exact rfl)
    | ((with_reducible apply Sy.lenS); exact rfl; exact Try.underlying22; exact rfl)
    | ((with_reducible apply Sy.bin (op := .lss) (t := 3)); exact rfl; exact rfl; exact rfl; exact b_lss)
    | ((with_reducible apply Sy.bin (op := .lss) (t := 3)); exact rfl; exact rfl; exact rfl; exact bz_lss)
    | ((with_reducible apply Sy.pickT); exact rfl; exact rfl; exact rfl)
    | ((with_reducible apply Sy.lenS); exact rfl; exact Try.underlying62; exact rfl)
    | ((with_reducible apply Sy.bin (op := .gtr) (t := 3)); exact rfl; exact rfl; exact rfl; exact b_gtr)
    | ((with_reducible apply Sy.bin (op := .gtr) (t := 3)); exact rfl; exact rfl; exact rfl; exact bz_gtr)
    | ((with_reducible apply Sy.lenS); exact rfl; exact Try.underlying35; exact rfl)
    | ((with_reducible apply Sy.lenS); exact rfl; exact Try.underlying23; exact rfl)
    | (with_reducible refine Sy.exit ?_)
    | (with_reducible refine Sy.ret ?_)
    | (with_reducible refine Sy.aex ?_)
    | ((with_reducible apply Sy.iex); exact rfl)
    | (with_reducible refine Sy.rex ?_)
    | ((with_reducible apply Sy.goG); exact rfl; exact rfl; exact rfl)
    | ((with_reducible apply Sy.caseG); (case hj => exact rfl); (case hx => exact rfl); all_goals (intro hc; try (exfalso; omega)))
    | ((with_reducible apply Sy.ite); (case hx => exact rfl); all_goals (intro hc; try (exfalso; omega))))
      exact .fin [_] (.inr rfl) ⟨rfl, trivial⟩ fun H' hp => ⟨_, fun hB => by have := of_decide_eq_false hB; omega, rfl, hp⟩
  · obtain rfl : i = xs.length := by omega
    repeat' (first
    | (with_reducible refine Sy.seq ?_)
    | (with_reducible refine Sy.regionL ?_)
    | (with_reducible refine Sy.opsnil ?_)
    | (with_reducible refine Sy.go ?_)
    | (with_reducible refine Sy.nrm ?_)
    | ((with_reducible apply Sy.assign); exact rfl; exact rfl)
    | ((with_reducible apply Sy.move); exact rfl; exact rfl)
    | ((with_reducible apply Sy.lenS); exact rfl; exact Try.underlying22; exact rfl)
    | ((with_reducible apply Sy.bin (op := .lss) (t := 3)); exact rfl; exact rfl; exact rfl; exact b_lss)
    | ((with_reducible apply Sy.bin (op := .lss) (t := 3)); exact rfl; exact rfl; exact rfl; exact bz_lss)
    | ((with_reducible apply Sy.pickF); exact rfl; exact rfl; exact rfl)
    | ((with_reducible apply Sy.lenS); exact rfl; exact Try.underlying62; exact rfl)
    | ((with_reducible apply Sy.bin (op := .gtr) (t := 3)); exact rfl; exact rfl; exact rfl; exact b_gtr)
    | ((with_reducible apply Sy.bin (op := .gtr) (t := 3)); exact rfl; exact rfl; exact rfl; exact bz_gtr)
    | ((with_reducible apply Sy.lenS); exact rfl; exact Try.underlying35; exact rfl)
    | ((with_reducible apply Sy.lenS); exact rfl; exact Try.underlying23; exact rfl)
    | (with_reducible refine Sy.exit ?_)
    | (with_reducible refine Sy.ret ?_)
    | (with_reducible refine Sy.aex ?_)
    | ((with_reducible apply Sy.iex); exact rfl)
    | (with_reducible refine Sy.rex ?_)
    | ((with_reducible apply Sy.no); exact rfl)
    | ((with_reducible apply Sy.noG); exact rfl; exact rfl; exact rfl; exact rfl; exact rfl)
    | ((with_reducible apply Sy.caseG); (case hj => exact rfl); (case hx => exact rfl); all_goals (intro hc; try (exfalso; omega))))
    exact .fin [_] (.inr rfl) ⟨rfl, trivial⟩ fun H' hp => ⟨_, fun hB => ⟨by have := of_decide_eq_false hB; omega, fun x hx => by
      obtain ⟨j, hj⟩ := List.getElem?_of_mem hx
      exact hS j x (List.getElem?_eq_some_iff.1 hj).1 hj⟩, rfl, hp⟩
end Go.Proofs.Ytcaafoibabijgaa

/- Layer 14: what must come. -/
namespace Go.Proofs.Ytcaafoibabijgaa
open Go Go.Am
set_option maxRecDepth 100000
set_option linter.unusedVariables false

def knT : Txn := ⟨1, 1, 0, 2, zeroW, 0, []⟩
def knM : Msg := ⟨0, 0, 5, zeroW, 0, []⟩
theorem knT_ok : knT.ok := ⟨by decide, by decide, by decide, by decide, by decide, by simp [knT]⟩
theorem knM_ok : knM.ok := ⟨by decide, by decide, by decide, by decide, by simp [knM]⟩
theorem knT_right : rightBB [knT] = true := by simp [rightBB, rightTB, knT]
theorem bvK1 : buildV Try.prog 59 [(0, .int .i64 ((1 : Nat) : Int)), (1, .int .u64 ((1 : Nat) : Int)), (3, .int .u64 ((2 : Nat) : Int))] = some (txV knT (.slice none 0 0)) := bv59 rfl
theorem getB_1 : getB [1] = ((0, []), 21) := by
  rcases getB_bad [1] with h | h
  · exact h
  · have := (can_B (l := [1]) (by simp) h).1
    have h2 := congrArg List.length this
    rw [batB_eq] at h2
    simp at h2
    omega
/-- The blocks of the test. -/
def knL1 (B : List Nat) : List Blk := [⟨[knM], []⟩, ⟨[], [[1], B]⟩]
theorem knB {B : List Nat} (hB : getB B = ((1, [knT]), 0)) : batchD (knL1 B) 1 1 = ((1, [knT]), 2, 1) := by
  simp [batchD, knL1, rightD, laterD, orB, scanL, scanB, getB_1, hB]
theorem knI {B : List Nat} (hB : getB B = ((1, [knT]), 0)) : inputsD (knL1 B) 1 1 = ([depI knM, txI knT], 0) := by
  have h := knB hB
  unfold inputsD
  rw [h]
  simp [rightD, knownD, knL1]
theorem k_Find (xs : List Kel) (n w : Nat) (v : Value) (B : (Nat × List Txn) × Nat × Nat) (H : AHeap) (hB : batchD (xs.map Kel.p) (n : Int) (w : Int) = B) (h : KsQ (knH H) 57 38 v xs) (hn : 1 ≤ n ∧ n ≤ xs.length) (hw : 1 ≤ w ∧ w ≤ 64) (hx : xs.length ≤ 1000) (hb : ∀ x ∈ xs, x.bs.length ≤ 1000) :
    CallR Try.prog noPrims 13 [v, .int .i64 ((n : Nat) : Int), .int .i64 ((w : Nat) : Int)] H (fun u H' => u = .tuple ⟨[.int .i64 ((B.2.1 : Nat) : Int), .int .i64 ((B.2.2 : Nat) : Int), .bool (decide (0 < B.2.1))]⟩ ∧ Hp H 0 0 H' [] []) := by
  have hh := h
  obtain ⟨⟨a1, c1, rfl, -⟩, -⟩ := h
  refine CallR.sy (n := 21) Try.func13 rfl rfl rfl ?_
  repeat' (first
    | (with_reducible refine Sy.seq ?_)
    | (with_reducible refine Sy.regionL ?_)
    | (with_reducible refine Sy.opsnil ?_)
    | (with_reducible refine Sy.go ?_)
    | (with_reducible refine Sy.nrm ?_)
    | ((with_reducible apply Sy.assign); exact rfl; exact rfl)
    | ((with_reducible apply Sy.move); exact rfl; exact rfl)
    | ((with_reducible apply Sy.ext); exact rfl; exact rfl; exact rfl)
    | ((with_reducible apply Sy.bin (op := .gtr) (t := 3)); exact rfl; exact rfl; exact rfl; exact b_gtr)
    | ((with_reducible apply Sy.bin (op := .gtr) (t := 3)); exact rfl; exact rfl; exact rfl; exact bz_gtr)
    | ((with_reducible apply Sy.callN (k := 28)); exact rfl; exact rfl; exact en28; exact rfl; (intro H' hp; exact k_batch xs n w _ B H' hB (hh.mono (kn_of hp)) hn hw hx hb); rintro ⟨e5, v5, L5⟩ ⟨hk5, hT5, h15, hc5⟩)
    | (with_reducible refine Sy.ret ?_))
  exact .fin [_, _, _] (.inr rfl) ⟨rfl, rfl, rfl, trivial⟩ fun H' hp => ⟨rfl, hp.less (List.nil_sublist _)⟩
def knX (q17 q19 q21 k3 : Nat) (a3 : Option Addr) (B : List Nat) : List Kel := [⟨[(knM, .slice none 0 0)], .slice (some ⟨q17, 0, none⟩) 1 1, [], .slice none 0 0⟩, ⟨[], .slice none 0 0, [([1], .slice (some ⟨q19, 0, none⟩) 1 1), (B, .slice a3 B.length k3)], .slice (some ⟨q21, 0, none⟩) 2 2⟩]
theorem knK {q17 q19 q21 q23 k3 : Nat} {a3 : Option Addr} {B : List Nat} {H : AHeap} (h23 : H.get q23 = .cells [.slice (some ⟨q17, 0, none⟩) 1 1, .slice none 0 0, .slice none 0 0, .slice (some ⟨q21, 0, none⟩) 2 2] 38 true) (h17 : H.get q17 = .cells (msgC knM (.slice none 0 0)) 57 true) (h21 : H.get q21 = .cells [.slice (some ⟨q19, 0, none⟩) 1 1, .slice a3 B.length k3] 23 true) (h19 : H.get q19 = .cells [.int .u8 ((1 : Nat) : Int)] 5 true) (hb : SlQ (knH H) (.slice a3 B.length k3) B) (h256 : ∀ x ∈ B, x < 256) (hn : B.length ≤ 65536) :
    KsQ (knH H) 57 38 (.slice (some ⟨q23, 0, none⟩) 2 2) (knX q17 q19 q21 k3 a3 B) := by
  refine ⟨⟨_, _, rfl, .inr ⟨q23, true, rfl, h23⟩⟩, fun x hx => ?_⟩
  simp only [knX, List.mem_cons, List.not_mem_nil, or_false] at hx
  rcases hx with rfl | rfl
  · refine ⟨⟨⟨_, _, rfl, .inr ⟨q17, true, rfl, h17⟩⟩, fun e he => ?_⟩, ⟨⟨_, _, rfl, .inl rfl⟩, by simp⟩⟩
    rw [List.mem_singleton] at he
    subst he
    exact ⟨knM_ok, ⟨none, 0, rfl, .inl ⟨rfl, fun _ => rfl, by simp⟩⟩, by simp [knM]⟩
  · refine ⟨⟨⟨_, _, rfl, .inl rfl⟩, by simp⟩, ⟨⟨_, _, rfl, .inr ⟨q21, true, rfl, h21⟩⟩, fun e he => ?_⟩⟩
    simp only [List.mem_cons, List.not_mem_nil, or_false] at he
    rcases he with rfl | rfl
    · exact ⟨by simp, ⟨_, _, rfl, .inr ⟨q19, 0, _, _, _, rfl, h19, by simp, rfl⟩⟩, by simp⟩
    · exact ⟨h256, hb, by dsimp only; omega⟩
theorem k_num14 (z : Int) (H : AHeap) : CallR Try.prog noPrims 12 [.int .i64 z] H (fun u H' => u = .int .i64 z ∧ Hp H 0 0 H' [] []) := by
  refine CallR.sy (n := 4) Try.func12 rfl rfl rfl ?_
  repeat' (first
    | (with_reducible refine Sy.seq ?_)
    | (with_reducible refine Sy.regionL ?_)
    | (with_reducible refine Sy.opsnil ?_)
    | (with_reducible refine Sy.go ?_)
    | (with_reducible refine Sy.nrm ?_)
    | ((with_reducible apply Sy.assign); exact rfl; exact rfl)
    | ((with_reducible apply Sy.move); exact rfl; exact rfl)
    | (with_reducible refine Sy.ret ?_))
  exact .fin [_] (.inr rfl) ⟨rfl, trivial⟩ fun H' hp => ⟨rfl, hp⟩
set_option maxHeartbeats 4000000 in
theorem c_knows14 (H : AHeap) : CallR Try.prog noPrims 9 [] H (fun u H' => u = .bool true ∧ Hp H 0 0 H' [] []) := by
  obtain ⟨P, hP⟩ : ∃ P, putB 1 [knT] = P := ⟨_, rfl⟩
  have hPe : P = (batB 1 [knT], 0) := by rw [← hP, putB, if_pos knT_right]
  have hto : ∀ m ∈ [knT], m.ok := fun m hm => by rw [List.mem_singleton] at hm; rw [hm]; exact knT_ok
  have hG : getB (batB 1 [knT]) = ((1, [knT]), 0) := by
    have := get_bat (ep := 1) (r := []) (by omega) hto knT_right
    rwa [List.append_nil, if_pos rfl] at this
  have hB256 := batB_lt (ep := 1) hto
  have hBn := batB_n (ep := 1) knT_right
  generalize batB 1 [knT] = B at hPe hG hB256 hBn
  subst hPe
  refine CallR.sy (n := 83) Try.func9 rfl rfl rfl ?_
  repeat' (first
    | (with_reducible refine Sy.seq ?_)
    | (with_reducible refine Sy.regionL ?_)
    | (with_reducible refine Sy.opsnil ?_)
    | (with_reducible refine Sy.go ?_)
    | (with_reducible refine Sy.nrm ?_)
    | ((with_reducible refine Sy.build (t := 59) rfl rfl bvK1 ?_))
    | ((with_reducible refine Sy.build (t := 78) rfl rfl (bvBa2 (ep := 1) rfl) ?_))
    | ((with_reducible apply Sy.assign); exact rfl; exact rfl)
    | ((with_reducible apply Sy.build (t := 59)); exact rfl; exact rfl; (· exact (bv59 (by first | rfl))))
    | ((with_reducible apply Sy.build (t := 78)); exact rfl; exact rfl; (· exact (bv78 (by first | rfl))))
    | ((with_reducible apply Sy.move); exact rfl; exact rfl)
    | ((with_reducible apply Sy.ext); exact rfl; exact rfl; exact rfl)
    | ((with_reducible apply Sy.build (t := 57)); exact rfl; exact rfl; (· exact (bv57 (by first | rfl))))
    | ((with_reducible apply Sy.build (t := 38)); exact rfl; exact rfl; (· exact (bv38 (by first | rfl))))
    | ((with_reducible apply Sy.callN (k := 25)); exact rfl; exact rfl; exact en25; exact rfl; (intro H' hp; exact k_PutBatch 1 [(knT, .slice none 0 0)] _ (B, 0) H' hP ⟨⟨_, _, rfl, .inr ⟨_, _, rfl, hp.getN (Has.here)⟩⟩, fun e he => by rw [List.mem_singleton] at he; subst he; exact ⟨knT_ok, .nil, by simp [knT]⟩⟩ (by simp) (by omega)); rintro ⟨c3, a3, k3⟩ h3)
    | ((with_reducible apply Sy.newY (o := ⟨some 11, .buildSlice 76 _ _, _, _, _, _⟩)); exact rfl; exact rfl; (· exact (nba1 Try.underlying76 sz59 zr59 rfl (by decide) rfl (by first | exact rfl))); intro q11)
    | ((with_reducible apply Sy.newY (o := ⟨some 11, .buildSlice 76 _ _, _, _, _, _⟩)); exact rfl; exact rfl; (· exact (newY_bs Try.underlying76 sz59 zr59 rfl (by decide) rfl (by first | rfl))); intro q11)
    | ((with_reducible apply Sy.newY (o := ⟨some 17, .buildSlice 36 _ _, _, _, _, _⟩)); exact rfl; exact rfl; (· exact (nba1 Try.underlying36 sz57 zr57 rfl (by decide) rfl (by first | exact rfl))); intro q17)
    | ((with_reducible apply Sy.newY (o := ⟨some 17, .buildSlice 36 _ _, _, _, _, _⟩)); exact rfl; exact rfl; (· exact (newY_bs Try.underlying36 sz57 zr57 rfl (by decide) rfl (by first | rfl))); intro q17)
    | ((with_reducible apply Sy.newY (o := ⟨some 19, .buildSlice 23 _ _, _, _, _, _⟩)); exact rfl; exact rfl; exact (nbsI [_] Try.underlying23 sz5 zr5 rfl (by decide) rfl rfl); intro q19)
    | ((with_reducible apply Sy.newY (o := ⟨some 19, .buildSlice 23 _ _, _, _, _, _⟩)); exact rfl; exact rfl; exact (nbs1 Try.underlying23 sz5 zr5 rfl (by decide) rfl rfl); intro q19)
    | ((with_reducible apply Sy.newY (o := ⟨some 19, .buildSlice 23 _ _, _, _, _, _⟩)); exact rfl; exact rfl; (· exact (newY_bs Try.underlying23 sz5 zr5 rfl (by decide) rfl (by first | rfl))); intro q19)
    | ((with_reducible apply Sy.newY (o := ⟨some 21, .buildSlice 35 _ _, _, _, _, _⟩)); exact rfl; exact rfl; exact (nbs2 Try.underlying35 sz23 zr23 rfl (by decide) rfl rfl rfl); intro q21)
    | ((with_reducible apply Sy.newY (o := ⟨some 21, .buildSlice 35 _ _, _, _, _, _⟩)); exact rfl; exact rfl; (· exact (newY_bs Try.underlying35 sz23 zr23 rfl (by decide) rfl (by first | rfl))); intro q21)
    | ((with_reducible apply Sy.newY (o := ⟨some 23, .buildSlice 30 _ _, _, _, _, _⟩)); exact rfl; exact rfl; (· exact (newY_bs Try.underlying30 sz38 zr38 rfl (by decide) rfl (by first | rfl))); intro q23))
  dsimp only at h3 ⊢
  have hpx : (knX q17 q19 q21 k3 a3 B).map Kel.p = knL1 B := rfl
  have hI := knI hG
  have hF := knB hG
  rw [← hpx] at hI hF
  repeat' (first
    | (with_reducible refine Sy.seq ?_)
    | (with_reducible refine Sy.regionL ?_)
    | (with_reducible refine Sy.opsnil ?_)
    | (with_reducible refine Sy.go ?_)
    | (with_reducible refine Sy.nrm ?_)
    | ((with_reducible apply Sy.assign); exact rfl; exact rfl)
    | ((with_reducible apply Sy.move); exact rfl; exact rfl)
    | ((with_reducible apply Sy.ext); exact rfl; exact rfl; exact rfl)
    | ((with_reducible apply Sy.callN (k := 10)); exact rfl; exact rfl; exact en10; exact rfl; (intro H' hp; exact k_InputsQ (knX q17 q19 q21 k3 a3 B) 1 1 _ _ H' hI (knK (hp.getN hasT) (hp.getN hasT) (hp.getN hasT) (hp.getN hasT) ((SlQ.vw (T := 5) (w := true) (L := bufM B c3) h3 fun x => bufM_has' x).mono (kn_new hp (fun x o h => by repeat (first | exact Has.front h | apply Has.there)))) hB256 hBn) (by simp [knX]) (by simp [knX])); rintro ⟨ex, ax, cx, Lx⟩ ⟨hkx, hqx⟩))
  dsimp only at hkx hqx ⊢
  obtain ⟨e1, e2, rfl, h1, h2⟩ : ∃ e1 e2 : Iel, ex = [e1, e2] ∧ e1.x = depI knM ∧ e2.x = txI knT := by
    match ex, hkx with
    | [], h => simp at h
    | [a], h => simp at h
    | [a, b], h => exact ⟨a, b, rfl, by simpa using h⟩
    | a :: b :: c :: r, h => simp at h
  obtain ⟨x1, v11, v12⟩ := e1
  obtain ⟨x2, v21, v22⟩ := e2
  dsimp only at h1 h2
  subst h1 h2
  obtain ⟨⟨ay, cy, hay, hr⟩, -⟩ := hqx
  obtain ⟨rfl, -, rfl⟩ := Value.slice.inj hay
  obtain ⟨bx, wx, rfl, hbx⟩ := hr.resolve_left (by simp)
  rw [show ([⟨depI knM, v11, v12⟩, ⟨txI knT, v21, v22⟩] : List Iel).length = 2 from rfl]
  repeat' (first
    | (with_reducible refine Sy.seq ?_)
    | (with_reducible refine Sy.regionL ?_)
    | (with_reducible refine Sy.opsnil ?_)
    | (with_reducible refine Sy.go ?_)
    | (with_reducible refine Sy.nrm ?_)
    | ((with_reducible apply Sy.ldN (t := 4)); exact rfl; exact rfl; (repeat (first | exact Has.front hbx)); exact ld_one ag4 rfl)
    | ((with_reducible apply Sy.ldN (t := 53)); exact rfl; exact rfl; (repeat (first | exact Has.front hbx)); exact ld_one ag53 rfl)
    | ((with_reducible apply Sy.assign); exact rfl; exact rfl)
    | ((with_reducible apply Sy.move); exact rfl; exact rfl)
    | ((with_reducible apply Sy.ext); exact rfl; exact rfl; exact rfl)
    | ((with_reducible apply Sy.bin (op := .add) (t := 3)); exact rfl; exact rfl; exact rfl; exact (b_add (by omega)))
    | ((with_reducible apply Sy.bin (op := .add) (t := 3)); exact rfl; exact rfl; exact rfl; exact (bz_add (by omega) (by omega)))
    | ((with_reducible apply Sy.bin (op := .eql) (t := 3)); exact rfl; exact rfl; exact rfl; exact b_eql)
    | ((with_reducible apply Sy.bin (op := .eql) (t := 3)); exact rfl; exact rfl; exact rfl; exact bz_eql)
    | ((with_reducible apply Sy.lenS); exact rfl; exact Try.underlying26; exact rfl)
    | ((with_reducible apply Sy.pickT); exact rfl; exact rfl; exact rfl)
    | ((with_reducible apply Sy.ia (t := 26)); exact rfl; exact rfl; exact rfl; exact (ia_sl Try.underlying26 sz61 (by omega)))
    | ((with_reducible apply Sy.fa (t := 61) (i := 0)); exact rfl; exact rfl; exact fa61_0 _ _)
    | ((with_reducible apply Sy.fa (t := 61) (i := 2)); exact rfl; exact rfl; exact fa61_2 _ _)
    | ((with_reducible apply Sy.fa (t := 57) (i := 2)); exact rfl; exact rfl; exact fa57_2 _ _)
    | ((with_reducible apply Sy.bin (op := .eql) (t := 53)); exact rfl; exact rfl; exact rfl; exact b_eql)
    | ((with_reducible apply Sy.bin (op := .eql) (t := 53)); exact rfl; exact rfl; exact rfl; exact bz_eql)
    | ((with_reducible apply Sy.fa (t := 61) (i := 3)); exact rfl; exact rfl; exact fa61_3 _ _)
    | ((with_reducible apply Sy.fa (t := 59) (i := 3)); exact rfl; exact rfl; exact fa59_3 _ _)
    | ((with_reducible apply Sy.call0 (k := 13)); exact rfl; exact rfl; exact en13; exact rfl; (intro H' hp; exact k_Find (knX q17 q19 q21 k3 a3 B) 1 1 _ ((1, [knT]), 2, 1) H' hF (knK (hp.getN hasT) (hp.getN hasT) (hp.getN hasT) (hp.getN hasT) ((SlQ.vw (T := 5) (w := true) (L := bufM B c3) h3 fun x => bufM_has' x).mono (kn_new hp (fun x o h => by repeat (first | exact Has.front h | apply Has.there | apply Has.app)))) hB256 hBn) (by simp [knX]) (by simp) (by simp [knX]) (by simp [knX])))
    | ((with_reducible apply Sy.call0 (k := 12)); exact rfl; exact rfl; exact en12; exact rfl; (intro H' hp; exact k_num14 _ H'))
    | ((with_reducible apply Sy.call0 (k := 17)); exact rfl; exact rfl; exact en17; exact rfl; (intro H' hp; exact c_Known ((2 : Nat) : Int) ((1 : Nat) : Int) ((1 : Nat) : Int) H' rfl (by simp)))
    | (with_reducible refine Sy.ret ?_)
    | ((with_reducible apply Sy.goG); exact rfl; exact rfl; exact rfl))
  exact .fin [_] (.inr rfl) ⟨rfl, trivial⟩ fun H' hp => ⟨rfl, hp.less (List.nil_sublist _)⟩
end Go.Proofs.Ytcaafoibabijgaa
