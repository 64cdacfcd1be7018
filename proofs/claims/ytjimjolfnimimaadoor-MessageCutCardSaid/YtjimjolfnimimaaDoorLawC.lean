/- The laws: what is written is read back, bytes that are cut. -/
import Derived.Test.YtjimjolfnimimaaDoorBatC
import Derived.Test.YtjimjolfnimimaaDoorInpA
set_option linter.unusedSimpArgs false
set_option linter.unusedVariables false
/- Layer 09: MessageBack. -/
namespace Go.Proofs.YtjimjolfnimimaaDoor
open Go Go.Am
set_option maxRecDepth 100000
set_option linter.unusedVariables false

/-- A branch behind which only what is old is kept. -/
theorem Sy.condS {P : Program} {pr : Prims} {f n : Nat} {H0 : AHeap} {lo hi : Nat} {E : Env} {Mo Mn : Hm} {x : Operand} {a : Code} {c : Bool} {K : AS → Prop} {Q : AEx → AS → Prop} (E' : Env) (hx : ev E x = some (.bool c)) (he : Sub E E')
    (h1 : c = true → Sy n H0 lo hi E Mo Mn (CodeY P pr f a (andThen (meetQ n H0 lo hi (fun _ : Unit => E') (fun _ => Mo) (fun _ => []) (fun _ => True)) Q)))
    (k : Sy n H0 lo hi E' Mo [] K) : Sy n H0 lo hi E Mo Mn (CodeY P pr f (.cond x a .skip) (andThen K Q)) := by
  have key : ∀ e s', andThen (meetQ n H0 lo hi (fun _ : Unit => E') (fun _ => Mo) (fun _ => []) (fun _ => True)) Q e s' → andThen K Q e s' := fun e s' he => by
    cases e with
    | normal => obtain ⟨_, _, x, y, z⟩ := he; exact k s'.tm s'.H x y z
    | exit id => exact he
    | goto l => exact he
    | ret => exact he
  cases c with
  | true => exact Sy.yes hx ((h1 rfl).imp fun s hs => ⟨hs.run.mono key⟩)
  | false => exact Sy.no hx (Sy.skip (Sy.nrm (Sy.keep E' he (Sy.less [] (List.nil_sublist _) k))))
theorem eqNF {a b : Nat} (h : a ≠ b) : binV Tryd.prog .eql 3 (.int .i64 ((a : Nat) : Int)) (.int .i64 ((b : Nat) : Int)) = some (.bool false) := by rw [b_eql, decide_eq_false h]
theorem neNS {n : Nat} : binV Tryd.prog .neq 3 (.int .i64 ((n : Nat) : Int)) (.int .i64 ((n : Nat) : Int)) = some (.bool false) := by rw [b_neq, decide_eq_false (by simp)]
theorem neuS {n : Nat} : binV Tryd.prog .neq 22 (.int .u64 ((n : Nat) : Int)) (.int .u64 ((n : Nat) : Int)) = some (.bool false) := by rw [b_neq, decide_eq_false (by simp)]
theorem neSS {x : ByteArray} : binV Tryd.prog .neq 9 (.string x) (.string x) = some (.bool false) := by
  simp [binV, eqV]
theorem putI_0 {x : Inp} {P : List Nat × Nat} (hP : putI x = P) (h : P.2 = 0) : rightIB x = true ∧ P = (inpB x, 0) := by
  by_cases hr : rightIB x = true
  · exact ⟨hr, by rw [← hP, putI, if_pos hr]⟩
  · rw [← hP, putI, if_neg hr] at h; simp at h
theorem putB_0 {ep : Nat} {ts : List Txn} {P : List Nat × Nat} (hP : putB ep ts = P) (h : P.2 = 0) : rightBB ts = true ∧ P = (batB ep ts, 0) := by
  by_cases hr : rightBB ts = true
  · exact ⟨hr, by rw [← hP, putB, if_pos hr]⟩
  · rw [← hP, putB, if_neg hr] at h; simp at h
theorem inpB_le {x : Inp} (hr : rightIB x = true) : (inpB x).length ≤ 1000 := by
  unfold inpB
  split
  · rename_i hb
    have h : rightMB x.m = true := by simp [rightIB, hb] at hr; exact hr.1
    have := (rightMB_d h).2
    simp [msgB_length]; omega
  · rename_i hb
    have h : rightTB x.t = true := by simp [rightIB, hb] at hr; exact hr.2.2
    have := (rightTB_k h).2.2.1
    simp [txB_length]; omega
set_option maxHeartbeats 8000000 in
theorem c_MessageBack (x : Inp) (a a' : Option Addr) (c c' ep : Nat) (es : List Tel) (l : List Nat) (v1 v : Value) (H : AHeap) (g : Gl H) (ho : x.ok) (hm1 : SlR H 1 (.slice a x.m.d.length c) x.m.d.length (ints .u8 x.m.d)) (hm2 : SlR H 1 (.slice a' x.t.d.length c') x.t.d.length (ints .u8 x.t.d)) (hep : ep < 18446744073709551616) (h1 : TxsAt 66 H v1 es) (hv : SlR H 1 v l.length (ints .u8 l)) (h256 : ∀ x ∈ l, x < 256) (hn : es.length < 9223372036854775808) (hl1 : x.m.d.length < 9223372036854775808) (hl2 : x.t.d.length < 9223372036854775808) (hl3 : l.length < 9223372036854775808) :
    CallR Tryd.prog noPrims 8 [inV x (.slice a x.m.d.length c) (.slice a' x.t.d.length c'), .int .u64 ((ep : Nat) : Int), v1, v] H (fun u H' => u = .bool true) := by
  obtain ⟨va, vk, rfl⟩ := slr_form hv
  have h1' := h1
  obtain ⟨⟨a1, c1, rfl, -⟩, hss⟩ := h1
  have hoo : ∀ e ∈ es, e.1.ok ∧ e.1.d.length ≤ 140737488355328 := fun e he => ⟨(hss e he).1, (hss e he).2.2⟩
  refine CallR.sy (n := 175) Tryd.func8 rfl rfl rfl ?_
  repeat' (first
    | (with_reducible refine Sy.seq ?_)
    | (with_reducible refine Sy.regionL ?_)
    | (with_reducible refine Sy.opsnil ?_)
    | (with_reducible refine Sy.go ?_)
    | (with_reducible refine Sy.nrm ?_)
    | ((with_reducible refine Sy.ldN (t := 25) rfl rfl (by repeat (first | exact Has.here | apply Has.there | apply Has.app)) ld_imd ?_))
    | ((with_reducible refine Sy.ldN (t := 25) rfl rfl (by repeat (first | exact Has.here | apply Has.there | apply Has.app)) ld_itd ?_))
    | ((with_reducible apply Sy.assign); exact rfl; exact rfl)
    | ((with_reducible apply Sy.fa (t := 83) (i := 2)); exact rfl; exact rfl; exact fa83_2 _ _)
    | ((with_reducible apply Sy.fa (t := 27) (i := 5)); exact rfl; exact rfl; exact fa27_5 _ _)
    | ((with_reducible apply Sy.ldN (t := 25)); exact rfl; exact rfl; exact hasT; (· first | exact ld_one ag25 rfl | with_reducible assumption | exact ld_one ag25 (by with_reducible assumption) | exact ld_one ag25 (by simp [List.drop_append, List.take_append, List.getElem?_append, lay, hC_length, ints_length, ints_drop, ints_take, ints_append, List.drop_of_length_le, List.take_of_length_le, List.map_append, List.set_append, Value.cells]; done)))
    | ((with_reducible apply Sy.lenS); exact rfl; exact Tryd.underlying25; exact rfl)
    | ((with_reducible apply Sy.bin (op := .gtr) (t := 3)); exact rfl; exact rfl; exact rfl; exact b_gtr)
    | ((with_reducible apply Sy.bin (op := .gtr) (t := 3)); exact rfl; exact rfl; exact rfl; exact bz_gtr)
    | ((with_reducible apply Sy.move); exact rfl; exact rfl)
    | ((with_reducible apply Sy.fa (t := 83) (i := 3)); exact rfl; exact rfl; exact fa83_3 _ _)
    | ((with_reducible apply Sy.fa (t := 66) (i := 6)); exact rfl; exact rfl; exact fa66_6 _ _)
    | ((with_reducible apply Sy.pickT); exact rfl; exact rfl; exact rfl)
    | ((with_reducible apply Sy.pickF); exact rfl; exact rfl; exact rfl)
    | ((with_reducible apply Sy.lenS); exact rfl; exact Tryd.underlying64; exact rfl)
    | ((with_reducible apply Sy.ldN (t := 83)); exact rfl; exact rfl; exact hasT; (· first | exact ld_all ag83 (by first | (simp [sz83, *]; done))))
    | ((with_reducible apply Sy.ldN (t := 87)); exact rfl; exact rfl; exact hasT; (· first | exact ld_all ag87 (by first | (simp [sz87, *]; done))))
    | ((with_reducible apply Sy.fa (t := 71) (i := 0)); exact rfl; exact rfl; exact fa71_0 _ _)
    | ((with_reducible apply Sy.ldN (t := 22)); exact rfl; exact rfl; exact hasT; (· first | ((with_reducible refine ld_hash ag22 ?_); omega) | ((with_reducible refine ld_int ag22 ?_); first | omega | (simp; done) | (simp; omega)) | exact ld_one ag22 rfl | with_reducible assumption | exact ld_one ag22 (by with_reducible assumption) | exact ld_one ag22 (by simp [List.drop_append, List.take_append, List.getElem?_append, lay, hC_length, ints_length, ints_drop, ints_take, ints_append, List.drop_of_length_le, List.take_of_length_le, List.map_append, List.set_append, Value.cells]; done)))
    | ((with_reducible apply Sy.fa (t := 71) (i := 1)); exact rfl; exact rfl; exact fa71_1 _ _)
    | ((with_reducible apply Sy.ldN (t := 68)); exact rfl; exact rfl; exact hasT; (· first | exact ld_one ag68 rfl | with_reducible assumption | exact ld_one ag68 (by with_reducible assumption) | exact ld_one ag68 (by simp [List.drop_append, List.take_append, List.getElem?_append, lay, hC_length, ints_length, ints_drop, ints_take, ints_append, List.drop_of_length_le, List.take_of_length_le, List.map_append, List.set_append, Value.cells]; done)))
    | ((with_reducible apply Sy.ldN (t := 30)); exact rfl; exact rfl; exact hasT; (· first | exact ld_all ag30 (by first | (simp [sz30, *]; done))))
    | ((with_reducible apply Sy.ldN (t := 71)); exact rfl; exact rfl; exact hasT; (· first | exact ld_all ag71 (by first | (simp [sz71, *]; done))))
    | ((with_reducible apply Sy.call0 (k := 9)); exact rfl; exact rfl; exact en9; exact rfl; (intro H' hp; exact c_knows9 H' (g.of hp (List.forall_mem_nil _))))
    | ((with_reducible apply Sy.newY (o := ⟨some 4, .box 83 _, _, _, _, _⟩)); exact rfl; exact rfl; exact nbA rfl; intro q4)
    | (with_reducible refine Sy.skip ?_)
    | (with_reducible refine Sy.ret ?_)
    | (with_reducible refine Sy.aret ?_)
    | ((with_reducible apply Sy.yes); exact rfl)
    | ((with_reducible apply Sy.goG); exact rfl; exact rfl; exact rfl)
    | ((with_reducible apply Sy.noG); exact rfl; exact rfl; exact rfl; exact rfl; exact rfl)
    | ((with_reducible apply Sy.caseG); (case hj => exact rfl); (case hx => exact rfl); all_goals (intro hc; try (exfalso; omega)))
    | ((with_reducible apply Sy.ite); (case hx => exact rfl); all_goals (intro hc; try (exfalso; omega))))
  · exact .fin [_] (.inr rfl) ⟨rfl, trivial⟩ fun H' hp => rfl
  · exact .fin [_] (.inr rfl) ⟨rfl, trivial⟩ fun H' hp => rfl
  · exact .fin [_] (.inr rfl) ⟨rfl, trivial⟩ fun H' hp => rfl
  · exact .fin [_] (.inr rfl) ⟨rfl, trivial⟩ fun H' hp => rfl
  obtain ⟨P, hP⟩ : ∃ P, putI x = P := ⟨_, rfl⟩
  repeat' (first
    | (with_reducible refine Sy.seq ?_)
    | (with_reducible refine Sy.regionL ?_)
    | (with_reducible refine Sy.opsnil ?_)
    | (with_reducible refine Sy.go ?_)
    | (with_reducible refine Sy.nrm ?_)
    | ((with_reducible apply Sy.assign); exact rfl; exact rfl)
    | ((with_reducible apply Sy.move); exact rfl; exact rfl)
    | ((with_reducible apply Sy.ext); exact rfl; exact rfl; exact rfl)
    | ((with_reducible apply Sy.callN (k := 39)); exact rfl; exact rfl; exact en39; exact rfl; (intro H' hp; exact k_lOwn x a a' c c' H' ho (hm1.of hp) (hm2.of hp) (by omega) (by omega)); rintro ⟨⟨b2, c2⟩, b3, c3⟩ -)
    | ((with_reducible apply Sy.callN (k := 38)); exact rfl; exact rfl; exact en38; exact rfl; (intro H' hp; exact k_PutInput x (some ⟨b2, 0, none⟩) (some ⟨b3, 0, none⟩) c2 c3 P H' hP ho (full_slr hp (b := b2) (T := 5) (w := true) hasT) (full_slr hp (b := b3) (T := 5) (w := true) hasT) (by omega) (by omega)); rintro ⟨c4, a4, k4⟩ h4))
  dsimp only at h4 ⊢
  repeat' (first
    | (with_reducible refine Sy.opsnil ?_)
    | (with_reducible refine Sy.go ?_)
    | (with_reducible refine Sy.nrm ?_)
    | ((with_reducible apply Sy.bin (op := .eql) (t := 3)); exact rfl; exact rfl; exact rfl; exact b_eql)
    | ((with_reducible apply Sy.bin (op := .eql) (t := 3)); exact rfl; exact rfl; exact rfl; exact bz_eql)
    | ((with_reducible apply Sy.call0 (k := 20)); exact rfl; exact rfl; exact en20; exact rfl; (intro H' hp; exact k_lNum _ H')))
  refine Sy.condS [(1, .int .u64 ((ep : Nat) : Int)), (2, .slice a1 es.length c1), (3, .slice va l.length vk)] rfl ⟨rfl, rfl, rfl, trivial⟩ (fun hc => ?_) ?_
  · obtain ⟨hr, hPe⟩ := putI_0 hP (of_decide_eq_true hc)
    clear hc
    have hG : getI (inpB x) = (x, 0) := get_inp ho hr
    have hB256 := inpB_lt ho
    have hBn := inpB_le hr
    generalize inpB x = B at hPe hG hB256 hBn
    subst hPe
    clear hP hr
    dsimp only at h4 ⊢
    repeat' (first
    | (with_reducible refine Sy.seq ?_)
    | (with_reducible refine Sy.regionL ?_)
    | (with_reducible refine Sy.opsnil ?_)
    | (with_reducible refine Sy.go ?_)
    | (with_reducible refine Sy.nrm ?_)
    | ((with_reducible apply Sy.assign); exact rfl; exact rfl)
    | ((with_reducible apply Sy.move); exact rfl; exact rfl)
    | ((with_reducible apply Sy.ext); exact rfl; exact rfl; exact rfl)
    | ((with_reducible apply Sy.stNa (t := 87)); exact rfl; exact rfl; exact sz87; (· first | (simp; done)); (· first | (simp [oneL_append, oneL_cons, oneL_nil, hC_one, oneL_ints]; done)); exact turnT; (· first | (simp; done)); (· first | exact lay_all (by first | (simp; done))))
    | ((with_reducible apply Sy.stNa (t := 71)); exact rfl; exact rfl; exact sz71; (· first | (simp; done)); (· first | (simp [oneL_append, oneL_cons, oneL_nil, hC_one, oneL_ints]; done)); exact turnT; (· first | (simp; done)); (· first | exact lay_all (by first | (simp; done))))
    | ((with_reducible apply Sy.stNa (t := 30)); exact rfl; exact rfl; exact sz30; (· first | (simp; done)); (· first | (simp [oneL_append, oneL_cons, oneL_nil, hC_one, oneL_ints]; done)); exact turnT; (· first | (simp; done)); (· first | exact lay_all (by first | (simp; done))))
    | ((with_reducible apply Sy.callN (k := 40)); exact rfl; exact rfl; exact en40; exact rfl; (intro H' hp; exact k_GetInput _ B (x, 0) H' hG (h4.slr' (fun hx => hp.getN (by repeat (first | exact bufM_has hx)))) hB256 (by omega)); rintro ⟨c5, ⟨a5, k5⟩, a6, k6⟩ ⟨h5, h6⟩)
    | ((with_reducible apply Sy.newY (o := ⟨some 11, .alloc 87, _, _, _, _⟩)); exact rfl; exact rfl; exact nwz87; intro q11)
    | ((with_reducible apply Sy.newY (o := ⟨some 14, .alloc 71, _, _, _, _⟩)); exact rfl; exact rfl; exact nwz71; intro q14)
    | ((with_reducible apply Sy.newY (o := ⟨some 16, .alloc 30, _, _, _, _⟩)); exact rfl; exact rfl; exact nwz30; intro q16)
    | ((with_reducible apply Sy.newY (o := ⟨some 20, .alloc 71, _, _, _, _⟩)); exact rfl; exact rfl; exact nwz71; intro q20)
    | ((with_reducible apply Sy.newY (o := ⟨some 23, .alloc 87, _, _, _, _⟩)); exact rfl; exact rfl; exact nwz87; intro q23)
    | ((with_reducible apply Sy.drawL (id := 6) 10 [(6, 5)] (fun hi h => h < hi)); (case hp => kernel_rfl); (case hN => exact rfl); intro base hbase hM; try simp only [List.forall_mem_cons, List.forall_mem_append, List.not_mem_nil, false_implies, implies_true, and_true] at hM)
    | ((with_reducible apply Sy.dgo); (· first | exact wantY_none); (· intro hcls; cases hcls); exact rfl; exact rfl))
    dsimp only at h5 h6 ⊢
    repeat' (first
    | (with_reducible refine Sy.nrm ?_)
    | ((with_reducible refine Sy.ldN (t := 87) rfl rfl (by repeat (first | exact Has.here | apply Has.there | apply Has.app)) ld_iall ?_))
    | ((with_reducible refine Sy.ldN (t := 83) rfl rfl (by repeat (first | exact Has.here | apply Has.there | apply Has.app)) ld_riall ?_))
    | ((with_reducible refine Sy.bin (op := .neq) (t := 3) rfl rfl rfl neNS ?_))
    | ((with_reducible apply Sy.move); exact rfl; exact rfl)
    | ((with_reducible apply Sy.pickF); exact rfl; exact rfl; exact rfl)
    | ((with_reducible apply Sy.un (op := .not)); exact rfl; exact rfl; exact un_notT)
    | ((with_reducible apply Sy.un (op := .not)); exact rfl; exact rfl; exact un_notF)
    | ((with_reducible apply Sy.un (op := .not)); exact rfl; exact rfl; exact un_notD)
    | ((with_reducible apply Sy.un (op := .not)); exact rfl; exact rfl; exact un_not)
    | ((with_reducible apply Sy.call0 (k := 20)); exact rfl; exact rfl; exact en20; exact rfl; (intro H' hp; exact k_lNum _ H'))
    | ((with_reducible apply Sy.dcall0 (k := 20)); (first | exact wantY_some rfl rfl rfl); exact rfl; (intro h hh; first | exact hh); exact rfl; exact rfl; exact rfl; exact en20; exact rfl; (intro H' hp; exact k_lNum _ H'))
    | ((with_reducible apply Sy.dcall (k := 42)); (first | exact wantY_some rfl rfl rfl); exact rfl; (intro h hh; first | exact hh); exact rfl; exact rfl; exact rfl; exact en42; exact rfl; (intro H' hp; exact k_lRef x a5 a6 k5 k6 H' ho (h5.slr' (fun hx => hp.getN (by repeat (first | exact bufM_has hx | apply Has.there)))) (h6.slr' (fun hx => hp.getN (by repeat (first | exact bufM_has hx | apply Has.there)))) (by omega) (by omega)); rintro ⟨⟨b7, c7⟩, b8, c8⟩ -)
    | ((with_reducible apply Sy.call0 (k := 41)); exact rfl; exact rfl; exact en41; exact rfl; (intro H' hp; exact k_SameI x (some ⟨b7, 0, none⟩) (some ⟨b8, 0, none⟩) a a' c7 c8 c c' H' ho (full_slr hp (b := b7) (T := 5) (w := true) hasT) (full_slr hp (b := b8) (T := 5) (w := true) hasT) (hm1.of hp) (hm2.of hp)))
    | ((with_reducible apply Sy.dcall0 (k := 41)); (first | exact wantY_some rfl rfl rfl); exact rfl; (intro h hh; first | exact hh); exact rfl; exact rfl; exact rfl; exact en41; exact rfl; (intro H' hp; exact k_SameI x (some ⟨b7, 0, none⟩) (some ⟨b8, 0, none⟩) a a' c7 c8 c c' H' ho (full_slr hp (b := b7) (T := 5) (w := true) hasT) (full_slr hp (b := b8) (T := 5) (w := true) hasT) (hm1.of hp) (hm2.of hp)))
    | (with_reducible refine Sy.skip ?_)
    | ((with_reducible apply Sy.no); exact rfl)
    | (with_reducible refine Sy.dend ?_)
    | ((with_reducible apply Sy.dgo); (· first | exact wantY_none | exact wantY_some rfl rfl rfl); (· intro hcls; cases hcls); exact rfl; exact rfl)
    | ((with_reducible apply Sy.dld); (· first | exact wantY_some rfl rfl rfl); exact rfl; (· first | omega); exact rfl))
    exact Sy.met () trivial ⟨rfl, rfl, rfl, trivial⟩ (fun H h => h.less (List.nil_sublist _))
  clear hP h4
  obtain ⟨P2, hP2⟩ : ∃ P2, putB ep (tsOf es) = P2 := ⟨_, rfl⟩
  repeat' (first
    | (with_reducible refine Sy.seq ?_)
    | (with_reducible refine Sy.regionL ?_)
    | (with_reducible refine Sy.go ?_)
    | ((with_reducible apply Sy.move); exact rfl; exact rfl)
    | ((with_reducible apply Sy.callN (k := 33)); exact rfl; exact rfl; exact en33; exact rfl; (intro H' hp; exact k_lTxs es _ H' (h1'.of hp) (by omega) (fun e he => (hss e he).2.2)); rintro ⟨ea, bo, L⟩ ⟨hk, hL⟩))
  dsimp only at hk hL ⊢
  rw [List.append_assoc]
  have hao := ok_of hk hoo
  have hal : ea.length = es.length := by have := congrArg List.length hk; simpa using this
  have hP2' : putB ep (tsOf ea) = P2 := by rw [hk]; exact hP2
  repeat' (first
    | (with_reducible refine Sy.seq ?_)
    | (with_reducible refine Sy.regionL ?_)
    | (with_reducible refine Sy.opsnil ?_)
    | (with_reducible refine Sy.go ?_)
    | (with_reducible refine Sy.nrm ?_)
    | ((with_reducible refine Sy.build (t := 71) rfl rfl (bvBa2 accV_cells) ?_))
    | ((with_reducible apply Sy.assign); exact rfl; exact rfl)
    | ((with_reducible apply Sy.move); exact rfl; exact rfl)
    | ((with_reducible apply Sy.ext); exact rfl; exact rfl; exact rfl)
    | ((with_reducible apply Sy.callN (k := 32)); exact rfl; exact rfl; exact en32; exact rfl; (intro H' hp; exact k_PutBatch ep ea _ P2 H' hP2' (hL.at' hao hp (fun hx => by repeat (first | exact accM_hasT hx | apply Has.app)) (fun x o hx => by repeat (first | exact Has.front hx | apply Has.app))) (by omega) hep); rintro ⟨c3, a3, k3⟩ h3))
  dsimp only at h3 ⊢
  repeat' (first
    | (with_reducible refine Sy.opsnil ?_)
    | (with_reducible refine Sy.go ?_)
    | (with_reducible refine Sy.nrm ?_)
    | ((with_reducible apply Sy.bin (op := .eql) (t := 3)); exact rfl; exact rfl; exact rfl; exact b_eql)
    | ((with_reducible apply Sy.bin (op := .eql) (t := 3)); exact rfl; exact rfl; exact rfl; exact bz_eql)
    | ((with_reducible apply Sy.call0 (k := 20)); exact rfl; exact rfl; exact en20; exact rfl; (intro H' hp; exact k_lNum _ H')))
  refine Sy.condS [(1, .int .u64 ((ep : Nat) : Int)), (2, .slice a1 es.length c1), (3, .slice va l.length vk)] rfl ⟨rfl, rfl, rfl, trivial⟩ (fun hc => ?_) ?_
  · obtain ⟨hr, hPe⟩ := putB_0 hP2 (of_decide_eq_true hc)
    clear hc
    have hto : ∀ m ∈ tsOf es, m.ok := fun m hm => by
      obtain ⟨e, he, rfl⟩ := List.mem_map.1 hm
      exact (hoo e he).1
    have hG : getB (batB ep (tsOf es)) = ((ep, tsOf es), 0) := by
      have := get_bat (r := []) hep hto hr
      rwa [List.append_nil, if_pos rfl] at this
    have hB256 := batB_lt (ep := ep) hto
    have hBn := batB_n (ep := ep) hr
    generalize batB ep (tsOf es) = B at hPe hG hB256 hBn
    subst hPe
    clear hP2 hP2' hr
    dsimp only at h3 ⊢
    repeat' (first
    | (with_reducible refine Sy.seq ?_)
    | (with_reducible refine Sy.regionL ?_)
    | (with_reducible refine Sy.go ?_)
    | ((with_reducible apply Sy.move); exact rfl; exact rfl)
    | ((with_reducible apply Sy.ext); exact rfl; exact rfl; exact rfl)
    | ((with_reducible apply Sy.callN (k := 35)); exact rfl; exact rfl; exact en35; exact rfl; (intro H' hp; exact k_GetBatch' _ B ((ep, tsOf es), 0) H' hG (h3.slr' (fun hx => hp.getN (by repeat (first | exact bufM_has hx)))) hB256 (by omega)); rintro ⟨e5, b5, c5⟩ ⟨hk5, hV5⟩)
    | ((with_reducible apply Sy.newY (o := ⟨some 11, .alloc 87, _, _, _, _⟩)); exact rfl; exact rfl; exact nwz87; intro q11)
    | ((with_reducible apply Sy.newY (o := ⟨some 14, .alloc 71, _, _, _, _⟩)); exact rfl; exact rfl; exact nwz71; intro q14)
    | ((with_reducible apply Sy.newY (o := ⟨some 16, .alloc 30, _, _, _, _⟩)); exact rfl; exact rfl; exact nwz30; intro q16)
    | ((with_reducible apply Sy.newY (o := ⟨some 20, .alloc 71, _, _, _, _⟩)); exact rfl; exact rfl; exact nwz71; intro q20)
    | ((with_reducible apply Sy.newY (o := ⟨some 23, .alloc 87, _, _, _, _⟩)); exact rfl; exact rfl; exact nwz87; intro q23))
    dsimp only at hk5 hV5 ⊢
    rw [List.append_assoc (accM 85 (tsC e5) e5.length b5)]
    have h5l : e5.length = es.length := by have := congrArg List.length hk5; simpa using this
    have h5d : ∀ e ∈ e5, e.1.d.length ≤ 140737488355328 := fun e he => (hV5 e he).2.2
    repeat' (first
    | (with_reducible refine Sy.seq ?_)
    | (with_reducible refine Sy.regionL ?_)
    | (with_reducible refine Sy.opsnil ?_)
    | (with_reducible refine Sy.go ?_)
    | (with_reducible refine Sy.nrm ?_)
    | ((with_reducible refine Sy.stNa (t := 71) rfl rfl sz71 (by simp) (ba_one accV_one) (by repeat (first | exact Turn.here | apply Turn.there | apply Turn.app)) (by simp) (lay_all (by simp)) ?_))
    | ((with_reducible refine Sy.ldN (t := 68) rfl rfl (by repeat (first | exact Has.here | apply Has.there | apply Has.app)) ld_bts ?_))
    | ((with_reducible refine Sy.bin (op := .neq) (t := 3) rfl rfl rfl neNS ?_))
    | ((with_reducible refine Sy.bin (op := .neq) (t := 22) rfl rfl rfl neuS ?_))
    | ((with_reducible apply Sy.assign); exact rfl; exact rfl)
    | ((with_reducible apply Sy.fa (t := 83) (i := 2)); exact rfl; exact rfl; exact fa83_2 _ _)
    | ((with_reducible apply Sy.fa (t := 27) (i := 5)); exact rfl; exact rfl; exact fa27_5 _ _)
    | ((with_reducible apply Sy.ldN (t := 25)); exact rfl; exact rfl; exact hasT; (· first | exact ld_one ag25 rfl))
    | ((with_reducible apply Sy.move); exact rfl; exact rfl)
    | ((with_reducible apply Sy.fa (t := 83) (i := 3)); exact rfl; exact rfl; exact fa83_3 _ _)
    | ((with_reducible apply Sy.fa (t := 66) (i := 6)); exact rfl; exact rfl; exact fa66_6 _ _)
    | ((with_reducible apply Sy.pickF); exact rfl; exact rfl; exact rfl)
    | ((with_reducible apply Sy.ldN (t := 83)); exact rfl; exact rfl; exact hasT; (· first | exact ld_all ag83 (by first | exact sz83 | (simp [sz83, *]; done)) | exact ld_agg ag83 sz83 (by first | (simp; done) | (simp; omega)) (by first | with_reducible exact cut_kids | rfl | (simp [List.drop_append, List.take_append, List.getElem?_append, lay, hC_length, ints_length, ints_drop, ints_take, ints_append, List.drop_of_length_le, List.take_of_length_le, List.map_append, List.set_append, Value.cells]; done))))
    | ((with_reducible apply Sy.ldN (t := 87)); exact rfl; exact rfl; exact hasT; (· first | exact ld_all ag87 (by first | exact sz87 | (simp [sz87, *]; done)) | exact ld_agg ag87 sz87 (by first | (simp; done) | (simp; omega)) (by first | with_reducible exact cut_kids | rfl | (simp [List.drop_append, List.take_append, List.getElem?_append, lay, hC_length, ints_length, ints_drop, ints_take, ints_append, List.drop_of_length_le, List.take_of_length_le, List.map_append, List.set_append, Value.cells]; done))))
    | ((with_reducible apply Sy.un (op := .not)); exact rfl; exact rfl; exact un_notT)
    | ((with_reducible apply Sy.un (op := .not)); exact rfl; exact rfl; exact un_notF)
    | ((with_reducible apply Sy.un (op := .not)); exact rfl; exact rfl; exact un_notD)
    | ((with_reducible apply Sy.un (op := .not)); exact rfl; exact rfl; exact un_not)
    | ((with_reducible apply Sy.fa (t := 71) (i := 0)); exact rfl; exact rfl; exact fa71_0 _ _)
    | ((with_reducible apply Sy.ldN (t := 22)); exact rfl; exact rfl; exact hasT; (· first | exact ld_one ag22 rfl))
    | ((with_reducible apply Sy.fa (t := 71) (i := 1)); exact rfl; exact rfl; exact fa71_1 _ _)
    | ((with_reducible apply Sy.ldN (t := 68)); exact rfl; exact rfl; exact hasT; (· first | exact ld_one ag68 rfl))
    | ((with_reducible apply Sy.ldN (t := 30)); exact rfl; exact rfl; exact hasT; (· first | exact ld_all ag30 (by first | exact sz30 | (simp [sz30, *]; done)) | exact ld_agg ag30 sz30 (by first | (simp; done) | (simp; omega)) (by first | with_reducible exact cut_kids | rfl | (simp [List.drop_append, List.take_append, List.getElem?_append, lay, hC_length, ints_length, ints_drop, ints_take, ints_append, List.drop_of_length_le, List.take_of_length_le, List.map_append, List.set_append, Value.cells]; done))))
    | ((with_reducible apply Sy.ldN (t := 71)); exact rfl; exact rfl; exact hasT; (· first | exact ld_all ag71 (by first | exact sz71 | (simp [sz71, *]; done)) | exact ld_agg ag71 sz71 (by first | (simp; done) | (simp; omega)) (by first | with_reducible exact cut_kids | rfl | (simp [List.drop_append, List.take_append, List.getElem?_append, lay, hC_length, ints_length, ints_drop, ints_take, ints_append, List.drop_of_length_le, List.take_of_length_le, List.map_append, List.set_append, Value.cells]; done))))
    | ((with_reducible apply Sy.call0 (k := 20)); exact rfl; exact rfl; exact en20; exact rfl; (intro H' hp; exact k_lNum _ H'))
    | ((with_reducible apply Sy.call0 (k := 37)); exact rfl; exact rfl; exact en37; exact rfl; (intro H' hp; exact k_sameTxs e5 es _ _ H' (hV5.at hp (fun hx => by repeat (first | exact accM_hasT hx | apply Has.there | apply Has.app)) (fun hx => by repeat (first | exact bufM_has hx | apply Has.there | apply Has.app))) (h1'.of hp) hk5 (by omega) h5d))
    | (with_reducible refine Sy.skip ?_)
    | ((with_reducible apply Sy.no); exact rfl)
    | ((with_reducible apply Sy.goG); exact rfl; exact rfl; exact rfl))
    exact Sy.met () trivial ⟨rfl, rfl, rfl, trivial⟩ (fun H h => h.less (List.nil_sublist _))
  clear hP2 hP2' hk hL hao hal h3
  obtain ⟨G, hG⟩ : ∃ G, getM l = G := ⟨_, rfl⟩
  repeat' (first
    | (with_reducible refine Sy.seq ?_)
    | (with_reducible refine Sy.regionL ?_)
    | (with_reducible refine Sy.opsnil ?_)
    | (with_reducible refine Sy.go ?_)
    | (with_reducible refine Sy.nrm ?_)
    | ((with_reducible apply Sy.assign); exact rfl; exact rfl)
    | ((with_reducible apply Sy.move); exact rfl; exact rfl)
    | ((with_reducible apply Sy.ext); exact rfl; exact rfl; exact rfl)
    | ((with_reducible apply Sy.stNa (t := 87)); exact rfl; exact rfl; exact sz87; (· first | (simp; done)); (· first | (simp [oneL_append, oneL_cons, oneL_nil, hC_one, oneL_ints]; done)); exact turnT; (· first | (simp; done)); (· first | exact lay_all (by first | (simp; done))))
    | ((with_reducible apply Sy.stNa (t := 71)); exact rfl; exact rfl; exact sz71; (· first | (simp; done)); (· first | (simp [oneL_append, oneL_cons, oneL_nil, hC_one, oneL_ints]; done)); exact turnT; (· first | (simp; done)); (· first | exact lay_all (by first | (simp; done))))
    | ((with_reducible apply Sy.stNa (t := 30)); exact rfl; exact rfl; exact sz30; (· first | (simp; done)); (· first | (simp [oneL_append, oneL_cons, oneL_nil, hC_one, oneL_ints]; done)); exact turnT; (· first | (simp; done)); (· first | exact lay_all (by first | (simp; done))))
    | ((with_reducible apply Sy.callN (k := 14)); exact rfl; exact rfl; exact en14; exact rfl; (intro H' hp; exact k_GetMessage' _ l G H' hG (hv.of hp) h256 (by omega)); rintro ⟨c5, a5, k5⟩ h5)
    | ((with_reducible apply Sy.newY (o := ⟨some 11, .alloc 87, _, _, _, _⟩)); exact rfl; exact rfl; exact nwz87; intro q11)
    | ((with_reducible apply Sy.newY (o := ⟨some 14, .alloc 71, _, _, _, _⟩)); exact rfl; exact rfl; exact nwz71; intro q14)
    | ((with_reducible apply Sy.newY (o := ⟨some 16, .alloc 30, _, _, _, _⟩)); exact rfl; exact rfl; exact nwz30; intro q16)
    | ((with_reducible apply Sy.newY (o := ⟨some 20, .alloc 71, _, _, _, _⟩)); exact rfl; exact rfl; exact nwz71; intro q20)
    | ((with_reducible apply Sy.newY (o := ⟨some 23, .alloc 87, _, _, _, _⟩)); exact rfl; exact rfl; exact nwz87; intro q23))
  dsimp only at h5 ⊢
  repeat' (first
    | (with_reducible refine Sy.opsnil ?_)
    | (with_reducible refine Sy.go ?_)
    | (with_reducible refine Sy.nrm ?_)
    | ((with_reducible apply Sy.bin (op := .eql) (t := 3)); exact rfl; exact rfl; exact rfl; exact b_eql)
    | ((with_reducible apply Sy.bin (op := .eql) (t := 3)); exact rfl; exact rfl; exact rfl; exact bz_eql)
    | ((with_reducible apply Sy.call0 (k := 20)); exact rfl; exact rfl; exact en20; exact rfl; (intro H' hp; exact k_lNum _ H')))
  refine Sy.condS [(1, .int .u64 ((ep : Nat) : Int)), (2, .slice a1 es.length c1), (3, .slice va l.length vk)] rfl ⟨rfl, rfl, rfl, trivial⟩ (fun hc => ?_) ?_
  · have hcan := can_GM h256 (by rw [hG]; exact of_decide_eq_true hc)
    rw [hG] at hcan
    obtain ⟨m, e⟩ := G
    dsimp only at hcan h5 hc ⊢
    obtain ⟨hm0, hr, hmo⟩ := hcan
    have hP3 : putM m = (l, 0) := by rw [putM, if_pos hr, ← hm0]
    have hd := (rightMB_d hr).2
    clear hm0 hr hG
    repeat' (first
    | (with_reducible refine Sy.seq ?_)
    | (with_reducible refine Sy.regionL ?_)
    | (with_reducible refine Sy.opsnil ?_)
    | (with_reducible refine Sy.go ?_)
    | (with_reducible refine Sy.nrm ?_)
    | ((with_reducible refine Sy.ldN (t := 30) rfl rfl (by repeat (first | exact Has.here | apply Has.there | apply Has.app)) ld_mall ?_))
    | ((with_reducible apply Sy.assign); exact rfl; exact rfl)
    | ((with_reducible apply Sy.move); exact rfl; exact rfl)
    | ((with_reducible apply Sy.ext); exact rfl; exact rfl; exact rfl)
    | ((with_reducible apply Sy.callN (k := 12)); exact rfl; exact rfl; exact en12; exact rfl; (intro H' hp; exact k_PutMessage' m a5 k5 (l, 0) H' hP3 hmo (h5.slr' (fun hx => hp.getN (by repeat (first | exact bufM_has hx | apply Has.there)))) (by omega)); rintro ⟨c6, a6, k6⟩ h6))
    dsimp only at h6 ⊢
    repeat' (first
    | (with_reducible refine Sy.opsnil ?_)
    | (with_reducible refine Sy.go ?_)
    | (with_reducible refine Sy.nrm ?_)
    | ((with_reducible refine Sy.bin (op := .neq) (t := 3) rfl rfl rfl neNS ?_))
    | ((with_reducible apply Sy.str); exact Tryd.underlying25; exact Tryd.underlying9; exact Tryd.underlying5; exact rfl; exact rfl; exact SrL.vw (by with_reducible assumption) (by intro x; repeat (first | exact bufM_has x)))
    | ((with_reducible refine Sy.bin (op := .neq) (t := 9) rfl rfl rfl neSS ?_))
    | ((with_reducible apply Sy.move); exact rfl; exact rfl)
    | ((with_reducible apply Sy.pickF); exact rfl; exact rfl; exact rfl)
    | ((with_reducible apply Sy.str); exact Tryd.underlying25; exact Tryd.underlying9; exact Tryd.underlying5; exact rfl; exact rfl; (· first | exact SrL.of0 (by assumption) rfl))
    | ((with_reducible apply Sy.call0 (k := 20)); exact rfl; exact rfl; exact en20; exact rfl; (intro H' hp; exact k_lNum _ H'))
    | (with_reducible refine Sy.skip ?_)
    | ((with_reducible apply Sy.no); exact rfl)
    | ((with_reducible apply Sy.goG); exact rfl; exact rfl; exact rfl))
    exact Sy.met () trivial ⟨rfl, rfl, rfl, trivial⟩ (fun H h => h.less (List.nil_sublist _))
  clear hG h5
  obtain ⟨G, hG⟩ : ∃ G, getB l = G := ⟨_, rfl⟩
  have hG8 := getB_ok h256
  rw [hG] at hG8
  repeat' (first
    | (with_reducible refine Sy.seq ?_)
    | (with_reducible refine Sy.regionL ?_)
    | (with_reducible refine Sy.go ?_)
    | ((with_reducible apply Sy.move); exact rfl; exact rfl)
    | ((with_reducible apply Sy.ext); exact rfl; exact rfl; exact rfl)
    | ((with_reducible apply Sy.callN (k := 35)); exact rfl; exact rfl; exact en35; exact rfl; (intro H' hp; exact k_GetBatch' _ l G H' hG (hv.of hp) h256 (by omega)); rintro ⟨e5, b5, c5⟩ ⟨hk5, hV5⟩)
    | ((with_reducible apply Sy.newY (o := ⟨some 11, .alloc 87, _, _, _, _⟩)); exact rfl; exact rfl; exact nwz87; intro q11)
    | ((with_reducible apply Sy.newY (o := ⟨some 14, .alloc 71, _, _, _, _⟩)); exact rfl; exact rfl; exact nwz71; intro q14)
    | ((with_reducible apply Sy.newY (o := ⟨some 16, .alloc 30, _, _, _, _⟩)); exact rfl; exact rfl; exact nwz30; intro q16)
    | ((with_reducible apply Sy.newY (o := ⟨some 20, .alloc 71, _, _, _, _⟩)); exact rfl; exact rfl; exact nwz71; intro q20)
    | ((with_reducible apply Sy.newY (o := ⟨some 23, .alloc 87, _, _, _, _⟩)); exact rfl; exact rfl; exact nwz87; intro q23))
  dsimp only at hk5 hV5 ⊢
  rw [List.append_assoc (accM 85 (tsC e5) e5.length b5)]
  repeat' (first
    | (with_reducible refine Sy.seq ?_)
    | (with_reducible refine Sy.regionL ?_)
    | (with_reducible refine Sy.opsnil ?_)
    | (with_reducible refine Sy.go ?_)
    | (with_reducible refine Sy.nrm ?_)
    | ((with_reducible refine Sy.stNa (t := 71) rfl rfl sz71 (by simp) (ba_one accV_one) (by repeat (first | exact Turn.here | apply Turn.there | apply Turn.app)) (by simp) (lay_all (by simp)) ?_))
    | ((with_reducible apply Sy.assign); exact rfl; exact rfl)
    | ((with_reducible apply Sy.move); exact rfl; exact rfl)
    | ((with_reducible apply Sy.bin (op := .eql) (t := 3)); exact rfl; exact rfl; exact rfl; exact b_eql)
    | ((with_reducible apply Sy.bin (op := .eql) (t := 3)); exact rfl; exact rfl; exact rfl; exact bz_eql)
    | ((with_reducible apply Sy.call0 (k := 20)); exact rfl; exact rfl; exact en20; exact rfl; (intro H' hp; exact k_lNum _ H')))
  refine Sy.condS [(1, .int .u64 ((ep : Nat) : Int)), (2, .slice a1 es.length c1), (3, .slice va l.length vk)] rfl ⟨rfl, rfl, rfl, trivial⟩ (fun hc => ?_) ?_
  · have hcan := can_B h256 (by rw [hG]; exact of_decide_eq_true hc)
    rw [hG] at hcan
    obtain ⟨⟨ep2, ts⟩, e⟩ := G
    dsimp only at hcan hk5 hc hG8 ⊢
    obtain ⟨hm0, hr, hep2⟩ := hcan
    have hP3 : putB ep2 (tsOf e5) = (l, 0) := by rw [hk5, putB, if_pos hr, ← hm0]
    have h5l : e5.length = ts.length := by have := congrArg List.length hk5; simpa using this
    clear hm0 hr hG
    repeat' (first
    | (with_reducible refine Sy.seq ?_)
    | (with_reducible refine Sy.regionL ?_)
    | (with_reducible refine Sy.opsnil ?_)
    | (with_reducible refine Sy.go ?_)
    | (with_reducible refine Sy.nrm ?_)
    | ((with_reducible refine Sy.ldN (t := 71) rfl rfl (by repeat (first | exact Has.here | apply Has.there | apply Has.app)) ld_ba ?_))
    | ((with_reducible apply Sy.assign); exact rfl; exact rfl)
    | ((with_reducible apply Sy.move); exact rfl; exact rfl)
    | ((with_reducible apply Sy.ext); exact rfl; exact rfl; exact rfl)
    | ((with_reducible apply Sy.callN (k := 32)); exact rfl; exact rfl; exact en32; exact rfl; (intro H' hp; exact k_PutBatch ep2 e5 _ (l, 0) H' hP3 (hV5.at hp (fun hx => by repeat (first | exact accM_hasT hx | apply Has.there | apply Has.app)) (fun hx => by repeat (first | exact bufM_has hx | apply Has.there | apply Has.app))) (by omega) hep2); rintro ⟨c6, a6, k6⟩ h6))
    dsimp only at h6 ⊢
    repeat' (first
    | (with_reducible refine Sy.opsnil ?_)
    | (with_reducible refine Sy.go ?_)
    | (with_reducible refine Sy.nrm ?_)
    | ((with_reducible refine Sy.bin (op := .neq) (t := 3) rfl rfl rfl neNS ?_))
    | ((with_reducible apply Sy.str); exact Tryd.underlying25; exact Tryd.underlying9; exact Tryd.underlying5; exact rfl; exact rfl; exact SrL.vw (by with_reducible assumption) (by intro x; repeat (first | exact bufM_has x)))
    | ((with_reducible refine Sy.bin (op := .neq) (t := 9) rfl rfl rfl neSS ?_))
    | ((with_reducible apply Sy.move); exact rfl; exact rfl)
    | ((with_reducible apply Sy.pickF); exact rfl; exact rfl; exact rfl)
    | ((with_reducible apply Sy.str); exact Tryd.underlying25; exact Tryd.underlying9; exact Tryd.underlying5; exact rfl; exact rfl; (· first | exact SrL.of0 (by assumption) rfl))
    | ((with_reducible apply Sy.call0 (k := 20)); exact rfl; exact rfl; exact en20; exact rfl; (intro H' hp; exact k_lNum _ H'))
    | (with_reducible refine Sy.skip ?_)
    | ((with_reducible apply Sy.no); exact rfl)
    | ((with_reducible apply Sy.goG); exact rfl; exact rfl; exact rfl))
    exact Sy.met () trivial ⟨rfl, rfl, rfl, trivial⟩ (fun H h => h.less (List.nil_sublist _))
  clear hG hk5 hV5 hG8
  obtain ⟨G, hG⟩ : ∃ G, getI l = G := ⟨_, rfl⟩
  have hGo := getI_ok h256
  rw [hG] at hGo
  repeat' (first
    | (with_reducible refine Sy.seq ?_)
    | (with_reducible refine Sy.regionL ?_)
    | (with_reducible refine Sy.opsnil ?_)
    | (with_reducible refine Sy.go ?_)
    | (with_reducible refine Sy.nrm ?_)
    | ((with_reducible apply Sy.assign); exact rfl; exact rfl)
    | ((with_reducible apply Sy.move); exact rfl; exact rfl)
    | ((with_reducible apply Sy.ext); exact rfl; exact rfl; exact rfl)
    | ((with_reducible apply Sy.stNa (t := 87)); exact rfl; exact rfl; exact sz87; (· first | (simp; done)); (· first | (simp [oneL_append, oneL_cons, oneL_nil, hC_one, oneL_ints]; done)); exact turnT; (· first | (simp; done)); (· first | exact lay_all (by first | (simp; done))))
    | ((with_reducible apply Sy.stNa (t := 71)); exact rfl; exact rfl; exact sz71; (· first | (simp; done)); (· first | (simp [oneL_append, oneL_cons, oneL_nil, hC_one, oneL_ints]; done)); exact turnT; (· first | (simp; done)); (· first | exact lay_all (by first | (simp; done))))
    | ((with_reducible apply Sy.stNa (t := 30)); exact rfl; exact rfl; exact sz30; (· first | (simp; done)); (· first | (simp [oneL_append, oneL_cons, oneL_nil, hC_one, oneL_ints]; done)); exact turnT; (· first | (simp; done)); (· first | exact lay_all (by first | (simp; done))))
    | ((with_reducible apply Sy.callN (k := 40)); exact rfl; exact rfl; exact en40; exact rfl; (intro H' hp; exact k_GetInput _ l G H' hG (hv.of hp) h256 (by omega)); rintro ⟨c5, ⟨a5, k5⟩, a6, k6⟩ ⟨h5, h6⟩)
    | ((with_reducible apply Sy.newY (o := ⟨some 11, .alloc 87, _, _, _, _⟩)); exact rfl; exact rfl; exact nwz87; intro q11)
    | ((with_reducible apply Sy.newY (o := ⟨some 14, .alloc 71, _, _, _, _⟩)); exact rfl; exact rfl; exact nwz71; intro q14)
    | ((with_reducible apply Sy.newY (o := ⟨some 16, .alloc 30, _, _, _, _⟩)); exact rfl; exact rfl; exact nwz30; intro q16)
    | ((with_reducible apply Sy.newY (o := ⟨some 20, .alloc 71, _, _, _, _⟩)); exact rfl; exact rfl; exact nwz71; intro q20)
    | ((with_reducible apply Sy.newY (o := ⟨some 23, .alloc 87, _, _, _, _⟩)); exact rfl; exact rfl; exact nwz87; intro q23))
  dsimp only at h5 h6 ⊢
  repeat' (first
    | (with_reducible refine Sy.opsnil ?_)
    | (with_reducible refine Sy.go ?_)
    | (with_reducible refine Sy.nrm ?_)
    | ((with_reducible apply Sy.bin (op := .eql) (t := 3)); exact rfl; exact rfl; exact rfl; exact b_eql)
    | ((with_reducible apply Sy.bin (op := .eql) (t := 3)); exact rfl; exact rfl; exact rfl; exact bz_eql)
    | ((with_reducible apply Sy.call0 (k := 20)); exact rfl; exact rfl; exact en20; exact rfl; (intro H' hp; exact k_lNum _ H')))
  refine Sy.condS [(1, .int .u64 ((ep : Nat) : Int)), (2, .slice a1 es.length c1), (3, .slice va l.length vk)] rfl ⟨rfl, rfl, rfl, trivial⟩ (fun hc => ?_) ?_
  · have hcan := can_I h256 (by rw [hG]; exact of_decide_eq_true hc)
    rw [hG] at hcan
    obtain ⟨y, e⟩ := G
    dsimp only at hcan h5 h6 hc hGo ⊢
    obtain ⟨hm0, hr⟩ := hcan
    have hP3 : putI y = (l, 0) := by rw [putI, if_pos hr, ← hm0]
    have h5n := h5.le
    have h6n := h6.le
    clear hm0 hr hG
    repeat' (first
    | (with_reducible refine Sy.seq ?_)
    | (with_reducible refine Sy.regionL ?_)
    | (with_reducible refine Sy.opsnil ?_)
    | (with_reducible refine Sy.go ?_)
    | (with_reducible refine Sy.nrm ?_)
    | ((with_reducible refine Sy.ldN (t := 87) rfl rfl (by repeat (first | exact Has.here | apply Has.there | apply Has.app)) ld_iall ?_))
    | ((with_reducible apply Sy.assign); exact rfl; exact rfl)
    | ((with_reducible apply Sy.move); exact rfl; exact rfl)
    | ((with_reducible apply Sy.ext); exact rfl; exact rfl; exact rfl)
    | ((with_reducible apply Sy.callN (k := 38)); exact rfl; exact rfl; exact en38; exact rfl; (intro H' hp; exact k_PutInput y a5 a6 k5 k6 (l, 0) H' hP3 hGo (h5.slr' (fun hx => hp.getN (by repeat (first | exact bufM_has hx | apply Has.there)))) (h6.slr' (fun hx => hp.getN (by repeat (first | exact bufM_has hx | apply Has.there)))) (by omega) (by omega)); rintro ⟨c7, a7, k7⟩ h7))
    dsimp only at h7 ⊢
    repeat' (first
    | (with_reducible refine Sy.opsnil ?_)
    | (with_reducible refine Sy.go ?_)
    | (with_reducible refine Sy.nrm ?_)
    | ((with_reducible refine Sy.bin (op := .neq) (t := 3) rfl rfl rfl neNS ?_))
    | ((with_reducible apply Sy.str); exact Tryd.underlying25; exact Tryd.underlying9; exact Tryd.underlying5; exact rfl; exact rfl; exact SrL.vw (by with_reducible assumption) (by intro x; repeat (first | exact bufM_has x)))
    | ((with_reducible refine Sy.bin (op := .neq) (t := 9) rfl rfl rfl neSS ?_))
    | ((with_reducible apply Sy.move); exact rfl; exact rfl)
    | ((with_reducible apply Sy.pickF); exact rfl; exact rfl; exact rfl)
    | ((with_reducible apply Sy.str); exact Tryd.underlying25; exact Tryd.underlying9; exact Tryd.underlying5; exact rfl; exact rfl; (· first | exact SrL.of0 (by assumption) rfl))
    | ((with_reducible apply Sy.call0 (k := 20)); exact rfl; exact rfl; exact en20; exact rfl; (intro H' hp; exact k_lNum _ H'))
    | (with_reducible refine Sy.skip ?_)
    | ((with_reducible apply Sy.no); exact rfl)
    | ((with_reducible apply Sy.goG); exact rfl; exact rfl; exact rfl))
    exact Sy.met () trivial ⟨rfl, rfl, rfl, trivial⟩ (fun H h => h.less (List.nil_sublist _))
  repeat' (first
    | (with_reducible refine Sy.seq ?_)
    | (with_reducible refine Sy.regionL ?_)
    | (with_reducible refine Sy.opsnil ?_)
    | (with_reducible refine Sy.go ?_)
    | (with_reducible refine Sy.nrm ?_)
    | ((with_reducible apply Sy.assign); exact rfl; exact rfl)
    | ((with_reducible apply Sy.call0 (k := 9)); exact rfl; exact rfl; exact en9; exact rfl; (intro H' hp; exact c_knows9 H' (g.of hp (List.forall_mem_nil _))))
    | (with_reducible refine Sy.ret ?_))
  exact .fin [_] (.inr rfl) ⟨rfl, trivial⟩ fun H' hp => rfl
end Go.Proofs.YtjimjolfnimimaaDoor

/- Layer 09: MessageCut. -/
namespace Go.Proofs.YtjimjolfnimimaaDoor
open Go Go.Am
set_option maxRecDepth 100000
set_option linter.unusedVariables false

theorem batB_pos (ep : Nat) (ts : List Txn) : 0 < (batB ep ts).length := by rw [batB_eq]; simp; omega
theorem b_addrem {z : Int} {n w : Nat} (h : z.tmod ((n : Nat) : Int) + ((n : Nat) : Int) = ((w : Nat) : Int)) (hw : w < 2 * n) (hn : n < 4611686018427387904) : binV Tryd.prog .add 3 (.int .i64 (z.tmod ((n : Nat) : Int))) (.int .i64 ((n : Nat) : Int)) = some (.int .i64 ((w : Nat) : Int)) := by
  rw [bz_add (by omega) (by omega), h]
theorem neB {a b : Bool} (h : a = b) : binV Tryd.prog .neq 4 (.bool a) (.bool b) = some (.bool false) := by
  subst h
  cases a <;> simp [binV, eqV, kd4]
theorem getM_app {m : Msg} (ho : m.ok) (hr : rightMB m = true) (r : List Nat) : ∃ G, getM (msgB m ++ r) = G ∧ (decide (r.length = 0) = decide (G.2 = 0)) := by
  refine ⟨_, rfl, ?_⟩
  rw [get_msg ho hr]
  by_cases h : r = []
  · subst h; rfl
  · rw [if_neg h]
    have : ¬ r.length = 0 := fun x => h (List.length_eq_zero_iff.1 x)
    simp [this]
theorem getB_app {ep : Nat} {ts : List Txn} (hep : ep < 18446744073709551616) (ho : ∀ m ∈ ts, m.ok) (hr : rightBB ts = true) (r : List Nat) : ∃ G, getB (batB ep ts ++ r) = G ∧ (decide (r.length = 0) = decide (G.2 = 0)) := by
  refine ⟨_, rfl, ?_⟩
  rw [get_bat hep ho hr]
  by_cases h : r = []
  · subst h; rfl
  · rw [if_neg h]
    have : ¬ r.length = 0 := fun x => h (List.length_eq_zero_iff.1 x)
    simp [this]
theorem Vw.at0 {c : Nat} {l : List Nat} {a : Option Addr} {k : Nat} (h : Vw c l (.slice a l.length k) l) (h0 : 0 < l.length) : a = some ⟨c, 0, none⟩ := by
  rcases h with ⟨h1, rfl⟩ | ⟨o, cap, h1, h2, _⟩
  · simp at h0
  · injection h1 with h3 _ _
    obtain rfl : o = 0 := by omega
    exact h3
theorem take_slr {H : AHeap} {c k cc : Nat} {B : List Nat} {T : TypeId} {w : Bool} (h : H.get c = .cells (ints .u8 B) T w) (hk : k ≤ B.length) : SlR H 1 (.slice (some ⟨c, 0, none⟩) k cc) (B.take k).length (ints .u8 (B.take k)) := by
  rw [List.length_take, Nat.min_eq_left hk]
  exact .mk h (by simp; omega) (by rw [cut_ints, List.drop_zero])
theorem app_slr {H : AHeap} {c cc : Nat} {B l : List Nat} {T : TypeId} {w : Bool} (h : H.get c = .cells (ints .u8 (B ++ l)) T w) : SlR H 1 (.slice (some ⟨c, 0, none⟩) (B.length + l.length) cc) (B ++ l).length (ints .u8 (B ++ l)) := by
  rw [List.length_append]
  exact .mk h (by simp) (by rw [List.drop_zero, List.take_of_length_le (by simp)])
structure Hide (X : Prop) : Prop where
  out : X
theorem cutR {X G : Prop} (main : Hide X → G) (rest : X) : G := main ⟨rest⟩
set_option maxHeartbeats 8000000 in
theorem c_MessageCut (m : Msg) (a : Option Addr) (k ep : Nat) (es : List Tel) (z : Int) (l : List Nat) (v1 v : Value) (H : AHeap) (g : Gl H) (ho : m.ok) (hm : SlR H 1 (.slice a m.d.length k) m.d.length (ints .u8 m.d)) (hep : ep < 18446744073709551616) (h1 : TxsAt 66 H v1 es) (hz : -9223372036854775808 ≤ z ∧ z < 9223372036854775808) (hv : SlR H 1 v l.length (ints .u8 l)) (h256 : ∀ x ∈ l, x < 256) (hn : es.length < 9223372036854775808) (hl1 : m.d.length < 9223372036854775808) (hl2 : l.length < 9223372036854775808) :
    CallR Tryd.prog noPrims 7 [msgV m (.slice a m.d.length k), .int .u64 ((ep : Nat) : Int), v1, .int .i64 z, v] H (fun u H' => u = .bool true) := by
  obtain ⟨va, vk, rfl⟩ := slr_form hv
  have h1' := h1
  obtain ⟨⟨a1, c1, rfl, -⟩, hss⟩ := h1
  have hoo : ∀ e ∈ es, e.1.ok ∧ e.1.d.length ≤ 140737488355328 := fun e he => ⟨(hss e he).1, (hss e he).2.2⟩
  have hmg := msgC_g m (.slice a m.d.length k)
  have hmd := msgC_d m (.slice a m.d.length k)
  refine CallR.sy (n := 152) Tryd.func7 rfl rfl rfl ?_
  repeat' (first
    | (with_reducible refine Sy.seq ?_)
    | (with_reducible refine Sy.regionL ?_)
    | (with_reducible refine Sy.opsnil ?_)
    | (with_reducible refine Sy.go ?_)
    | (with_reducible refine Sy.nrm ?_)
    | ((with_reducible apply Sy.assign); exact rfl; exact rfl)
    | ((with_reducible apply Sy.move); exact rfl; exact rfl)
    | ((with_reducible apply Sy.lenS); exact rfl; exact Tryd.underlying64; exact rfl)
    | ((with_reducible apply Sy.bin (op := .gtr) (t := 3)); exact rfl; exact rfl; exact rfl; exact b_gtr)
    | ((with_reducible apply Sy.bin (op := .gtr) (t := 3)); exact rfl; exact rfl; exact rfl; exact bz_gtr)
    | ((with_reducible apply Sy.fa (t := 27) (i := 5)); exact rfl; exact rfl; exact fa27_5 _ _)
    | ((with_reducible apply Sy.ldN (t := 25)); exact rfl; exact rfl; exact hasT; (· first | exact ld_one ag25 (by with_reducible assumption)))
    | ((with_reducible apply Sy.lenS); exact rfl; exact Tryd.underlying25; exact rfl)
    | ((with_reducible apply Sy.pickT); exact rfl; exact rfl; exact rfl)
    | ((with_reducible apply Sy.pickF); exact rfl; exact rfl; exact rfl)
    | ((with_reducible apply Sy.ldN (t := 27)); exact rfl; exact rfl; exact hasT; (· first | exact ld_all ag27 (by first | (simp [sz27, *]; done))))
    | ((with_reducible apply Sy.call0 (k := 9)); exact rfl; exact rfl; exact en9; exact rfl; (intro H' hp; exact c_knows9 H' (g.of hp (List.forall_mem_nil _))))
    | ((with_reducible apply Sy.newY (o := ⟨some 5, .box 27 _, _, _, _, _⟩)); exact rfl; exact rfl; exact nbA rfl; intro q5)
    | (with_reducible refine Sy.skip ?_)
    | (with_reducible refine Sy.ret ?_)
    | (with_reducible refine Sy.aret ?_)
    | ((with_reducible apply Sy.yes); exact rfl)
    | ((with_reducible apply Sy.goG); exact rfl; exact rfl; exact rfl)
    | ((with_reducible apply Sy.noG); exact rfl; exact rfl; exact rfl; exact rfl; exact rfl)
    | ((with_reducible apply Sy.caseG); (case hj => exact rfl); (case hx => exact rfl); all_goals (intro hc; try (exfalso; omega)))
    | ((with_reducible apply Sy.ite); (case hx => exact rfl); all_goals (intro hc; try (exfalso; omega))))
  · exact .fin [_] (.inr rfl) ⟨rfl, trivial⟩ fun H' hp => rfl
  · exact .fin [_] (.inr rfl) ⟨rfl, trivial⟩ fun H' hp => rfl
  · exact .fin [_] (.inr rfl) ⟨rfl, trivial⟩ fun H' hp => rfl
  apply cutR
  · intro key
    obtain ⟨P, hP⟩ : ∃ P, putM m = P := ⟨_, rfl⟩
    repeat' (first
    | (with_reducible refine Sy.seq ?_)
    | (with_reducible refine Sy.regionL ?_)
    | (with_reducible refine Sy.opsnil ?_)
    | (with_reducible refine Sy.go ?_)
    | (with_reducible refine Sy.nrm ?_)
    | ((with_reducible apply Sy.assign); exact rfl; exact rfl)
    | ((with_reducible apply Sy.move); exact rfl; exact rfl)
    | ((with_reducible apply Sy.ext); exact rfl; exact rfl; exact rfl)
    | ((with_reducible apply Sy.callN (k := 11)); exact rfl; exact rfl; exact en11; exact rfl; (intro H' hp; exact k_lMessage m a k H' ho (hm.of hp) (by omega)); rintro ⟨b2, c2⟩ -)
    | ((with_reducible apply Sy.callN (k := 12)); exact rfl; exact rfl; exact en12; exact rfl; (intro H' hp; exact k_PutMessage' m (some ⟨b2, 0, none⟩) c2 P H' hP ho (full_slr hp (b := b2) (T := 5) (w := true) hasT) hl1); rintro ⟨c3, a3, k3⟩ h3))
    dsimp only at h3 ⊢
    by_cases hr : rightMB m = true
    · have hPe : P = (msgB m, 0) := by rw [← hP, putM, if_pos hr]
      have hcut := fun k hk => cut_msg (k := k) ho hr hk
      obtain ⟨G2, hG2, hGe⟩ := getM_app ho hr l
      have hB256 := msgB_lt ho
      have hBn : 0 < (msgB m).length ∧ (msgB m).length ≤ 200 := by rw [msgB_length]; omega
      generalize msgB m = B at hPe hcut hG2 hB256 hBn
      subst hPe
      dsimp only at h3 ⊢
      obtain rfl := h3.at0 hBn.1
      obtain ⟨w, hw1, hw2, hw3⟩ := rem_in z B.length hBn.1
      have hG1 := hcut _ hw3
      have hBne : B ≠ [] := fun x => by rw [x] at hBn; simp at hBn
      have hBl : ∀ x ∈ B ++ l, x < 256 := fun x hx => (List.mem_append.1 hx).elim (hB256 x) (h256 x)
      rw [bufM_one hBne, List.cons_append, List.nil_append]
      clear hP hr hcut
      repeat' (first
    | (with_reducible refine Sy.seq ?_)
    | (with_reducible refine Sy.regionL ?_)
    | (with_reducible refine Sy.opsnil ?_)
    | (with_reducible refine Sy.go ?_)
    | (with_reducible refine Sy.nrm ?_)
    | ((with_reducible refine Sy.bin (op := .eql) (t := 3) rfl rfl rfl eqNS ?_))
    | ((with_reducible refine Sy.bin (op := .eql) (t := 3) rfl rfl rfl (eqNF (by omega)) ?_))
    | ((with_reducible refine Sy.bin (op := .rem) (t := 3) rfl rfl rfl (bz_rem (x := z) (by omega)) ?_))
    | ((with_reducible refine Sy.bin (op := .add) (t := 3) rfl rfl rfl (b_addrem hw1 hw2 (by omega)) ?_))
    | ((with_reducible apply Sy.assign); exact rfl; exact rfl)
    | ((with_reducible apply Sy.move); exact rfl; exact rfl)
    | ((with_reducible apply Sy.lenS); exact rfl; exact Tryd.underlying64; exact rfl)
    | ((with_reducible apply Sy.lenS); exact rfl; exact Tryd.underlying25; exact rfl)
    | ((with_reducible apply Sy.pickT); exact rfl; exact rfl; exact rfl)
    | ((with_reducible apply Sy.ext); exact rfl; exact rfl; exact rfl)
    | ((with_reducible apply Sy.bin (op := .rem) (t := 3)); exact rfl; exact rfl; exact rfl; exact (b_rem (by omega)))
    | ((with_reducible apply Sy.sl (t := 25)); exact rfl; exact rfl; exact rfl; exact rfl; exact rfl; exact (sl_to Tryd.underlying25 sz5 (by omega)))
    | ((with_reducible apply Sy.sl (t := 25)); exact rfl; exact rfl; exact rfl; exact rfl; exact rfl; exact (sl_more Tryd.underlying25 sz5 (by omega) (by decide) (by decide)))
    | ((with_reducible apply Sy.stNa (t := 30)); exact rfl; exact rfl; exact sz30; (· first | exact rfl | (simp; done)); (· first | exact rfl); exact turnT; (· first | (simp; done)); (· first | exact lay_all (by first | (simp; done)) | exact rfl))
    | ((with_reducible apply Sy.appQ (t := 25) (xt := 25)); exact ap25_25 zr5 rfl; exact rfl; exact rfl; exact rfl; (· first | exact SrcY.ofR (by with_reducible assumption) rfl); (· first | exact oneL_ints _ _); (· first | omega | (simp; done)); (· first | omega | (simp; done)); (· repeat (first | exact Drop.here)); (· first | omega | (simp; done)); (· first | exact ints_append _ _ _); intro q76)
    | ((with_reducible apply Sy.appFN (t := 25) (xt := 25)); exact ap25_25 zr5 rfl; exact rfl; exact rfl; exact rfl; (· first | exact SrcY.ofNi' (by repeat (first | exact Has.here | apply Has.there | apply Has.app)) (by first | omega)); (· first | exact oneL_ints _ _ | exact rfl); (· first | omega); (· first | omega); exact hasT; (· first | omega); (· first | exact rfl); (· first | exact rfl); intro q76)
    | ((with_reducible apply Sy.appQ (t := 25) (xt := 25)); exact ap25_25 zr5 rfl; exact rfl; exact rfl; exact rfl; (· first | exact SrcY.ofR (by with_reducible assumption) rfl); (· first | exact oneL_ints _ _); (· first | omega | (simp; done)); (· first | omega | (simp; done)); (· repeat (first | exact Drop.here)); (· first | omega | (simp; done)); (· first | exact ints_append _ _ _); intro q78)
    | ((with_reducible apply Sy.appFN (t := 25) (xt := 25)); exact ap25_25 zr5 rfl; exact rfl; exact rfl; exact rfl; (· first | exact SrcY.ofNi' (by repeat (first | exact Has.here | apply Has.there | apply Has.app)) (by first | omega)); (· first | exact oneL_ints _ _ | exact rfl); (· first | omega); (· first | omega); exact hasT; (· first | omega); (· first | exact rfl); (· first | exact rfl); intro q78)
    | ((with_reducible apply Sy.stNa (t := 71)); exact rfl; exact rfl; exact sz71; (· first | exact rfl | (simp; done)); (· first | exact rfl); exact turnT; (· first | (simp; done)); (· first | exact lay_all (by first | (simp; done)) | exact rfl))
    | ((with_reducible apply Sy.appQ (t := 25) (xt := 25)); exact ap25_25 zr5 rfl; exact rfl; exact rfl; exact rfl; (· first | exact SrcY.ofR (by with_reducible assumption) rfl); (· first | exact oneL_ints _ _); (· first | omega | (simp; done)); (· first | omega | (simp; done)); (· repeat (first | exact Drop.here)); (· first | omega | (simp; done)); (· first | exact ints_append _ _ _); intro q133)
    | ((with_reducible apply Sy.appFN (t := 25) (xt := 25)); exact ap25_25 zr5 rfl; exact rfl; exact rfl; exact rfl; (· first | exact SrcY.ofNi' (by repeat (first | exact Has.here | apply Has.there | apply Has.app)) (by first | omega)); (· first | exact oneL_ints _ _ | exact rfl); (· first | omega); (· first | omega); exact hasT; (· first | omega); (· first | exact rfl); (· first | exact rfl); intro q133)
    | ((with_reducible apply Sy.appQ (t := 25) (xt := 25)); exact ap25_25 zr5 rfl; exact rfl; exact rfl; exact rfl; (· first | exact SrcY.ofR (by with_reducible assumption) rfl); (· first | exact oneL_ints _ _); (· first | omega | (simp; done)); (· first | omega | (simp; done)); (· repeat (first | exact Drop.here)); (· first | omega | (simp; done)); (· first | exact ints_append _ _ _); intro q135)
    | ((with_reducible apply Sy.appFN (t := 25) (xt := 25)); exact ap25_25 zr5 rfl; exact rfl; exact rfl; exact rfl; (· first | exact SrcY.ofNi' (by repeat (first | exact Has.here | apply Has.there | apply Has.app)) (by first | omega)); (· first | exact oneL_ints _ _ | exact rfl); (· first | omega); (· first | omega); exact hasT; (· first | omega); (· first | exact rfl); (· first | exact rfl); intro q135)
    | ((with_reducible apply Sy.call0 (k := 20)); exact rfl; exact rfl; exact en20; exact rfl; (intro H' hp; exact k_lNum _ H'))
    | ((with_reducible apply Sy.callN (k := 14)); exact rfl; exact rfl; exact en14; exact rfl; (intro H' hp; exact k_GetMessage' _ (B.take (w % B.length)) (zeroM, 21) H' hG1 (take_slr (hp.getN hasT) (by omega)) (fun x hx => hB256 x (List.mem_of_mem_take hx)) (by rw [List.length_take]; omega)); rintro ⟨c5, a5, k5⟩ h5)
    | ((with_reducible apply Sy.newY (o := ⟨some 14, .alloc 30, _, _, _, _⟩)); exact rfl; exact rfl; exact nwz30; intro q14)
    | ((with_reducible apply Sy.newY (o := ⟨some 74, .buildSlice 25 _ _, _, _, _, _⟩)); exact rfl; exact rfl; exact (nbs0 Tryd.underlying25 sz5 zr5 rfl (by decide) rfl); intro q74)
    | ((with_reducible apply Sy.newY (o := ⟨some 74, .buildSlice 25 _ _, _, _, _, _⟩)); exact rfl; exact rfl; (· exact (newY_bs Tryd.underlying25 sz5 zr5 rfl (by decide) rfl (by first | rfl | (simp [List.drop_append, List.take_append, List.getElem?_append, lay, hC_length, ints_length, ints_drop, ints_take, ints_append, List.drop_of_length_le, List.take_of_length_le, List.map_append, List.set_append, Value.cells]; done)))); intro q74)
    | ((with_reducible apply Sy.newY (o := ⟨some 16, .alloc 30, _, _, _, _⟩)); exact rfl; exact rfl; exact nwz30; intro q16)
    | ((with_reducible apply Sy.newY (o := ⟨some 20, .alloc 71, _, _, _, _⟩)); exact rfl; exact rfl; exact nwz71; intro q20)
    | ((with_reducible apply Sy.newY (o := ⟨some 131, .buildSlice 25 _ _, _, _, _, _⟩)); exact rfl; exact rfl; exact (nbs0 Tryd.underlying25 sz5 zr5 rfl (by decide) rfl); intro q131)
    | ((with_reducible apply Sy.newY (o := ⟨some 131, .buildSlice 25 _ _, _, _, _, _⟩)); exact rfl; exact rfl; (· exact (newY_bs Tryd.underlying25 sz5 zr5 rfl (by decide) rfl (by first | rfl | (simp [List.drop_append, List.take_append, List.getElem?_append, lay, hC_length, ints_length, ints_drop, ints_take, ints_append, List.drop_of_length_le, List.take_of_length_le, List.map_append, List.set_append, Value.cells]; done)))); intro q131)
    | ((with_reducible apply Sy.newY (o := ⟨some 22, .alloc 71, _, _, _, _⟩)); exact rfl; exact rfl; exact nwz71; intro q22)
    | (with_reducible refine Sy.skip ?_)
    | ((with_reducible apply Sy.yes); exact rfl)
    | ((with_reducible apply Sy.no); exact rfl)
    | ((with_reducible apply Sy.goG); exact rfl; exact rfl; exact rfl))
      dsimp only at h5 ⊢
      rw [Nat.zero_add B.length]
      repeat' (first
    | (with_reducible refine Sy.seq ?_)
    | (with_reducible refine Sy.regionL ?_)
    | (with_reducible refine Sy.opsnil ?_)
    | (with_reducible refine Sy.go ?_)
    | (with_reducible refine Sy.nrm ?_)
    | ((with_reducible refine Sy.bin (op := .neq) (t := 3) rfl rfl rfl neNS ?_))
    | ((with_reducible refine Sy.bin (op := .neq) (t := 4) rfl rfl rfl (neB hGe) ?_))
    | ((with_reducible apply Sy.assign); exact rfl; exact rfl)
    | ((with_reducible apply Sy.move); exact rfl; exact rfl)
    | ((with_reducible apply Sy.lenS); exact rfl; exact Tryd.underlying64; exact rfl)
    | ((with_reducible apply Sy.lenS); exact rfl; exact Tryd.underlying25; exact rfl)
    | ((with_reducible apply Sy.pickF); exact rfl; exact rfl; exact rfl)
    | ((with_reducible apply Sy.ext); exact rfl; exact rfl; exact rfl)
    | ((with_reducible apply Sy.bin (op := .eql) (t := 3)); exact rfl; exact rfl; exact rfl; exact b_eql)
    | ((with_reducible apply Sy.bin (op := .eql) (t := 3)); exact rfl; exact rfl; exact rfl; exact bz_eql)
    | ((with_reducible apply Sy.stNa (t := 30)); exact rfl; exact rfl; exact sz30; (· first | (simp; done)); (· first | (simp [oneL_append, oneL_cons, oneL_nil, hC_one, oneL_ints]; done)); exact turnT; (· first | (simp; done)); (· first | exact lay_all (by first | (simp; done))))
    | ((with_reducible apply Sy.stNa (t := 71)); exact rfl; exact rfl; exact sz71; (· first | (simp; done)); (· first | (simp [oneL_append, oneL_cons, oneL_nil, hC_one, oneL_ints]; done)); exact turnT; (· first | (simp; done)); (· first | exact lay_all (by first | (simp; done))))
    | ((with_reducible apply Sy.call0 (k := 20)); exact rfl; exact rfl; exact en20; exact rfl; (intro H' hp; exact k_lNum _ H'))
    | ((with_reducible apply Sy.callN (k := 14)); exact rfl; exact rfl; exact en14; exact rfl; (intro H' hp; exact k_GetMessage' _ (B ++ l) G2 H' hG2 (app_slr (hp.getN hasT)) hBl (by rw [List.length_append]; omega)); rintro ⟨c6, a6, k6⟩ h6)
    | ((with_reducible apply Sy.newY (o := ⟨some 14, .alloc 30, _, _, _, _⟩)); exact rfl; exact rfl; exact nwz30; intro q14)
    | ((with_reducible apply Sy.newY (o := ⟨some 16, .alloc 30, _, _, _, _⟩)); exact rfl; exact rfl; exact nwz30; intro q16)
    | ((with_reducible apply Sy.newY (o := ⟨some 20, .alloc 71, _, _, _, _⟩)); exact rfl; exact rfl; exact nwz71; intro q20)
    | ((with_reducible apply Sy.newY (o := ⟨some 22, .alloc 71, _, _, _, _⟩)); exact rfl; exact rfl; exact nwz71; intro q22)
    | (with_reducible refine Sy.skip ?_)
    | ((with_reducible apply Sy.no); exact rfl)
    | ((with_reducible apply Sy.goG); exact rfl; exact rfl; exact rfl))
      refine Sy.keep [(95, .int .u64 ((ep : Nat) : Int)), (96, .slice a1 es.length c1), (3, .int .i64 z), (4, .slice va l.length vk)] ⟨rfl, rfl, rfl, rfl, trivial⟩ (Sy.less [] (List.nil_sublist _) ?_)
      exact key.out
    · have hPe : P = ([], 1) := by rw [← hP, putM, if_neg hr]
      subst hPe
      dsimp only at h3 ⊢
      clear hP hr
      repeat' (first
    | (with_reducible refine Sy.seq ?_)
    | (with_reducible refine Sy.regionL ?_)
    | (with_reducible refine Sy.opsnil ?_)
    | (with_reducible refine Sy.go ?_)
    | (with_reducible refine Sy.nrm ?_)
    | ((with_reducible refine Sy.bin (op := .eql) (t := 3) rfl rfl rfl (eqNF (by omega)) ?_))
    | ((with_reducible apply Sy.move); exact rfl; exact rfl)
    | ((with_reducible apply Sy.pickF); exact rfl; exact rfl; exact rfl)
    | ((with_reducible apply Sy.call0 (k := 20)); exact rfl; exact rfl; exact en20; exact rfl; (intro H' hp; exact k_lNum _ H'))
    | (with_reducible refine Sy.skip ?_)
    | ((with_reducible apply Sy.no); exact rfl)
    | ((with_reducible apply Sy.noG); exact rfl; exact rfl; exact rfl; exact rfl; exact rfl))
      refine Sy.keep [(95, .int .u64 ((ep : Nat) : Int)), (96, .slice a1 es.length c1), (3, .int .i64 z), (4, .slice va l.length vk)] ⟨rfl, rfl, rfl, rfl, trivial⟩ (Sy.less [] (List.nil_sublist _) ?_)
      exact key.out
  obtain ⟨P2, hP2⟩ : ∃ P2, putB ep (tsOf es) = P2 := ⟨_, rfl⟩
  repeat' (first
    | (with_reducible refine Sy.go ?_)
    | ((with_reducible apply Sy.callN (k := 33)); exact rfl; exact rfl; exact en33; exact rfl; (intro H' hp; exact k_lTxs es _ H' (h1'.of hp) (by omega) (fun e he => (hss e he).2.2)); rintro ⟨ea, bo, L⟩ ⟨hk, hL⟩))
  dsimp only at hk hL ⊢
  rw [List.append_assoc]
  have hao := ok_of hk hoo
  have hal : ea.length = es.length := by have := congrArg List.length hk; simpa using this
  have hP2' : putB ep (tsOf ea) = P2 := by rw [hk]; exact hP2
  repeat' (first
    | (with_reducible refine Sy.seq ?_)
    | (with_reducible refine Sy.regionL ?_)
    | (with_reducible refine Sy.opsnil ?_)
    | (with_reducible refine Sy.go ?_)
    | (with_reducible refine Sy.nrm ?_)
    | ((with_reducible refine Sy.build (t := 71) rfl rfl (bvBa2 accV_cells) ?_))
    | ((with_reducible apply Sy.assign); exact rfl; exact rfl)
    | ((with_reducible apply Sy.move); exact rfl; exact rfl)
    | ((with_reducible apply Sy.ext); exact rfl; exact rfl; exact rfl)
    | ((with_reducible apply Sy.callN (k := 32)); exact rfl; exact rfl; exact en32; exact rfl; (intro H' hp; exact k_PutBatch ep ea _ P2 H' hP2' (hL.at' hao hp (fun hx => by repeat (first | exact accM_hasT hx | apply Has.app)) (fun x o hx => by repeat (first | exact Has.front hx | apply Has.app))) (by omega) hep); rintro ⟨c3, a3, k3⟩ h3))
  dsimp only at h3 ⊢
  by_cases hr : rightBB (tsOf es) = true
  · have hPe : P2 = (batB ep (tsOf es), 0) := by rw [← hP2, putB, if_pos hr]
    have hto : ∀ m ∈ tsOf es, m.ok := fun m hm => by
      obtain ⟨e, he, rfl⟩ := List.mem_map.1 hm
      exact (hoo e he).1
    have hcut := fun k hk => cut_bat (k := k) hep hto hr hk
    obtain ⟨G2, hG2, hGe⟩ := getB_app hep hto hr l
    have hB256 := batB_lt (ep := ep) hto
    have hBn : 0 < (batB ep (tsOf es)).length ∧ (batB ep (tsOf es)).length ≤ 65536 := ⟨batB_pos _ _, batB_n hr⟩
    generalize batB ep (tsOf es) = B at hPe hcut hG2 hB256 hBn
    subst hPe
    dsimp only at h3 ⊢
    obtain rfl := h3.at0 hBn.1
    obtain ⟨w, hw1, hw2, hw3⟩ := rem_in z B.length hBn.1
    have hG1 := hcut _ hw3
    have hBne : B ≠ [] := fun x => by rw [x] at hBn; simp at hBn
    have hBl : ∀ x ∈ B ++ l, x < 256 := fun x hx => (List.mem_append.1 hx).elim (hB256 x) (h256 x)
    rw [bufM_one hBne, List.cons_append, List.nil_append]
    clear hP2 hP2' hr hcut
    repeat' (first
    | (with_reducible refine Sy.seq ?_)
    | (with_reducible refine Sy.regionL ?_)
    | (with_reducible refine Sy.opsnil ?_)
    | (with_reducible refine Sy.go ?_)
    | (with_reducible refine Sy.nrm ?_)
    | ((with_reducible refine Sy.bin (op := .eql) (t := 3) rfl rfl rfl eqNS ?_))
    | ((with_reducible refine Sy.bin (op := .eql) (t := 3) rfl rfl rfl (eqNF (by omega)) ?_))
    | ((with_reducible refine Sy.bin (op := .rem) (t := 3) rfl rfl rfl (bz_rem (x := z) (by omega)) ?_))
    | ((with_reducible refine Sy.bin (op := .add) (t := 3) rfl rfl rfl (b_addrem hw1 hw2 (by omega)) ?_))
    | ((with_reducible apply Sy.assign); exact rfl; exact rfl)
    | ((with_reducible apply Sy.move); exact rfl; exact rfl)
    | ((with_reducible apply Sy.lenS); exact rfl; exact Tryd.underlying64; exact rfl)
    | ((with_reducible apply Sy.lenS); exact rfl; exact Tryd.underlying25; exact rfl)
    | ((with_reducible apply Sy.pickT); exact rfl; exact rfl; exact rfl)
    | ((with_reducible apply Sy.ext); exact rfl; exact rfl; exact rfl)
    | ((with_reducible apply Sy.bin (op := .rem) (t := 3)); exact rfl; exact rfl; exact rfl; exact (b_rem (by omega)))
    | ((with_reducible apply Sy.sl (t := 25)); exact rfl; exact rfl; exact rfl; exact rfl; exact rfl; exact (sl_to Tryd.underlying25 sz5 (by omega)))
    | ((with_reducible apply Sy.sl (t := 25)); exact rfl; exact rfl; exact rfl; exact rfl; exact rfl; exact (sl_more Tryd.underlying25 sz5 (by omega) (by decide) (by decide)))
    | ((with_reducible apply Sy.call0 (k := 20)); exact rfl; exact rfl; exact en20; exact rfl; (intro H' hp; exact k_lNum _ H'))
    | ((with_reducible apply Sy.callN (k := 35)); exact rfl; exact rfl; exact en35; exact rfl; (intro H' hp; exact k_GetBatch' _ (B.take (w % B.length)) ((0, []), 21) H' hG1 (take_slr (hp.getN hasT) (by omega)) (fun x hx => hB256 x (List.mem_of_mem_take hx)) (by rw [List.length_take]; omega)); rintro ⟨e5, b5, c5⟩ ⟨hk5, hV5⟩)
    | ((with_reducible apply Sy.newY (o := ⟨some 14, .alloc 30, _, _, _, _⟩)); exact rfl; exact rfl; exact nwz30; intro q14)
    | ((with_reducible apply Sy.newY (o := ⟨some 16, .alloc 30, _, _, _, _⟩)); exact rfl; exact rfl; exact nwz30; intro q16)
    | ((with_reducible apply Sy.newY (o := ⟨some 20, .alloc 71, _, _, _, _⟩)); exact rfl; exact rfl; exact nwz71; intro q20)
    | ((with_reducible apply Sy.newY (o := ⟨some 22, .alloc 71, _, _, _, _⟩)); exact rfl; exact rfl; exact nwz71; intro q22)
    | (with_reducible refine Sy.skip ?_)
    | ((with_reducible apply Sy.yes); exact rfl)
    | ((with_reducible apply Sy.no); exact rfl)
    | ((with_reducible apply Sy.goG); exact rfl; exact rfl; exact rfl))
    dsimp only at hk5 hV5 ⊢
    repeat' (first
    | (with_reducible refine Sy.seq ?_)
    | (with_reducible refine Sy.regionL ?_)
    | (with_reducible refine Sy.opsnil ?_)
    | (with_reducible refine Sy.go ?_)
    | (with_reducible refine Sy.nrm ?_)
    | ((with_reducible refine Sy.stNa (t := 71) rfl rfl sz71 (by simp) (ba_one accV_one) (by repeat (first | exact Turn.here | apply Turn.there | apply Turn.app)) (by simp) (lay_all (by simp)) ?_))
    | ((with_reducible apply Sy.assign); exact rfl; exact rfl)
    | ((with_reducible apply Sy.move); exact rfl; exact rfl)
    | ((with_reducible apply Sy.appQ (t := 25) (xt := 25)); exact ap25_25 zr5 rfl; exact rfl; exact rfl; exact rfl; (· first | exact SrcY.ofR (by with_reducible assumption) rfl); (· first | exact oneL_ints _ _); (· first | omega | (simp; done)); (· first | omega | (simp; done)); (· repeat (first | exact Drop.here)); (· first | omega | (simp; done)); (· first | exact ints_append _ _ _); intro q76)
    | ((with_reducible apply Sy.appFN (t := 25) (xt := 25)); exact ap25_25 zr5 rfl; exact rfl; exact rfl; exact rfl; (· first | exact SrcY.ofNi' (by repeat (first | exact Has.here | apply Has.there | apply Has.app)) (by first | omega)); (· first | exact oneL_ints _ _ | exact rfl); (· first | omega); (· first | omega); exact hasT; (· first | omega); (· first | exact rfl); (· first | exact rfl); intro q76)
    | ((with_reducible apply Sy.appQ (t := 25) (xt := 25)); exact ap25_25 zr5 rfl; exact rfl; exact rfl; exact rfl; (· first | exact SrcY.ofR (by with_reducible assumption) rfl); (· first | exact oneL_ints _ _); (· first | omega | (simp; done)); (· first | omega | (simp; done)); (· repeat (first | exact Drop.here)); (· first | omega | (simp; done)); (· first | exact ints_append _ _ _); intro q78)
    | ((with_reducible apply Sy.appFN (t := 25) (xt := 25)); exact ap25_25 zr5 rfl; exact rfl; exact rfl; exact rfl; (· first | exact SrcY.ofNi' (by repeat (first | exact Has.here | apply Has.there | apply Has.app)) (by first | omega)); (· first | exact oneL_ints _ _ | exact rfl); (· first | omega); (· first | omega); exact hasT; (· first | omega); (· first | exact rfl); (· first | exact rfl); intro q78)
    | ((with_reducible apply Sy.appQ (t := 25) (xt := 25)); exact ap25_25 zr5 rfl; exact rfl; exact rfl; exact rfl; (· first | exact SrcY.ofR (by with_reducible assumption) rfl); (· first | exact oneL_ints _ _); (· first | omega | (simp; done)); (· first | omega | (simp; done)); (· repeat (first | exact Drop.here)); (· first | omega | (simp; done)); (· first | exact ints_append _ _ _); intro q133)
    | ((with_reducible apply Sy.appFN (t := 25) (xt := 25)); exact ap25_25 zr5 rfl; exact rfl; exact rfl; exact rfl; (· first | exact SrcY.ofNi' (by repeat (first | exact Has.here | apply Has.there | apply Has.app)) (by first | omega)); (· first | exact oneL_ints _ _ | exact rfl); (· first | omega); (· first | omega); exact hasT; (· first | omega); (· first | exact rfl); (· first | exact rfl); intro q133)
    | ((with_reducible apply Sy.appQ (t := 25) (xt := 25)); exact ap25_25 zr5 rfl; exact rfl; exact rfl; exact rfl; (· first | exact SrcY.ofR (by with_reducible assumption) rfl); (· first | exact oneL_ints _ _); (· first | omega | (simp; done)); (· first | omega | (simp; done)); (· repeat (first | exact Drop.here)); (· first | omega | (simp; done)); (· first | exact ints_append _ _ _); intro q135)
    | ((with_reducible apply Sy.appFN (t := 25) (xt := 25)); exact ap25_25 zr5 rfl; exact rfl; exact rfl; exact rfl; (· first | exact SrcY.ofNi' (by repeat (first | exact Has.here | apply Has.there | apply Has.app)) (by first | omega)); (· first | exact oneL_ints _ _ | exact rfl); (· first | omega); (· first | omega); exact hasT; (· first | omega); (· first | exact rfl); (· first | exact rfl); intro q135)
    | ((with_reducible apply Sy.newY (o := ⟨some 74, .buildSlice 25 _ _, _, _, _, _⟩)); exact rfl; exact rfl; exact (nbs0 Tryd.underlying25 sz5 zr5 rfl (by decide) rfl); intro q74)
    | ((with_reducible apply Sy.newY (o := ⟨some 74, .buildSlice 25 _ _, _, _, _, _⟩)); exact rfl; exact rfl; (· exact (newY_bs Tryd.underlying25 sz5 zr5 rfl (by decide) rfl (by first | rfl | (simp [List.drop_append, List.take_append, List.getElem?_append, lay, hC_length, ints_length, ints_drop, ints_take, ints_append, List.drop_of_length_le, List.take_of_length_le, List.map_append, List.set_append, Value.cells]; done)))); intro q74)
    | ((with_reducible apply Sy.newY (o := ⟨some 131, .buildSlice 25 _ _, _, _, _, _⟩)); exact rfl; exact rfl; exact (nbs0 Tryd.underlying25 sz5 zr5 rfl (by decide) rfl); intro q131)
    | ((with_reducible apply Sy.newY (o := ⟨some 131, .buildSlice 25 _ _, _, _, _, _⟩)); exact rfl; exact rfl; (· exact (newY_bs Tryd.underlying25 sz5 zr5 rfl (by decide) rfl (by first | rfl | (simp [List.drop_append, List.take_append, List.getElem?_append, lay, hC_length, ints_length, ints_drop, ints_take, ints_append, List.drop_of_length_le, List.take_of_length_le, List.map_append, List.set_append, Value.cells]; done)))); intro q131))
    rw [Nat.zero_add B.length]
    repeat' (first
    | (with_reducible refine Sy.seq ?_)
    | (with_reducible refine Sy.regionL ?_)
    | (with_reducible refine Sy.opsnil ?_)
    | (with_reducible refine Sy.go ?_)
    | (with_reducible refine Sy.nrm ?_)
    | ((with_reducible refine Sy.stNa (t := 71) rfl rfl sz71 (by simp) (ba_one accV_one) (by repeat (first | exact Turn.here | apply Turn.there | apply Turn.app)) (by simp) (lay_all (by simp)) ?_))
    | ((with_reducible refine Sy.bin (op := .neq) (t := 3) rfl rfl rfl neNS ?_))
    | ((with_reducible refine Sy.bin (op := .neq) (t := 4) rfl rfl rfl (neB hGe) ?_))
    | ((with_reducible apply Sy.assign); exact rfl; exact rfl)
    | ((with_reducible apply Sy.move); exact rfl; exact rfl)
    | ((with_reducible apply Sy.lenS); exact rfl; exact Tryd.underlying64; exact rfl)
    | ((with_reducible apply Sy.lenS); exact rfl; exact Tryd.underlying25; exact rfl)
    | ((with_reducible apply Sy.pickF); exact rfl; exact rfl; exact rfl)
    | ((with_reducible apply Sy.ext); exact rfl; exact rfl; exact rfl)
    | ((with_reducible apply Sy.bin (op := .eql) (t := 3)); exact rfl; exact rfl; exact rfl; exact b_eql)
    | ((with_reducible apply Sy.bin (op := .eql) (t := 3)); exact rfl; exact rfl; exact rfl; exact bz_eql)
    | ((with_reducible apply Sy.call0 (k := 20)); exact rfl; exact rfl; exact en20; exact rfl; (intro H' hp; exact k_lNum _ H'))
    | ((with_reducible apply Sy.call0 (k := 9)); exact rfl; exact rfl; exact en9; exact rfl; (intro H' hp; exact c_knows9 H' (g.of hp (List.forall_mem_nil _))))
    | ((with_reducible apply Sy.callN (k := 35)); exact rfl; exact rfl; exact en35; exact rfl; (intro H' hp; exact k_GetBatch' _ (B ++ l) G2 H' hG2 (app_slr (hp.getN hasT)) hBl (by rw [List.length_append]; omega)); rintro ⟨e6, b6, c6⟩ ⟨hk6, hV6⟩)
    | ((with_reducible apply Sy.newY (o := ⟨some 14, .alloc 30, _, _, _, _⟩)); exact rfl; exact rfl; exact nwz30; intro q14)
    | ((with_reducible apply Sy.newY (o := ⟨some 16, .alloc 30, _, _, _, _⟩)); exact rfl; exact rfl; exact nwz30; intro q16)
    | ((with_reducible apply Sy.newY (o := ⟨some 20, .alloc 71, _, _, _, _⟩)); exact rfl; exact rfl; exact nwz71; intro q20)
    | ((with_reducible apply Sy.newY (o := ⟨some 22, .alloc 71, _, _, _, _⟩)); exact rfl; exact rfl; exact nwz71; intro q22)
    | (with_reducible refine Sy.skip ?_)
    | (with_reducible refine Sy.ret ?_)
    | ((with_reducible apply Sy.no); exact rfl)
    | ((with_reducible apply Sy.goG); exact rfl; exact rfl; exact rfl))
    exact .fin [_] (.inr rfl) ⟨rfl, trivial⟩ fun H' hp => rfl
  · have hPe : P2 = ([], 1) := by rw [← hP2, putB, if_neg hr]
    subst hPe
    dsimp only at h3 ⊢
    clear hP2 hP2' hr
    repeat' (first
    | (with_reducible refine Sy.seq ?_)
    | (with_reducible refine Sy.regionL ?_)
    | (with_reducible refine Sy.opsnil ?_)
    | (with_reducible refine Sy.go ?_)
    | (with_reducible refine Sy.nrm ?_)
    | ((with_reducible refine Sy.bin (op := .eql) (t := 3) rfl rfl rfl (eqNF (by omega)) ?_))
    | ((with_reducible apply Sy.assign); exact rfl; exact rfl)
    | ((with_reducible apply Sy.move); exact rfl; exact rfl)
    | ((with_reducible apply Sy.pickF); exact rfl; exact rfl; exact rfl)
    | ((with_reducible apply Sy.call0 (k := 20)); exact rfl; exact rfl; exact en20; exact rfl; (intro H' hp; exact k_lNum _ H'))
    | ((with_reducible apply Sy.call0 (k := 9)); exact rfl; exact rfl; exact en9; exact rfl; (intro H' hp; exact c_knows9 H' (g.of hp (List.forall_mem_nil _))))
    | (with_reducible refine Sy.skip ?_)
    | (with_reducible refine Sy.ret ?_)
    | ((with_reducible apply Sy.no); exact rfl)
    | ((with_reducible apply Sy.noG); exact rfl; exact rfl; exact rfl; exact rfl; exact rfl))
    exact .fin [_] (.inr rfl) ⟨rfl, trivial⟩ fun H' hp => rfl
end Go.Proofs.YtjimjolfnimimaaDoor
