/- MessageCut holds for every input. -/
import Derived.Test.YtjimjolfnimimaaDoorRowA
import Derived.Test.YtjimjolfnimimaaDoorMsgB
import Derived.Test.YtjimjolfnimimaaDoorBatC
import Derived.Test.YtjimjolfnimimaaDoorLawC
import Derived.SizedLaws
import Derived.Test.YtjimjolfnimimaaDoorCards
import Derived.Test.YtjimjolfnimimaaDoorTie
set_option linter.unusedSimpArgs false
set_option linter.unusedVariables false
/- Layer 09: arguments that are messages. -/
namespace Go.Proofs.YtjimjolfnimimaaDoor
open Go Go.Am Go.ChangeShapes Go.WideShapes Go.RowKit
set_option maxRecDepth 100000

theorem sh_bytes {H : AHeap} {m : Nat} {cs : List Value} (h : Sh Tryd.prog H (m + 2) 25 cs) : ∃ v l, cs = [v] ∧ SlR H 1 v l.length (ints .u8 l) ∧ (∀ x ∈ l, x < 256) ∧ l.length ≤ 140737488351232 := by
  obtain ⟨n, hn, h2⟩ := sh_slice Tryd.underlying25 h
  have hb : Tryd.prog.bytesOf 5 = 1 := by kernel_rfl
  rw [hb, show reachBytes = 140737488351232 from rfl] at hn
  rcases h2 with ⟨rfl, rfl⟩ | ⟨b, ocs, rfl, hg, hr⟩
  · exact ⟨_, [], rfl, .nil, by simp, by simp⟩
  · obtain ⟨l, rfl, rfl, h3⟩ := row_ints (k := .u8) Tryd.underlying5 (.inl rfl) hr
    exact ⟨_, l, rfl, .mk hg (by simp) (by rw [List.drop_zero, List.take_of_length_le (by simp)]), fun x hx => h3 x hx, by omega⟩
theorem sh_u64 {H : AHeap} {m : Nat} {cs : List Value} (h : Sh Tryd.prog H (m + 1) 22 cs) : ∃ n : Nat, cs = [.int .u64 (n : Int)] ∧ n < 18446744073709551616 := by
  obtain ⟨z, rfl, hw⟩ := sh_int Tryd.underlying22 h
  obtain ⟨x, rfl, hx⟩ := wf_uint (.inr (.inr (.inr rfl))) hw
  exact ⟨x, rfl, hx⟩
theorem sh_wide {H : AHeap} {m : Nat} {cs : List Value} (h : Sh Tryd.prog H (m + 2) 24 cs) : ∃ w : Wd, cs = wC w := by
  obtain ⟨l, h1, h2, h3⟩ := row_ints (k := .u64) Tryd.underlying22 (.inr (.inr (.inr rfl))) (sh_array Tryd.underlying24 h)
  exact ⟨⟨l, h1, fun x hx => h3 x hx⟩, h2⟩
theorem sh_rmsg {H : AHeap} {m : Nat} {cs : List Value} (h : Sh Tryd.prog H (m + 3) 27 cs) : ∃ (x : Msg) (v : Value), cs = msgC x v ∧ x.ok ∧ SlR H 1 v x.d.length (ints .u8 x.d) ∧ x.d.length ≤ 140737488351232 := by
  obtain ⟨a1, r1, rfl, h1, a2, r2, rfl, h2, a3, r3, rfl, h3, a4, r4, rfl, h4, a5, r5, rfl, h5, a6, r6, rfl, h6, rfl⟩ := sh_struct Tryd.underlying27 h
  obtain ⟨n, rfl, hn⟩ := sh_u64 (m := m + 1) h1
  obtain ⟨s, rfl, hs⟩ := sh_u64 (m := m + 1) h2
  obtain ⟨t, rfl, ht⟩ := sh_u64 (m := m + 1) h3
  obtain ⟨w, rfl⟩ := sh_wide (m := m) h4
  obtain ⟨g, rfl, hg⟩ := sh_u64 (m := m + 1) h5
  obtain ⟨v, d, rfl, h7, h8, h9⟩ := sh_bytes (m := m) h6
  exact ⟨⟨n, s, t, w, g, d⟩, v, by simp [msgC], ⟨hn, hs, ht, hg, h8⟩, h7, h9⟩
end Go.Proofs.YtjimjolfnimimaaDoor

/- Layer 09: rows of Txs as arguments. -/
namespace Go.Proofs.YtjimjolfnimimaaDoor
open Go Go.Am Go.ChangeShapes Go.WideShapes Go.RowKit
set_option maxRecDepth 100000

theorem wf_i64 {n : Int} (h : (Lit.int .i64 n).wf = true) : -9223372036854775808 ≤ n ∧ n < 9223372036854775808 := by
  simp only [Lit.wf, Bool.and_eq_true, decide_eq_true_eq] at h
  have h1 : IntKind.i64.min = -9223372036854775808 := rfl
  have h2 : IntKind.i64.max = 9223372036854775807 := rfl
  omega
theorem sh_rtx {H : AHeap} {m : Nat} {cs : List Value} (h : Sh Tryd.prog H (m + 3) 66 cs) : ∃ e : Tel, cs = txC e.1 e.2 ∧ e.1.ok ∧ SlR H 1 e.2 e.1.d.length (ints .u8 e.1.d) ∧ e.1.d.length ≤ 140737488355328 := by
  obtain ⟨a1, r1, rfl, h1, a2, r2, rfl, h2, a3, r3, rfl, h3, a4, r4, rfl, h4, a5, r5, rfl, h5, a6, r6, rfl, h6, a7, r7, rfl, h7, rfl⟩ := sh_struct Tryd.underlying66 h
  obtain ⟨k, rfl, hk⟩ := sh_int (m := m + 1) Tryd.underlying3 h1
  obtain ⟨f, rfl, hf⟩ := sh_u64 (m := m + 1) h2
  obtain ⟨n, rfl, hn⟩ := sh_u64 (m := m + 1) h3
  obtain ⟨t, rfl, ht⟩ := sh_u64 (m := m + 1) h4
  obtain ⟨w, rfl⟩ := sh_wide (m := m) h5
  obtain ⟨g, rfl, hg⟩ := sh_u64 (m := m + 1) h6
  obtain ⟨v, d, rfl, h8, h9, h10⟩ := sh_bytes (m := m) h7
  exact ⟨(⟨k, f, n, t, w, g, d⟩, v), by simp [txC], ⟨wf_i64 hk, hf, hn, ht, hg, h9⟩, h8, by dsimp only; omega⟩
theorem sh_rtxs {H : AHeap} {m : Nat} {v : Value} (h : ShV Tryd.prog H (m + 4) 64 v) : ∃ es : List Tel, TxsAt 66 H v es ∧ es.length ≤ 1466015503659 := by
  obtain ⟨n, hn, h2⟩ := sh_slice (m := m + 3) Tryd.underlying64 (shv_one (by rw [Tryd.underlying64]) h)
  have hb : Tryd.prog.bytesOf 66 = 96 := by kernel_rfl
  rw [hb, show reachBytes = 140737488351232 from rfl] at hn
  rcases h2 with ⟨e, rfl⟩ | ⟨b, ocs, e, hg, hr⟩
  · simp only [List.cons.injEq, and_true] at e
    exact ⟨[], ⟨⟨none, 0, e, .inl rfl⟩, by simp⟩, by simp⟩
  · simp only [List.cons.injEq, and_true] at e
    obtain ⟨es, rfl, rfl, hq⟩ := hr.list (enc := fun e : Tel => txC e.1 e.2) (Q := fun e => e.1.ok ∧ SlR H 1 e.2 e.1.d.length (ints .u8 e.1.d) ∧ e.1.d.length ≤ 140737488355328) fun a ha => sh_rtx (m := m) ha
    exact ⟨es, ⟨⟨_, _, e, .inr ⟨b, _, rfl, hg⟩⟩, hq⟩, by omega⟩
end Go.Proofs.YtjimjolfnimimaaDoor

/- Layer 09: MessageCut's arguments. -/
namespace Go.Proofs.YtjimjolfnimimaaDoor
open Go Go.Am Go.ChangeShapes Go.WideShapes Go.RowKit
set_option maxRecDepth 100000

theorem law_MessageCut (vs : List Value) (H : AHeap) (hx : Ext heap0 H) (hs : EachV (ShV Tryd.prog H 12) [27, 22, 64, 3, 25] vs) : CallR Tryd.prog noPrims 7 vs H (fun u _ => u = .bool true) := by
  obtain ⟨v0, _, rfl, h0, v1, _, rfl, h1, v2, _, rfl, h2, vz, _, rfl, hz, v3, _, rfl, h3, rfl⟩ := hs
  obtain ⟨cs, rfl, h00⟩ := shv_agg (.inl ⟨_, Tryd.underlying27⟩) h0
  obtain ⟨x, w1, rfl, ho, hm1, hl1⟩ := sh_rmsg (m := 9) h00
  obtain ⟨ep, e, hep⟩ := sh_u64 (m := 11) (shv_one (by rw [Tryd.underlying22]) h1)
  simp only [List.cons.injEq, and_true] at e
  subst e
  obtain ⟨es, h4, h5⟩ := sh_rtxs (m := 8) h2
  obtain ⟨z, e, hz2⟩ := sh_int (m := 11) Tryd.underlying3 (shv_one (by rw [Tryd.underlying3]) hz)
  simp only [List.cons.injEq, and_true] at e
  subst e
  obtain ⟨_, l, e, h7, h8, h9⟩ := sh_bytes (m := 10) (shv_one (by rw [Tryd.underlying25]) h3)
  simp only [List.cons.injEq, and_true] at e
  subst e
  obtain ⟨a, c, rfl⟩ := slr_form hm1
  exact c_MessageCut x a c ep es z l v2 v3 H (.ext hx) ho hm1 hep h4 (wf_i64 hz2) h7 h8 (by omega) (by omega) (by omega)
end Go.Proofs.YtjimjolfnimimaaDoor

/- MessageCut: the row and its card. -/
namespace Go.Proofs.YtjimjolfnimimaaDoor
open Go Go.Am Go.ChangeShapes Go.WideShapes Go.RowKit
set_option maxRecDepth 100000

theorem messageCut_lifted (os : Os) (started : os.Started) (H : Type) (enc : TypeId × Value → H) :
    ReturnsInHanded {} Tryd.checked os 7 .any (fun w args => (Rows.messageCutSpec.pre enc Tryd.prog Tryd.f7 Rows.messageCutRow.domain false w args ∧ laidMetH Tryd.prog laidV w) ∧ sizedMet enc Tryd.prog Tryd.f7 (OpenSpec.ofChange Rows.messageCutSpec) false w args)
      (Rows.messageCutSpec.post enc Tryd.prog Tryd.f7 false true false false) := by
  refine returnsInHanded_of_change_and (C := Tryd.checked) (X := fun w _ => laidMetH Tryd.prog laidV w) (fun _ _ _ hh h => h.of_heap hh) Tryd.own started (by kernel_rfl) Tryd.func7
    (ChangeSpec.witness_shaped (enc := enc) (C := Tryd.checked) (os := os) (X := fun w _ => laidMetH Tryd.prog laidV w) false (World.laidAll Tryd.prog os laidV) #[.agg ⟨[.int .u64 ((0 : Nat) : Int), .int .u64 ((0 : Nat) : Int), .int .u64 ((0 : Nat) : Int)] ++ (ints .u64 (List.replicate 4 0) ++ ([.int .u64 ((0 : Nat) : Int), .slice none 0 0]))⟩, .int .u64 ((0 : Nat) : Int), .slice none 0 0, .int .i64 ((0 : Nat) : Int), .slice none 0 0] 8 (World.laidAll_os _ _ _)
      (World.shaped_of_ZipB (by kernel_rfl) (by kernel_rfl)) (by kernel_rfl) (by kernel_rfl) (by kernel_rfl)
      (by rw [MakeChecks.laidMetH_plain _ _ _ (by kernel_rfl)]; exact laidMet_laidAll _ (by kernel_rfl) (by kernel_rfl))) ?_
  intro W base args ds gs before hval hW _ hwt hL _
  have hW' := hW
  obtain ⟨p, q, hA0, hV0, rfl, _, _⟩ := hW
  have hA : DataW.TrodAll enc Tryd.prog W 0 (fun _ => true) true Tryd.f7.params.toList args.toList ds p := hA0
  rw [Tryd.params7] at hA
  replace hA : DataW.TrodAll enc Tryd.prog W 0 (fun _ => true) true [27, 22, 64, 3, 25] args.toList ds p := hA
  have hds : ∃ d0 d1 d2 d3 d4, ds = [d0, d1, d2, d3, d4] := by
    obtain ⟨_, _, d0, _, _, _, _, rfl, _, _, hA1⟩ := trodAll_cons hA
    obtain ⟨_, _, d1, _, _, _, _, rfl, _, _, hA2⟩ := trodAll_cons hA1
    obtain ⟨_, _, d2, _, _, _, _, rfl, _, _, hA3⟩ := trodAll_cons hA2
    obtain ⟨_, _, d3, _, _, _, _, rfl, _, _, hA4⟩ := trodAll_cons hA3
    obtain ⟨_, _, d4, _, _, _, _, rfl, _, _, hA5⟩ := trodAll_cons hA4
    obtain ⟨_, rfl, _⟩ := trodAll_nil hA5
    exact ⟨d0, d1, d2, d3, d4, rfl⟩
  obtain ⟨d0, d1, d2, d3, d4, rfl⟩ := hds
  obtain ⟨rfl, rfl⟩ := trodVars_none hV0
  have hlt := hA.lt
  have hwt' : ∀ n ∈ DataW.weightsEach Tryd.prog [27, 22, 64, 3, 25] [d0, d1, d2, d3, d4], n ≤ reachBytes := fun x hx => of_decide_eq_true (List.all_eq_true.1 (show (DataW.weightsEach Tryd.prog (Tryd.f7.params.toList ++ Rows.messageCutSpec.plain.varTypes Tryd.prog) ([d0, d1, d2, d3, d4] ++ [])).all (· ≤ reachBytes) = true from hwt) x (by rw [Tryd.params7]; exact hx))
  have hrun := calls_of_law (f := 7) (ts := [27, 22, 64, 3, 25]) hL hA (by kernel_rfl) (fun j t v ht hv => hval j t v (by rw [Tryd.params7]; simpa using ht) (by simpa using hv)) hwt' law_MessageCut
  refine hrun.mono fun e W' ⟨he, hb⟩ => ?_
  subst he
  refine ⟨_, rfl, _, _, _, [], p, [], hW', ?_, ?_, ?_, hb.frame _, fun h => by cases h⟩
  · exact trodAll_mk1 (shut_bool Tryd.underlying4 true)
  · show DataW.TrodAll enc Tryd.prog W' 0 (fun b => decide (b < W.heap.size)) true Tryd.f7.params.toList args.toList [d0, d1, d2, d3, d4] p
    rw [Tryd.params7]
    exact trod_below Tryd.laidOut hb [27, 22, 64, 3, 25] _ _ _ hA (by kernel_rfl) (fun x hx => hlt x hx)
  · rfl

theorem messageCut_holds : Rows.MessageCutSaid :=
  OpenClaim.holds_of_wide 7 Tryd.f7 rfl rfl rfl rfl rfl rfl rfl ⟨rfl, rfl, rfl, rfl, rfl⟩ rfl rfl rfl rfl rfl (by kernel_rfl) Tryd.func7 (by kernel_rfl)
    (of_decide_eq_true (by kernel_rfl)) (by unfold Func.isWrapper; first | (rw [if_pos (by decide +kernel)]; kernel_rfl) | (rw [if_neg (by decide +kernel)]; exact ⟨rfl, rfl⟩))
    (fun os started H enc _ => messageCut_lifted os started H enc)

theorem messageCut_card : Rows.MessageCutCardSaid :=
  Claim7.holds_tied_plain_at .later [] [.data, .data] true (true, "bdf93d382adb93ab913e418a0e0f9cb9bcdfe8364f4a4f1432748e356cb3ffb2") false messageCut_holds (fun _ h => by cases h) (by kernel_rfl) (fun _ h => by cases h) messageCut_row_tie rfl ⟨rfl, rfl⟩ (by kernel_rfl) rfl
    (fun f fn hf hfn => by
      obtain rfl : f = 7 := Option.some.inj ((show Tryd.prog.funcNamed "bascule/basculelaw09.MessageCut" = some 7 by kernel_rfl).symm.trans hf) |>.symm
      obtain rfl : fn = Tryd.f7 := (Option.some.inj (Tryd.func7.symm.trans hfn)).symm
      exact ⟨by kernel_rfl, fun j t ht => by
        rw [Tryd.params7] at ht
        have hm : t ∈ [27, 22, 64, 3, 25] := by simpa using Array.mem_of_getElem? ht
        have hall : ([27, 22, 64, 3, 25].all fun u => !Tryd.prog.wantsStandIn u) = true := by kernel_rfl
        exact (show Tryd.prog.wantsStandIn t = false by simpa using List.all_eq_true.1 hall t hm)⟩)
    (by kernel_rfl)
#print axioms messageCut_card
end Go.Proofs.YtjimjolfnimimaaDoor
