/- ProofBytes holds for every input. -/
import Derived.Test.YtjimjolfnimimaaDoorRowA
import Derived.Test.YtjimjolfnimimaaDoorProofC
import Derived.SizedLaws
import Derived.Test.YtjimjolfnimimaaDoorCards
import Derived.Test.YtjimjolfnimimaaDoorTie
set_option linter.unusedSimpArgs false
set_option linter.unusedVariables false
/- Layer 06: steps and bytes as arguments: ProofBytes, ProofBack. -/
namespace Go.Proofs.YtjimjolfnimimaaDoor
open Go Go.Am Go.ChangeShapes Go.WideShapes Go.RowKit
set_option maxRecDepth 100000

theorem sh_hashes {H : AHeap} {m : Nat} {cs : List Value} (h : Sh Tryd.prog H (m + 3) 114 cs) : ∃ v l, cs = [v] ∧ HsS H v l ∧ l.length ≤ 4398046511104 := by
  obtain ⟨n, hn, h2⟩ := sh_slice Tryd.underlying114 h
  have hb : Tryd.prog.bytesOf 44 = 32 := by kernel_rfl
  rw [hb, show reachBytes = 140737488351232 from rfl] at hn
  rcases h2 with ⟨rfl, rfl⟩ | ⟨b, ocs, rfl, hg, hr⟩
  · exact ⟨_, [], rfl, .inl ⟨rfl, rfl⟩, by simp⟩
  · obtain ⟨l, rfl, rfl, _⟩ := hr.list (enc := hC) (Q := fun _ => True) fun a ha => by obtain ⟨k, e⟩ := sh_hash ha; exact ⟨k, e, trivial⟩
    exact ⟨_, l, rfl, .inr ⟨b, _, _, _, rfl, hg⟩, by omega⟩
theorem sh_step {H : AHeap} {m : Nat} {cs : List Value} (h : Sh Tryd.prog H (m + 5) 123 cs) : ∃ s : Stp, cs = s.c ∧ HsS H s.v s.l ∧ s.l.length ≤ 4398046511104 := by
  obtain ⟨a, r, rfl, h1, b, r2, rfl, h2, c, r3, rfl, h3, rfl⟩ := sh_struct Tryd.underlying123 h
  obtain ⟨d, r4, rfl, h4, e, r5, rfl, h5, rfl⟩ := sh_struct Tryd.underlying121 h3
  obtain ⟨k1, rfl⟩ := sh_hash (m := m + 2) h1
  obtain ⟨k2, rfl⟩ := sh_hash (m := m + 2) h2
  obtain ⟨k3, rfl⟩ := sh_hash (m := m + 1) h4
  obtain ⟨v, l, rfl, h6, h7⟩ := sh_hashes (m := m) h5
  exact ⟨⟨k1, k2, k3, l, v⟩, by simp [Stp.c], h6, h7⟩
theorem sh_steps {H : AHeap} {m : Nat} {v : Value} (h : ShV Tryd.prog H (m + 6) 52 v) : ∃ ss : List Stp, StsAt 123 H v ss ∧ ss.length ≤ 1172812402926 := by
  obtain ⟨n, hn, h2⟩ := sh_slice (m := m + 5) Tryd.underlying52 (shv_one (by rw [Tryd.underlying52]) h)
  have hb : Tryd.prog.bytesOf 123 = 120 := by kernel_rfl
  rw [hb, show reachBytes = 140737488351232 from rfl] at hn
  rcases h2 with ⟨e, rfl⟩ | ⟨b, ocs, e, hg, hr⟩
  · simp only [List.cons.injEq, and_true] at e
    exact ⟨[], ⟨⟨none, 0, e, .inl rfl⟩, by simp⟩, by simp⟩
  · simp only [List.cons.injEq, and_true] at e
    obtain ⟨ss, rfl, rfl, hq⟩ := hr.list (enc := Stp.c) (Q := fun s => HsS H s.v s.l ∧ s.l.length ≤ 4398046511104) fun a ha => sh_step (m := m) ha
    exact ⟨ss, ⟨⟨_, _, e, .inr ⟨b, _, rfl, hg⟩⟩, hq⟩, by omega⟩
theorem sh_bytes {H : AHeap} {m : Nat} {cs : List Value} (h : Sh Tryd.prog H (m + 2) 25 cs) : ∃ v l, cs = [v] ∧ SlR H 1 v l.length (ints .u8 l) ∧ (∀ x ∈ l, x < 256) ∧ l.length ≤ 140737488351232 := by
  obtain ⟨n, hn, h2⟩ := sh_slice Tryd.underlying25 h
  have hb : Tryd.prog.bytesOf 5 = 1 := by kernel_rfl
  rw [hb, show reachBytes = 140737488351232 from rfl] at hn
  rcases h2 with ⟨rfl, rfl⟩ | ⟨b, ocs, rfl, hg, hr⟩
  · exact ⟨_, [], rfl, .nil, by simp, by simp⟩
  · obtain ⟨l, rfl, rfl, h3⟩ := row_ints (k := .u8) Tryd.underlying5 (.inl rfl) hr
    exact ⟨_, l, rfl, .mk hg (by simp) (by rw [List.drop_zero, List.take_of_length_le (by simp)]), fun x hx => h3 x hx, by omega⟩
theorem law_ProofBytes (vs : List Value) (H : AHeap) (hx : Ext heap0 H) (hs : EachV (ShV Tryd.prog H 12) [52, 25] vs) : CallR Tryd.prog noPrims 4 vs H (fun u _ => u = .bool true) := by
  obtain ⟨v1, _, rfl, h1, v2, _, rfl, h2, rfl⟩ := hs
  obtain ⟨ss, h3, h4⟩ := sh_steps (m := 6) h1
  obtain ⟨_, l, e, h7, h8, h9⟩ := sh_bytes (m := 10) (shv_one (by rw [Tryd.underlying25]) h2)
  simp only [List.cons.injEq, and_true] at e
  subst e
  exact c_ProofBytes ss v1 v2 l H (.ext hx) h3 h7 h8 h4 h9
end Go.Proofs.YtjimjolfnimimaaDoor

/- ProofBytes: the row and its card. -/
namespace Go.Proofs.YtjimjolfnimimaaDoor
open Go Go.Am Go.ChangeShapes Go.WideShapes Go.RowKit
set_option maxRecDepth 100000

theorem proofBytes_lifted (os : Os) (started : os.Started) (H : Type) (enc : TypeId × Value → H) :
    ReturnsInHanded {} Tryd.checked os 4 .any (fun w args => (Rows.proofBytesSpec.pre enc Tryd.prog Tryd.f4 Rows.proofBytesRow.domain false w args ∧ laidMetH Tryd.prog laidV w) ∧ sizedMet enc Tryd.prog Tryd.f4 (OpenSpec.ofChange Rows.proofBytesSpec) false w args)
      (Rows.proofBytesSpec.post enc Tryd.prog Tryd.f4 false true false false) := by
  refine returnsInHanded_of_change_and (C := Tryd.checked) (X := fun w _ => laidMetH Tryd.prog laidV w) (fun _ _ _ hh h => h.of_heap hh) Tryd.own started (by kernel_rfl) Tryd.func4
    (ChangeSpec.witness_shaped (enc := enc) (C := Tryd.checked) (os := os) (X := fun w _ => laidMetH Tryd.prog laidV w) false (World.laidAll Tryd.prog os laidV) #[.slice none 0 0, .slice none 0 0] 8 (World.laidAll_os _ _ _)
      (World.shaped_of_ZipB (by kernel_rfl) (by kernel_rfl)) (by kernel_rfl) (by kernel_rfl) (by kernel_rfl)
      (by rw [MakeChecks.laidMetH_plain _ _ _ (by kernel_rfl)]; exact laidMet_laidAll _ (by kernel_rfl) (by kernel_rfl))) ?_
  intro W base args ds gs before hval hW _ hwt hL _
  have hW' := hW
  obtain ⟨p, q, hA0, hV0, rfl, _, _⟩ := hW
  have hA : DataW.TrodAll enc Tryd.prog W 0 (fun _ => true) true Tryd.f4.params.toList args.toList ds p := hA0
  rw [Tryd.params4] at hA
  replace hA : DataW.TrodAll enc Tryd.prog W 0 (fun _ => true) true [52, 25] args.toList ds p := hA
  have hds : ∃ d0 d1, ds = [d0, d1] := by
    obtain ⟨_, _, d0, _, _, _, _, rfl, _, _, hA1⟩ := trodAll_cons hA
    obtain ⟨_, _, d1, _, _, _, _, rfl, _, _, hA2⟩ := trodAll_cons hA1
    obtain ⟨_, rfl, _⟩ := trodAll_nil hA2
    exact ⟨d0, d1, rfl⟩
  obtain ⟨d0, d1, rfl⟩ := hds
  obtain ⟨rfl, rfl⟩ := trodVars_none hV0
  have hlt := hA.lt
  have hwt' : ∀ n ∈ DataW.weightsEach Tryd.prog [52, 25] [d0, d1], n ≤ reachBytes := fun x hx => of_decide_eq_true (List.all_eq_true.1 (show (DataW.weightsEach Tryd.prog (Tryd.f4.params.toList ++ Rows.proofBytesSpec.plain.varTypes Tryd.prog) ([d0, d1] ++ [])).all (· ≤ reachBytes) = true from hwt) x (by rw [Tryd.params4]; exact hx))
  have hrun := calls_of_law (f := 4) (ts := [52, 25]) hL hA (by kernel_rfl) (fun j t v ht hv => hval j t v (by rw [Tryd.params4]; simpa using ht) (by simpa using hv)) hwt' law_ProofBytes
  refine hrun.mono fun e W' ⟨he, hb⟩ => ?_
  subst he
  refine ⟨_, rfl, _, _, _, [], p, [], hW', ?_, ?_, ?_, hb.frame _, fun h => by cases h⟩
  · exact trodAll_mk1 (shut_bool Tryd.underlying4 true)
  · show DataW.TrodAll enc Tryd.prog W' 0 (fun b => decide (b < W.heap.size)) true Tryd.f4.params.toList args.toList [d0, d1] p
    rw [Tryd.params4]
    exact trod_below Tryd.laidOut hb [52, 25] _ _ _ hA (by kernel_rfl) (fun x hx => hlt x hx)
  · rfl

theorem proofBytes_holds : Rows.ProofBytesSaid :=
  OpenClaim.holds_of_wide 4 Tryd.f4 rfl rfl rfl rfl rfl rfl rfl ⟨rfl, rfl, rfl, rfl, rfl⟩ rfl rfl rfl rfl rfl (by kernel_rfl) Tryd.func4 (by kernel_rfl)
    (of_decide_eq_true (by kernel_rfl)) (by unfold Func.isWrapper; first | (rw [if_pos (by decide +kernel)]; kernel_rfl) | (rw [if_neg (by decide +kernel)]; exact ⟨rfl, rfl⟩))
    (fun os started H enc _ => proofBytes_lifted os started H enc)

theorem proofBytes_card : Rows.ProofBytesCardSaid :=
  Claim7.holds_tied_plain_at .later [] [.data, .data] true (true, "bdf93d382adb93ab913e418a0e0f9cb9bcdfe8364f4a4f1432748e356cb3ffb2") false proofBytes_holds (fun _ h => by cases h) (by kernel_rfl) (fun _ h => by cases h) proofBytes_row_tie rfl ⟨rfl, rfl⟩ (by kernel_rfl) rfl
    (fun f fn hf hfn => by
      obtain rfl : f = 4 := Option.some.inj ((show Tryd.prog.funcNamed "bascule/basculelaw06.ProofBytes" = some 4 by kernel_rfl).symm.trans hf) |>.symm
      obtain rfl : fn = Tryd.f4 := (Option.some.inj (Tryd.func4.symm.trans hfn)).symm
      exact ⟨by kernel_rfl, fun j t ht => by
        rw [Tryd.params4] at ht
        have hm : t ∈ [52, 25] := by simpa using Array.mem_of_getElem? ht
        have hall : ([52, 25].all fun u => !Tryd.prog.wantsStandIn u) = true := by kernel_rfl
        exact (show Tryd.prog.wantsStandIn t = false by simpa using List.all_eq_true.1 hall t hm)⟩)
    (by kernel_rfl)
#print axioms proofBytes_card
end Go.Proofs.YtjimjolfnimimaaDoor
