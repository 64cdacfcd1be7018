/- ProofWalks: the root behind any few steps: the program answers as the document. -/
import Derived.Test.YtmlofdgamdlcgaaDoorRowA
import Derived.Test.YtmlofdgamdlcgaaDoorWalkE
import Derived.SizedLaws
import Derived.Test.YtmlofdgamdlcgaaDoorCards
import Derived.Test.YtmlofdgamdlcgaaDoorTie
set_option linter.unusedSimpArgs false
set_option linter.unusedVariables false
/- Layer 06: arguments that are steps. -/
namespace Go.Proofs.YtmlofdgamdlcgaaDoor
open Go Go.Am Go.ChangeShapes Go.WideShapes Go.RowKit
set_option maxRecDepth 100000

theorem sh_hashes {H : AHeap} {m : Nat} {cs : List Value} (h : Sh Tryd.prog H (m + 3) 24 cs) : ∃ v l, cs = [v] ∧ HsS H v l ∧ l.length ≤ 4398046511104 := by
  obtain ⟨n, hn, h2⟩ := sh_slice Tryd.underlying24 h
  have hb : Tryd.prog.bytesOf 23 = 32 := by kernel_rfl
  rw [hb, show reachBytes = 140737488351232 from rfl] at hn
  rcases h2 with ⟨rfl, rfl⟩ | ⟨b, ocs, rfl, hg, hr⟩
  · exact ⟨_, [], rfl, .inl ⟨rfl, rfl⟩, by simp⟩
  · obtain ⟨l, rfl, rfl, _⟩ := hr.list (enc := hC) (Q := fun _ => True) fun a ha => by obtain ⟨k, e⟩ := sh_hash ha; exact ⟨k, e, trivial⟩
    exact ⟨_, l, rfl, .inr ⟨b, _, _, _, rfl, hg⟩, by omega⟩
theorem sh_step {H : AHeap} {m : Nat} {cs : List Value} (h : Sh Tryd.prog H (m + 5) 84 cs) : ∃ s : Stp, cs = s.c ∧ HsS H s.v s.l ∧ s.l.length ≤ 4398046511104 := by
  obtain ⟨a, r, rfl, h1, b, r2, rfl, h2, c, r3, rfl, h3, rfl⟩ := sh_struct Tryd.underlying84 h
  obtain ⟨d, r4, rfl, h4, e, r5, rfl, h5, rfl⟩ := sh_struct Tryd.underlying26 h3
  obtain ⟨k1, rfl⟩ := sh_hash (m := m + 2) h1
  obtain ⟨k2, rfl⟩ := sh_hash (m := m + 2) h2
  obtain ⟨k3, rfl⟩ := sh_hash (m := m + 1) h4
  obtain ⟨v, l, rfl, h6, h7⟩ := sh_hashes (m := m) h5
  exact ⟨⟨k1, k2, k3, l, v⟩, by simp [Stp.c], h6, h7⟩
theorem law_ProofWalks (vs : List Value) (H : AHeap) (hx : Ext heap0 H) (hs : EachV (ShV Tryd.prog H 12) [23, 55, 24] vs) : CallR Tryd.prog noPrims 5 vs H (fun u _ => u = .bool true) := by
  obtain ⟨v1, _, rfl, h1, v2, _, rfl, h2, v3, _, rfl, h3, rfl⟩ := hs
  obtain ⟨root, rfl⟩ := shv_hash (m := 10) h1
  obtain ⟨n, hn, h2⟩ := sh_slice (m := 11) Tryd.underlying55 (shv_one (by rw [Tryd.underlying55]) h2)
  obtain ⟨_, ns, e, h4, h5⟩ := sh_hashes (m := 9) (shv_one (by rw [Tryd.underlying24]) h3)
  simp only [List.cons.injEq, and_true] at e
  subst e
  have hb : Tryd.prog.bytesOf 84 = 120 := by kernel_rfl
  rw [hb, show reachBytes = 140737488351232 from rfl] at hn
  have main : ∃ ss : List Stp, StsAt 84 H v2 ss ∧ ss.length ≤ 4398046511104 := by
    rcases h2 with ⟨e, rfl⟩ | ⟨b, ocs, e, hg, hr⟩
    · simp only [List.cons.injEq, and_true] at e
      exact ⟨[], ⟨⟨none, 0, e, .inl rfl⟩, by simp⟩, by simp⟩
    · simp only [List.cons.injEq, and_true] at e
      obtain ⟨ss, rfl, rfl, hq⟩ := hr.list (enc := Stp.c) (Q := fun s => HsS H s.v s.l ∧ s.l.length ≤ 4398046511104) fun a ha => sh_step (m := 6) ha
      exact ⟨ss, ⟨⟨_, _, e, .inr ⟨b, _, rfl, hg⟩⟩, hq⟩, by omega⟩
  obtain ⟨ss, h6, h7⟩ := main
  exact (c_ProofWalks root ss ns v2 v3 H (.ext hx) h6 h4 h7 h5).mono fun _ _ h => h.1
end Go.Proofs.YtmlofdgamdlcgaaDoor

/- ProofWalks: the row and its card. -/
namespace Go.Proofs.YtmlofdgamdlcgaaDoor
open Go Go.Am Go.ChangeShapes Go.WideShapes Go.RowKit
set_option maxRecDepth 100000

theorem proofWalks_lifted (os : Os) (started : os.Started) (H : Type) (enc : TypeId × Value → H) :
    ReturnsInHanded {} Tryd.checked os 5 .any (fun w args => (Rows.proofWalksSpec.pre enc Tryd.prog Tryd.f5 Rows.proofWalksRow.domain false w args ∧ laidMetH Tryd.prog laidV w) ∧ sizedMet enc Tryd.prog Tryd.f5 (OpenSpec.ofChange Rows.proofWalksSpec) false w args)
      (Rows.proofWalksSpec.post enc Tryd.prog Tryd.f5 false true false false) := by
  refine returnsInHanded_of_change_and (C := Tryd.checked) (X := fun w _ => laidMetH Tryd.prog laidV w) (fun _ _ _ hh h => h.of_heap hh) Tryd.own started (by kernel_rfl) Tryd.func5
    (ChangeSpec.witness_shaped (enc := enc) (C := Tryd.checked) (os := os) (X := fun w _ => laidMetH Tryd.prog laidV w) false (World.laidAll Tryd.prog os laidV) #[hV zeroH, .slice none 0 0, .slice none 0 0] 8 (World.laidAll_os _ _ _)
      (World.shaped_of_ZipB (by kernel_rfl) (by kernel_rfl)) (by kernel_rfl) (by kernel_rfl) (by kernel_rfl)
      (by rw [MakeChecks.laidMetH_plain _ _ _ (by kernel_rfl)]; exact laidMet_laidAll _ (by kernel_rfl) (by kernel_rfl))) ?_
  intro W base args ds gs before hval hW _ hwt hL _
  have hW' := hW
  obtain ⟨p, q, hA0, hV0, rfl, _, _⟩ := hW
  have hA : DataW.TrodAll enc Tryd.prog W 0 (fun _ => true) true Tryd.f5.params.toList args.toList ds p := hA0
  rw [Tryd.params5] at hA
  replace hA : DataW.TrodAll enc Tryd.prog W 0 (fun _ => true) true [23, 55, 24] args.toList ds p := hA
  have hds : ∃ d0 d1 d2, ds = [d0, d1, d2] := by
    obtain ⟨_, _, d0, _, _, _, _, rfl, _, _, hA1⟩ := trodAll_cons hA
    obtain ⟨_, _, d1, _, _, _, _, rfl, _, _, hA2⟩ := trodAll_cons hA1
    obtain ⟨_, _, d2, _, _, _, _, rfl, _, _, hA3⟩ := trodAll_cons hA2
    obtain ⟨_, rfl, _⟩ := trodAll_nil hA3
    exact ⟨d0, d1, d2, rfl⟩
  obtain ⟨d0, d1, d2, rfl⟩ := hds
  obtain ⟨rfl, rfl⟩ := trodVars_none hV0
  have hlt := hA.lt
  have hwt' : ∀ n ∈ DataW.weightsEach Tryd.prog [23, 55, 24] [d0, d1, d2], n ≤ reachBytes := fun x hx => of_decide_eq_true (List.all_eq_true.1 (show (DataW.weightsEach Tryd.prog (Tryd.f5.params.toList ++ Rows.proofWalksSpec.plain.varTypes Tryd.prog) ([d0, d1, d2] ++ [])).all (· ≤ reachBytes) = true from hwt) x (by rw [Tryd.params5]; exact hx))
  have hrun := calls_of_law (f := 5) (ts := [23, 55, 24]) hL hA (by kernel_rfl) (fun j t v ht hv => hval j t v (by rw [Tryd.params5]; simpa using ht) (by simpa using hv)) hwt' law_ProofWalks
  refine hrun.mono fun e W' ⟨he, hb⟩ => ?_
  subst he
  refine ⟨_, rfl, _, _, _, [], p, [], hW', ?_, ?_, ?_, hb.frame _, fun h => by cases h⟩
  · exact trodAll_mk1 (shut_bool Tryd.underlying4 true)
  · show DataW.TrodAll enc Tryd.prog W' 0 (fun b => decide (b < W.heap.size)) true Tryd.f5.params.toList args.toList [d0, d1, d2] p
    rw [Tryd.params5]
    exact trod_below Tryd.laidOut hb [23, 55, 24] _ _ _ hA (by kernel_rfl) (fun x hx => hlt x hx)
  · rfl

theorem proofWalks_holds : Rows.ProofWalksSaid :=
  OpenClaim.holds_of_wide 5 Tryd.f5 rfl rfl rfl rfl rfl rfl rfl ⟨rfl, rfl, rfl, rfl, rfl⟩ rfl rfl rfl rfl rfl (by kernel_rfl) Tryd.func5 (by kernel_rfl)
    (of_decide_eq_true (by kernel_rfl)) (by unfold Func.isWrapper; first | (rw [if_pos (by decide +kernel)]; kernel_rfl) | (rw [if_neg (by decide +kernel)]; exact ⟨rfl, rfl⟩))
    (fun os started H enc _ => proofWalks_lifted os started H enc)

theorem proofWalks_card : Rows.ProofWalksCardSaid :=
  Claim7.holds_tied_plain_at .later [] [.data, .data] true (true, "d2fec8ed6b7989ac45653ed74a480be8a1c2e8eaa01aa4cb47a44be19ae35c58") false proofWalks_holds (fun _ h => by cases h) (by kernel_rfl) (fun _ h => by cases h) proofWalks_row_tie rfl ⟨rfl, rfl⟩ (by kernel_rfl) rfl
    (fun f fn hf hfn => by
      obtain rfl : f = 5 := Option.some.inj ((show Tryd.prog.funcNamed "bascule/basculelaw06.ProofWalks" = some 5 by kernel_rfl).symm.trans hf) |>.symm
      obtain rfl : fn = Tryd.f5 := (Option.some.inj (Tryd.func5.symm.trans hfn)).symm
      exact ⟨by kernel_rfl, fun j t ht => by
        rw [Tryd.params5] at ht
        have hm : t ∈ [23, 55, 24] := by simpa using Array.mem_of_getElem? ht
        have hall : ([23, 55, 24].all fun u => !Tryd.prog.wantsStandIn u) = true := by kernel_rfl
        exact (show Tryd.prog.wantsStandIn t = false by simpa using List.all_eq_true.1 hall t hm)⟩)
    (by kernel_rfl)
#print axioms proofWalks_card
end Go.Proofs.YtmlofdgamdlcgaaDoor
