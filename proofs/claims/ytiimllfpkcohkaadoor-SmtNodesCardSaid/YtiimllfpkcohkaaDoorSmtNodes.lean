/- For any two hashes the program's Leaf and Above answer as the document's, and the map does what must come (the law SmtNodes returns true for every input; the tied card; the two package variables as the program's text lays them). -/
import Derived.Test.YtiimllfpkcohkaaDoorWalkC
import Derived.Test.YtiimllfpkcohkaaDoorWalkB
import Derived.Test.YtiimllfpkcohkaaDoorRowA
import Derived.Test.YtiimllfpkcohkaaDoorValue
import Derived.Test.YtiimllfpkcohkaaDoorCards
import Derived.Test.YtiimllfpkcohkaaDoorTie
set_option linter.unusedSimpArgs false
set_option linter.unusedVariables false
/- The law SmtNodes. -/
namespace Go.Proofs.YtiimllfpkcohkaaDoor
open Go Go.Am
set_option maxRecDepth 100000
set_option linter.unusedVariables false

set_option maxHeartbeats 1000000 in
theorem c_SmtNodes (hn : (tput h1 h2 256 .nil).hash ≠ zeroH) (k v : Hsh) (H : AHeap) (g : Gl H) : CallR Tryd.prog noPrims 3 [hV k, hV v] H (fun u H' => u = .bool true ∧ Hp H 0 0 H' [] []) := by
  refine CallR.sy (n := 24) Tryd.func3 rfl rfl rfl ?_
  repeat' (first
    | (with_reducible refine Sy.seq ?_)
    | (with_reducible refine Sy.regionL ?_)
    | (with_reducible refine Sy.opsnil ?_)
    | (with_reducible refine Sy.go ?_)
    | (with_reducible refine Sy.nrm ?_)
    | ((with_reducible apply Sy.assign); (case hd => exact rfl); (case hx => exact rfl))
    | ((with_reducible apply Sy.ldN (t := 23)); (case hd => exact rfl); (case hx => exact rfl); (case hm => repeat (first | exact Has.here | apply Has.there)); (case hv => first | exact ld_hV ag23 sz23))
    | ((with_reducible apply Sy.bin (op := .eql) (t := 23)); (case hd => exact rfl); (case hx => exact rfl); (case hy => exact rfl); (case hv => exact (eq23)))
    | ((with_reducible apply Sy.move); (case hd => exact rfl); (case hx => exact rfl))
    | ((with_reducible apply Sy.pickT); (case hd => exact rfl); (case hx => exact rfl); (case hy => exact rfl))
    | ((with_reducible apply Sy.pickF); (case hd => exact rfl); (case hx => exact rfl); (case hy => exact rfl))
    | ((with_reducible apply Sy.dcall0 (k := 7)); (case hw => first | exact wantY_none | exact wantY_some rfl rfl rfl); (case h1 => exact rfl); (case hS => intro h hh; exact hh); (case hi1 => exact rfl); (case hd => exact rfl); (case hf => exact rfl); (case hen => exact en7); (case hx => exact rfl); (case hc => intro H' hp; exact c_Leaf k v H' (g.of hp (by simp))))
    | ((with_reducible apply Sy.dcall0 (k := 9)); (case hw => first | exact wantY_none | exact wantY_some rfl rfl rfl); (case h1 => exact rfl); (case hS => intro h hh; exact hh); (case hi1 => exact rfl); (case hd => exact rfl); (case hf => exact rfl); (case hen => exact en9); (case hx => exact rfl); (case hc => intro H' hp; exact c_Above k v H' (g.of hp (by simp))))
    | ((with_reducible apply Sy.dcall0 (k := 8)); (case hw => first | exact wantY_none | exact wantY_some rfl rfl rfl); (case h1 => exact rfl); (case hS => intro h hh; exact hh); (case hi1 => exact rfl); (case hd => exact rfl); (case hf => exact rfl); (case hen => exact en8); (case hx => exact rfl); (case hc => intro H' hp; exact c_rLeaf k v H'))
    | ((with_reducible apply Sy.dcall0 (k := 10)); (case hw => first | exact wantY_some rfl rfl rfl); (case h1 => exact rfl); (case hS => intro h hh; exact hh); (case hi1 => exact rfl); (case hd => exact rfl); (case hf => exact rfl); (case hen => exact en10); (case hx => exact rfl); (case hc => intro H' hp; exact c_rAbove k v H'))
    | ((with_reducible apply Sy.dcall0 (k := 11)); (case hw => first | exact wantY_some rfl rfl rfl); (case h1 => exact rfl); (case hS => intro h hh; exact hh); (case hi1 => exact rfl); (case hd => exact rfl); (case hf => exact rfl); (case hen => exact en11); (case hx => exact rfl); (case hc => intro H' hp; exact c_knows hn H' (g.of hp (by simp))))
    | ((with_reducible apply Sy.newY (o := ⟨some 2, .box 23 _, _, _, _, _⟩)); (case ho => exact rfl); (case hd => exact rfl); (case hc => exact (nbH rfl)); intro q2)
    | ((with_reducible apply Sy.newY (o := ⟨some 3, .box 23 _, _, _, _, _⟩)); (case ho => exact rfl); (case hd => exact rfl); (case hc => exact (nbH rfl)); intro q3)
    | (with_reducible refine Sy.ret ?_)
    | ((with_reducible apply Sy.drawL (id := 1) 20 [(3, 2), (4, 2), (11, 10), (12, 10)] (fun hi h => h < hi)); (case hp => kernel_rfl); (case hN => exact rfl); intro base hbase hM; try simp only [List.forall_mem_cons, List.forall_mem_append, List.not_mem_nil, false_implies, implies_true, and_true] at hM)
    | (with_reducible refine Sy.dend ?_)
    | ((with_reducible apply Sy.dgo); (case hw => first | exact wantY_none | exact wantY_some rfl rfl rfl); (case hc => intro hcls; cases hcls); (case h1 => exact rfl); (case h2 => exact rfl))
    | ((with_reducible apply Sy.dld); (case hw => first | exact wantY_none | exact wantY_some rfl rfl rfl); (case hx => exact rfl); (case hb => omega); (case h2 => exact rfl))
    | ((with_reducible apply Sy.dno); (case hj => exact rfl); (case ht => exact rfl); (case hb => exact rfl); (case hc => exact rfl); (case hd => exact rfl))
    | ((with_reducible apply Sy.dcaseG); (case hj => exact rfl); (case hx => exact rfl); all_goals (intro hc; try (exfalso; omega))))
  all_goals first
    | exact absurd rfl hc
    | exact .fin [.bool true] (.inr rfl) ⟨rfl, trivial⟩ fun H' hp => ⟨rfl, hp.less (List.nil_sublist _)⟩
end Go.Proofs.YtiimllfpkcohkaaDoor

/- SmtNodes: for any two hashes the program's leaf and what it lays above two nodes are the document's, and the map does what must come. -/
namespace Go.Proofs.YtiimllfpkcohkaaDoor
open Go Go.Am Go.ChangeShapes Go.WideShapes Go.RowKit
set_option maxRecDepth 100000

theorem smtNodes_lifted (os : Os) (started : os.Started) (H : Type) (enc : TypeId × Value → H) :
    ReturnsInHanded {} Tryd.checked os 3 .any (fun w args => (Rows.smtNodesSpec.pre enc Tryd.prog Tryd.f3 Rows.smtNodesRow.domain false w args ∧ laidMetH Tryd.prog laidV w) ∧ sizedMet enc Tryd.prog Tryd.f3 (OpenSpec.ofChange Rows.smtNodesSpec) false w args)
      (Rows.smtNodesSpec.post enc Tryd.prog Tryd.f3 false true false false) := by
  refine returnsInHanded_of_change_and (C := Tryd.checked) (X := fun w _ => laidMetH Tryd.prog laidV w) (fun _ _ _ hh h => h.of_heap hh) Tryd.own started (by kernel_rfl) Tryd.func3
    (ChangeSpec.witness_shaped (enc := enc) (C := Tryd.checked) (os := os) (X := fun w _ => laidMetH Tryd.prog laidV w) false (World.laidAll Tryd.prog os laidV) #[hV zeroH, hV zeroH] 8 (World.laidAll_os _ _ _)
      (World.shaped_of_ZipB (by kernel_rfl) (by kernel_rfl)) (by kernel_rfl) (by kernel_rfl) (by kernel_rfl)
      (by rw [MakeChecks.laidMetH_plain _ _ _ (by kernel_rfl)]; exact laidMet_laidAll _ (by kernel_rfl) (by kernel_rfl))) ?_
  intro W base args ds gs before hval0 hW _ _ hL _
  have hval : ∀ (j : Nat) t v, Tryd.f3.params[j]? = some t → args[j]? = some v → Value.okWide Tryd.prog W .any base t v := hval0
  have hW' := hW
  obtain ⟨p, q, hA0, hV0, rfl, _, _⟩ := hW
  have hA : DataW.TrodAll enc Tryd.prog W 0 (fun _ => true) true Tryd.f3.params.toList args.toList ds p := hA0
  rw [Tryd.params3] at hA hval
  obtain ⟨v0, v1, d0, d1, p0, p1, rfl, rfl, rfl, e0, e1⟩ := trodAll_two hA
  obtain ⟨rfl, rfl⟩ := trodVars_none hV0
  obtain ⟨a, rfl, rfl⟩ := open_hash (hval 0 23 v0 rfl rfl) e0
  obtain ⟨b, rfl, rfl⟩ := open_hash (hval 1 23 v1 rfl rfl) e1
  have hrun := calls_of_walk hL (by simp [plainL, plain_hV]) (c_SmtNodes knows_val a b heap0 heap0_gl)
  refine hrun.mono fun e W' ⟨he, hb⟩ => ?_
  subst he
  refine ⟨_, rfl, _, _, _, [], [], [], hW', ?_, ?_, ?_, hb.frame _, fun h => by cases h⟩
  · exact trodAll_mk1 (shut_bool Tryd.underlying4 true)
  · exact trodAll_mk2 (Below.trod Tryd.laidOut (by kernel_rfl) (of_decide_eq_true (by kernel_rfl)) e0 hb (by simp)) (Below.trod Tryd.laidOut (by kernel_rfl) (of_decide_eq_true (by kernel_rfl)) e1 hb (by simp))
  · rfl

theorem smtNodes_holds : Rows.SmtNodesSaid :=
  OpenClaim.holds_of_wide 3 Tryd.f3 rfl rfl rfl rfl rfl rfl rfl ⟨rfl, rfl, rfl, rfl, rfl⟩ rfl rfl rfl rfl rfl (by kernel_rfl) Tryd.func3 (by kernel_rfl)
    (of_decide_eq_true (by kernel_rfl)) (by unfold Func.isWrapper; first | (rw [if_pos (by decide +kernel)]; kernel_rfl) | (rw [if_neg (by decide +kernel)]; exact ⟨rfl, rfl⟩))
    (fun os started H enc _ => smtNodes_lifted os started H enc)

theorem smtNodes_card : Rows.SmtNodesCardSaid :=
  Claim7.holds_tied_plain_at .later [] [.data, .data] true (true, "ac47a654e2f1c320af79ed81a84a162073c8af513ae0c75ff4a5ef174bfc12e1") false smtNodes_holds (fun _ h => by cases h) (by kernel_rfl) (fun _ h => by cases h) smtNodes_row_tie rfl ⟨rfl, rfl⟩ (by kernel_rfl) rfl
    (fun f fn hf hfn => by
      obtain rfl : f = 3 := Option.some.inj ((show Tryd.prog.funcNamed "bascule/basculelaw05.SmtNodes" = some 3 by kernel_rfl).symm.trans hf) |>.symm
      obtain rfl : fn = Tryd.f3 := (Option.some.inj (Tryd.func3.symm.trans hfn)).symm
      exact ⟨by kernel_rfl, fun j t ht => by
        rw [Tryd.params3] at ht
        have hm : t ∈ [23] := by simpa using Array.mem_of_getElem? ht
        have hall : ([23].all fun u => !Tryd.prog.wantsStandIn u) = true := by kernel_rfl
        exact (show Tryd.prog.wantsStandIn t = false by simpa using List.all_eq_true.1 hall t hm)⟩)
    (by kernel_rfl)
#print axioms smtNodes_card
end Go.Proofs.YtiimllfpkcohkaaDoor
