/- No map, and one that nobody made, answer as they must, for any key and value (the law SmtNil returns true for every input; the tied card; the two package variables as the program's text lays them). -/
import Derived.Test.YtiimllfpkcohkaaDoorWalkC
import Derived.Test.YtiimllfpkcohkaaDoorRowA
import Derived.Test.YtiimllfpkcohkaaDoorValue
import Derived.Test.YtiimllfpkcohkaaDoorCards
import Derived.Test.YtiimllfpkcohkaaDoorTie
set_option linter.unusedSimpArgs false
set_option linter.unusedVariables false
/- No map, and one that nobody made: the law SmtNil. -/
namespace Go.Proofs.YtiimllfpkcohkaaDoor
open Go Go.Am
set_option maxRecDepth 100000
set_option linter.unusedVariables false

/-- No map, or one that nobody made. -/
def NilM (pv : Option Addr) (H : AHeap) : Prop := pv = none ∨ ∃ m r c w, pv = some ⟨m, 0, none⟩ ∧ H.get m = .cells (mapC r c false) 49 w
theorem NilM.of {pv : Option Addr} {H0 H : AHeap} {lo hi : Nat} {Mn : Hm} (h : NilM pv H0) (hp : Hp H0 lo hi H [] Mn) : NilM pv H := by
  rcases h with h | ⟨m, r, c, w, h, hm⟩
  · exact .inl h
  · exact .inr ⟨m, r, c, w, h, hp.get0 hm rfl (by simp)⟩
theorem c_mnoneN {pv : Option Addr} (H : AHeap) (h : NilM pv H) : CallR Tryd.prog noPrims 24 [.pointer pv] H (fun u H' => u = .bool true ∧ Hp H 0 0 H' [] []) := by
  rcases h with rfl | ⟨m, r, c, w, rfl, hm⟩
  · exact c_mnone0 H
  · exact c_mnone H hm
theorem c_PutN {pv : Option Addr} (k v : Hsh) (H : AHeap) (h : NilM pv H) : CallR Tryd.prog noPrims 14 [.pointer pv, hV k, hV v] H (fun u H' => u = .int .i64 ((1 : Nat) : Int) ∧ Hp H 0 0 H' [] []) := by
  refine CallR.sy (n := 60) Tryd.func14 rfl rfl rfl ?_
  repeat' (first
    | (with_reducible refine Sy.seq ?_)
    | (with_reducible refine Sy.regionL ?_)
    | (with_reducible refine Sy.opsnil ?_)
    | (with_reducible refine Sy.go ?_)
    | (with_reducible refine Sy.nrm ?_)
    | ((with_reducible apply Sy.assign); (case hd => exact rfl); (case hx => exact rfl))
    | ((with_reducible apply Sy.move); (case hd => exact rfl); (case hx => exact rfl))
    | ((with_reducible apply Sy.call0 (k := 24)); (case hd => exact rfl); (case hf => exact rfl); (case hen => exact en24); (case hx => exact rfl); (case hc => intro H' hp; exact c_mnoneN H' (h.of hp)))
    | ((with_reducible apply Sy.newY (o := ⟨some 4, .box 23 _, _, _, _, _⟩)); (case ho => exact rfl); (case hd => exact rfl); (case hc => exact (nbH rfl)); intro q4)
    | ((with_reducible apply Sy.newY (o := ⟨some 5, .box 23 _, _, _, _, _⟩)); (case ho => exact rfl); (case hd => exact rfl); (case hc => exact (nbH rfl)); intro q5)
    | (with_reducible refine Sy.ret ?_)
    | (with_reducible refine Sy.aret ?_)
    | ((with_reducible apply Sy.yes); (case hx => exact rfl)))
  exact .fin [.int .i64 ((1 : Nat) : Int)] (.inr rfl) ⟨rfl, trivial⟩ fun H' hp => ⟨rfl, hp.less (List.nil_sublist _)⟩
theorem c_GetN {pv : Option Addr} (k : Hsh) (H : AHeap) (h : NilM pv H) : CallR Tryd.prog noPrims 17 [.pointer pv, hV k] H (fun u H' => u = hV zeroH ∧ Hp H 0 0 H' [] []) := by
  refine CallR.sy (n := 22) Tryd.func17 rfl rfl rfl ?_
  repeat' (first
    | (with_reducible refine Sy.seq ?_)
    | (with_reducible refine Sy.regionL ?_)
    | (with_reducible refine Sy.opsnil ?_)
    | (with_reducible refine Sy.go ?_)
    | (with_reducible refine Sy.nrm ?_)
    | ((with_reducible apply Sy.move); (case hd => exact rfl); (case hx => exact rfl))
    | ((with_reducible apply Sy.stNa (t := 23)); (case hx => exact rfl); (case hy => exact rfl); (case hs => exact sz23); (case hl => first | exact hC_length _); (case h1 => first | exact hC_one _); (case hm => repeat (first | exact Turn.here)); (case hle => first | (simp; done)); (case hc => first | exact lay_all (by first | (simp; done))))
    | ((with_reducible apply Sy.call0 (k := 24)); (case hd => exact rfl); (case hf => exact rfl); (case hen => exact en24); (case hx => exact rfl); (case hc => intro H' hp; exact c_mnoneN H' (h.of hp)))
    | ((with_reducible apply Sy.call0 (k := 19)); (case hd => exact rfl); (case hf => exact rfl); (case hen => exact en19); (case hx => exact rfl); (case hc => intro H' hp; exact c_none H'))
    | ((with_reducible apply Sy.newY (o := ⟨some 3, .box 23 _, _, _, _, _⟩)); (case ho => exact rfl); (case hd => exact rfl); (case hc => exact (nbH rfl)); intro q3)
    | ((with_reducible apply Sy.newY (o := ⟨some 4, .alloc 23, _, _, _, _⟩)); (case ho => exact rfl); (case hd => exact rfl); (case hc => exact (nwz23)); intro q4)
    | (with_reducible refine Sy.ret ?_)
    | (with_reducible refine Sy.aret ?_)
    | ((with_reducible apply Sy.yes); (case hx => exact rfl)))
  exact .fin [hV _] (.inr rfl) ⟨⟨q4, 0, _, rfl, (by repeat (first | exact Has.here | apply Has.there | apply Has.app)), ld_hV ag23 sz23⟩, trivial⟩ fun H1 hp => ⟨rfl, hp.less (List.nil_sublist _)⟩
theorem c_RootN {pv : Option Addr} (H : AHeap) (h : NilM pv H) : CallR Tryd.prog noPrims 16 [.pointer pv] H (fun u H' => u = hV zeroH ∧ Hp H 0 0 H' [] []) := by
  refine CallR.sy (n := 11) Tryd.func16 rfl rfl rfl ?_
  repeat' (first
    | (with_reducible refine Sy.seq ?_)
    | (with_reducible refine Sy.regionL ?_)
    | (with_reducible refine Sy.opsnil ?_)
    | (with_reducible refine Sy.go ?_)
    | (with_reducible refine Sy.nrm ?_)
    | ((with_reducible apply Sy.move); (case hd => exact rfl); (case hx => exact rfl))
    | ((with_reducible apply Sy.stNa (t := 23)); (case hx => exact rfl); (case hy => exact rfl); (case hs => exact sz23); (case hl => first | exact hC_length _); (case h1 => first | exact hC_one _); (case hm => repeat (first | exact Turn.here)); (case hle => first | (simp; done)); (case hc => first | exact lay_all (by first | (simp; done))))
    | ((with_reducible apply Sy.call0 (k := 24)); (case hd => exact rfl); (case hf => exact rfl); (case hen => exact en24); (case hx => exact rfl); (case hc => intro H' hp; exact c_mnoneN H' (h.of hp)))
    | ((with_reducible apply Sy.call0 (k := 19)); (case hd => exact rfl); (case hf => exact rfl); (case hen => exact en19); (case hx => exact rfl); (case hc => intro H' hp; exact c_none H'))
    | ((with_reducible apply Sy.newY (o := ⟨some 2, .alloc 23, _, _, _, _⟩)); (case ho => exact rfl); (case hd => exact rfl); (case hc => exact (nwz23)); intro q2)
    | (with_reducible refine Sy.ret ?_)
    | (with_reducible refine Sy.aret ?_)
    | ((with_reducible apply Sy.yes); (case hx => exact rfl)))
  exact .fin [hV zeroH] (.inr rfl) ⟨⟨q2, 0, _, rfl, (by repeat (first | exact Has.here | apply Has.there | apply Has.app)), ld_hV ag23 sz23⟩, trivial⟩ fun H1 hp => ⟨rfl, hp.less (List.nil_sublist _)⟩
theorem c_PairsN {pv : Option Addr} (H : AHeap) (h : NilM pv H) : CallR Tryd.prog noPrims 15 [.pointer pv] H (fun u H' => u = .slice none 0 0 ∧ Hp H 0 0 H' [] []) := by
  refine CallR.sy (n := 10) Tryd.func15 rfl rfl rfl ?_
  repeat' (first
    | (with_reducible refine Sy.seq ?_)
    | (with_reducible refine Sy.regionL ?_)
    | (with_reducible refine Sy.opsnil ?_)
    | (with_reducible refine Sy.go ?_)
    | (with_reducible refine Sy.nrm ?_)
    | ((with_reducible apply Sy.assign); (case hd => exact rfl); (case hx => exact rfl))
    | ((with_reducible apply Sy.move); (case hd => exact rfl); (case hx => exact rfl))
    | ((with_reducible apply Sy.call0 (k := 24)); (case hd => exact rfl); (case hf => exact rfl); (case hen => exact en24); (case hx => exact rfl); (case hc => intro H' hp; exact c_mnoneN H' (h.of hp)))
    | (with_reducible refine Sy.ret ?_)
    | (with_reducible refine Sy.aret ?_)
    | ((with_reducible apply Sy.yes); (case hx => exact rfl)))
  exact .fin [.slice none 0 0] (.inr rfl) ⟨rfl, trivial⟩ fun H1 hp => ⟨rfl, hp.less (List.nil_sublist _)⟩
def proof0 : Value := .agg ⟨hC zeroH ++ [.slice none 0 0]⟩
theorem c_ProveN {pv : Option Addr} (k : Hsh) (H : AHeap) (h : NilM pv H) : CallR Tryd.prog noPrims 18 [.pointer pv, hV k] H (fun u H' => u = proof0 ∧ Hp H 0 0 H' [] []) := by
  refine CallR.sy (n := 13) Tryd.func18 rfl rfl rfl ?_
  repeat' (first
    | (with_reducible refine Sy.seq ?_)
    | (with_reducible refine Sy.regionL ?_)
    | (with_reducible refine Sy.opsnil ?_)
    | (with_reducible refine Sy.go ?_)
    | (with_reducible refine Sy.nrm ?_)
    | ((with_reducible apply Sy.move); (case hd => exact rfl); (case hx => exact rfl))
    | ((with_reducible apply Sy.ldN (t := 45)); (case hd => exact rfl); (case hx => exact rfl); (case hm => repeat (first | exact Has.here)); (case hv => first | exact ld_all ag45 (by first | exact sz45)))
    | ((with_reducible apply Sy.stNa (t := 45)); (case hx => exact rfl); (case hy => exact rfl); (case hs => exact sz45); (case hl => first | exact rfl); (case h1 => first | exact rfl); (case hm => repeat (first | exact Turn.here)); (case hle => first | (simp; done)); (case hc => first | exact lay_all (by first | (simp; done))))
    | ((with_reducible apply Sy.call0 (k := 24)); (case hd => exact rfl); (case hf => exact rfl); (case hen => exact en24); (case hx => exact rfl); (case hc => intro H' hp; exact c_mnoneN H' (h.of hp)))
    | ((with_reducible apply Sy.newY (o := ⟨some 3, .box 23 _, _, _, _, _⟩)); (case ho => exact rfl); (case hd => exact rfl); (case hc => exact (nbH rfl)); intro q3)
    | ((with_reducible apply Sy.newY (o := ⟨some 4, .alloc 45, _, _, _, _⟩)); (case ho => exact rfl); (case hd => exact rfl); (case hc => exact (nwz45)); intro q4)
    | (with_reducible refine Sy.ret ?_)
    | (with_reducible refine Sy.aret ?_)
    | ((with_reducible apply Sy.yes); (case hx => exact rfl)))
  exact .fin [proof0] (.inr rfl) ⟨⟨q4, 0, _, rfl, (by repeat (first | exact Has.here | apply Has.there | apply Has.app)), ld_all ag45 (by simp [sz45])⟩, trivial⟩ fun H1 hp => ⟨rfl, hp.less (List.nil_sublist _)⟩
def ptrO (o : Option Nat) : Option Addr := o.map fun q => ⟨q, 0, none⟩
def objO (o : Option Nat) : Hm := match o with
  | none => []
  | some q => [(q, .cells (mapC none ((0 : Nat) : Int) false) 49 true)]
set_option maxHeartbeats 1000000 in
theorem c_SmtNil (hn : (tput h1 h2 256 .nil).hash ≠ zeroH) (k v : Hsh) (H : AHeap) (g : Gl H) : CallR Tryd.prog noPrims 6 [hV k, hV v] H (fun u H' => u = .bool true ∧ Hp H 0 0 H' [] []) := by
  refine CallR.sy (n := 53) Tryd.func6 rfl rfl rfl ?_
  repeat' (first
    | (with_reducible refine Sy.seq ?_)
    | (with_reducible refine Sy.regionL ?_)
    | (with_reducible refine Sy.opsnil ?_)
    | (with_reducible refine Sy.go ?_)
    | (with_reducible refine Sy.nrm ?_)
    | ((with_reducible apply Sy.assign); (case hd => exact rfl); (case hx => exact rfl))
    | ((with_reducible apply Sy.newY (o := ⟨some 2, .box 23 _, _, _, _, _⟩)); (case ho => exact rfl); (case hd => exact rfl); (case hc => exact (nbH rfl)); intro q2)
    | ((with_reducible apply Sy.newY (o := ⟨some 3, .box 23 _, _, _, _, _⟩)); (case ho => exact rfl); (case hd => exact rfl); (case hc => exact (nbH rfl)); intro q3)
    | (with_reducible refine Sy.block ?_))
  refine Sy.loop (ι := Nat × Option Nat) (fun i => 2 - i.1) (fun i => [(2, .pointer (some ⟨q2, 0, none⟩)), (3, .pointer (some ⟨q3, 0, none⟩)), (5, .pointer (ptrO i.2)), (6, .int .i64 (i.1 : Nat))]) (fun _ => []) (fun i => objO i.2 ++ [(q3, .cells (hC v) 23 true), (q2, .cells (hC k) 23 true)]) (fun i => i.1 ≤ 2) (0, none) (by simp) ⟨rfl, rfl, rfl, rfl, trivial⟩ (fun H h => h) ?_
  rintro ⟨i, o⟩ hi
  dsimp only at hi ⊢
  have hN : ∀ {H' : AHeap} {lo hi : Nat} {M : Hm}, Hp H lo hi H' [] (M ++ (objO o ++ [(q3, .cells (hC v) 23 true), (q2, .cells (hC k) 23 true)])) → NilM (ptrO o) H' := by
    intro H' lo hi M hp
    cases o with
    | none => exact .inl rfl
    | some q => exact .inr ⟨q, none, ((0 : Nat) : Int), true, rfl, hp.vn (q, .cells (mapC none ((0 : Nat) : Int) false) 49 true) (by simp [objO])⟩
  by_cases hlt : i < 2
  · repeat' (first
    | (with_reducible refine Sy.seq ?_)
    | (with_reducible refine Sy.regionL ?_)
    | (with_reducible refine Sy.opsnil ?_)
    | (with_reducible refine Sy.go ?_)
    | (with_reducible refine Sy.nrm ?_)
    | ((with_reducible refine Sy.build (t := 23) (ps := #[]) rfl rfl bvZ ?_))
    | ((with_reducible apply Sy.assign); (case hd => exact rfl); (case hx => exact rfl))
    | ((with_reducible apply Sy.move); (case hd => exact rfl); (case hx => exact rfl))
    | ((with_reducible apply Sy.bin (op := .lss) (t := 3)); (case hd => exact rfl); (case hx => exact rfl); (case hy => exact rfl); (case hv => exact b_lss))
    | ((with_reducible apply Sy.ldN (t := 23)); (case hd => exact rfl); (case hx => exact rfl); (case hm => repeat (first | exact Has.here | apply Has.there | apply Has.app)); (case hv => first | exact ld_hV ag23 sz23 | exact ld_agg (cs' := hC _) ag23 sz23 (by simp; done) (by first | exact cut_here (by simp; done))))
    | ((with_reducible apply Sy.stNa (t := 45)); (case hx => exact rfl); (case hy => exact rfl); (case hs => exact sz45); (case hl => first | exact rfl); (case h1 => first | exact rfl); (case hm => repeat (first | exact Turn.here)); (case hle => first | (simp; done)); (case hc => first | exact lay_all (by first | (simp; done))))
    | ((with_reducible apply Sy.bin (op := .neq) (t := 3)); (case hd => exact rfl); (case hx => exact rfl); (case hy => exact rfl); (case hv => exact b_neq))
    | ((with_reducible apply Sy.bin (op := .neq) (t := 23)); (case hd => exact rfl); (case hx => exact rfl); (case hy => exact rfl); (case hv => exact (ne23)))
    | ((with_reducible apply Sy.pickF); (case hd => exact rfl); (case hx => exact rfl); (case hy => exact rfl))
    | ((with_reducible apply Sy.lenS); (case hd => exact rfl); (case ht => exact Tryd.underlying36); (case hx => exact rfl))
    | ((with_reducible apply Sy.fa (t := 45) (i := 1)); (case hd => exact rfl); (case hx => exact rfl); (case hv => exact (fa45_1 _ _)))
    | ((with_reducible apply Sy.ldN (t := 43)); (case hd => exact rfl); (case hx => exact rfl); (case hm => repeat (first | exact Has.here)); (case hv => first | exact ld_one ag43 rfl))
    | ((with_reducible apply Sy.lenS); (case hd => exact rfl); (case ht => exact Tryd.underlying43); (case hx => exact rfl))
    | ((with_reducible apply Sy.bin (op := .add) (t := 3)); (case hd => exact rfl); (case hx => exact rfl); (case hy => exact rfl); (case hv => exact (b_add (by omega))))
    | ((with_reducible apply Sy.fa (t := 45) (i := 0)); (case hd => exact rfl); (case hx => exact rfl); (case hv => exact (fa45_0 _ _)))
    | ((with_reducible apply Sy.build (t := 49)); (case hd => exact rfl); (case hx => exact rfl); (case hv => exact (bv49 (by first | rfl))))
    | ((with_reducible apply Sy.call0 (k := 18)); (case hd => exact rfl); (case hf => exact rfl); (case hen => exact en18); (case hx => exact rfl); (case hc => intro H' hp; exact c_ProveN k H' (hN (M := []) hp)))
    | ((with_reducible apply Sy.dcall0 (k := 14)); (case hw => first | exact wantY_none | exact wantY_some rfl rfl rfl); (case h1 => exact rfl); (case hS => intro h hh; exact hh); (case hi1 => exact rfl); (case hd => exact rfl); (case hf => exact rfl); (case hen => exact en14); (case hx => exact rfl); (case hc => intro H' hp; exact c_PutN k v H' (hN (M := [_]) hp)))
    | ((with_reducible apply Sy.dcall0 (k := 17)); (case hw => first | exact wantY_none | exact wantY_some rfl rfl rfl); (case h1 => exact rfl); (case hS => intro h hh; exact hh); (case hi1 => exact rfl); (case hd => exact rfl); (case hf => exact rfl); (case hen => exact en17); (case hx => exact rfl); (case hc => intro H' hp; exact c_GetN k H' (hN (M := [_]) hp)))
    | ((with_reducible apply Sy.dcall0 (k := 16)); (case hw => first | exact wantY_none | exact wantY_some rfl rfl rfl); (case h1 => exact rfl); (case hS => intro h hh; exact hh); (case hi1 => exact rfl); (case hd => exact rfl); (case hf => exact rfl); (case hen => exact en16); (case hx => exact rfl); (case hc => intro H' hp; exact c_RootN H' (hN (M := [_]) hp)))
    | ((with_reducible apply Sy.dcall0 (k := 15)); (case hw => first | exact wantY_none | exact wantY_some rfl rfl rfl); (case h1 => exact rfl); (case hS => intro h hh; exact hh); (case hi1 => exact rfl); (case hd => exact rfl); (case hf => exact rfl); (case hen => exact en15); (case hx => exact rfl); (case hc => intro H' hp; exact c_PairsN H' (hN (M := [_]) hp)))
    | ((with_reducible apply Sy.dcall0 (k := 13)); (case hw => first | exact wantY_none); (case h1 => exact rfl); (case hS => intro h hh; exact hh); (case hi1 => exact rfl); (case hd => exact rfl); (case hf => exact rfl); (case hen => exact en13); (case hx => exact rfl); (case hc => intro H' hp; exact c_num 1 H'))
    | ((with_reducible apply Sy.newY (o := ⟨some 7, .alloc 45, _, _, _, _⟩)); (case ho => exact rfl); (case hd => exact rfl); (case hc => exact (nwz45)); intro q7)
    | ((with_reducible apply Sy.newY (o := ⟨some 51, .box 49 _, _, _, _, _⟩)); (case ho => exact rfl); (case hd => exact rfl); (case hc => exact (nbA rfl)); intro q51)
    | (with_reducible refine Sy.skip ?_)
    | (with_reducible refine Sy.block ?_)
    | (with_reducible refine Sy.inrm ?_)
    | ((with_reducible apply Sy.drawL (id := 6) 35 [(24, 21)] (fun hi h => h < hi)); (case hp => kernel_rfl); (case hN => exact rfl); intro base hbase hM; try simp only [List.forall_mem_cons, List.forall_mem_append, List.not_mem_nil, false_implies, implies_true, and_true] at hM)
    | ((with_reducible apply Sy.no); (case hx => exact rfl))
    | (with_reducible refine Sy.dend ?_)
    | ((with_reducible apply Sy.dgo); (case hw => first | exact wantY_none | exact wantY_some rfl rfl rfl); (case hc => intro hcls; cases hcls); (case h1 => exact rfl); (case h2 => exact rfl))
    | ((with_reducible apply Sy.dld); (case hw => first | exact wantY_some rfl rfl rfl); (case hx => exact rfl); (case hb => omega); (case h2 => exact rfl))
    | ((with_reducible apply Sy.ite); (case hx => exact rfl); all_goals (intro hc; try (exfalso; omega))))
    exact Sy.rnrm (i + 1, some q51) (by dsimp only; omega) (by dsimp only; omega) ⟨rfl, rfl, rfl, rfl, trivial⟩ (fun H1 hp => hp.less (List.Sublist.cons_cons _ (List.Sublist.cons _ (List.sublist_append_right _ _))))
  · repeat' (first
    | (with_reducible refine Sy.seq ?_)
    | (with_reducible refine Sy.regionL ?_)
    | (with_reducible refine Sy.opsnil ?_)
    | (with_reducible refine Sy.go ?_)
    | (with_reducible refine Sy.nrm ?_)
    | ((with_reducible apply Sy.assign); (case hd => exact rfl); (case hx => exact rfl))
    | ((with_reducible apply Sy.move); (case hd => exact rfl); (case hx => exact rfl))
    | ((with_reducible apply Sy.bin (op := .lss) (t := 3)); (case hd => exact rfl); (case hx => exact rfl); (case hy => exact rfl); (case hv => exact b_lss))
    | ((with_reducible apply Sy.call0 (k := 11)); (case hd => exact rfl); (case hf => exact rfl); (case hen => exact en11); (case hx => exact rfl); (case hc => intro H' hp; exact c_knows hn H' (g.of hp (by simp))))
    | (with_reducible refine Sy.exit ?_)
    | (with_reducible refine Sy.ret ?_)
    | (with_reducible refine Sy.aex ?_)
    | ((with_reducible apply Sy.iex); (case hi' => exact rfl))
    | (with_reducible refine Sy.rex ?_)
    | ((with_reducible apply Sy.ite); (case hx => exact rfl); all_goals (intro hc; try (exfalso; omega))))
    exact .fin [.bool true] (.inr rfl) ⟨rfl, trivial⟩ fun H' hp => ⟨rfl, hp.less (List.nil_sublist _)⟩
end Go.Proofs.YtiimllfpkcohkaaDoor

/- SmtNil: no map, and one that nobody made, answer as they must. -/
namespace Go.Proofs.YtiimllfpkcohkaaDoor
open Go Go.Am Go.ChangeShapes Go.WideShapes Go.RowKit
set_option maxRecDepth 100000

theorem smtNil_lifted (os : Os) (started : os.Started) (H : Type) (enc : TypeId × Value → H) :
    ReturnsInHanded {} Tryd.checked os 6 .any (fun w args => (Rows.smtNilSpec.pre enc Tryd.prog Tryd.f6 Rows.smtNilRow.domain false w args ∧ laidMetH Tryd.prog laidV w) ∧ sizedMet enc Tryd.prog Tryd.f6 (OpenSpec.ofChange Rows.smtNilSpec) false w args)
      (Rows.smtNilSpec.post enc Tryd.prog Tryd.f6 false true false false) := by
  refine returnsInHanded_of_change_and (C := Tryd.checked) (X := fun w _ => laidMetH Tryd.prog laidV w) (fun _ _ _ hh h => h.of_heap hh) Tryd.own started (by kernel_rfl) Tryd.func6
    (ChangeSpec.witness_shaped (enc := enc) (C := Tryd.checked) (os := os) (X := fun w _ => laidMetH Tryd.prog laidV w) false (World.laidAll Tryd.prog os laidV) #[hV zeroH, hV zeroH] 8 (World.laidAll_os _ _ _)
      (World.shaped_of_ZipB (by kernel_rfl) (by kernel_rfl)) (by kernel_rfl) (by kernel_rfl) (by kernel_rfl)
      (by rw [MakeChecks.laidMetH_plain _ _ _ (by kernel_rfl)]; exact laidMet_laidAll _ (by kernel_rfl) (by kernel_rfl))) ?_
  intro W base args ds gs before hval0 hW _ _ hL _
  have hval : ∀ (j : Nat) t v, Tryd.f6.params[j]? = some t → args[j]? = some v → Value.okWide Tryd.prog W .any base t v := hval0
  have hW' := hW
  obtain ⟨p, q, hA0, hV0, rfl, _, _⟩ := hW
  have hA : DataW.TrodAll enc Tryd.prog W 0 (fun _ => true) true Tryd.f6.params.toList args.toList ds p := hA0
  rw [Tryd.params6] at hA hval
  obtain ⟨v0, v1, d0, d1, p0, p1, rfl, rfl, rfl, e0, e1⟩ := trodAll_two hA
  obtain ⟨rfl, rfl⟩ := trodVars_none hV0
  obtain ⟨a, rfl, rfl⟩ := open_hash (hval 0 23 v0 rfl rfl) e0
  obtain ⟨b, rfl, rfl⟩ := open_hash (hval 1 23 v1 rfl rfl) e1
  have hrun := calls_of_walk hL (by simp [plainL, plain_hV]) (c_SmtNil knows_val a b heap0 heap0_gl)
  refine hrun.mono fun e W' ⟨he, hb⟩ => ?_
  subst he
  refine ⟨_, rfl, _, _, _, [], [], [], hW', ?_, ?_, ?_, hb.frame _, fun h => by cases h⟩
  · exact trodAll_mk1 (shut_bool Tryd.underlying4 true)
  · exact trodAll_mk2 (Below.trod Tryd.laidOut (by kernel_rfl) (of_decide_eq_true (by kernel_rfl)) e0 hb (by simp)) (Below.trod Tryd.laidOut (by kernel_rfl) (of_decide_eq_true (by kernel_rfl)) e1 hb (by simp))
  · rfl

theorem smtNil_holds : Rows.SmtNilSaid :=
  OpenClaim.holds_of_wide 6 Tryd.f6 rfl rfl rfl rfl rfl rfl rfl ⟨rfl, rfl, rfl, rfl, rfl⟩ rfl rfl rfl rfl rfl (by kernel_rfl) Tryd.func6 (by kernel_rfl)
    (of_decide_eq_true (by kernel_rfl)) (by unfold Func.isWrapper; first | (rw [if_pos (by decide +kernel)]; kernel_rfl) | (rw [if_neg (by decide +kernel)]; exact ⟨rfl, rfl⟩))
    (fun os started H enc _ => smtNil_lifted os started H enc)

theorem smtNil_card : Rows.SmtNilCardSaid :=
  Claim7.holds_tied_plain_at .later [] [.data, .data] true (true, "ac47a654e2f1c320af79ed81a84a162073c8af513ae0c75ff4a5ef174bfc12e1") false smtNil_holds (fun _ h => by cases h) (by kernel_rfl) (fun _ h => by cases h) smtNil_row_tie rfl ⟨rfl, rfl⟩ (by kernel_rfl) rfl
    (fun f fn hf hfn => by
      obtain rfl : f = 6 := Option.some.inj ((show Tryd.prog.funcNamed "bascule/basculelaw05.SmtNil" = some 6 by kernel_rfl).symm.trans hf) |>.symm
      obtain rfl : fn = Tryd.f6 := (Option.some.inj (Tryd.func6.symm.trans hfn)).symm
      exact ⟨by kernel_rfl, fun j t ht => by
        rw [Tryd.params6] at ht
        have hm : t ∈ [23] := by simpa using Array.mem_of_getElem? ht
        have hall : ([23].all fun u => !Tryd.prog.wantsStandIn u) = true := by kernel_rfl
        exact (show Tryd.prog.wantsStandIn t = false by simpa using List.all_eq_true.1 hall t hm)⟩)
    (by kernel_rfl)
#print axioms smtNil_card
end Go.Proofs.YtiimllfpkcohkaaDoor
