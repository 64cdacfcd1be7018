/- DerivePrefix holds for every input. -/
import Derived.Test.YtcaafoibabijgaaRows
import Derived.Test.YtcaafoibabijgaaAmC
import Derived.Test.YtcaafoibabijgaaLay
import Derived.Test.YtcaafoibabijgaaFacts
import Derived.ProofKit
import Derived.OpenShut
import Derived.WalkKit
import Derived.SizedLaws
import Derived.Test.YtcaafoibabijgaaDerD
set_option linter.unusedSimpArgs false
set_option linter.unusedVariables false
/- From the walk to the row, where no variable is listed. -/
namespace Go.Proofs.Ytcaafoibabijgaa
open Go Go.Am Go.ChangeShapes Go.WideShapes Go.RowKit
set_option maxRecDepth 100000

theorem Try.own : ownKnob Try.prog.godebug = none := by kernel_rfl
theorem Try.laidOut : laidOutB Try.prog = true := by kernel_rfl
theorem glob0 : Try.prog.globals.size = 0 := by kernel_rfl
/-- The abstract heap at the law's call: nothing. -/
def heap0 : AHeap := ⟨[]⟩
def inj0 : Inj := fun _ => none
theorem heap0_rel {W : World} : HRel Try.prog W.heap.size inj0 heap0 W := by
  refine ⟨?_, ?_, ?_, ?_, ?_, ?_, Nat.le_refl _⟩
  · intro x l e; cases e
  · intro x l e; cases e
  · intro x y l m e; cases e
  · intro x l e; cases e
  · intro x l e; cases e
  · intro g hg
    rw [glob0] at hg
    omega
theorem heap0_ro (h : Nat) : (heap0.get h).wlive = false := rfl
theorem heap0_lying {W : World} : Lying Try.prog W inj0 heap0 := ⟨heap0_rel, heap0_ro⟩
end Go.Proofs.Ytcaafoibabijgaa

/- From the walk to the row, where no variable is listed: any arguments. -/
namespace Go.Proofs.Ytcaafoibabijgaa
open Go Go.Am Go.ChangeShapes Go.WideShapes Go.RowKit
set_option maxRecDepth 100000

theorem shape_lt {W : World} {x : Nat} {p : TypeId × Nat} (h : W.shape? x = some p) : 0 < W.heap.size := by
  unfold World.shape? at h
  by_cases hx : x < W.heap.size
  · omega
  · simp [Array.getElem?_eq_none (Nat.le_of_not_lt hx)] at h
theorem nil_sl {W : World} {r : Reach} {b : Nat} {t e : TypeId} {v : Value} (h0 : ¬ 0 < W.heap.size) (u : Try.prog.underlying t = some (.slice e)) (hv : Value.okWide Try.prog W r b t v) : v = .slice none 0 0 := by
  unfold Value.okWide at hv
  rw [u] at hv
  dsimp only at hv
  unfold Cell.okWide at hv
  rw [u] at hv
  dsimp only at hv
  unfold Cell.ok at hv
  rw [u] at hv
  cases v with
  | slice p n c =>
    cases p with
    | none =>
      match n, c, hv with
      | 0, 0, _ => rfl
    | some a =>
      obtain ⟨_, _, _, _, row, cells, hs, _⟩ := hv
      exact absurd (shape_lt hs) h0
  | _ => exact hv.elim
theorem shv_nil {H : AHeap} {m : Nat} {t e : TypeId} (u : Try.prog.underlying t = some (.slice e)) : ShV Try.prog H (m + 1) t (.slice none 0 0) := by
  unfold ShV
  rw [u]
  show Sh Try.prog H (m + 1) t [.slice none 0 0]
  unfold Sh
  rw [u]
  exact ⟨0, by simp, .inl ⟨rfl, rfl⟩⟩
theorem int_ok {W : World} {r : Reach} {b : Nat} {t : TypeId} {v : Value} (u : Try.prog.underlying t = some (.int .i64)) (hv : Value.okWide Try.prog W r b t v) : ∃ n, v = .int .i64 n ∧ (Lit.int .i64 n).wf = true := by
  unfold Value.okWide at hv
  rw [u] at hv
  dsimp only at hv
  unfold Cell.okWide at hv
  rw [u] at hv
  dsimp only at hv
  unfold Cell.ok at hv
  rw [u] at hv
  cases v with
  | int k n =>
    obtain ⟨rfl, h⟩ := hv
    exact ⟨n, rfl, by simp only [Lit.wf, Bool.and_eq_true, decide_eq_true_eq]; exact h⟩
  | _ => exact hv.elim
theorem shv_i64 {H : AHeap} {m : Nat} {t : TypeId} {n : Int} (u : Try.prog.underlying t = some (.int .i64)) (h : (Lit.int .i64 n).wf = true) : ShV Try.prog H (m + 1) t (.int .i64 n) := by
  unfold ShV
  rw [u]
  show Sh Try.prog H (m + 1) t [.int .i64 n]
  unfold Sh
  rw [u]
  exact ⟨n, rfl, h⟩
theorem calls_of_plain {HH : Type} {enc : TypeId × Value → HH} {f : FuncId} {ts : List TypeId} {W : World} {args : Array Value} {ds : List (DataW HH)} {ps : List MemPlace} {r : Reach} {b : Nat}
    (hA : DataW.TrodAll enc Try.prog W 0 (fun _ => true) true ts args.toList ds ps) (hd : ts.all (dataT Try.prog 12) = true) (hv : ∀ (j : Nat) t v, ts[j]? = some t → args.toList[j]? = some v → Value.okWide Try.prog W r b t v) (hw : ∀ n ∈ DataW.weightsEach Try.prog ts ds, n ≤ reachBytes)
    (hnil : ¬ 0 < W.heap.size → ∃ zs, LRel inj0 zs args.toList ∧ EachV (ShV Try.prog heap0 12) ts zs)
    (c : ∀ vs H, EachV (ShV Try.prog H 12) ts vs → CallR Try.prog noPrims f vs H (fun u _ => u = .bool true)) :
    Calls Try.prog f args W fun e W' => e = .returned (.bool true) ∧ Below W.heap.size W W' := by
  by_cases h0 : 0 < W.heap.size
  · obtain ⟨β, H, _, hx, l, vs, hr, hs⟩ := layw_args h0 12 ts args.toList ds ps hA hd hv hw inj0 heap0 heap0_lying
    obtain ⟨n, v, H', hcall, rfl⟩ := c vs H hs
    exact sim_true (call_sim mixed good noPrims_keep (noPrims_sim _ _) n) hcall l.rel l.ro hr
  · obtain ⟨zs, hr, hs⟩ := hnil h0
    obtain ⟨n, v, H', hcall, rfl⟩ := c zs heap0 hs
    exact sim_true (call_sim mixed good noPrims_keep (noPrims_sim _ _) n) hcall heap0_rel heap0_ro hr
/-- The row's step, with the weights. -/
theorem returns_of_plain {H : Type} {enc : TypeId × Value → H} {a : Assume} {C : Checked} {os : Os} {f : FuncId} {fn : Func} {s : ChangeSpec} {conds : List PathCond} {apart fresh handsOn again : Bool}
    (own : ownKnob C.prog.godebug = none) (started : os.Started) (noInit : C.prog.inits.idxOf? f = none) (hfn : C.prog.funcs[f]? = some fn)
    (witness : ∃ (w : World) (tape : Tape) (i : Input), w.os = os ∧ (w.forCall tape i).Shaped C.prog ∧ i.vars = [] ∧ Input.okWide C.prog (w.forCall tape i) .any w.heap.size f i ∧
      s.pre6 enc C.prog fn conds apart (w.forCall tape i).memory i.args ∧ a.holds C.prog (lone (Frame.enter C.prog f i.args .normal) [] (w.forCall tape i)))
    (contract : ∀ (W : World) (base : Nat) (args : Array Value) (ds gs : List (DataW H)) (before : List MemPlace),
      (∀ (j : Nat) t v, fn.params[j]? = some t → args[j]? = some v → Value.okWide C.prog W .any base t v) →
      DataW.Whole enc C.prog fn.params.toList s.vars apart W args.toList ds gs before →
      (DataW.weightsEach C.prog (fn.params.toList ++ s.plain.varTypes C.prog) (ds ++ gs)).all (· ≤ reachBytes) = true →
      Calls C.prog f args W fun e W' => ∃ v, e = .returned v ∧ s.post enc C.prog fn apart fresh handsOn again W args v W') :
    ReturnsInHanded a C os f .any (s.pre6 enc C.prog fn conds apart) (s.post enc C.prog fn apart fresh handsOn again) := by
  refine returnsInHanded_of_calls own started noInit witness ?_
  intro w tape i _ _ _ hok hpre hholds
  obtain ⟨_, _, _, fn', hfn', _, _, _, _, hval⟩ := hok
  have e : fn' = fn := Option.some.inj (hfn'.symm.trans hfn)
  subst e
  obtain ⟨⟨ds, gs, before, hw, hc⟩, hz⟩ := hpre
  have hw' := DataW.Whole.of_heap (w' := w.forCall tape i) (by rfl) hw
  refine (contract (w.forCall tape i) w.heap.size i.args ds gs before hval hw' (hz.weights hw)).mono fun e W' ⟨v, he, hp⟩ => ?_
  subst he
  exact ChangeSpec.post_blind hp
end Go.Proofs.Ytcaafoibabijgaa

/- Layer 14: blocks as arguments. -/
namespace Go.Proofs.Ytcaafoibabijgaa
open Go Go.Am Go.ChangeShapes Go.WideShapes Go.RowKit
set_option maxRecDepth 100000

theorem sh_bytes {H : AHeap} {m : Nat} {cs : List Value} (h : Sh Try.prog H (m + 2) 23 cs) : ∃ v l, cs = [v] ∧ SlR H 1 v l.length (ints .u8 l) ∧ (∀ x ∈ l, x < 256) ∧ l.length ≤ 140737488351232 := by
  obtain ⟨n, hn, h2⟩ := sh_slice Try.underlying23 h
  have hb : Try.prog.bytesOf 5 = 1 := by kernel_rfl
  rw [hb, show reachBytes = 140737488351232 from rfl] at hn
  rcases h2 with ⟨rfl, rfl⟩ | ⟨b, ocs, rfl, hg, hr⟩
  · exact ⟨_, [], rfl, .nil, by simp, by simp⟩
  · obtain ⟨l, rfl, rfl, h3⟩ := row_ints (k := .u8) Try.underlying5 (.inl rfl) hr
    exact ⟨_, l, rfl, .mk hg (by simp) (by rw [List.drop_zero, List.take_of_length_le (by simp)]), fun x hx => h3 x hx, by omega⟩
theorem sh_u64 {H : AHeap} {m : Nat} {cs : List Value} (h : Sh Try.prog H (m + 1) 53 cs) : ∃ n : Nat, cs = [.int .u64 (n : Int)] ∧ n < 18446744073709551616 := by
  obtain ⟨z, rfl, hw⟩ := sh_int Try.underlying53 h
  obtain ⟨x, rfl, hx⟩ := wf_uint (.inr (.inr (.inr rfl))) hw
  exact ⟨x, rfl, hx⟩
theorem sh_wide {H : AHeap} {m : Nat} {cs : List Value} (h : Sh Try.prog H (m + 2) 55 cs) : ∃ w : Wd, cs = wC w := by
  obtain ⟨l, h1, h2, h3⟩ := row_ints (k := .u64) Try.underlying53 (.inr (.inr (.inr rfl))) (sh_array Try.underlying55 h)
  exact ⟨⟨l, h1, fun x hx => h3 x hx⟩, h2⟩
theorem sh_rmsg {H : AHeap} {m : Nat} {cs : List Value} (h : Sh Try.prog H (m + 3) 66 cs) : ∃ (x : Msg) (v : Value), cs = msgC x v ∧ x.ok ∧ SlR H 1 v x.d.length (ints .u8 x.d) ∧ x.d.length ≤ 140737488351232 := by
  obtain ⟨a1, r1, rfl, h1, a2, r2, rfl, h2, a3, r3, rfl, h3, a4, r4, rfl, h4, a5, r5, rfl, h5, a6, r6, rfl, h6, rfl⟩ := sh_struct Try.underlying66 h
  obtain ⟨n, rfl, hn⟩ := sh_u64 (m := m + 1) h1
  obtain ⟨s, rfl, hs⟩ := sh_u64 (m := m + 1) h2
  obtain ⟨t, rfl, ht⟩ := sh_u64 (m := m + 1) h3
  obtain ⟨w, rfl⟩ := sh_wide (m := m) h4
  obtain ⟨g, rfl, hg⟩ := sh_u64 (m := m + 1) h5
  obtain ⟨v, d, rfl, h7, h8, h9⟩ := sh_bytes (m := m) h6
  exact ⟨⟨n, s, t, w, g, d⟩, v, by simp [msgC], ⟨hn, hs, ht, hg, h8⟩, h7, h9⟩
theorem wf_i64 {n : Int} (h : (Lit.int .i64 n).wf = true) : -9223372036854775808 ≤ n ∧ n < 9223372036854775808 := by
  simp only [Lit.wf, Bool.and_eq_true, decide_eq_true_eq] at h
  have h1 : IntKind.i64.min = -9223372036854775808 := rfl
  have h2 : IntKind.i64.max = 9223372036854775807 := rfl
  omega
theorem sh_rmsgs {H : AHeap} {m : Nat} {cs : List Value} (h : Sh Try.prog H (m + 4) 62 cs) : ∃ (es : List Mel) (v : Value), cs = [v] ∧ MsQ (knH H) 66 v es ∧ es.length < 4611686018427387904 := by
  obtain ⟨n, hn, h2⟩ := sh_slice (m := m + 3) Try.underlying62 h
  have hb : Try.prog.bytesOf 66 = 88 := by kernel_rfl
  rw [hb, show reachBytes = 140737488351232 from rfl] at hn
  rcases h2 with ⟨rfl, rfl⟩ | ⟨b, ocs, rfl, hg, hr⟩
  · exact ⟨[], _, rfl, ⟨⟨none, 0, rfl, .inl rfl⟩, by simp⟩, by simp⟩
  · obtain ⟨es, rfl, rfl, hq⟩ := hr.list (enc := fun e : Mel => msgC e.1 e.2) (Q := fun e => e.1.ok ∧ SlQ (knH H) e.2 e.1.d ∧ e.1.d.length ≤ 140737488355328) fun a ha => by
      obtain ⟨x, v, e1, e2, e3, e4⟩ := sh_rmsg (m := m) ha
      exact ⟨(x, v), e1, e2, SlQ.of e3, by dsimp only; omega⟩
    exact ⟨es, _, rfl, ⟨⟨_, _, rfl, .inr ⟨b, _, rfl, hg⟩⟩, hq⟩, by omega⟩
theorem sh_rows {H : AHeap} {m : Nat} {cs : List Value} (h : Sh Try.prog H (m + 3) 35 cs) : ∃ (es : List Bel) (v : Value), cs = [v] ∧ BsQ (knH H) v es ∧ es.length < 4611686018427387904 := by
  obtain ⟨n, hn, h2⟩ := sh_slice (m := m + 2) Try.underlying35 h
  have hb : Try.prog.bytesOf 23 = 24 := by kernel_rfl
  rw [hb, show reachBytes = 140737488351232 from rfl] at hn
  rcases h2 with ⟨rfl, rfl⟩ | ⟨b, ocs, rfl, hg, hr⟩
  · exact ⟨[], _, rfl, ⟨⟨none, 0, rfl, .inl rfl⟩, by simp⟩, by simp⟩
  · obtain ⟨es, rfl, rfl, hq⟩ := hr.list (enc := fun e : Bel => [e.2]) (Q := fun e => (∀ x ∈ e.1, x < 256) ∧ SlQ (knH H) e.2 e.1 ∧ e.1.length ≤ 140737488355328) fun a ha => by
      obtain ⟨v, l, e1, e2, e3, e4⟩ := sh_bytes (m := m) ha
      exact ⟨(l, v), e1, e3, SlQ.of e2, by dsimp only; omega⟩
    have ec : (es.map fun e : Bel => [e.2]).flatten = bsC es := by
      clear hq hg hr hn h
      induction es with
      | nil => rfl
      | cons a r ih => simp only [List.map_cons, List.flatten_cons, bsC] at ih ⊢; rw [ih]; rfl
    rw [ec] at hg
    exact ⟨es, _, rfl, ⟨⟨_, _, rfl, .inr ⟨b, _, rfl, hg⟩⟩, hq⟩, by omega⟩
theorem sh_rblock {H : AHeap} {m : Nat} {cs : List Value} (h : Sh Try.prog H (m + 5) 64 cs) : ∃ x : Kel, cs = x.c ∧ KelQ (knH H) 66 x ∧ x.bs.length < 4611686018427387904 ∧ x.ms.length < 4611686018427387904 := by
  obtain ⟨a1, r1, rfl, h1, a2, r2, rfl, h2, rfl⟩ := sh_struct Try.underlying64 h
  obtain ⟨ms, mv, rfl, hm, hml⟩ := sh_rmsgs (m := m) h1
  obtain ⟨bs, bv, rfl, hbq, hbl⟩ := sh_rows (m := m + 1) h2
  exact ⟨⟨ms, mv, bs, bv⟩, rfl, ⟨hm, hbq⟩, hbl, hml⟩
theorem sh_rblocks {H : AHeap} {m : Nat} {v : Value} (h : ShV Try.prog H (m + 6) 22 v) : ∃ xs : List Kel, KsQ (knH H) 66 64 v xs ∧ xs.length < 4611686018427387904 ∧ ∀ x ∈ xs, x.bs.length < 4611686018427387904 ∧ x.ms.length < 4611686018427387904 := by
  obtain ⟨n, hn, h2⟩ := sh_slice (m := m + 5) Try.underlying22 (shv_one (by rw [Try.underlying22]) h)
  have hb : Try.prog.bytesOf 64 = 48 := by kernel_rfl
  rw [hb, show reachBytes = 140737488351232 from rfl] at hn
  rcases h2 with ⟨e, rfl⟩ | ⟨b, ocs, e, hg, hr⟩
  · simp only [List.cons.injEq, and_true] at e
    exact ⟨[], ⟨⟨none, 0, e, .inl rfl⟩, by simp⟩, by simp, by simp⟩
  · simp only [List.cons.injEq, and_true] at e
    obtain ⟨xs, rfl, rfl, hq⟩ := hr.list (enc := Kel.c) (Q := fun x => KelQ (knH H) 66 x ∧ x.bs.length < 4611686018427387904 ∧ x.ms.length < 4611686018427387904) fun a ha => by
      obtain ⟨x, e1, e2, e3, e4⟩ := sh_rblock (m := m) ha
      exact ⟨x, e1, e2, e3, e4⟩
    exact ⟨xs, ⟨⟨_, _, e, .inr ⟨b, _, rfl, hg⟩⟩, fun x hx => (hq x hx).1⟩, by omega, fun x hx => (hq x hx).2⟩
theorem law_DerivePrefix (vs : List Value) (H : AHeap) (hs : EachV (ShV Try.prog H 12) [22, 22, 3] vs) : CallR Try.prog noPrims 5 vs H (fun u _ => u = .bool true) := by
  obtain ⟨v1, _, rfl, h1, v2, _, rfl, h2, v3, _, rfl, h3, rfl⟩ := hs
  obtain ⟨xs, hx1, hx2, hx3⟩ := sh_rblocks (m := 6) h1
  obtain ⟨ys, hy1, hy2, hy3⟩ := sh_rblocks (m := 6) h2
  obtain ⟨w, e, hw⟩ := sh_int (m := 11) Try.underlying3 (shv_one (by rw [Try.underlying3]) h3)
  simp only [List.cons.injEq, and_true] at e
  subst e
  exact c_DerivePrefix xs ys w v1 v2 H hx1 hy1 (wf_i64 hw) hx2 hy2 hx3 hy3
end Go.Proofs.Ytcaafoibabijgaa

/- DerivePrefix: the row. -/
namespace Go.Proofs.Ytcaafoibabijgaa
open Go Go.Am Go.ChangeShapes Go.WideShapes Go.RowKit Go.ChangeAt
set_option maxRecDepth 100000

theorem derivePrefix_lifted (os : Os) (started : os.Started) (H : Type) (enc : TypeId × Value → H) :
    ReturnsInHanded {} Try.checked os 5 .any (Rows.derivePrefixSpec.pre6 enc Try.prog Try.f5 Rows.derivePrefixRow.domain false)
      (Rows.derivePrefixSpec.post enc Try.prog Try.f5 false true false false) := by
  refine returns_of_plain (C := Try.checked) Try.own started (by kernel_rfl) Try.func5
    (ChangeSpec.witness6 (enc := enc) (C := Try.checked) false ⟨#[], #[.slice none 0 0, .slice none 0 0, .int .i64 ((0 : Nat) : Int)], []⟩ 8 (by kernel_rfl) (by kernel_rfl) (by kernel_rfl) (by kernel_rfl)) ?_
  intro W base args ds gs before hval hW hwt
  have hW' := hW
  obtain ⟨p, q, hA0, hV0, rfl, _, _⟩ := hW
  have hA : DataW.TrodAll enc Try.prog W 0 (fun _ => true) true Try.f5.params.toList args.toList ds p := hA0
  rw [Try.params5] at hA
  replace hA : DataW.TrodAll enc Try.prog W 0 (fun _ => true) true [22, 22, 3] args.toList ds p := hA
  have hds : ∃ d0 d1 d2, ds = [d0, d1, d2] := by
    obtain ⟨_, _, d0, _, _, _, _, rfl, _, _, hA1⟩ := trodAll_cons hA
    obtain ⟨_, _, d1, _, _, _, _, rfl, _, _, hA2⟩ := trodAll_cons hA1
    obtain ⟨_, _, d2, _, _, _, _, rfl, _, _, hA3⟩ := trodAll_cons hA2
    obtain ⟨_, rfl, _⟩ := trodAll_nil hA3
    exact ⟨d0, d1, d2, rfl⟩
  obtain ⟨d0, d1, d2, rfl⟩ := hds
  obtain ⟨rfl, rfl⟩ := trodVars_none hV0
  have hlt := hA.lt
  have hwt' : ∀ n ∈ DataW.weightsEach Try.prog [22, 22, 3] [d0, d1, d2], n ≤ reachBytes := fun x hx => of_decide_eq_true (List.all_eq_true.1 (show (DataW.weightsEach Try.prog (Try.f5.params.toList ++ Rows.derivePrefixSpec.plain.varTypes Try.prog) ([d0, d1, d2] ++ [])).all (· ≤ reachBytes) = true from hwt) x (by rw [Try.params5]; exact hx))
  have hok : ∀ (j : Nat) t v, ([22, 22, 3] : List TypeId)[j]? = some t → args.toList[j]? = some v → Value.okWide Try.prog W .any base t v := fun j t v ht hv => hval j t v (by rw [Try.params5]; simpa using ht) (by simpa using hv)
  have hnil : ¬ 0 < W.heap.size → ∃ zs, LRel inj0 zs args.toList ∧ EachV (ShV Try.prog heap0 12) [22, 22, 3] zs := fun hz => by
    have hA9 := hA
    generalize args.toList = al at hok hA9 ⊢
    clear hwt' hlt hwt hW' hV0 hA0 hA
    obtain ⟨v0, vs0, _, _, _, _, rfl, _, rfl, _, hA9⟩ := trodAll_cons hA9
    obtain ⟨v1, vs1, _, _, _, _, rfl, _, rfl, _, hA9⟩ := trodAll_cons hA9
    obtain ⟨v2, vs2, _, _, _, _, rfl, _, rfl, _, hA9⟩ := trodAll_cons hA9
    obtain ⟨rfl, _, _⟩ := trodAll_nil hA9
    obtain rfl := nil_sl hz Try.underlying22 (hok 0 _ _ rfl rfl)
    obtain rfl := nil_sl hz Try.underlying22 (hok 1 _ _ rfl rfl)
    obtain ⟨n2, rfl, w2⟩ := int_ok Try.underlying3 (hok 2 _ _ rfl rfl)
    exact ⟨[.slice none 0 0, .slice none 0 0, .int .i64 n2], (.cons .snil (.cons .snil (.cons (.int _ _) .nil))), ⟨_, _, rfl, shv_nil Try.underlying22, ⟨_, _, rfl, shv_nil Try.underlying22, ⟨_, _, rfl, shv_i64 Try.underlying3 w2, rfl⟩⟩⟩⟩
  have hrun := calls_of_plain (f := 5) (ts := [22, 22, 3]) hA (by kernel_rfl) hok hwt' hnil law_DerivePrefix
  refine hrun.mono fun e W' ⟨he, hb⟩ => ?_
  subst he
  refine ⟨_, rfl, _, _, _, [], p, [], hW', ?_, ?_, ?_, hb.frame _, fun h => by cases h⟩
  · exact trodAll_mk1 (shut_bool Try.underlying4 true)
  · show DataW.TrodAll enc Try.prog W' 0 (fun b => decide (b < W.heap.size)) true Try.f5.params.toList args.toList [d0, d1, d2] p
    rw [Try.params5]
    exact trod_below Try.laidOut hb [22, 22, 3] _ _ _ hA (by kernel_rfl) (fun x hx => hlt x hx)
  · rfl

theorem derivePrefix_holds : Rows.DerivePrefixSaid :=
  OpenClaim.holds_of_wide 5 Try.f5 rfl rfl rfl rfl rfl rfl rfl ⟨rfl, rfl, rfl, rfl, rfl⟩ rfl rfl rfl rfl rfl (by kernel_rfl) Try.func5 (by kernel_rfl)
    (of_decide_eq_true (by kernel_rfl)) (by unfold Func.isWrapper; first | (rw [if_pos (by decide +kernel)]; kernel_rfl) | (rw [if_neg (by decide +kernel)]; exact ⟨rfl, rfl⟩))
    (fun os started H enc _ => derivePrefix_lifted os started H enc)
#print axioms derivePrefix_holds
end Go.Proofs.Ytcaafoibabijgaa
