/- From walks to rows. -/
import Derived.Test.YtjimjolfnimimaaDoorRows
import Derived.Test.YtjimjolfnimimaaDoorWalkA
import Derived.Test.YtjimjolfnimimaaDoorAmC
import Derived.ProofKit
import Derived.OpenShut
import Derived.LaidMore
import Derived.Lay
import Derived.SevenTiedAt
import Derived.Stop.Joined
import Derived.Test.YtjimjolfnimimaaDoorLay
set_option linter.unusedSimpArgs false
set_option linter.unusedVariables false
/- From the walk to the row: hashes as arguments, the two laid variables. -/
namespace Go.Proofs.YtjimjolfnimimaaDoor
open Go Go.Am Go.ChangeShapes Go.WideShapes Go.RowKit
set_option maxRecDepth 100000

theorem Tryd.own : ownKnob Tryd.prog.godebug = none := by kernel_rfl
theorem Tryd.laidOut : laidOutB Tryd.prog = true := by kernel_rfl
theorem cellsU32 : Tryd.prog.cellsOf 189 = 1 := by kernel_rfl
/-- A laid row of numbers, as it stands in its cells. -/
theorem laid_cells {W : World} {g n : Nat} {t : TypeId} {nm : String} {zs : List Nat} {cs : Array Value} {fuel : Nat} {p : List MemPlace} (ht : Tryd.prog.underlying t = some (.array n 189)) (hg : Tryd.prog.globalNamed nm = some g) (hv : W.var? Tryd.prog nm = some cs)
    (hd : DataW.trod (fun _ => ()) Tryd.prog W 0 (fun _ => true) false fuel t cs.toList = some (.agg (zs.map fun z : Nat => (DataW.lit (.int .u32 (z : Int)) : DataW Unit)), p)) (i : Nat) (v : Value) (h : (ints .u32 zs)[i]? = some v) : W.cell? ⟨g, i, none⟩ = some v := by
  obtain ⟨xs, m, _, ex, hl, hl2, hel⟩ := DataW.trod_array ht hd
  have e3 : zs.map (fun z : Nat => (DataW.lit (.int .u32 (z : Int)) : DataW Unit)) = xs.map (·.1) := DataW.agg.inj (Prod.mk.inj ex).1
  have hlen : zs.length = xs.length := by have := congrArg List.length e3; simpa using this
  have hi : i < zs.length := by
    have := (List.getElem?_eq_some_iff.1 h).1
    simpa [ints] using this
  have hE := hel i (by omega)
  rw [cellsU32, Nat.mul_one, List.getElem?_eq_getElem (by omega)] at hE
  obtain ⟨z, e1, e2, _⟩ := DataW.trod_int Tryd.underlying189 hE
  have e4 : (zs.map fun z : Nat => (DataW.lit (.int .u32 (z : Int)) : DataW Unit))[i]? = (xs.map (·.1))[i]? := by rw [e3]
  rw [List.getElem?_map, List.getElem?_map, List.getElem?_eq_getElem hi, List.getElem?_eq_getElem (by omega : i < xs.length), e2] at e4
  simp only [Option.map_some, Option.some.injEq, DataW.lit.injEq, Lit.int.injEq, true_and] at e4
  have hv2 : v = .int .u32 ((zs[i] : Nat) : Int) := by
    rw [ints, List.getElem?_map, List.getElem?_eq_getElem hi] at h
    simpa using h.symm
  rw [World.var?_cell hg hv i, hv2, e4]
  have : cs.toList[i]? = some (.int .u32 z) := by
    have h0 : ((cs.toList.drop i).take 1)[0]? = some (.int .u32 z) := by rw [e1]; rfl
    simpa using h0
  simpa using this

def laidV : List (String × DataW Unit) := [("bascule/digest.first", Rows.laid_bascule_digest_first), ("bascule/digest.rounds", Rows.laid_bascule_digest_rounds)]
theorem laid_both {W : World} (h : laidMetH Tryd.prog laidV W) :
    (∀ i v, (ints .u32 s0S.l)[i]? = some v → W.cell? ⟨0, i, none⟩ = some v) ∧ (∀ i v, (ints .u32 sK)[i]? = some v → W.cell? ⟨1, i, none⟩ = some v) := by
  rw [MakeChecks.laidMetH_plain _ _ _ (by kernel_rfl)] at h
  obtain ⟨ps, ⟨g, t, cs, fuel, p, q, hg, ht, hv, hd, ⟨g', t', cs', fuel', p', q', hg', ht', hv', hd', _, _⟩, _⟩, _, _⟩ := h
  obtain rfl := Option.some.inj ((show Tryd.prog.globalNamed "bascule/digest.first" = some 0 by kernel_rfl).symm.trans hg)
  obtain rfl := Option.some.inj ((show (Tryd.prog.globals[0]?).map (·.type) = some 190 by kernel_rfl).symm.trans ht)
  obtain rfl := Option.some.inj ((show Tryd.prog.globalNamed "bascule/digest.rounds" = some 1 by kernel_rfl).symm.trans hg')
  obtain rfl := Option.some.inj ((show (Tryd.prog.globals[1]?).map (·.type) = some 195 by kernel_rfl).symm.trans ht')
  exact ⟨laid_cells Tryd.underlying190 hg hv hd, laid_cells Tryd.underlying195 hg' hv' hd'⟩

/-- The abstract heap at the law's call: the two variables. -/
def heap0 : AHeap := ⟨[.cells (ints .u32 s0S.l) 190 false, .cells (ints .u32 sK) 195 false]⟩
def inj0 : Inj := fun h => if h = 0 then some ⟨0, 0, 8⟩ else if h = 1 then some ⟨1, 0, 64⟩ else none
theorem heap0_ro (h : Nat) : (heap0.get h).wlive = false := by
  rcases h with _ | _ | h
  · rfl
  · rfl
  · rw [get_ge _ _ (by show 2 ≤ h + 2; omega)]; rfl
theorem cell_lt {W : World} {b i : Nat} {v : Value} (h : W.cell? ⟨b, i, none⟩ = some v) : b < W.heap.size := by
  rcases Nat.lt_or_ge b W.heap.size with h1 | h1
  · exact h1
  · simp [World.cell?, Array.getElem?_eq_none h1] at h
theorem heap0_rel {W : World} (h : laidMetH Tryd.prog laidV W) : HRel Tryd.prog W.heap.size inj0 heap0 W := by
  obtain ⟨h0, h1⟩ := laid_both h
  have l0 : 0 < W.heap.size := cell_lt (h0 0 _ rfl)
  have l1 : 1 < W.heap.size := cell_lt (h1 0 _ rfl)
  have plain : ∀ (β : Inj) (l : List Nat) (i : Nat) (v : Value), (ints .u32 l)[i]? = some v → VRel β v v := by
    intro β l i v hv
    rw [ints, List.getElem?_map] at hv
    simp only [Option.map_eq_some_iff] at hv
    obtain ⟨n, _, rfl⟩ := hv
    exact .int _ _
  have cases : ∀ x l, inj0 x = some l → (x = 0 ∧ l = ⟨0, 0, 8⟩) ∨ (x = 1 ∧ l = ⟨1, 0, 64⟩) := by
    intro x l e
    unfold inj0 at e
    by_cases hx : x = 0
    · rw [if_pos hx] at e; exact .inl ⟨hx, (Option.some.inj e).symm⟩
    · rw [if_neg hx] at e
      by_cases hx1 : x = 1
      · rw [if_pos hx1] at e; exact .inr ⟨hx1, (Option.some.inj e).symm⟩
      · rw [if_neg hx1] at e; simp at e
  refine ⟨?_, ?_, ?_, ?_, ?_, ?_, Nat.le_refl _⟩
  · intro x l e
    rcases cases x l e with ⟨rfl, rfl⟩ | ⟨rfl, rfl⟩
    · exact ⟨fun i v hv => ⟨v, by rw [Nat.zero_add]; exact h0 i v hv, plain _ _ i v hv⟩, fun hw => by cases hw⟩
    · exact ⟨fun i v hv => ⟨v, by rw [Nat.zero_add]; exact h1 i v hv, plain _ _ i v hv⟩, fun hw => by cases hw⟩
  · intro x l e
    rcases cases x l e with ⟨rfl, rfl⟩ | ⟨rfl, rfl⟩
    · exact l0
    · exact l1
  · intro x y l m _ _ hw; rw [heap0_ro] at hw; cases hw
  · intro x l _ hw; rw [heap0_ro] at hw; cases hw
  · intro x l e
    rcases cases x l e with ⟨rfl, rfl⟩ | ⟨rfl, rfl⟩ <;> decide
  · intro g hg
    have : Tryd.prog.globals.size = 2 := by kernel_rfl
    rcases g with _ | _ | g
    · exact ⟨8, rfl⟩
    · exact ⟨64, rfl⟩
    · omega

end Go.Proofs.YtjimjolfnimimaaDoor

/- From the walk to the row, for any arguments that may be laid out. -/
namespace Go.Proofs.YtjimjolfnimimaaDoor
open Go Go.Am Go.ChangeShapes Go.WideShapes Go.RowKit
set_option maxRecDepth 100000

theorem heap0_lying {W : World} (h : laidMetH Tryd.prog laidV W) : Lying Tryd.prog W inj0 heap0 := ⟨heap0_rel h, heap0_ro⟩
theorem Gl.ext {H : AHeap} (k : Ext heap0 H) : Gl H := ⟨⟨_, k.get (h := 0) rfl rfl⟩, ⟨_, k.get (h := 1) rfl rfl⟩⟩
/-- A law's walk, as the machine's call. -/
theorem calls_of_law {HH : Type} {enc : TypeId × Value → HH} {f : FuncId} {ts : List TypeId} {W : World} {args : Array Value} {ds : List (DataW HH)} {ps : List MemPlace} {r : Reach} {b : Nat} (hL : laidMetH Tryd.prog laidV W)
    (hA : DataW.TrodAll enc Tryd.prog W 0 (fun _ => true) true ts args.toList ds ps) (hd : ts.all (dataT Tryd.prog 12) = true) (hv : ∀ (j : Nat) t v, ts[j]? = some t → args.toList[j]? = some v → Value.okWide Tryd.prog W r b t v) (hw : ∀ n ∈ DataW.weightsEach Tryd.prog ts ds, n ≤ reachBytes)
    (c : ∀ vs H, Ext heap0 H → EachV (ShV Tryd.prog H 12) ts vs → CallR Tryd.prog noPrims f vs H (fun u _ => u = .bool true)) :
    Calls Tryd.prog f args W fun e W' => e = .returned (.bool true) ∧ Below W.heap.size W W' := by
  have h0 : 0 < W.heap.size := cell_lt ((laid_both hL).1 0 _ rfl)
  obtain ⟨β, H, _, hx, l, vs, hr, hs⟩ := layw_args h0 12 ts args.toList ds ps hA hd hv hw inj0 heap0 (heap0_lying hL)
  obtain ⟨n, v, H', hcall, rfl⟩ := c vs H hx hs
  exact sim_true (call_sim mixed good noPrims_keep (noPrims_sim _ _) n) hcall l.rel l.ro hr
end Go.Proofs.YtjimjolfnimimaaDoor
