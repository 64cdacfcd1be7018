/- Walks: steps. -/
import Derived.Test.YtmlofdgamdlcgaaDoorWalkD
import Derived.Test.YtmlofdgamdlcgaaDoorValue
set_option linter.unusedSimpArgs false
set_option linter.unusedVariables false
/- Layer 06: knows. -/
namespace Go.Proofs.YtmlofdgamdlcgaaDoor
open Go Go.Am
set_option maxRecDepth 100000
set_option linter.unusedVariables false

theorem bit_zero (d : Nat) : bitOf zeroH d = 0 := by
  have : ∀ j, zeroH.at j = 0 := fun j => by
    unfold Hsh.at zeroH
    rw [List.getD, List.getElem?_replicate]
    split <;> rfl
  unfold bitOf
  rw [this]; simp
theorem side_nil (d : Nat) : sideH zeroH [] d = zeroH := by rw [sideH, bit_zero, if_neg (by decide)]
theorem right_nil : rightB zeroH [] = true := by
  have h : ∀ i, popTo zeroH i = 0 := fun i => by
    induction i with
    | zero => rfl
    | succ i ih =>
      have e : zeroH.at i = 0 := by
        unfold Hsh.at zeroH
        rw [List.getD, List.getElem?_replicate]
        split <;> rfl
      rw [popTo, ih, e]; rfl
  simp [rightB, h]
theorem root_nil (k : Hsh) : ∀ i, rootH k zeroH [] zeroH i = zeroH
  | 0 => rfl
  | i + 1 => by
    have e : aboveH zeroH zeroH = zeroH := by rw [aboveH, if_pos ⟨rfl, rfl⟩]
    rw [rootH, side_nil, root_nil k i, e]; split <;> rfl
theorem root_tput (k v : Hsh) (hv : v ≠ zeroH) : ∀ i, i ≤ 256 → rootH k zeroH [] (leafH k v) i = (tput k v i .nil).hash
  | 0, _ => by rw [tput, if_neg hv]; rfl
  | i + 1, hi => by
    rw [rootH, side_nil, root_tput k v hv i (by omega), tput, show 256 - (i + 1) = 255 - i by omega]
    have hb := bit_le k (255 - i)
    by_cases h1 : bitOf k (255 - i) = 1
    · rw [if_pos h1, if_neg (by omega), mk_hash]; rfl
    · rw [if_neg h1, if_pos (by omega), mk_hash]; rfl
theorem rootV_put (k v : Hsh) (hv : v ≠ zeroH) : rootV k v zeroH [] = ((tput k v 256 .nil).hash, 0) := by
  rw [rootV, if_pos right_nil, root_tput k v hv 256 (Nat.le_refl _)]
theorem rootV_zero (k : Hsh) : rootV k zeroH zeroH [] = (zeroH, 0) := by
  rw [rootV, if_pos right_nil, leafH, if_pos rfl, root_nil]
theorem hs_nil (H : AHeap) : HsAt H (.slice none 0 0) [] := ⟨none, 0, rfl, .inl rfl⟩
theorem bvPr0 : buildV Tryd.prog 27 [] = some (prV zeroH (.slice none 0 0)) := bv27 rfl

set_option maxHeartbeats 4000000 in
theorem c_knows60 (t : Tree) (e : t = tput h1 h2 256 .nil) (hn : t.hash ≠ zeroH) (H : AHeap) (g : Gl H) : CallR Tryd.prog noPrims 18 [] H (fun u H' => u = .bool true ∧ Hp H 0 0 H' [] []) := by
  have h2n := g.two
  have hp1 : Put1 h1 h2 .nil ((0 : Nat) : Int) = (t, ((0 : Nat) : Int) + 1, 0) := by rw [e]; exact put1_new (by rw [tget_nil]; exact Ne.symm h2_ne) h2_ne tget_nil (by omega)
  have hr1 : rootV h1 h2 zeroH [] = (t.hash, 0) := by rw [e]; exact rootV_put h1 h2 h2_ne
  have hr0 := rootV_zero h1
  have hu : updV zeroH h1 zeroH h2 zeroH [] = (t.hash, 0) := by
    unfold updV; rw [hr0]; simp [hr1]
  have hc1 : chkV t.hash h1 h2 zeroH [] = true := by unfold chkV; rw [hr1]; simp
  have hc0 : chkV t.hash h1 zeroH zeroH [] = false := by
    unfold chkV; rw [hr0]; simp; exact fun h => hn h.symm
  have cU : ∀ {H' : AHeap} {lo hi : Nat} {Mn : Hm}, Hp H lo hi H' [] Mn → CallR Tryd.prog noPrims 10 [hV zeroH, hV h1, hV zeroH, hV h2, prV zeroH (.slice none 0 0)] H' (fun u H2 => u = tupR (t.hash, 0) ∧ Hp H' 0 0 H2 [] []) := fun hp => by
    have q := c_Update zeroH h1 zeroH h2 zeroH (.slice none 0 0) [] _ (g.of hp (by simp)) (hs_nil _) (by simp)
    rw [hu] at q; exact q
  have cC1 : ∀ {H' : AHeap} {lo hi : Nat} {Mn : Hm}, Hp H lo hi H' [] Mn → CallR Tryd.prog noPrims 15 [hV t.hash, hV h1, hV h2, prV zeroH (.slice none 0 0)] H' (fun u H2 => u = .bool true ∧ Hp H' 0 0 H2 [] []) := fun hp => by
    have q := c_Check t.hash h1 h2 zeroH (.slice none 0 0) [] _ (g.of hp (by simp)) (hs_nil _) (by simp)
    rw [hc1] at q; exact q
  have cC0 : ∀ {H' : AHeap} {lo hi : Nat} {Mn : Hm}, Hp H lo hi H' [] Mn → CallR Tryd.prog noPrims 15 [hV t.hash, hV h1, hV zeroH, prV zeroH (.slice none 0 0)] H' (fun u H2 => u = .bool false ∧ Hp H' 0 0 H2 [] []) := fun hp => by
    have q := c_Check t.hash h1 zeroH zeroH (.slice none 0 0) [] _ (g.of hp (by simp)) (hs_nil _) (by simp)
    rw [hc0] at q; exact q
  have cN : ∀ {H' : AHeap} {lo hi b c : Nat} {w : Bool} {Mn : Hm}, Hp H lo hi H' [] Mn → H'.get b = .cells (hC h1 ++ hC h2) 70 w → CallR Tryd.prog noPrims 19 [.slice (some ⟨b, 0, none⟩) 1 c] H' (fun u H2 => ∃ i : Nat × Option Addr × Hm, (∀ H1, TreeL H1 0 i.2.2 i.2.1 t) ∧ u = .tuple ⟨[.pointer (some ⟨i.1, 0, none⟩), .int .i64 ((0 : Nat) : Int)]⟩ ∧ Hp H' 0 0 H2 [] ((i.1, .cells (mapC i.2.1 (((0 : Nat) : Int) + 1) true) 75 true) :: i.2.2)) := fun {H' lo hi b c w Mn} hp hb => by
    have q := c_New1 h1 h2 b c w H' (g.of hp (by simp)) hb
    rw [hp1] at q; exact q.mono fun u H2 ⟨i, a1, a2, a3⟩ => ⟨i, a1, a2, a3.perm (List.perm_append_singleton _ _).symm⟩
  clear hp1 hr1 hr0 hu hc1 hc0 e
  refine CallR.sy (n := 54) Tryd.func18 rfl rfl rfl ?_
  repeat' (first
    | (with_reducible refine Sy.seq ?_)
    | (with_reducible refine Sy.regionL ?_)
    | (with_reducible refine Sy.opsnil ?_)
    | (with_reducible refine Sy.go ?_)
    | (with_reducible refine Sy.nrm ?_)
    | ((with_reducible refine Sy.build rfl rfl bvB1 ?_))
    | ((with_reducible refine Sy.build rfl rfl bvB2 ?_))
    | ((with_reducible refine Sy.build (t := 23) (ps := #[]) rfl rfl bvZ ?_))
    | ((with_reducible refine Sy.build (t := 27) (ps := #[]) rfl rfl bvPr0 ?_))
    | ((with_reducible refine Sy.build (t := 70) rfl rfl (bvP _ _) ?_))
    | ((with_reducible apply Sy.assign); (case hd => exact rfl); (case hx => exact rfl))
    | ((with_reducible apply Sy.move); (case hd => exact rfl); (case hx => exact rfl))
    | ((with_reducible apply Sy.ext); (case hd => exact rfl); (case hx => exact rfl); (case hv => exact rfl))
    | ((with_reducible apply Sy.stNa (t := 23)); (case hx => exact rfl); (case hy => exact rfl); (case hs => exact sz23); (case hl => first | exact hC_length _); (case h1 => first | exact hC_one _); (case hm => repeat (first | exact Turn.here)); (case hle => first | (simp; done)); (case hc => first | exact lay_all (by first | (simp; done))))
    | ((with_reducible apply Sy.bin (op := .add) (t := 3)); (case hd => exact rfl); (case hx => exact rfl); (case hy => exact rfl); (case hv => exact (b_add (by omega))))
    | ((with_reducible apply Sy.bin (op := .eql) (t := 3)); (case hd => exact rfl); (case hx => exact rfl); (case hy => exact rfl); (case hv => exact b_eql))
    | ((with_reducible apply Sy.ldN (t := 23)); (case hd => exact rfl); (case hx => exact rfl); (case hm => repeat (first | exact Has.here)); (case hv => first | exact ld_hV ag23 sz23))
    | ((with_reducible apply Sy.bin (op := .eql) (t := 23)); (case hd => exact rfl); (case hx => exact rfl); (case hy => exact rfl); (case hv => exact (eq23)))
    | ((with_reducible apply Sy.pickT); (case hd => exact rfl); (case hx => exact rfl); (case hy => exact rfl))
    | ((with_reducible apply Sy.pickF); (case hd => exact rfl); (case hx => exact rfl); (case hy => exact rfl))
    | ((with_reducible apply Sy.bin (op := .neq) (t := 23)); (case hd => exact rfl); (case hx => exact rfl); (case hy => exact rfl); (case hv => exact (ne23)))
    | ((with_reducible apply Sy.un (op := .not)); (case hd => exact rfl); (case hx => exact rfl); (case hv => exact un_notF))
    | ((with_reducible apply Sy.callN (k := 19)); (case hd => exact rfl); (case hf => exact rfl); (case hen => exact en19); (case hx => exact rfl); (case hc => intro H' hp; exact cN hp (hp.getN (by repeat (first | exact Has.here | apply Has.there | apply Has.app)))); rintro ⟨m, r, L⟩ hT)
    | ((with_reducible apply Sy.call0 (k := 10)); (case hd => exact rfl); (case hf => exact rfl); (case hen => exact en10); (case hx => exact rfl); (case hc => intro H' hp; exact cU hp))
    | ((with_reducible apply Sy.dcall0 (k := 15)); (case hw => first | exact wantY_none | exact wantY_some rfl rfl rfl); (case h1 => exact rfl); (case hS => intro h hh; exact hh); (case hi1 => exact rfl); (case hd => exact rfl); (case hf => exact rfl); (case hen => exact en15); (case hx => exact rfl); (case hc => intro H' hp; exact cC1 hp))
    | ((with_reducible apply Sy.dcall0 (k := 15)); (case hw => first | exact wantY_none | exact wantY_some rfl rfl rfl); (case h1 => exact rfl); (case hS => intro h hh; exact hh); (case hi1 => exact rfl); (case hd => exact rfl); (case hf => exact rfl); (case hen => exact en15); (case hx => exact rfl); (case hc => intro H' hp; exact cC0 hp))
    | ((with_reducible apply Sy.dcall0 (k := 14)); (case hw => first | exact wantY_none | exact wantY_some rfl rfl rfl); (case h1 => exact rfl); (case hS => intro h hh; exact hh); (case hi1 => exact rfl); (case hd => exact rfl); (case hf => exact rfl); (case hen => exact en14); (case hx => exact rfl); (case hc => intro H' hp; exact c_num6 0 H'))
    | ((with_reducible apply Sy.dcall0 (k := 23)); (case hw => first | exact wantY_some rfl rfl rfl); (case h1 => exact rfl); (case hS => intro h hh; exact hh); (case hi1 => exact rfl); (case hd => exact rfl); (case hf => exact rfl); (case hen => exact en23); (case hx => exact rfl); (case hc => intro H' hp; exact c_root (t := t) H' (hp.getN (by repeat (first | exact Has.here | apply Has.there | apply Has.app))) (TreeL.at (hT H) hp (fun p h => by simp only [List.mem_append, List.mem_cons, h, true_or, or_true]) (Nat.zero_le _)) (Nat.le_refl _)))
    | ((with_reducible apply Sy.newY (o := ⟨some 9, .buildSlice 71 _ _, _, _, _, _⟩)); (case ho => exact rfl); (case hd => exact rfl); (case hc => exact (nba1 Tryd.underlying71 sz70 zr70 rfl (by decide) rfl (by first | exact rfl))); intro q9)
    | ((with_reducible apply Sy.newY (o := ⟨some 3, .alloc 23, _, _, _, _⟩)); (case ho => exact rfl); (case hd => exact rfl); (case hc => exact (nwz23)); intro q3)
    | (with_reducible refine Sy.ret ?_)
    | ((with_reducible apply Sy.drawL (id := 3) 33 [(7, 9)] (fun hi h => h < hi)); (case hp => kernel_rfl); (case hN => exact rfl); intro base hbase hM; try simp only [List.forall_mem_cons, List.forall_mem_append, List.not_mem_nil, false_implies, implies_true, and_true] at hM)
    | (with_reducible refine Sy.dend ?_)
    | ((with_reducible apply Sy.dgo); (case hw => first | exact wantY_none | exact wantY_some rfl rfl rfl); (case hc => intro hcls; cases hcls); (case h1 => exact rfl); (case h2 => exact rfl))
    | ((with_reducible apply Sy.dld); (case hw => first | exact wantY_some rfl rfl rfl); (case hx => exact rfl); (case hb => omega); (case h2 => exact rfl))
    | ((with_reducible apply Sy.dno); (case hj => exact rfl); (case ht => exact rfl); (case hb => exact rfl); (case hc => exact rfl); (case hd => exact rfl))
    | ((with_reducible apply Sy.dcaseG); (case hj => exact rfl); (case hx => exact rfl); all_goals (intro hc; try (exfalso; omega))))
  all_goals first
    | exact absurd rfl hc
    | exact absurd hn hc
    | exact .fin [.bool true] (.inr rfl) ⟨rfl, trivial⟩ fun H' hp => ⟨rfl, hp.less (List.nil_sublist _)⟩
theorem c_knows6 (H : AHeap) (g : Gl H) : CallR Tryd.prog noPrims 18 [] H (fun u H' => u = .bool true ∧ Hp H 0 0 H' [] []) := by
  have hn := knows_val
  generalize e : tput h1 h2 256 .nil = t at hn
  exact c_knows60 t e.symm hn H g
end Go.Proofs.YtmlofdgamdlcgaaDoor

/- Layer 06: equal tests. -/
namespace Go.Proofs.YtmlofdgamdlcgaaDoor
open Go Go.Am
set_option maxRecDepth 100000

theorem eqHS {a : Hsh} : binV Tryd.prog .eql 23 (hV a) (hV a) = some (.bool true) := by rw [eq23, decide_eq_true rfl]
theorem eqNS {n : Nat} : binV Tryd.prog .eql 3 (.int .i64 ((n : Nat) : Int)) (.int .i64 ((n : Nat) : Int)) = some (.bool true) := by rw [b_eql, decide_eq_true rfl]
theorem eqBS {b : Bool} : binV Tryd.prog .eql 4 (.bool b) (.bool b) = some (.bool true) := by rw [bb_eq kd4]; cases b <;> rfl
end Go.Proofs.YtmlofdgamdlcgaaDoor

/- Layer 06: steps of a walk. -/
namespace Go.Proofs.YtmlofdgamdlcgaaDoor
open Go Go.Am
set_option maxRecDepth 100000
set_option linter.unusedVariables false

/-- A step, and the slice of its proof's sides. -/
structure Stp where
  key : Hsh
  old : Hsh
  mask : Hsh
  l : List Hsh
  v : Value
def Stp.c (s : Stp) : List Value := hC s.key ++ (hC s.old ++ (hC s.mask ++ [s.v]))
theorem Stp.c_length (s : Stp) : s.c.length = 97 := by simp [Stp.c]
def stCs (ss : List Stp) : List Value := (ss.map Stp.c).flatten
theorem stCs_length (ss : List Stp) : (stCs ss).length = ss.length * 97 := by
  induction ss with
  | nil => rfl
  | cons a l ih => simp only [stCs, List.map_cons, List.flatten_cons, List.length_append, Stp.c_length, List.length_cons] at ih ⊢; rw [ih]; omega
theorem stCs_append (a b : List Stp) : stCs (a ++ b) = stCs a ++ stCs b := by simp [stCs]
theorem stCs_cut {ss : List Stp} {i : Nat} {s : Stp} (e : ss[i]? = some s) : stCs ss = stCs (ss.take i) ++ (s.c ++ stCs (ss.drop (i + 1))) := by
  obtain ⟨hi, e1⟩ := List.getElem?_eq_some_iff.1 e
  have e2 : ss = ss.take i ++ (s :: ss.drop (i + 1)) := by rw [← e1, ← List.drop_eq_getElem_cons hi, List.take_append_drop]
  conv => lhs; rw [e2]
  rw [stCs_append]
  simp [stCs]
/-- Reading a step's parts. -/
theorem st_drop {ss : List Stp} {i k : Nat} {s : Stp} (e : ss[i]? = some s) : (stCs ss).drop (i * 97 + k) = (s.c ++ stCs (ss.drop (i + 1))).drop k := by
  obtain ⟨hi, _⟩ := List.getElem?_eq_some_iff.1 e
  have hl : (stCs (ss.take i)).length = i * 97 := by rw [stCs_length, List.length_take]; congr 1; omega
  rw [stCs_cut e, ← hl, ← List.drop_drop, List.drop_left]
theorem st_key {ss : List Stp} {i o T : Nat} {s : Stp} {w : Bool} (e : ss[i]? = some s) (ho : o = i * 97) : aLoad Tryd.prog 23 (.cells (stCs ss) T w) o = some (hV s.key) := by
  obtain ⟨hi, _⟩ := List.getElem?_eq_some_iff.1 e
  refine ld_agg (cs' := hC s.key) ag23 sz23 (by rw [stCs_length]; omega) ?_
  have := st_drop (k := 0) e
  rw [Nat.add_zero] at this
  rw [ho, this, List.drop_zero, Stp.c, List.append_assoc, ← hC_length s.key, List.take_left]
theorem st_old {ss : List Stp} {i o T : Nat} {s : Stp} {w : Bool} (e : ss[i]? = some s) (ho : o = i * 97 + 32) : aLoad Tryd.prog 23 (.cells (stCs ss) T w) o = some (hV s.old) := by
  obtain ⟨hi, _⟩ := List.getElem?_eq_some_iff.1 e
  refine ld_agg (cs' := hC s.old) ag23 sz23 (by rw [stCs_length]; omega) ?_
  have hd : (s.c ++ stCs (ss.drop (i + 1))).drop 32 = hC s.old ++ (hC s.mask ++ [s.v] ++ stCs (ss.drop (i + 1))) := by
    rw [Stp.c, List.append_assoc, List.drop_left' (by simp)]; simp
  rw [ho, st_drop e, hd, ← hC_length s.old, List.take_left]
theorem st_prT {ss : List Stp} {i o t T : Nat} {s : Stp} {w : Bool} (hag : aggT Tryd.prog t = true) (hsz : szT Tryd.prog t = some 33) (e : ss[i]? = some s) (ho : o = i * 97 + 64) : aLoad Tryd.prog t (.cells (stCs ss) T w) o = some (prV s.mask s.v) := by
  obtain ⟨hi, _⟩ := List.getElem?_eq_some_iff.1 e
  refine ld_agg (cs' := hC s.mask ++ [s.v]) hag hsz (by rw [stCs_length]; omega) ?_
  have hd : (s.c ++ stCs (ss.drop (i + 1))).drop 64 = (hC s.mask ++ [s.v]) ++ stCs (ss.drop (i + 1)) := by
    rw [Stp.c, ← List.append_assoc (hC s.key), List.append_assoc, List.drop_left' (by simp)]
  rw [ho, st_drop e, hd, List.take_left' (by simp)]
theorem st_pr {ss : List Stp} {i o T : Nat} {s : Stp} {w : Bool} (e : ss[i]? = some s) (ho : o = i * 97 + 64) : aLoad Tryd.prog 26 (.cells (stCs ss) T w) o = some (prV s.mask s.v) := st_prT ag26 sz26 e ho
end Go.Proofs.YtmlofdgamdlcgaaDoor

/- Layer 06: the reference's walk. -/
namespace Go.Proofs.YtmlofdgamdlcgaaDoor
open Go Go.Am
set_option maxRecDepth 100000
set_option linter.unusedVariables false

def walkL (root : Hsh) : List (Stp × Hsh) → Hsh × Nat
  | [] => (root, 0)
  | (s, n) :: r => if (updV root s.key s.old n s.mask s.l).2 ≠ 0 then (zeroH, (updV root s.key s.old n s.mask s.l).2) else walkL (updV root s.key s.old n s.mask s.l).1 r
def walkV (root : Hsh) (ss : List Stp) (ns : List Hsh) : Hsh × Nat := if ss.length ≠ ns.length then (zeroH, 1) else walkL root (ss.zip ns)
theorem upd_e (root key old now mask : Hsh) (l : List Hsh) : (updV root key old now mask l).2 ≤ 22 := by
  have := root_e key old mask l
  have := root_e key now mask l
  unfold updV; split
  · dsimp only; omega
  · split
    · simp
    · omega
/-- Steps in memory. -/
def StsAt (T : Nat) (H : AHeap) (v : Value) (ss : List Stp) : Prop := (∃ a c, v = .slice a ss.length c ∧ (ss = [] ∨ ∃ b w, a = some ⟨b, 0, none⟩ ∧ H.get b = .cells (stCs ss) T w)) ∧ ∀ s ∈ ss, HsS H s.v s.l ∧ s.l.length ≤ 4398046511104

set_option maxHeartbeats 2000000 in
theorem c_rWalk (root : Hsh) (ss : List Stp) (ns : List Hsh) (v1 v2 : Value) (H : AHeap) (h1 : StsAt 84 H v1 ss) (h2 : HsAt H v2 ns) (hn1 : ss.length ≤ 1000000) (hn2 : ns.length ≤ 4398046511104) : CallR Tryd.prog noPrims 26 [hV root, v1, v2] H (fun u H' => u = tupR (walkV root ss ns) ∧ Hp H 0 0 H' [] []) := by
  obtain ⟨⟨a1, c1, rfl, h1⟩, hss⟩ := h1
  obtain ⟨a2, c2, rfl, h2⟩ := h2
  refine CallR.sy (n := 53) Tryd.func26 rfl rfl rfl ?_
  repeat' (first
    | (with_reducible refine Sy.seq ?_)
    | (with_reducible refine Sy.regionL ?_)
    | (with_reducible refine Sy.opsnil ?_)
    | (with_reducible refine Sy.go ?_)
    | (with_reducible refine Sy.nrm ?_)
    | ((with_reducible refine Sy.build (t := 23) (ps := #[]) rfl rfl bvZ ?_))
    | ((with_reducible apply Sy.assign); (case hd => exact rfl); (case hx => exact rfl))
    | ((with_reducible apply Sy.move); (case hd => exact rfl); (case hx => exact rfl))
    | ((with_reducible apply Sy.lenS); (case hd => exact rfl); (case ht => exact Tryd.underlying55); (case hx => exact rfl))
    | ((with_reducible apply Sy.lenS); (case hd => exact rfl); (case ht => exact Tryd.underlying24); (case hx => exact rfl))
    | ((with_reducible apply Sy.bin (op := .neq) (t := 3)); (case hd => exact rfl); (case hx => exact rfl); (case hy => exact rfl); (case hv => exact b_neq))
    | ((with_reducible apply Sy.stNa (t := 23)); (case hx => exact rfl); (case hy => exact rfl); (case hs => exact sz23); (case hl => first | exact hC_length _); (case h1 => first | exact hC_one _); (case hm => repeat (first | exact Turn.here)); (case hle => first | (simp; done)); (case hc => first | exact lay_all (by first | (simp; done))))
    | ((with_reducible apply Sy.newY (o := ⟨some 3, .box 23 _, _, _, _, _⟩)); (case ho => exact rfl); (case hd => exact rfl); (case hc => exact (nbH rfl)); intro q3)
    | ((with_reducible apply Sy.newY (o := ⟨some 6, .alloc 23, _, _, _, _⟩)); (case ho => exact rfl); (case hd => exact rfl); (case hc => exact (nwz23)); intro q6)
    | (with_reducible refine Sy.skip ?_)
    | (with_reducible refine Sy.ret ?_)
    | (with_reducible refine Sy.block ?_)
    | (with_reducible refine Sy.aret ?_)
    | ((with_reducible apply Sy.ite); (case hx => exact rfl); all_goals (intro hc; try (exfalso; omega))))
  · exact .fin [_, _] (.inr rfl) ⟨⟨q6, 0, _, rfl, (by repeat (first | exact Has.here | apply Has.there | apply Has.app)), ld_hV ag23 sz23⟩, rfl, trivial⟩ fun H' hp => ⟨by rw [walkV, if_pos (by omega)]; rfl, hp.less (List.nil_sublist _)⟩
  have hw : walkV root ss ns = walkL root (ss.zip ns) := by rw [walkV, if_neg (by omega)]
  rw [hw]
  have hzl : (ss.zip ns).length = ss.length := by rw [List.length_zip]; omega
  refine Sy.loop (ι := Nat × Hsh) (fun i => ss.length - i.1) (fun i => [(1, .slice a1 ss.length c1), (2, .slice a2 ns.length c2), (3, .pointer (some ⟨q3, 0, none⟩)), (6, .pointer (some ⟨q6, 0, none⟩)), (8, .int .i64 (i.1 : Nat))]) (fun _ => []) (fun i => [(q6, .cells (hC zeroH) 23 true), (q3, .cells (hC i.2) 23 true)]) (fun i => i.1 ≤ ss.length ∧ walkL root (ss.zip ns) = walkL i.2 ((ss.zip ns).drop i.1)) (0, root) ⟨Nat.zero_le _, rfl⟩ ⟨rfl, rfl, rfl, rfl, rfl, trivial⟩ (fun H h => h) ?_
  rintro ⟨i, r⟩ ⟨hi, hI⟩
  dsimp only at hi hI ⊢
  rw [hI]
  by_cases hlt : i < ss.length
  · obtain ⟨s, hs⟩ : ∃ s, ss[i]? = some s := ⟨ss[i], List.getElem?_eq_getElem hlt⟩
    obtain ⟨n, hn⟩ : ∃ n, ns[i]? = some n := ⟨ns[i]'(by omega), List.getElem?_eq_getElem (by omega)⟩
    rcases h1 with rfl | ⟨b1, w1, rfl, hb1⟩
    · simp at hlt
    rcases h2 with rfl | ⟨b2, T2, w2, rfl, hb2⟩
    · simp at hn
    have hd : (ss.zip ns).drop i = (s, n) :: (ss.zip ns).drop (i + 1) := by
      rw [List.drop_eq_getElem_cons (by omega)]
      congr 1
      have : (ss.zip ns)[i]? = some (s, n) := by rw [List.getElem?_zip_eq_some]; exact ⟨hs, hn⟩
      exact (List.getElem?_eq_some_iff.1 this).2
    obtain ⟨hsv, hsl⟩ := hss s (List.mem_of_getElem? hs)
    have hue := upd_e r s.key s.old n s.mask s.l
    rw [hd, walkL]
    have cU : ∀ {H' : AHeap} {lo hi : Nat} {Mn : Hm}, Hp H lo hi H' [] Mn → CallR Tryd.prog noPrims 11 [hV r, hV s.key, hV s.old, hV n, prV s.mask s.v] H' (fun u H2 => u = tupR (updV r s.key s.old n s.mask s.l) ∧ Hp H' 0 0 H2 [] []) := fun hp => c_rUpdate r s.key s.old n s.mask s.v s.l _ (hsv.of hp).at hsl
    generalize updV r s.key s.old n s.mask s.l = u at *
    obtain ⟨x, e⟩ := u
    dsimp only at hue ⊢
    repeat' (first
    | (with_reducible refine Sy.seq ?_)
    | (with_reducible refine Sy.regionL ?_)
    | (with_reducible refine Sy.opsnil ?_)
    | (with_reducible refine Sy.go ?_)
    | (with_reducible refine Sy.nrm ?_)
    | ((with_reducible refine Sy.build (t := 23) (ps := #[]) rfl rfl bvZ ?_))
    | ((with_reducible apply Sy.assign); (case hd => exact rfl); (case hx => exact rfl))
    | ((with_reducible apply Sy.move); (case hd => exact rfl); (case hx => exact rfl))
    | ((with_reducible apply Sy.lenS); (case hd => exact rfl); (case ht => exact Tryd.underlying55); (case hx => exact rfl))
    | ((with_reducible apply Sy.bin (op := .neq) (t := 3)); (case hd => exact rfl); (case hx => exact rfl); (case hy => exact rfl); (case hv => exact b_neq))
    | ((with_reducible apply Sy.stNa (t := 23)); (case hx => exact rfl); (case hy => exact rfl); (case hs => exact sz23); (case hl => first | exact hC_length _); (case h1 => first | exact hC_one _); (case hm => repeat (first | exact Turn.here | apply Turn.there)); (case hle => first | (simp; done)); (case hc => first | exact lay_all (by first | (simp; done))))
    | ((with_reducible apply Sy.bin (op := .lss) (t := 3)); (case hd => exact rfl); (case hx => exact rfl); (case hy => exact rfl); (case hv => exact b_lss))
    | ((with_reducible apply Sy.ldN (t := 23)); (case hd => exact rfl); (case hx => exact rfl); (case hm => repeat (first | exact Has.here | apply Has.there)); (case hv => first | exact ld_hV ag23 sz23))
    | ((with_reducible apply Sy.ia (t := 55)); (case hd => exact rfl); (case hx => exact rfl); (case hy => exact rfl); (case hv => exact (ia_sl Tryd.underlying55 sz84 (by omega))))
    | ((with_reducible apply Sy.fa (t := 84) (i := 0)); (case hd => exact rfl); (case hx => exact rfl); (case hv => exact (fa84_0 _ _)))
    | ((with_reducible apply Sy.fa (t := 84) (i := 1)); (case hd => exact rfl); (case hx => exact rfl); (case hv => exact (fa84_1 _ _)))
    | ((with_reducible apply Sy.ia (t := 24)); (case hd => exact rfl); (case hx => exact rfl); (case hy => exact rfl); (case hv => exact (ia_sl Tryd.underlying24 sz23 (by omega))))
    | ((with_reducible apply Sy.fa (t := 84) (i := 2)); (case hd => exact rfl); (case hx => exact rfl); (case hv => exact (fa84_2 _ _)))
    | ((with_reducible apply Sy.ext); (case hd => exact rfl); (case hx => exact rfl); (case hv => exact rfl))
    | ((with_reducible apply Sy.bin (op := .add) (t := 3)); (case hd => exact rfl); (case hx => exact rfl); (case hy => exact rfl); (case hv => exact (b_add (by omega))))
    | ((with_reducible apply Sy.dcall0 (k := 11)); (case hw => first | exact wantY_none); (case h1 => exact rfl); (case hS => intro h hh; exact hh); (case hi1 => exact rfl); (case hd => exact rfl); (case hf => exact rfl); (case hen => exact en11); (case hx => exact rfl); (case hc => intro H' hp; exact cU hp))
    | (with_reducible refine Sy.ld0 (t := 23) rfl rfl hb1 rfl (by simp only [List.forall_mem_cons, List.not_mem_nil, false_implies, implies_true, and_true, ne_eq]; first | done | omega | (repeat (first | with_reducible assumption | (refine And.intro ?_ ?_)))) (st_key hs (by omega)) ?_)
    | (with_reducible refine Sy.ld0 (t := 23) rfl rfl hb1 rfl (by simp only [List.forall_mem_cons, List.not_mem_nil, false_implies, implies_true, and_true, ne_eq]; first | done | omega | (repeat (first | with_reducible assumption | (refine And.intro ?_ ?_)))) (st_old hs (by omega)) ?_)
    | (with_reducible refine Sy.ld0 (t := 26) rfl rfl hb1 rfl (by simp only [List.forall_mem_cons, List.not_mem_nil, false_implies, implies_true, and_true, ne_eq]; first | done | omega | (repeat (first | with_reducible assumption | (refine And.intro ?_ ?_)))) (st_pr hs (by omega)) ?_)
    | (with_reducible refine Sy.ld0 (t := 23) rfl rfl hb2 rfl (by simp only [List.forall_mem_cons, List.not_mem_nil, false_implies, implies_true, and_true, ne_eq]; first | done | omega | (repeat (first | with_reducible assumption | (refine And.intro ?_ ?_)))) (hcs_k hn (by omega)) ?_)
    | ((with_reducible apply Sy.dnew (o := ⟨some 9, .alloc 23, _, _, _, _⟩)); (case hw => first | exact wantY_none); (case ho => exact rfl); (case hd => exact rfl); (case hi1 => exact rfl); (case h1 => exact rfl); (case h2 => exact rfl); (case hc => exact (nwz23)); intro q9 hq9)
    | (with_reducible refine Sy.skip ?_)
    | (with_reducible refine Sy.ret ?_)
    | (with_reducible refine Sy.block ?_)
    | (with_reducible refine Sy.aret ?_)
    | (with_reducible refine Sy.inrm ?_)
    | (with_reducible refine Sy.iret ?_)
    | (with_reducible refine Sy.rret ?_)
    | ((with_reducible apply Sy.drawL (id := 6) 27 [] (fun hi h => h < hi)); (case hp => kernel_rfl); (case hN => exact rfl); intro base hbase hM; try simp only [List.forall_mem_cons, List.forall_mem_append, List.not_mem_nil, false_implies, implies_true, and_true] at hM)
    | (with_reducible refine Sy.dend ?_)
    | ((with_reducible apply Sy.dgo); (case hw => first | exact wantY_none); (case hc => intro hcls; cases hcls); (case h1 => exact rfl); (case h2 => exact rfl))
    | ((with_reducible apply Sy.ite); (case hx => exact rfl); all_goals (intro hc; try (exfalso; omega))))
    · dsimp only at hc
      exact .fin [_, _] (.inr rfl) ⟨⟨q6, 0, _, rfl, (by repeat (first | exact Has.here | apply Has.there | apply Has.app)), ld_hV ag23 sz23⟩, rfl, trivial⟩ fun H' hp => ⟨by rw [if_pos hc]; rfl, hp.less (List.nil_sublist _)⟩
    · dsimp only at hc ⊢
      refine Sy.rnrm (i + 1, x) ⟨by omega, by rw [if_neg hc]⟩ (by dsimp only; omega) ⟨rfl, rfl, rfl, rfl, rfl, trivial⟩ (fun H1 h => ?_)
      exact h.less (.cons _ (.refl _))
  · obtain rfl : i = ss.length := by omega
    rw [List.drop_of_length_le (by omega), walkL]
    repeat' (first
    | (with_reducible refine Sy.seq ?_)
    | (with_reducible refine Sy.regionL ?_)
    | (with_reducible refine Sy.opsnil ?_)
    | (with_reducible refine Sy.go ?_)
    | (with_reducible refine Sy.nrm ?_)
    | ((with_reducible apply Sy.assign); (case hd => exact rfl); (case hx => exact rfl))
    | ((with_reducible apply Sy.move); (case hd => exact rfl); (case hx => exact rfl))
    | ((with_reducible apply Sy.lenS); (case hd => exact rfl); (case ht => exact Tryd.underlying55); (case hx => exact rfl))
    | ((with_reducible apply Sy.stNa (t := 23)); (case hx => exact rfl); (case hy => exact rfl); (case hs => exact sz23); (case hl => first | exact hC_length _); (case h1 => first | exact hC_one _); (case hm => repeat (first | exact Turn.here)); (case hle => first | (simp; done)); (case hc => first | exact lay_all (by first | (simp; done))))
    | ((with_reducible apply Sy.bin (op := .lss) (t := 3)); (case hd => exact rfl); (case hx => exact rfl); (case hy => exact rfl); (case hv => exact b_lss))
    | ((with_reducible apply Sy.ldN (t := 23)); (case hd => exact rfl); (case hx => exact rfl); (case hm => repeat (first | exact Has.here | apply Has.there)); (case hv => first | exact ld_hV ag23 sz23))
    | (with_reducible refine Sy.exit ?_)
    | (with_reducible refine Sy.ret ?_)
    | (with_reducible refine Sy.aex ?_)
    | ((with_reducible apply Sy.iex); (case hi' => exact rfl))
    | (with_reducible refine Sy.rex ?_)
    | ((with_reducible apply Sy.ite); (case hx => exact rfl); all_goals (intro hc; try (exfalso; omega))))
    exact .fin [_, _] (.inr rfl) ⟨⟨q6, 0, _, rfl, (by repeat (first | exact Has.here | apply Has.there | apply Has.app)), ld_hV ag23 sz23⟩, rfl, trivial⟩ fun H' hp => ⟨rfl, hp.less (List.nil_sublist _)⟩
end Go.Proofs.YtmlofdgamdlcgaaDoor

/- Layer 06: the program's walk. -/
namespace Go.Proofs.YtmlofdgamdlcgaaDoor
open Go Go.Am
set_option maxRecDepth 100000
set_option linter.unusedVariables false

/-- A step that is read whole, and kept. -/
theorem st_all {ss : List Stp} {i o T t : Nat} {s : Stp} {w : Bool} (hag : aggT Tryd.prog t = true) (hsz : szT Tryd.prog t = some 97) (e : ss[i]? = some s) (ho : o = i * 97) : aLoad Tryd.prog t (.cells (stCs ss) T w) o = some (.agg ⟨s.c⟩) := by
  obtain ⟨hi, _⟩ := List.getElem?_eq_some_iff.1 e
  refine ld_agg (cs' := s.c) hag hsz (by rw [stCs_length]; omega) ?_
  have := st_drop (k := 0) e
  rw [Nat.add_zero] at this
  rw [ho, this, List.drop_zero, ← s.c_length, List.take_left]
theorem sk_key {s : Stp} {T : Nat} {w : Bool} : aLoad Tryd.prog 23 (.cells s.c T w) 0 = some (hV s.key) :=
  ld_agg (cs' := hC s.key) ag23 sz23 (by rw [s.c_length]; omega) (by rw [List.drop_zero, Stp.c, ← hC_length s.key, List.take_left])
theorem sk_old {s : Stp} {T : Nat} {w : Bool} : aLoad Tryd.prog 23 (.cells s.c T w) 32 = some (hV s.old) :=
  ld_agg (cs' := hC s.old) ag23 sz23 (by rw [s.c_length]; omega) (by rw [Stp.c, List.drop_left' (by simp), ← hC_length s.old, List.take_left])
theorem sk_pr {s : Stp} {t T : Nat} {w : Bool} (hag : aggT Tryd.prog t = true) (hsz : szT Tryd.prog t = some 33) : aLoad Tryd.prog t (.cells s.c T w) 64 = some (prV s.mask s.v) :=
  ld_agg (cs' := hC s.mask ++ [s.v]) hag hsz (by rw [s.c_length]; omega) (by rw [Stp.c, ← List.append_assoc, List.drop_left' (by simp), List.take_of_length_le (by simp)])
theorem setSt {a b c : Hsh} {x : Value} {s : Stp} : lay (hC a ++ (hC b ++ (hC c ++ [x]))) 0 s.c = s.c := lay_all (by rw [s.c_length]; simp)
theorem oneSt {s : Stp} (h : s.v.oneCell' = true) : oneL s.c = true := by simp [Stp.c, oneL_append, hC_one, oneL_cons, oneL_nil, h]

set_option maxHeartbeats 2000000 in
theorem c_Walk (root : Hsh) (ss : List Stp) (ns : List Hsh) (v1 v2 : Value) (H : AHeap) (g : Gl H) (h1 : StsAt 63 H v1 ss) (h2 : HsAt H v2 ns) (hn1 : ss.length ≤ 1000000) (hn2 : ns.length ≤ 4398046511104) : CallR Tryd.prog noPrims 25 [hV root, v1, v2] H (fun u H' => u = tupR (walkV root ss ns) ∧ Hp H 0 0 H' [] []) := by
  obtain ⟨⟨a1, c1, rfl, h1⟩, hss⟩ := h1
  obtain ⟨a2, c2, rfl, h2⟩ := h2
  refine CallR.sy (n := 47) Tryd.func25 rfl rfl rfl ?_
  repeat' (first
    | (with_reducible refine Sy.seq ?_)
    | (with_reducible refine Sy.regionL ?_)
    | (with_reducible refine Sy.opsnil ?_)
    | (with_reducible refine Sy.go ?_)
    | (with_reducible refine Sy.nrm ?_)
    | ((with_reducible refine Sy.build (t := 23) (ps := #[]) rfl rfl bvZ ?_))
    | ((with_reducible apply Sy.assign); (case hd => exact rfl); (case hx => exact rfl))
    | ((with_reducible apply Sy.move); (case hd => exact rfl); (case hx => exact rfl))
    | ((with_reducible apply Sy.lenS); (case hd => exact rfl); (case ht => exact Tryd.underlying56); (case hx => exact rfl))
    | ((with_reducible apply Sy.lenS); (case hd => exact rfl); (case ht => exact Tryd.underlying24); (case hx => exact rfl))
    | ((with_reducible apply Sy.bin (op := .neq) (t := 3)); (case hd => exact rfl); (case hx => exact rfl); (case hy => exact rfl); (case hv => exact b_neq))
    | ((with_reducible apply Sy.stNa (t := 23)); (case hx => exact rfl); (case hy => exact rfl); (case hs => exact sz23); (case hl => first | exact hC_length _); (case h1 => first | exact hC_one _); (case hm => repeat (first | exact Turn.here)); (case hle => first | (simp; done)); (case hc => first | exact lay_all (by first | (simp; done))))
    | ((with_reducible apply Sy.newY (o := ⟨some 3, .box 23 _, _, _, _, _⟩)); (case ho => exact rfl); (case hd => exact rfl); (case hc => exact (nbH rfl)); intro q3)
    | ((with_reducible apply Sy.newY (o := ⟨some 6, .alloc 23, _, _, _, _⟩)); (case ho => exact rfl); (case hd => exact rfl); (case hc => exact (nwz23)); intro q6)
    | (with_reducible refine Sy.skip ?_)
    | (with_reducible refine Sy.ret ?_)
    | (with_reducible refine Sy.block ?_)
    | (with_reducible refine Sy.aret ?_)
    | ((with_reducible apply Sy.ite); (case hx => exact rfl); all_goals (intro hc; try (exfalso; omega))))
  · exact .fin [_, _] (.inr rfl) ⟨⟨q6, 0, _, rfl, (by repeat (first | exact Has.here | apply Has.there | apply Has.app)), ld_hV ag23 sz23⟩, rfl, trivial⟩ fun H' hp => ⟨by rw [walkV, if_pos (by omega)]; rfl, hp.less (List.nil_sublist _)⟩
  have hw : walkV root ss ns = walkL root (ss.zip ns) := by rw [walkV, if_neg (by omega)]
  rw [hw]
  have hzl : (ss.zip ns).length = ss.length := by rw [List.length_zip]; omega
  refine Sy.loop (ι := Nat × Hsh) (fun i => ss.length - i.1) (fun i => [(1, .slice a1 ss.length c1), (2, .slice a2 ns.length c2), (3, .pointer (some ⟨q3, 0, none⟩)), (6, .pointer (some ⟨q6, 0, none⟩)), (18, .slice a1 ss.length c1), (19, .int .i64 ((ss.length : Nat) : Int)), (20, .int .i64 (i.1 : Nat))]) (fun _ => []) (fun i => [(q6, .cells (hC zeroH) 23 true), (q3, .cells (hC i.2) 23 true)]) (fun i => i.1 ≤ ss.length ∧ walkL root (ss.zip ns) = walkL i.2 ((ss.zip ns).drop i.1)) (0, root) ⟨Nat.zero_le _, rfl⟩ ⟨rfl, rfl, rfl, rfl, rfl, rfl, rfl, trivial⟩ (fun H h => h) ?_
  rintro ⟨i, r⟩ ⟨hi, hI⟩
  dsimp only at hi hI ⊢
  rw [hI]
  by_cases hlt : i < ss.length
  · obtain ⟨s, hs⟩ : ∃ s, ss[i]? = some s := ⟨ss[i], List.getElem?_eq_getElem hlt⟩
    obtain ⟨n, hn⟩ : ∃ n, ns[i]? = some n := ⟨ns[i]'(by omega), List.getElem?_eq_getElem (by omega)⟩
    rcases h1 with rfl | ⟨b1, w1, rfl, hb1⟩
    · simp at hlt
    rcases h2 with rfl | ⟨b2, T2, w2, rfl, hb2⟩
    · simp at hn
    have hd : (ss.zip ns).drop i = (s, n) :: (ss.zip ns).drop (i + 1) := by
      rw [List.drop_eq_getElem_cons (by omega)]
      congr 1
      have : (ss.zip ns)[i]? = some (s, n) := by rw [List.getElem?_zip_eq_some]; exact ⟨hs, hn⟩
      exact (List.getElem?_eq_some_iff.1 this).2
    obtain ⟨hsv, hsl⟩ := hss s (List.mem_of_getElem? hs)
    have hs1 : s.v.oneCell' = true := by
      rcases hsv with ⟨e, _⟩ | ⟨_, _, _, _, e, _⟩ <;> rw [e] <;> rfl
    have hue := upd_e r s.key s.old n s.mask s.l
    rw [hd, walkL]
    have cU : ∀ {H' : AHeap} {lo hi : Nat} {Mn : Hm}, Hp H lo hi H' [] Mn → CallR Tryd.prog noPrims 10 [hV r, hV s.key, hV s.old, hV n, prV s.mask s.v] H' (fun u H2 => u = tupR (updV r s.key s.old n s.mask s.l) ∧ Hp H' 0 0 H2 [] []) := fun hp => c_Update r s.key s.old n s.mask s.v s.l _ (g.of hp (by simp)) (hsv.of hp).at hsl
    generalize updV r s.key s.old n s.mask s.l = u at *
    obtain ⟨x, e⟩ := u
    dsimp only at hue ⊢
    repeat' (first
    | (with_reducible refine Sy.seq ?_)
    | (with_reducible refine Sy.regionL ?_)
    | (with_reducible refine Sy.opsnil ?_)
    | (with_reducible refine Sy.go ?_)
    | (with_reducible refine Sy.nrm ?_)
    | ((with_reducible refine Sy.build (t := 23) (ps := #[]) rfl rfl bvZ ?_))
    | ((with_reducible refine Sy.ld0 (t := 63) rfl rfl hb1 rfl (by simp only [List.forall_mem_cons, List.not_mem_nil, false_implies, implies_true, and_true, ne_eq]; first | done | omega | (repeat (first | with_reducible assumption | (refine And.intro ?_ ?_)))) (st_all ag63 sz63 hs (by omega)) ?_))
    | ((with_reducible refine Sy.stNa (t := 63) rfl rfl sz63 (by simp [Stp.c_length]) (oneSt hs1) (by repeat (first | exact Turn.here | apply Turn.there | apply Turn.app)) (by simp) setSt ?_))
    | ((with_reducible refine Sy.ldN (t := 23) rfl rfl (by repeat (first | exact Has.here | apply Has.there | apply Has.app)) sk_key ?_))
    | ((with_reducible refine Sy.ldN (t := 23) rfl rfl (by repeat (first | exact Has.here | apply Has.there | apply Has.app)) sk_old ?_))
    | ((with_reducible refine Sy.ldN (t := 27) rfl rfl (by repeat (first | exact Has.here | apply Has.there | apply Has.app)) (sk_pr ag27 sz27) ?_))
    | ((with_reducible apply Sy.assign); (case hd => exact rfl); (case hx => exact rfl))
    | ((with_reducible apply Sy.move); (case hd => exact rfl); (case hx => exact rfl))
    | ((with_reducible apply Sy.stNa (t := 23)); (case hx => exact rfl); (case hy => exact rfl); (case hs => exact sz23); (case hl => first | exact hC_length _); (case h1 => first | exact hC_one _); (case hm => repeat (first | exact Turn.here | apply Turn.there)); (case hle => first | (simp; done)); (case hc => first | exact lay_all (by first | (simp; done))))
    | ((with_reducible apply Sy.bin (op := .lss) (t := 3)); (case hd => exact rfl); (case hx => exact rfl); (case hy => exact rfl); (case hv => exact b_lss))
    | ((with_reducible apply Sy.ia (t := 56)); (case hd => exact rfl); (case hx => exact rfl); (case hy => exact rfl); (case hv => exact (ia_sl Tryd.underlying56 sz63 (by omega))))
    | ((with_reducible apply Sy.ldN (t := 23)); (case hd => exact rfl); (case hx => exact rfl); (case hm => repeat (first | exact Has.here | apply Has.there)); (case hv => first | exact ld_hV ag23 sz23))
    | ((with_reducible apply Sy.fa (t := 63) (i := 0)); (case hd => exact rfl); (case hx => exact rfl); (case hv => exact (fa63_0 _ _)))
    | ((with_reducible apply Sy.fa (t := 63) (i := 1)); (case hd => exact rfl); (case hx => exact rfl); (case hv => exact (fa63_1 _ _)))
    | ((with_reducible apply Sy.ia (t := 24)); (case hd => exact rfl); (case hx => exact rfl); (case hy => exact rfl); (case hv => exact (ia_sl Tryd.underlying24 sz23 (by omega))))
    | ((with_reducible apply Sy.fa (t := 63) (i := 2)); (case hd => exact rfl); (case hx => exact rfl); (case hv => exact (fa63_2 _ _)))
    | ((with_reducible apply Sy.ext); (case hd => exact rfl); (case hx => exact rfl); (case hv => exact rfl))
    | ((with_reducible apply Sy.bin (op := .neq) (t := 29)); (case hd => exact rfl); (case hx => exact rfl); (case hy => exact rfl); (case hv => exact b_neq))
    | ((with_reducible apply Sy.bin (op := .add) (t := 3)); (case hd => exact rfl); (case hx => exact rfl); (case hy => exact rfl); (case hv => exact (b_add (by omega))))
    | ((with_reducible apply Sy.dcall0 (k := 10)); (case hw => first | exact wantY_none); (case h1 => exact rfl); (case hS => intro h hh; exact hh); (case hi1 => exact rfl); (case hd => exact rfl); (case hf => exact rfl); (case hen => exact en10); (case hx => exact rfl); (case hc => intro H' hp; exact cU hp))
    | (with_reducible refine Sy.ld0 (t := 23) rfl rfl hb2 rfl (by simp only [List.forall_mem_cons, List.not_mem_nil, false_implies, implies_true, and_true, ne_eq]; first | done | omega | (repeat (first | with_reducible assumption | (refine And.intro ?_ ?_)))) (hcs_k hn (by omega)) ?_)
    | ((with_reducible apply Sy.newY (o := ⟨some 9, .alloc 63, _, _, _, _⟩)); (case ho => exact rfl); (case hd => exact rfl); (case hc => exact (nwz63)); intro q9)
    | ((with_reducible apply Sy.dnew (o := ⟨some 10, .alloc 23, _, _, _, _⟩)); (case hw => first | exact wantY_none); (case ho => exact rfl); (case hd => exact rfl); (case hi1 => exact rfl); (case h1 => exact rfl); (case h2 => exact rfl); (case hc => exact (nwz23)); intro q10 hq10)
    | (with_reducible refine Sy.skip ?_)
    | (with_reducible refine Sy.ret ?_)
    | (with_reducible refine Sy.block ?_)
    | (with_reducible refine Sy.aret ?_)
    | (with_reducible refine Sy.inrm ?_)
    | (with_reducible refine Sy.iret ?_)
    | (with_reducible refine Sy.rret ?_)
    | ((with_reducible apply Sy.drawL (id := 6) 18 [] (fun hi h => h < hi)); (case hp => kernel_rfl); (case hN => exact rfl); intro base hbase hM; try simp only [List.forall_mem_cons, List.forall_mem_append, List.not_mem_nil, false_implies, implies_true, and_true] at hM)
    | (with_reducible refine Sy.dend ?_)
    | ((with_reducible apply Sy.dgo); (case hw => first | exact wantY_none); (case hc => intro hcls; cases hcls); (case h1 => exact rfl); (case h2 => exact rfl))
    | ((with_reducible apply Sy.ite); (case hx => exact rfl); all_goals (intro hc; try (exfalso; omega))))
    · dsimp only at hc
      exact .fin [_, _] (.inr rfl) ⟨⟨q6, 0, _, rfl, (by repeat (first | exact Has.here | apply Has.there | apply Has.app)), ld_hV ag23 sz23⟩, rfl, trivial⟩ fun H' hp => ⟨by rw [if_pos hc]; rfl, hp.less (List.nil_sublist _)⟩
    · dsimp only at hc ⊢
      refine Sy.rnrm (i + 1, x) ⟨by omega, by rw [if_neg hc]⟩ (by dsimp only; omega) ⟨rfl, rfl, rfl, rfl, rfl, rfl, rfl, trivial⟩ (fun H1 h => ?_)
      exact h.less (.cons _ (.cons _ (.refl _)))
  · obtain rfl : i = ss.length := by omega
    rw [List.drop_of_length_le (by omega), walkL]
    repeat' (first
    | (with_reducible refine Sy.seq ?_)
    | (with_reducible refine Sy.regionL ?_)
    | (with_reducible refine Sy.opsnil ?_)
    | (with_reducible refine Sy.go ?_)
    | (with_reducible refine Sy.nrm ?_)
    | ((with_reducible apply Sy.assign); (case hd => exact rfl); (case hx => exact rfl))
    | ((with_reducible apply Sy.stNa (t := 23)); (case hx => exact rfl); (case hy => exact rfl); (case hs => exact sz23); (case hl => first | exact hC_length _); (case h1 => first | exact hC_one _); (case hm => repeat (first | exact Turn.here)); (case hle => first | (simp; done)); (case hc => first | exact lay_all (by first | (simp; done))))
    | ((with_reducible apply Sy.bin (op := .lss) (t := 3)); (case hd => exact rfl); (case hx => exact rfl); (case hy => exact rfl); (case hv => exact b_lss))
    | ((with_reducible apply Sy.ldN (t := 23)); (case hd => exact rfl); (case hx => exact rfl); (case hm => repeat (first | exact Has.here | apply Has.there)); (case hv => first | exact ld_hV ag23 sz23))
    | (with_reducible refine Sy.exit ?_)
    | (with_reducible refine Sy.ret ?_)
    | (with_reducible refine Sy.aex ?_)
    | ((with_reducible apply Sy.iex); (case hi' => exact rfl))
    | (with_reducible refine Sy.rex ?_)
    | ((with_reducible apply Sy.ite); (case hx => exact rfl); all_goals (intro hc; try (exfalso; omega))))
    exact .fin [_, _] (.inr rfl) ⟨⟨q6, 0, _, rfl, (by repeat (first | exact Has.here | apply Has.there | apply Has.app)), ld_hV ag23 sz23⟩, rfl, trivial⟩ fun H' hp => ⟨rfl, hp.less (List.nil_sublist _)⟩
end Go.Proofs.YtmlofdgamdlcgaaDoor

/- Layer 06: the program's copy of steps. -/
namespace Go.Proofs.YtmlofdgamdlcgaaDoor
open Go Go.Am
set_option maxRecDepth 100000
set_option linter.unusedVariables false

/-- What a step says. -/
def Stp.k (s : Stp) : Hsh × Hsh × Hsh × List Hsh := (s.key, s.old, s.mask, s.l)
theorem bvSt {key old mask : Hsh} {v : Value} : buildV Tryd.prog 63 [(0, hV key), (1, hV old), (2, .agg ⟨hC mask ++ [v]⟩)] = some (.agg ⟨hC key ++ (hC old ++ (hC mask ++ [v]))⟩) := bv63 (by
  simp only [fillL, plc, hV_cells]
  have e1 : lay (hC zeroH ++ (hC zeroH ++ (hC zeroH ++ [Value.slice none 0 0]))) 0 (hC key) = hC key ++ (hC zeroH ++ (hC zeroH ++ [Value.slice none 0 0])) := lay_here (by simp)
  have e2 : lay (hC key ++ (hC zeroH ++ (hC zeroH ++ [Value.slice none 0 0]))) 32 (hC old) = hC key ++ (hC old ++ (hC zeroH ++ [Value.slice none 0 0])) := by
    have := lay_there (a := hC key) (b := hC zeroH ++ (hC zeroH ++ [Value.slice none 0 0])) (v := hC old) (o := 32) (k := 0) (by simp)
    rw [Nat.add_zero] at this
    rw [this, lay_here (by simp)]
  have e3 : lay (hC key ++ (hC old ++ (hC zeroH ++ [Value.slice none 0 0]))) 64 (hC mask ++ [v]) = hC key ++ (hC old ++ (hC mask ++ [v])) := by
    have := lay_there (a := hC key ++ hC old) (b := hC zeroH ++ [Value.slice none 0 0]) (v := hC mask ++ [v]) (o := 64) (k := 0) (by simp)
    rw [Nat.add_zero, List.append_assoc, List.append_assoc] at this
    rw [this, lay_all (by simp)]
  simp [e1, e2, e3, Value.cells])
/-- Copied steps: each with a copy of its sides. -/
def Cop (L : Hm) (out : List Stp) : Prop := ∀ s ∈ out, ∃ b c, s.v = .slice (some ⟨b, 0, none⟩) s.l.length c ∧ Has L b (.cells (hcs s.l) 23 true)
theorem Cop.more {L : Hm} {out : List Stp} {key old mask : Hsh} {l : List Hsh} {b c : Nat} (h : Cop L out) : Cop ((b, .cells (hcs l) 23 true) :: L) (out ++ [⟨key, old, mask, l, .slice (some ⟨b, 0, none⟩) l.length c⟩]) := by
  intro s hs
  rcases List.mem_append.1 hs with hs | hs
  · obtain ⟨b1, c1, e, hh⟩ := h s hs
    exact ⟨b1, c1, e, .there hh⟩
  · obtain rfl := List.mem_singleton.1 hs
    exact ⟨b, c, rfl, .here⟩
theorem SrcY.st {H0 : AHeap} {lo hi q c T : Nat} {w : Bool} {Mo Mn : Hm} {s : Stp} (hm : Has Mn q (.cells s.c T w)) : SrcY H0 lo hi Mo Mn 97 (.slice (some ⟨q, 0, none⟩) 1 c) 1 s.c :=
  (SrcY.ofN hm (by rw [s.c_length]; omega)).eq (by rw [List.drop_zero, List.take_of_length_le (by rw [s.c_length]; omega)])
theorem stCs_one (s : Stp) : stCs [s] = s.c := by simp [stCs]

set_option maxHeartbeats 2000000 in
theorem c_Own (ss : List Stp) (v1 : Value) (H : AHeap) (h1 : StsAt 84 H v1 ss) (hn1 : ss.length ≤ 1000000) : CallR Tryd.prog noPrims 24 [v1] H (fun u H' => ∃ i : List Stp × Nat × Hm, (i.1.map Stp.k = ss.map Stp.k ∧ Cop i.2.2 i.1) ∧ u = accV 97 (stCs i.1) i.1.length i.2.1 ∧ Hp H 0 0 H' [] (accM 63 (stCs i.1) i.1.length i.2.1 ++ i.2.2)) := by
  obtain ⟨⟨a1, c1, rfl, h1⟩, hss⟩ := h1
  refine CallR.sy (n := 32) Tryd.func24 rfl rfl rfl ?_
  repeat' (first
    | (with_reducible refine Sy.seq ?_)
    | (with_reducible refine Sy.regionL ?_)
    | (with_reducible refine Sy.opsnil ?_)
    | (with_reducible refine Sy.go ?_)
    | (with_reducible refine Sy.nrm ?_)
    | ((with_reducible apply Sy.assign); (case hd => exact rfl); (case hx => exact rfl))
    | (with_reducible refine Sy.block ?_))
  refine Sy.loop (ι := Nat × List Stp × Nat × Hm) (fun i => ss.length - i.1) (fun i => [(0, .slice a1 ss.length c1), (3, accV 97 (stCs i.2.1) i.2.1.length i.2.2.1), (4, .int .i64 (i.1 : Nat))]) (fun _ => []) (fun i => accM 63 (stCs i.2.1) i.2.1.length i.2.2.1 ++ i.2.2.2) (fun i => i.1 ≤ ss.length ∧ i.2.1.map Stp.k = (ss.take i.1).map Stp.k ∧ Cop i.2.2.2 i.2.1) (0, [], 0, []) ⟨Nat.zero_le _, rfl, by simp [Cop]⟩ ⟨rfl, rfl, rfl, trivial⟩ (fun H h => h) ?_
  rintro ⟨i, out, bo, L⟩ ⟨hi, hk, hL⟩
  dsimp only at hi hk hL ⊢
  have hol : out.length = i := by have := congrArg List.length hk; simp at this; omega
  by_cases hlt : i < ss.length
  · obtain ⟨s, hs⟩ : ∃ s, ss[i]? = some s := ⟨ss[i], List.getElem?_eq_getElem hlt⟩
    rcases h1 with rfl | ⟨b1, w1, rfl, hb1⟩
    · simp at hlt
    obtain ⟨hsv, hsl⟩ := hss s (List.mem_of_getElem? hs)
    have hk2 : ∀ v, (out ++ [(⟨s.key, s.old, s.mask, s.l, v⟩ : Stp)]).map Stp.k = (ss.take (i + 1)).map Stp.k := fun v => by
      rw [List.take_add_one, hs, List.map_append, List.map_append, hk]; rfl
    have pP : ∀ {H' : AHeap} {lo hi : Nat} {Mn : Hm}, Hp H lo hi H' [] Mn → CallR Tryd.prog noPrims 7 [prV s.mask s.v] H' (fun u H2 => ∃ i : Nat × Nat, True ∧ u = .agg ⟨hC s.mask ++ [.slice (some ⟨i.1, 0, none⟩) s.l.length i.2]⟩ ∧ Hp H' 0 0 H2 [] [(i.1, .cells (hcs s.l) 23 true)]) := fun hp => c_Proof s.mask _ s.l _ (hsv.of hp) hsl
    have hbn : b1 < H.next := get_live_lt (by rw [hb1]; rfl)
    by_cases h0 : i = 0
    · subst h0
      obtain rfl := List.length_eq_zero_iff.1 hol
      simp only [accV, accM, List.length_nil, if_true, List.nil_append]
      repeat' (first
    | (with_reducible refine Sy.seq ?_)
    | (with_reducible refine Sy.regionL ?_)
    | (with_reducible refine Sy.opsnil ?_)
    | (with_reducible refine Sy.go ?_)
    | (with_reducible refine Sy.nrm ?_)
    | ((with_reducible refine Sy.build (t := 63) rfl rfl bvSt ?_))
    | ((with_reducible apply Sy.move); (case hd => exact rfl); (case hx => exact rfl))
    | ((with_reducible apply Sy.lenS); (case hd => exact rfl); (case ht => exact Tryd.underlying55); (case hx => exact rfl))
    | ((with_reducible apply Sy.bin (op := .lss) (t := 3)); (case hd => exact rfl); (case hx => exact rfl); (case hy => exact rfl); (case hv => exact b_lss))
    | ((with_reducible apply Sy.ia (t := 55)); (case hd => exact rfl); (case hx => exact rfl); (case hy => exact rfl); (case hv => exact (ia_sl Tryd.underlying55 sz84 (by omega))))
    | ((with_reducible apply Sy.fa (t := 84) (i := 0)); (case hd => exact rfl); (case hx => exact rfl); (case hv => exact (fa84_0 _ _)))
    | ((with_reducible apply Sy.fa (t := 84) (i := 1)); (case hd => exact rfl); (case hx => exact rfl); (case hv => exact (fa84_1 _ _)))
    | ((with_reducible apply Sy.fa (t := 84) (i := 2)); (case hd => exact rfl); (case hx => exact rfl); (case hv => exact (fa84_2 _ _)))
    | ((with_reducible apply Sy.dcall (k := 7)); (case hw => first | exact wantY_none); (case h1 => exact rfl); (case hS => intro h hh; exact hh); (case hi1 => exact rfl); (case hd => exact rfl); (case hf => exact rfl); (case hen => exact en7); (case hx => exact rfl); (case hc => intro H' hp; exact pP hp); rintro ⟨b, c2⟩ _)
    | (with_reducible refine Sy.ld0 (t := 23) rfl rfl hb1 rfl (by simp only [List.forall_mem_cons, List.not_mem_nil, false_implies, implies_true, and_true, ne_eq]; first | done | omega | (repeat (first | with_reducible assumption | (refine And.intro ?_ ?_)))) (st_key hs (by omega)) ?_)
    | (with_reducible refine Sy.ld0 (t := 23) rfl rfl hb1 rfl (by simp only [List.forall_mem_cons, List.not_mem_nil, false_implies, implies_true, and_true, ne_eq]; first | done | omega | (repeat (first | with_reducible assumption | (refine And.intro ?_ ?_)))) (st_old hs (by omega)) ?_)
    | (with_reducible refine Sy.ld0 (t := 26) rfl rfl hb1 rfl (by simp only [List.forall_mem_cons, List.not_mem_nil, false_implies, implies_true, and_true, ne_eq]; first | done | omega | (repeat (first | with_reducible assumption | (refine And.intro ?_ ?_)))) (st_pr hs (by omega)) ?_)
    | ((with_reducible apply Sy.dnew (o := ⟨some 29, .buildSlice 56 _ _, _, _, _, _⟩)); (case hw => first | exact wantY_none); (case ho => exact rfl); (case hd => exact rfl); (case hi1 => exact rfl); (case h1 => exact rfl); (case h2 => exact rfl); (case hc => exact (nba1 Tryd.underlying56 sz63 zr63 rfl (by decide) rfl (by first | (simp; done)))); intro q29 hq29)
    | (with_reducible refine Sy.skip ?_)
    | (with_reducible refine Sy.block ?_)
    | ((with_reducible apply Sy.drawL (id := 5) 21 [(5, 16), (10, 16)] (fun hi h => h < hi)); (case hp => kernel_rfl); (case hN => exact rfl); intro base hbase hM; try simp only [List.forall_mem_cons, List.forall_mem_append, List.not_mem_nil, false_implies, implies_true, and_true] at hM)
    | ((with_reducible apply Sy.dgo); (case hw => first | exact wantY_none); (case hc => intro hcls; cases hcls); (case h1 => exact rfl); (case h2 => exact rfl))
    | ((with_reducible apply Sy.dld); (case hw => first | exact wantY_none); (case hx => exact rfl); (case hb => omega); (case h2 => exact rfl))
    | ((with_reducible apply Sy.ite); (case hx => exact rfl); all_goals (intro hc; try (exfalso; omega))))
      dsimp only
      refine Sy.appN (t := 56) (xt := 56) (ap56_56 zr63 rfl) rfl rfl rfl (SrcY.st (s := ⟨s.key, s.old, s.mask, s.l, .slice (some ⟨b, 0, none⟩) s.l.length c2⟩) (by repeat (first | exact Has.here | apply Has.there | apply Has.app))) (oneSt rfl) (by decide) (by omega) ?_
      intro b'
      repeat' (first
    | (with_reducible refine Sy.regionL ?_)
    | (with_reducible refine Sy.opsnil ?_)
    | (with_reducible refine Sy.go ?_)
    | (with_reducible refine Sy.nrm ?_)
    | ((with_reducible apply Sy.assign); (case hd => exact rfl); (case hx => exact rfl))
    | ((with_reducible apply Sy.move); (case hd => exact rfl); (case hx => exact rfl))
    | ((with_reducible apply Sy.bin (op := .add) (t := 3)); (case hd => exact rfl); (case hx => exact rfl); (case hy => exact rfl); (case hv => exact (b_add (by omega))))
    | (with_reducible refine Sy.inrm ?_)
    | (with_reducible refine Sy.dend ?_)
    | ((with_reducible apply Sy.dgo); (case hw => first | exact wantY_none); (case hc => intro hcls; cases hcls); (case h1 => exact rfl); (case h2 => exact rfl)))
      refine Sy.rnrm (1, [⟨s.key, s.old, s.mask, s.l, .slice (some ⟨b, 0, none⟩) s.l.length c2⟩], b', (b, .cells (hcs s.l) 23 true) :: L) ⟨by omega, hk2 _, hL.more⟩ (by dsimp only; omega) ⟨rfl, rfl, rfl, trivial⟩ (fun H1 h => ?_)
      rw [stCs_one]
      exact h.less (.cons_cons _ (.cons _ (.refl _)))
    · have hne : out.length ≠ 0 := by omega
      simp only [accV, accM, hne, if_false]
      repeat' (first
    | (with_reducible refine Sy.seq ?_)
    | (with_reducible refine Sy.regionL ?_)
    | (with_reducible refine Sy.opsnil ?_)
    | (with_reducible refine Sy.go ?_)
    | (with_reducible refine Sy.nrm ?_)
    | ((with_reducible refine Sy.build (t := 63) rfl rfl bvSt ?_))
    | ((with_reducible apply Sy.move); (case hd => exact rfl); (case hx => exact rfl))
    | ((with_reducible apply Sy.lenS); (case hd => exact rfl); (case ht => exact Tryd.underlying55); (case hx => exact rfl))
    | ((with_reducible apply Sy.bin (op := .lss) (t := 3)); (case hd => exact rfl); (case hx => exact rfl); (case hy => exact rfl); (case hv => exact b_lss))
    | ((with_reducible apply Sy.ia (t := 55)); (case hd => exact rfl); (case hx => exact rfl); (case hy => exact rfl); (case hv => exact (ia_sl Tryd.underlying55 sz84 (by omega))))
    | ((with_reducible apply Sy.fa (t := 84) (i := 0)); (case hd => exact rfl); (case hx => exact rfl); (case hv => exact (fa84_0 _ _)))
    | ((with_reducible apply Sy.fa (t := 84) (i := 1)); (case hd => exact rfl); (case hx => exact rfl); (case hv => exact (fa84_1 _ _)))
    | ((with_reducible apply Sy.fa (t := 84) (i := 2)); (case hd => exact rfl); (case hx => exact rfl); (case hv => exact (fa84_2 _ _)))
    | ((with_reducible apply Sy.dcall (k := 7)); (case hw => first | exact wantY_none); (case h1 => exact rfl); (case hS => intro h hh; exact hh); (case hi1 => exact rfl); (case hd => exact rfl); (case hf => exact rfl); (case hen => exact en7); (case hx => exact rfl); (case hc => intro H' hp; exact pP hp); rintro ⟨b, c2⟩ _)
    | (with_reducible refine Sy.ld0 (t := 23) rfl rfl hb1 rfl (by simp only [List.forall_mem_cons, List.not_mem_nil, false_implies, implies_true, and_true, ne_eq]; first | done | omega | (repeat (first | with_reducible assumption | (refine And.intro ?_ ?_)))) (st_key hs (by omega)) ?_)
    | (with_reducible refine Sy.ld0 (t := 23) rfl rfl hb1 rfl (by simp only [List.forall_mem_cons, List.not_mem_nil, false_implies, implies_true, and_true, ne_eq]; first | done | omega | (repeat (first | with_reducible assumption | (refine And.intro ?_ ?_)))) (st_old hs (by omega)) ?_)
    | (with_reducible refine Sy.ld0 (t := 26) rfl rfl hb1 rfl (by simp only [List.forall_mem_cons, List.not_mem_nil, false_implies, implies_true, and_true, ne_eq]; first | done | omega | (repeat (first | with_reducible assumption | (refine And.intro ?_ ?_)))) (st_pr hs (by omega)) ?_)
    | ((with_reducible apply Sy.dnew (o := ⟨some 29, .buildSlice 56 _ _, _, _, _, _⟩)); (case hw => first | exact wantY_none); (case ho => exact rfl); (case hd => exact rfl); (case hi1 => exact rfl); (case h1 => exact rfl); (case h2 => exact rfl); (case hc => exact (nba1 Tryd.underlying56 sz63 zr63 rfl (by decide) rfl (by first | (simp; done)))); intro q29 hq29)
    | (with_reducible refine Sy.skip ?_)
    | (with_reducible refine Sy.block ?_)
    | ((with_reducible apply Sy.drawL (id := 5) 21 [(5, 16), (10, 16)] (fun hi h => h < hi)); (case hp => kernel_rfl); (case hN => exact rfl); intro base hbase hM; try simp only [List.forall_mem_cons, List.forall_mem_append, List.not_mem_nil, false_implies, implies_true, and_true] at hM)
    | ((with_reducible apply Sy.dgo); (case hw => first | exact wantY_none); (case hc => intro hcls; cases hcls); (case h1 => exact rfl); (case h2 => exact rfl))
    | ((with_reducible apply Sy.dld); (case hw => first | exact wantY_none); (case hx => exact rfl); (case hb => omega); (case h2 => exact rfl))
    | ((with_reducible apply Sy.ite); (case hx => exact rfl); all_goals (intro hc; try (exfalso; omega))))
      dsimp only
      refine Sy.appO (t := 56) (xt := 56) (ap56_56 zr63 rfl) rfl rfl rfl (SrcY.st (s := ⟨s.key, s.old, s.mask, s.l, .slice (some ⟨b, 0, none⟩) s.l.length c2⟩) (by repeat (first | exact Has.here | apply Has.there | apply Has.app))) (oneSt rfl) (by decide) (by omega) (by repeat (first | exact Turn.here | apply Turn.there | apply Turn.app)) (stCs_length out) ?_
      intro b'
      repeat' (first
    | (with_reducible refine Sy.regionL ?_)
    | (with_reducible refine Sy.opsnil ?_)
    | (with_reducible refine Sy.go ?_)
    | (with_reducible refine Sy.nrm ?_)
    | ((with_reducible apply Sy.assign); (case hd => exact rfl); (case hx => exact rfl))
    | ((with_reducible apply Sy.move); (case hd => exact rfl); (case hx => exact rfl))
    | ((with_reducible apply Sy.bin (op := .add) (t := 3)); (case hd => exact rfl); (case hx => exact rfl); (case hy => exact rfl); (case hv => exact (b_add (by omega))))
    | (with_reducible refine Sy.inrm ?_)
    | (with_reducible refine Sy.dend ?_)
    | ((with_reducible apply Sy.dgo); (case hw => first | exact wantY_none); (case hc => intro hcls; cases hcls); (case h1 => exact rfl); (case h2 => exact rfl)))
      have e : ∀ s' : Stp, (out ++ [s']).length = out.length + 1 := fun s' => by simp
      have e2 : ¬ out.length + 1 = 0 := by omega
      refine Sy.rnrm (i + 1, out ++ [⟨s.key, s.old, s.mask, s.l, .slice (some ⟨b, 0, none⟩) s.l.length c2⟩], b', (b, .cells (hcs s.l) 23 true) :: L) ⟨by omega, hk2 _, hL.more⟩ (by dsimp only; omega) ⟨rfl, ?_, rfl, trivial⟩ (fun H1 h => ?_)
      · dsimp only
        rw [e, if_neg e2]; rfl
      · dsimp only
        rw [e, if_neg e2, stCs_append, stCs_one]
        exact h.less (.cons_cons _ (.cons _ (.cons_cons _ (.cons _ (.refl _)))))
  · obtain rfl : i = ss.length := by omega
    repeat' (first
    | (with_reducible refine Sy.seq ?_)
    | (with_reducible refine Sy.regionL ?_)
    | (with_reducible refine Sy.opsnil ?_)
    | (with_reducible refine Sy.go ?_)
    | (with_reducible refine Sy.nrm ?_)
    | ((with_reducible apply Sy.assign); (case hd => exact rfl); (case hx => exact rfl))
    | ((with_reducible apply Sy.move); (case hd => exact rfl); (case hx => exact rfl))
    | ((with_reducible apply Sy.lenS); (case hd => exact rfl); (case ht => exact Tryd.underlying55); (case hx => exact rfl))
    | ((with_reducible apply Sy.bin (op := .lss) (t := 3)); (case hd => exact rfl); (case hx => exact rfl); (case hy => exact rfl); (case hv => exact b_lss))
    | (with_reducible refine Sy.exit ?_)
    | (with_reducible refine Sy.ret ?_)
    | (with_reducible refine Sy.aex ?_)
    | ((with_reducible apply Sy.iex); (case hi' => exact rfl))
    | (with_reducible refine Sy.rex ?_)
    | ((with_reducible apply Sy.ite); (case hx => exact rfl); all_goals (intro hc; try (exfalso; omega))))
    exact .fin [_] (.inr rfl) ⟨rfl, trivial⟩ fun H' hp => ⟨(out, bo, L), ⟨by rw [hk, List.take_length], hL⟩, rfl, hp⟩
end Go.Proofs.YtmlofdgamdlcgaaDoor

/- Layer 06: steps compared; walks of the same steps. -/
namespace Go.Proofs.YtmlofdgamdlcgaaDoor
open Go Go.Am
set_option maxRecDepth 100000
set_option linter.unusedVariables false

theorem neHS {a : Hsh} : binV Tryd.prog .neq 23 (hV a) (hV a) = some (.bool false) := by rw [ne23]; simp
theorem updL_k {a b : Stp} (h : a.k = b.k) (r n : Hsh) : updV r a.key a.old n a.mask a.l = updV r b.key b.old n b.mask b.l := by
  simp only [Stp.k, Prod.mk.injEq] at h
  obtain ⟨h1, h2, h3, h4⟩ := h
  rw [h1, h2, h3, h4]
theorem walkL_k : ∀ {a b : List Stp} (ns : List Hsh) (r : Hsh), a.map Stp.k = b.map Stp.k → walkL r (a.zip ns) = walkL r (b.zip ns)
  | [], [], _, _, _ => rfl
  | [], _ :: _, _, _, h => by simp at h
  | _ :: _, [], _, _, h => by simp at h
  | x :: a, y :: b, [], _, _ => rfl
  | x :: a, y :: b, n :: ns, r, h => by
    simp only [List.map_cons, List.cons.injEq] at h
    rw [List.zip_cons_cons, List.zip_cons_cons, walkL, walkL, updL_k h.1, walkL_k ns _ h.2]
theorem walkV_k {a b : List Stp} (ns : List Hsh) (r : Hsh) (h : a.map Stp.k = b.map Stp.k) : walkV r a ns = walkV r b ns := by
  have e : a.length = b.length := by simpa using congrArg List.length h
  rw [walkV, walkV, e, walkL_k ns r h]

set_option maxHeartbeats 2000000 in
theorem c_SameS (out ss : List Stp) (v1 v2 : Value) (H : AHeap) (h1 : StsAt 63 H v1 out) (h2 : StsAt 84 H v2 ss) (hk : out.map Stp.k = ss.map Stp.k) (hn1 : ss.length ≤ 1000000) : CallR Tryd.prog noPrims 27 [v1, v2] H (fun u H' => u = .bool true ∧ Hp H 0 0 H' [] []) := by
  have hl : out.length = ss.length := by simpa using congrArg List.length hk
  obtain ⟨⟨a1, c1, rfl, h1⟩, hs1⟩ := h1
  obtain ⟨⟨a2, c2, rfl, h2⟩, hs2⟩ := h2
  rw [hl]
  refine CallR.sy (n := 55) Tryd.func27 rfl rfl rfl ?_
  repeat' (first
    | (with_reducible refine Sy.seq ?_)
    | (with_reducible refine Sy.regionL ?_)
    | (with_reducible refine Sy.opsnil ?_)
    | (with_reducible refine Sy.go ?_)
    | (with_reducible refine Sy.nrm ?_)
    | ((with_reducible apply Sy.assign); (case hd => exact rfl); (case hx => exact rfl))
    | ((with_reducible apply Sy.move); (case hd => exact rfl); (case hx => exact rfl))
    | ((with_reducible apply Sy.lenS); (case hd => exact rfl); (case ht => exact Tryd.underlying56); (case hx => exact rfl))
    | ((with_reducible apply Sy.lenS); (case hd => exact rfl); (case ht => exact Tryd.underlying55); (case hx => exact rfl))
    | ((with_reducible apply Sy.bin (op := .neq) (t := 3)); (case hd => exact rfl); (case hx => exact rfl); (case hy => exact rfl); (case hv => exact b_neq))
    | (with_reducible refine Sy.skip ?_)
    | (with_reducible refine Sy.block ?_)
    | ((with_reducible apply Sy.ite); (case hx => exact rfl); all_goals (intro hc; try (exfalso; omega))))
  all_goals (try exact absurd rfl hc)
  refine Sy.loop (ι := Nat) (fun i => ss.length - i) (fun i => [(0, .slice a1 ss.length c1), (1, .slice a2 ss.length c2), (5, .int .i64 (i : Nat))]) (fun _ => []) (fun _ => []) (fun i => i ≤ ss.length) 0 (Nat.zero_le _) ⟨rfl, rfl, rfl, trivial⟩ (fun H h => h) ?_
  intro i hi
  by_cases hlt : i < ss.length
  · obtain ⟨s, hs⟩ : ∃ s, ss[i]? = some s := ⟨ss[i], List.getElem?_eq_getElem hlt⟩
    obtain ⟨s', hs'⟩ : ∃ s, out[i]? = some s := ⟨out[i]'(by omega), List.getElem?_eq_getElem (by omega)⟩
    have hkk : s'.k = s.k := by
      have e : (out.map Stp.k)[i]? = (ss.map Stp.k)[i]? := by rw [hk]
      rw [List.getElem?_map, List.getElem?_map, hs, hs'] at e
      simpa using e
    simp only [Stp.k, Prod.mk.injEq] at hkk
    obtain ⟨k1, k2, k3, k4⟩ := hkk
    rcases h1 with rfl | ⟨b1, w1, rfl, hb1⟩
    · simp at hs'
    rcases h2 with rfl | ⟨b2, w2, rfl, hb2⟩
    · simp at hlt
    obtain ⟨hsv1, hsl1⟩ := hs1 s' (List.mem_of_getElem? hs')
    obtain ⟨hsv2, hsl2⟩ := hs2 s (List.mem_of_getElem? hs)
    have hbn1 : b1 < H.next := get_live_lt (by rw [hb1]; rfl)
    have hbn2 : b2 < H.next := get_live_lt (by rw [hb2]; rfl)
    have e1 := fun o (ho : o = i * 97) => st_key (T := 63) (w := w1) hs' ho
    have e2 := fun o (ho : o = i * 97 + 32) => st_old (T := 63) (w := w1) hs' ho
    have e3 : ∀ o, o = i * 97 + 64 → aLoad Tryd.prog 27 (.cells (stCs out) 63 w1) o = some (prV s'.mask s'.v) := fun o ho => st_prT ag27 sz27 hs' ho
    rw [k1] at e1
    rw [k2] at e2
    rw [k3] at e3
    have cS : ∀ {H' : AHeap} {lo hi : Nat} {Mn : Hm}, Hp H lo hi H' [] Mn → CallR Tryd.prog noPrims 17 [prV s.mask s'.v, prV s.mask s.v] H' (fun u H2 => u = .bool true ∧ Hp H' 0 0 H2 [] []) := fun hp => c_Same s.mask _ _ s.l _ (by rw [← k4]; exact (hsv1.of hp).at) (hsv2.of hp).at hsl2
    repeat' (first
    | (with_reducible refine Sy.seq ?_)
    | (with_reducible refine Sy.regionL ?_)
    | (with_reducible refine Sy.opsnil ?_)
    | (with_reducible refine Sy.go ?_)
    | (with_reducible refine Sy.nrm ?_)
    | ((with_reducible refine Sy.bin (op := .neq) (t := 23) rfl rfl rfl neHS ?_))
    | ((with_reducible apply Sy.assign); (case hd => exact rfl); (case hx => exact rfl))
    | ((with_reducible apply Sy.move); (case hd => exact rfl); (case hx => exact rfl))
    | ((with_reducible apply Sy.lenS); (case hd => exact rfl); (case ht => exact Tryd.underlying56); (case hx => exact rfl))
    | ((with_reducible apply Sy.bin (op := .lss) (t := 3)); (case hd => exact rfl); (case hx => exact rfl); (case hy => exact rfl); (case hv => exact b_lss))
    | ((with_reducible apply Sy.ia (t := 56)); (case hd => exact rfl); (case hx => exact rfl); (case hy => exact rfl); (case hv => exact (ia_sl Tryd.underlying56 sz63 (by omega))))
    | ((with_reducible apply Sy.fa (t := 63) (i := 0)); (case hd => exact rfl); (case hx => exact rfl); (case hv => exact (fa63_0 _ _)))
    | ((with_reducible apply Sy.ia (t := 55)); (case hd => exact rfl); (case hx => exact rfl); (case hy => exact rfl); (case hv => exact (ia_sl Tryd.underlying55 sz84 (by omega))))
    | ((with_reducible apply Sy.fa (t := 84) (i := 0)); (case hd => exact rfl); (case hx => exact rfl); (case hv => exact (fa84_0 _ _)))
    | ((with_reducible apply Sy.fa (t := 63) (i := 1)); (case hd => exact rfl); (case hx => exact rfl); (case hv => exact (fa63_1 _ _)))
    | ((with_reducible apply Sy.fa (t := 84) (i := 1)); (case hd => exact rfl); (case hx => exact rfl); (case hv => exact (fa84_1 _ _)))
    | ((with_reducible apply Sy.pickF); (case hd => exact rfl); (case hx => exact rfl); (case hy => exact rfl))
    | ((with_reducible apply Sy.fa (t := 63) (i := 2)); (case hd => exact rfl); (case hx => exact rfl); (case hv => exact (fa63_2 _ _)))
    | ((with_reducible apply Sy.fa (t := 84) (i := 2)); (case hd => exact rfl); (case hx => exact rfl); (case hv => exact (fa84_2 _ _)))
    | ((with_reducible apply Sy.un (op := .not)); (case hd => exact rfl); (case hx => exact rfl); (case hv => exact un_notT))
    | ((with_reducible apply Sy.bin (op := .add) (t := 3)); (case hd => exact rfl); (case hx => exact rfl); (case hy => exact rfl); (case hv => exact (b_add (by omega))))
    | ((with_reducible apply Sy.dcall0 (k := 17)); (case hw => first | exact wantY_some rfl rfl rfl); (case h1 => exact rfl); (case hS => intro h hh; exact hh); (case hi1 => exact rfl); (case hd => exact rfl); (case hf => exact rfl); (case hen => exact en17); (case hx => exact rfl); (case hc => intro H' hp; exact cS hp))
    | (with_reducible refine Sy.ld0 (t := 23) rfl rfl hb1 rfl (by simp only [List.forall_mem_cons, List.not_mem_nil, false_implies, implies_true, and_true, ne_eq]; first | done | omega | (repeat (first | with_reducible assumption | (refine And.intro ?_ ?_)))) (e1 _ (by omega)) ?_)
    | (with_reducible refine Sy.ld0 (t := 23) rfl rfl hb1 rfl (by simp only [List.forall_mem_cons, List.not_mem_nil, false_implies, implies_true, and_true, ne_eq]; first | done | omega | (repeat (first | with_reducible assumption | (refine And.intro ?_ ?_)))) (e2 _ (by omega)) ?_)
    | (with_reducible refine Sy.ld0 (t := 27) rfl rfl hb1 rfl (by simp only [List.forall_mem_cons, List.not_mem_nil, false_implies, implies_true, and_true, ne_eq]; first | done | omega | (repeat (first | with_reducible assumption | (refine And.intro ?_ ?_)))) (e3 _ (by omega)) ?_)
    | (with_reducible refine Sy.ld0 (t := 23) rfl rfl hb2 rfl (by simp only [List.forall_mem_cons, List.not_mem_nil, false_implies, implies_true, and_true, ne_eq]; first | done | omega | (repeat (first | with_reducible assumption | (refine And.intro ?_ ?_)))) (st_key hs (by omega)) ?_)
    | (with_reducible refine Sy.ld0 (t := 23) rfl rfl hb2 rfl (by simp only [List.forall_mem_cons, List.not_mem_nil, false_implies, implies_true, and_true, ne_eq]; first | done | omega | (repeat (first | with_reducible assumption | (refine And.intro ?_ ?_)))) (st_old hs (by omega)) ?_)
    | (with_reducible refine Sy.ld0 (t := 26) rfl rfl hb2 rfl (by simp only [List.forall_mem_cons, List.not_mem_nil, false_implies, implies_true, and_true, ne_eq]; first | done | omega | (repeat (first | with_reducible assumption | (refine And.intro ?_ ?_)))) (st_pr hs (by omega)) ?_)
    | (with_reducible refine Sy.skip ?_)
    | (with_reducible refine Sy.block ?_)
    | (with_reducible refine Sy.inrm ?_)
    | ((with_reducible apply Sy.drawL (id := 6) 38 [] (fun hi h => h < hi)); (case hp => kernel_rfl); (case hN => exact rfl); intro base hbase hM; try simp only [List.forall_mem_cons, List.forall_mem_append, List.not_mem_nil, false_implies, implies_true, and_true] at hM)
    | ((with_reducible apply Sy.no); (case hx => exact rfl))
    | (with_reducible refine Sy.dend ?_)
    | ((with_reducible apply Sy.dgo); (case hw => first | exact wantY_none | exact wantY_some rfl rfl rfl); (case hc => intro hcls; cases hcls); (case h1 => exact rfl); (case h2 => exact rfl))
    | ((with_reducible apply Sy.ite); (case hx => exact rfl); all_goals (intro hc; try (exfalso; omega))))
    exact Sy.rnrm (i + 1) (by omega) (by omega) ⟨rfl, rfl, rfl, trivial⟩ (fun H h => h)
  · repeat' (first
    | (with_reducible refine Sy.seq ?_)
    | (with_reducible refine Sy.regionL ?_)
    | (with_reducible refine Sy.opsnil ?_)
    | (with_reducible refine Sy.go ?_)
    | (with_reducible refine Sy.nrm ?_)
    | ((with_reducible apply Sy.assign); (case hd => exact rfl); (case hx => exact rfl))
    | ((with_reducible apply Sy.move); (case hd => exact rfl); (case hx => exact rfl))
    | ((with_reducible apply Sy.lenS); (case hd => exact rfl); (case ht => exact Tryd.underlying56); (case hx => exact rfl))
    | ((with_reducible apply Sy.bin (op := .lss) (t := 3)); (case hd => exact rfl); (case hx => exact rfl); (case hy => exact rfl); (case hv => exact b_lss))
    | (with_reducible refine Sy.exit ?_)
    | (with_reducible refine Sy.ret ?_)
    | (with_reducible refine Sy.aex ?_)
    | ((with_reducible apply Sy.iex); (case hi' => exact rfl))
    | (with_reducible refine Sy.rex ?_)
    | ((with_reducible apply Sy.ite); (case hx => exact rfl); all_goals (intro hc; try (exfalso; omega))))
    exact .fin [_] (.inr rfl) ⟨rfl, trivial⟩ fun H' hp => ⟨rfl, hp⟩
end Go.Proofs.YtmlofdgamdlcgaaDoor

/- The law ProofWalks. -/
namespace Go.Proofs.YtmlofdgamdlcgaaDoor
open Go Go.Am
set_option maxRecDepth 100000
set_option linter.unusedVariables false

theorem StsAt.of {T lo hi : Nat} {H H1 : AHeap} {Mn : Hm} {v : Value} {ss : List Stp} (h : StsAt T H v ss) (hp : Hp H lo hi H1 [] Mn) : StsAt T H1 v ss := by
  obtain ⟨⟨a, c, e, h⟩, hs⟩ := h
  refine ⟨⟨a, c, e, ?_⟩, fun s m => ⟨(hs s m).1.of hp, (hs s m).2⟩⟩
  rcases h with h | ⟨b, w, e2, h⟩
  · exact .inl h
  · exact .inr ⟨b, w, e2, hp.get0 h rfl (by simp)⟩
theorem own_at {H H1 : AHeap} {lo hi b : Nat} {L : Hm} {out ss : List Stp} (hk : out.map Stp.k = ss.map Stp.k) (hL : Cop L out) (hss : ∀ s ∈ ss, s.l.length ≤ 4398046511104) (hp : Hp H lo hi H1 [] (accM 63 (stCs out) out.length b ++ L)) : StsAt 63 H1 (accV 97 (stCs out) out.length b) out := by
  refine ⟨?_, fun s hs => ⟨?_, ?_⟩⟩
  · by_cases h0 : out.length = 0
    · refine ⟨none, 0, by rw [accV, if_pos h0, h0], .inl (List.length_eq_zero_iff.1 h0)⟩
    · refine ⟨some ⟨b, 0, none⟩, _, by rw [accV, if_neg h0], .inr ⟨b, true, rfl, ?_⟩⟩
      rw [accM, if_neg h0] at hp
      exact hp.getN .here
  · obtain ⟨b1, c1, e, hh⟩ := hL s hs
    exact .inr ⟨b1, c1, _, _, e, hp.getN (.app hh)⟩
  · have : s.k ∈ ss.map Stp.k := hk ▸ List.mem_map_of_mem hs
    obtain ⟨t, ht, e⟩ := List.mem_map.1 this
    simp only [Stp.k, Prod.mk.injEq] at e
    rw [← e.2.2.2]
    exact hss t ht
theorem walk_e (root : Hsh) : ∀ (l : List (Stp × Hsh)), (walkL root l).2 ≤ 22 := by
  intro l
  induction l generalizing root with
  | nil => simp [walkL]
  | cons p l ih =>
    obtain ⟨s, n⟩ := p
    rw [walkL]
    split
    · exact upd_e _ _ _ _ _ _
    · exact ih _

set_option maxHeartbeats 8000000 in
theorem c_ProofWalks (root : Hsh) (ss : List Stp) (ns : List Hsh) (v1 v2 : Value) (H : AHeap) (g : Gl H) (h1 : StsAt 84 H v1 ss) (h2 : HsS H v2 ns) (hn1 : ss.length ≤ 4398046511104) (hn2 : ns.length ≤ 4398046511104) : CallR Tryd.prog noPrims 5 [hV root, v1, v2] H (fun u H' => u = .bool true ∧ Hp H 0 0 H' [] []) := by
  have h1' := h1
  have h2' := h2.at
  obtain ⟨⟨a1, c1, rfl, _⟩, hss⟩ := h1
  obtain ⟨a2, c2, rfl, _⟩ := h2'
  refine CallR.sy (n := 51) Tryd.func5 rfl rfl rfl ?_
  by_cases hbig : ss.length > 12
  · repeat' (first
    | (with_reducible refine Sy.seq ?_)
    | (with_reducible refine Sy.regionL ?_)
    | (with_reducible refine Sy.opsnil ?_)
    | (with_reducible refine Sy.go ?_)
    | (with_reducible refine Sy.nrm ?_)
    | ((with_reducible apply Sy.assign); (case hd => exact rfl); (case hx => exact rfl))
    | ((with_reducible apply Sy.move); (case hd => exact rfl); (case hx => exact rfl))
    | ((with_reducible apply Sy.lenS); (case hd => exact rfl); (case ht => exact Tryd.underlying55); (case hx => exact rfl))
    | ((with_reducible apply Sy.bin (op := .gtr) (t := 3)); (case hd => exact rfl); (case hx => exact rfl); (case hy => exact rfl); (case hv => exact b_gtr))
    | ((with_reducible apply Sy.call0 (k := 18)); (case hd => exact rfl); (case hf => exact rfl); (case hen => exact en18); (case hx => exact rfl); (case hc => intro H' hp; exact c_knows6 H' (g.of hp (by simp))))
    | ((with_reducible apply Sy.newY (o := ⟨some 3, .box 23 _, _, _, _, _⟩)); (case ho => exact rfl); (case hd => exact rfl); (case hc => exact (nbH rfl)); intro q3)
    | (with_reducible refine Sy.ret ?_)
    | (with_reducible refine Sy.aret ?_)
    | ((with_reducible apply Sy.ite); (case hx => exact rfl); all_goals (intro hc; try (exfalso; omega))))
    exact .fin [.bool true] (.inr rfl) ⟨rfl, trivial⟩ fun H' hp => ⟨rfl, hp.less (List.nil_sublist _)⟩
  have cO : ∀ {H' : AHeap} {lo hi : Nat} {Mn : Hm}, Hp H lo hi H' [] Mn → CallR Tryd.prog noPrims 24 [.slice a1 ss.length c1] H' (fun u H2 => ∃ i : List Stp × Nat × Hm, (i.1.map Stp.k = ss.map Stp.k ∧ Cop i.2.2 i.1) ∧ u = accV 97 (stCs i.1) i.1.length i.2.1 ∧ Hp H' 0 0 H2 [] (accM 63 (stCs i.1) i.1.length i.2.1 ++ i.2.2)) := fun hp => c_Own ss _ _ (h1'.of hp) (by omega)
  repeat' (first
    | (with_reducible refine Sy.seq ?_)
    | (with_reducible refine Sy.regionL ?_)
    | (with_reducible refine Sy.opsnil ?_)
    | (with_reducible refine Sy.go ?_)
    | (with_reducible refine Sy.nrm ?_)
    | ((with_reducible apply Sy.drawL (id := 4) 12 [(0, 4)] (fun hi h => h = q3)); (case hp => kernel_rfl); (case hN => exact rfl); intro base hbase hM)
    | ((with_reducible apply Sy.assign); (case hd => exact rfl); (case hx => exact rfl))
    | ((with_reducible apply Sy.move); (case hd => exact rfl); (case hx => exact rfl))
    | ((with_reducible apply Sy.lenS); (case hd => exact rfl); (case ht => exact Tryd.underlying55); (case hx => exact rfl))
    | ((with_reducible apply Sy.bin (op := .gtr) (t := 3)); (case hd => exact rfl); (case hx => exact rfl); (case hy => exact rfl); (case hv => exact b_gtr))
    | ((with_reducible apply Sy.ldN (t := 23)); (case hd => exact rfl); (case hx => exact rfl); (case hm => repeat (first | exact Has.here | apply Has.app)); (case hv => first | exact ld_hV ag23 sz23))
    | ((with_reducible apply Sy.callN (k := 24)); (case hd => exact rfl); (case hf => exact rfl); (case hen => exact en24); (case hx => exact rfl); (case hc => intro H' hp; exact cO hp); rintro ⟨out, bo, L⟩ ⟨hk, hL⟩)
    | ((with_reducible apply Sy.dwr (SK := [(q3, .cells (hC root) 23 true)])); (case hw => first | exact wantY_none); (case hc => intro hcls; cases hcls); (case h1 => exact rfl); (case hS => intro h hh; subst hh; exact ⟨_, List.mem_singleton.2 rfl⟩); (case hk => exact .consN (by repeat (first | exact Has.here | apply Has.there | apply Has.app)) .nil))
    | ((with_reducible apply Sy.dand); (case hk => exact .consN (by repeat (first | exact Has.here | apply Has.there | apply Has.app)) .nil))
    | ((with_reducible apply Sy.newY (o := ⟨some 3, .box 23 _, _, _, _, _⟩)); (case ho => exact rfl); (case hd => exact rfl); (case hc => exact (nbH rfl)); intro q3)
    | ((with_reducible apply Sy.dnew (o := ⟨some 21, .buildSlice 24 _ _, _, _, _, _⟩)); (case hw => first | exact wantY_none); (case ho => exact rfl); (case hd => exact rfl); (case hi1 => exact rfl); (case h1 => exact rfl); (case h2 => exact rfl); (case hc => exact (nbs0 Tryd.underlying24 sz23 zr23 rfl (by decide) rfl)); intro q21 hq21)
    | (with_reducible refine Sy.skip ?_)
    | ((with_reducible apply Sy.dld); (case hw => first | exact wantY_none); (case hx => exact rfl); (case hb => omega); (case h2 => exact rfl))
    | ((with_reducible apply Sy.ite); (case hx => exact rfl); all_goals (intro hc; try (exfalso; omega))))
  dsimp only at hk hL ⊢
  clear hM
  have oA : ∀ {H1 : AHeap} {lo hi : Nat}, Hp H lo hi H1 [] (accM 63 (stCs out) out.length bo ++ L) → StsAt 63 H1 (accV 97 (stCs out) out.length bo) out := fun hp => own_at hk hL (fun s hs => (hss s hs).2) hp
  have hlen : out.length = ss.length := by simpa using congrArg List.length hk
  have hwe : (walkV root ss ns).2 ≤ 22 := by
    rw [walkV]; split
    · simp
    · exact walk_e _ _
  generalize accM 63 (stCs out) out.length bo ++ L = A at *
  generalize accV 97 (stCs out) out.length bo = vO at *
  have cW : ∀ {H' : AHeap} {lo hi : Nat} {Mn : Hm} {v : Value}, Hp H lo hi H' [] Mn → StsAt 63 H' vO out → HsAt H' v ns → CallR Tryd.prog noPrims 25 [hV root, vO, v] H' (fun u H2 => u = tupR (walkV root ss ns) ∧ Hp H' 0 0 H2 [] []) := fun hp hs hv => by
    rw [← walkV_k ns root hk]; exact c_Walk root out ns _ _ _ (g.of hp (by simp)) hs hv (by omega) hn2
  have cR : ∀ {H' : AHeap} {lo hi : Nat} {Mn : Hm}, Hp H lo hi H' [] Mn → CallR Tryd.prog noPrims 26 [hV root, .slice a1 ss.length c1, .slice a2 ns.length c2] H' (fun u H2 => u = tupR (walkV root ss ns) ∧ Hp H' 0 0 H2 [] []) := fun hp => c_rWalk root ss ns _ _ _ (h1'.of hp) (h2.of hp).at (by omega) hn2
  have cS : ∀ {H' : AHeap} {lo hi : Nat} {Mn : Hm}, Hp H lo hi H' [] Mn → StsAt 63 H' vO out → CallR Tryd.prog noPrims 27 [vO, .slice a1 ss.length c1] H' (fun u H2 => u = .bool true ∧ Hp H' 0 0 H2 [] []) := fun hp hs => c_SameS out ss _ _ _ hs (h1'.of hp) hk (by omega)
  generalize walkV root ss ns = r at *
  obtain ⟨x, e⟩ := r
  dsimp only at hwe
  rcases h2 with ⟨he, rfl⟩ | ⟨b, c', T, w, he, hb⟩
  · simp only [List.length_nil, Value.slice.injEq, true_and] at he
    obtain ⟨rfl, rfl⟩ := he
    refine Sy.appZ (t := 24) (xt := 24) (ap24_24 zr23 rfl) rfl rfl rfl (.inl ⟨_, _, _, _, rfl⟩) SrcY.nil rfl ?_
    refine Sy.dand (.consN (by repeat (first | exact Has.here | apply Has.there | apply Has.app)) .nil) ?_
    repeat' (first
    | (with_reducible refine Sy.seq ?_)
    | (with_reducible refine Sy.regionL ?_)
    | (with_reducible refine Sy.opsnil ?_)
    | (with_reducible refine Sy.go ?_)
    | (with_reducible refine Sy.nrm ?_)
    | ((with_reducible refine Sy.bin (op := .eql) (t := 23) rfl rfl rfl eqHS ?_))
    | ((with_reducible refine Sy.bin (op := .eql) (t := 3) rfl rfl rfl eqNS ?_))
    | ((with_reducible apply Sy.assign); (case hd => exact rfl); (case hx => exact rfl))
    | ((with_reducible apply Sy.move); (case hd => exact rfl); (case hx => exact rfl))
    | ((with_reducible apply Sy.ldN (t := 23)); (case hd => exact rfl); (case hx => exact rfl); (case hm => repeat (first | exact Has.here | apply Has.there | apply Has.app)); (case hv => first | exact ld_hV ag23 sz23))
    | ((with_reducible apply Sy.ext); (case hd => exact rfl); (case hx => exact rfl); (case hv => exact rfl))
    | ((with_reducible apply Sy.stNa (t := 23)); (case hx => exact rfl); (case hy => exact rfl); (case hs => exact sz23); (case hl => first | exact hC_length _); (case h1 => first | exact hC_one _); (case hm => repeat (first | exact Turn.here)); (case hle => first | (simp; done)); (case hc => first | exact lay_all (by first | (simp; done))))
    | ((with_reducible apply Sy.pickT); (case hd => exact rfl); (case hx => exact rfl); (case hy => exact rfl))
    | ((with_reducible apply Sy.call0 (k := 25)); (case hd => exact rfl); (case hf => exact rfl); (case hen => exact en25); (case hx => exact rfl); (case hc => intro H' hp; exact cW hp (oA (hp.less (by repeat (first | exact List.sublist_append_left _ _ | apply List.Sublist.cons)))) (by first | exact ⟨_, _, rfl, .inl rfl⟩)))
    | ((with_reducible apply Sy.call0 (k := 26)); (case hd => exact rfl); (case hf => exact rfl); (case hen => exact en26); (case hx => exact rfl); (case hc => intro H' hp; exact cR hp))
    | ((with_reducible apply Sy.call0 (k := 14)); (case hd => exact rfl); (case hf => exact rfl); (case hen => exact en14); (case hx => exact rfl); (case hc => intro H' hp; exact c_num6 _ H'))
    | ((with_reducible apply Sy.call0 (k := 27)); (case hd => exact rfl); (case hf => exact rfl); (case hen => exact en27); (case hx => exact rfl); (case hc => intro H' hp; exact cS hp (oA (hp.less (by repeat (first | exact List.sublist_append_left _ _ | apply List.Sublist.cons))))))
    | ((with_reducible apply Sy.call0 (k := 18)); (case hd => exact rfl); (case hf => exact rfl); (case hen => exact en18); (case hx => exact rfl); (case hc => intro H' hp; exact c_knows6 H' (g.of hp (by simp))))
    | ((with_reducible apply Sy.dnew (o := ⟨some 8, .alloc 23, _, _, _, _⟩)); (case hw => first | exact wantY_none); (case ho => exact rfl); (case hd => exact rfl); (case hi1 => exact rfl); (case h1 => exact rfl); (case h2 => exact rfl); (case hc => exact (nwz23)); intro q8 hq8)
    | ((with_reducible apply Sy.newY (o := ⟨some 10, .alloc 23, _, _, _, _⟩)); (case ho => exact rfl); (case hd => exact rfl); (case hc => exact (nwz23)); intro q10)
    | (with_reducible refine Sy.ret ?_)
    | ((with_reducible apply Sy.goG); (case hj => exact rfl); (case ht => exact rfl); (case hb => exact rfl))
    | (with_reducible refine Sy.dend ?_)
    | ((with_reducible apply Sy.dgo); (case hw => first | exact wantY_none); (case hc => intro hcls; cases hcls); (case h1 => exact rfl); (case h2 => exact rfl)))
    exact .fin [.bool true] (.inr rfl) ⟨rfl, trivial⟩ fun H' hp => ⟨rfl, hp.less (List.nil_sublist _)⟩
  · simp only [Value.slice.injEq, true_and] at he
    obtain ⟨rfl, rfl⟩ := he
    have hsrc : ∀ {lo hi : Nat} {Mn : Hm}, SrcY H lo hi [] Mn 32 (.slice (some ⟨b, 0, none⟩) ns.length c2) ns.length (hcs ns) := fun {lo hi Mn} => (SrcY.of0 hb (by simp) (by rw [hcs_length]; omega)).eq (by rw [List.drop_zero, List.take_of_length_le (by rw [hcs_length]; omega)])
    by_cases hl0 : ns = []
    · subst hl0
      refine Sy.appZ (t := 24) (xt := 24) (ap24_24 zr23 rfl) rfl rfl rfl (.inl ⟨_, _, _, _, rfl⟩) hsrc rfl ?_
      refine Sy.dand (.consN (by repeat (first | exact Has.here | apply Has.there | apply Has.app)) .nil) ?_
      repeat' (first
    | (with_reducible refine Sy.seq ?_)
    | (with_reducible refine Sy.regionL ?_)
    | (with_reducible refine Sy.opsnil ?_)
    | (with_reducible refine Sy.go ?_)
    | (with_reducible refine Sy.nrm ?_)
    | ((with_reducible refine Sy.bin (op := .eql) (t := 23) rfl rfl rfl eqHS ?_))
    | ((with_reducible refine Sy.bin (op := .eql) (t := 3) rfl rfl rfl eqNS ?_))
    | ((with_reducible apply Sy.assign); (case hd => exact rfl); (case hx => exact rfl))
    | ((with_reducible apply Sy.move); (case hd => exact rfl); (case hx => exact rfl))
    | ((with_reducible apply Sy.ldN (t := 23)); (case hd => exact rfl); (case hx => exact rfl); (case hm => repeat (first | exact Has.here | apply Has.there | apply Has.app)); (case hv => first | exact ld_hV ag23 sz23))
    | ((with_reducible apply Sy.ext); (case hd => exact rfl); (case hx => exact rfl); (case hv => exact rfl))
    | ((with_reducible apply Sy.stNa (t := 23)); (case hx => exact rfl); (case hy => exact rfl); (case hs => exact sz23); (case hl => first | exact hC_length _); (case h1 => first | exact hC_one _); (case hm => repeat (first | exact Turn.here)); (case hle => first | (simp; done)); (case hc => first | exact lay_all (by first | (simp; done))))
    | ((with_reducible apply Sy.pickT); (case hd => exact rfl); (case hx => exact rfl); (case hy => exact rfl))
    | ((with_reducible apply Sy.call0 (k := 25)); (case hd => exact rfl); (case hf => exact rfl); (case hen => exact en25); (case hx => exact rfl); (case hc => intro H' hp; exact cW hp (oA (hp.less (by repeat (first | exact List.sublist_append_left _ _ | apply List.Sublist.cons)))) (by first | exact ⟨_, _, rfl, .inl rfl⟩)))
    | ((with_reducible apply Sy.call0 (k := 26)); (case hd => exact rfl); (case hf => exact rfl); (case hen => exact en26); (case hx => exact rfl); (case hc => intro H' hp; exact cR hp))
    | ((with_reducible apply Sy.call0 (k := 14)); (case hd => exact rfl); (case hf => exact rfl); (case hen => exact en14); (case hx => exact rfl); (case hc => intro H' hp; exact c_num6 _ H'))
    | ((with_reducible apply Sy.call0 (k := 27)); (case hd => exact rfl); (case hf => exact rfl); (case hen => exact en27); (case hx => exact rfl); (case hc => intro H' hp; exact cS hp (oA (hp.less (by repeat (first | exact List.sublist_append_left _ _ | apply List.Sublist.cons))))))
    | ((with_reducible apply Sy.call0 (k := 18)); (case hd => exact rfl); (case hf => exact rfl); (case hen => exact en18); (case hx => exact rfl); (case hc => intro H' hp; exact c_knows6 H' (g.of hp (by simp))))
    | ((with_reducible apply Sy.dnew (o := ⟨some 8, .alloc 23, _, _, _, _⟩)); (case hw => first | exact wantY_none); (case ho => exact rfl); (case hd => exact rfl); (case hi1 => exact rfl); (case h1 => exact rfl); (case h2 => exact rfl); (case hc => exact (nwz23)); intro q8 hq8)
    | ((with_reducible apply Sy.newY (o := ⟨some 10, .alloc 23, _, _, _, _⟩)); (case ho => exact rfl); (case hd => exact rfl); (case hc => exact (nwz23)); intro q10)
    | (with_reducible refine Sy.ret ?_)
    | ((with_reducible apply Sy.goG); (case hj => exact rfl); (case ht => exact rfl); (case hb => exact rfl))
    | (with_reducible refine Sy.dend ?_)
    | ((with_reducible apply Sy.dgo); (case hw => first | exact wantY_none); (case hc => intro hcls; cases hcls); (case h1 => exact rfl); (case h2 => exact rfl)))
      exact .fin [.bool true] (.inr rfl) ⟨rfl, trivial⟩ fun H' hp => ⟨rfl, hp.less (List.nil_sublist _)⟩
    · refine Sy.appF (t := 24) (xt := 24) (ap24_24 zr23 rfl) rfl rfl rfl hsrc (hcs_one ns) (by simpa using hl0) (by omega) (fun H1 hH => hH.getN (by repeat (first | exact Has.here | apply Has.there | apply Has.app))) (by simp) (old := []) rfl ?_
      intro b2
      refine Sy.dand (.consN (by repeat (first | exact Has.here | apply Has.there | apply Has.app)) .nil) ?_
      rw [Nat.zero_add ns.length, List.nil_append]
      repeat' (first
    | (with_reducible refine Sy.seq ?_)
    | (with_reducible refine Sy.regionL ?_)
    | (with_reducible refine Sy.opsnil ?_)
    | (with_reducible refine Sy.go ?_)
    | (with_reducible refine Sy.nrm ?_)
    | ((with_reducible refine Sy.bin (op := .eql) (t := 23) rfl rfl rfl eqHS ?_))
    | ((with_reducible refine Sy.bin (op := .eql) (t := 3) rfl rfl rfl eqNS ?_))
    | ((with_reducible apply Sy.assign); (case hd => exact rfl); (case hx => exact rfl))
    | ((with_reducible apply Sy.move); (case hd => exact rfl); (case hx => exact rfl))
    | ((with_reducible apply Sy.ldN (t := 23)); (case hd => exact rfl); (case hx => exact rfl); (case hm => repeat (first | exact Has.here | apply Has.there | apply Has.app)); (case hv => first | exact ld_hV ag23 sz23))
    | ((with_reducible apply Sy.ext); (case hd => exact rfl); (case hx => exact rfl); (case hv => exact rfl))
    | ((with_reducible apply Sy.stNa (t := 23)); (case hx => exact rfl); (case hy => exact rfl); (case hs => exact sz23); (case hl => first | exact hC_length _); (case h1 => first | exact hC_one _); (case hm => repeat (first | exact Turn.here)); (case hle => first | (simp; done)); (case hc => first | exact lay_all (by first | (simp; done))))
    | ((with_reducible apply Sy.pickT); (case hd => exact rfl); (case hx => exact rfl); (case hy => exact rfl))
    | ((with_reducible apply Sy.call0 (k := 25)); (case hd => exact rfl); (case hf => exact rfl); (case hen => exact en25); (case hx => exact rfl); (case hc => intro H' hp; exact cW hp (oA (hp.less (by repeat (first | exact List.sublist_append_left _ _ | apply List.Sublist.cons)))) (by first | exact ⟨_, _, rfl, .inr ⟨_, _, _, rfl, hp.getN (by repeat (first | exact Has.here | apply Has.there | apply Has.app))⟩⟩)))
    | ((with_reducible apply Sy.call0 (k := 26)); (case hd => exact rfl); (case hf => exact rfl); (case hen => exact en26); (case hx => exact rfl); (case hc => intro H' hp; exact cR hp))
    | ((with_reducible apply Sy.call0 (k := 14)); (case hd => exact rfl); (case hf => exact rfl); (case hen => exact en14); (case hx => exact rfl); (case hc => intro H' hp; exact c_num6 _ H'))
    | ((with_reducible apply Sy.call0 (k := 27)); (case hd => exact rfl); (case hf => exact rfl); (case hen => exact en27); (case hx => exact rfl); (case hc => intro H' hp; exact cS hp (oA (hp.less (by repeat (first | exact List.sublist_append_left _ _ | apply List.Sublist.cons))))))
    | ((with_reducible apply Sy.call0 (k := 18)); (case hd => exact rfl); (case hf => exact rfl); (case hen => exact en18); (case hx => exact rfl); (case hc => intro H' hp; exact c_knows6 H' (g.of hp (by simp))))
    | ((with_reducible apply Sy.dnew (o := ⟨some 8, .alloc 23, _, _, _, _⟩)); (case hw => first | exact wantY_none); (case ho => exact rfl); (case hd => exact rfl); (case hi1 => exact rfl); (case h1 => exact rfl); (case h2 => exact rfl); (case hc => exact (nwz23)); intro q8 hq8)
    | ((with_reducible apply Sy.newY (o := ⟨some 10, .alloc 23, _, _, _, _⟩)); (case ho => exact rfl); (case hd => exact rfl); (case hc => exact (nwz23)); intro q10)
    | (with_reducible refine Sy.ret ?_)
    | ((with_reducible apply Sy.goG); (case hj => exact rfl); (case ht => exact rfl); (case hb => exact rfl))
    | (with_reducible refine Sy.dend ?_)
    | ((with_reducible apply Sy.dgo); (case hw => first | exact wantY_none); (case hc => intro hcls; cases hcls); (case h1 => exact rfl); (case h2 => exact rfl)))
      exact .fin [.bool true] (.inr rfl) ⟨rfl, trivial⟩ fun H' hp => ⟨rfl, hp.less (List.nil_sublist _)⟩
end Go.Proofs.YtmlofdgamdlcgaaDoor
