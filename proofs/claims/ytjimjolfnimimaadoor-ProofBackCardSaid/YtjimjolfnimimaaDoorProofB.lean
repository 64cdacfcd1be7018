/- Steps, their copies. -/
import Derived.Test.YtjimjolfnimimaaDoorProofA
set_option linter.unusedSimpArgs false
set_option linter.unusedVariables false
/- Layer 06: steps of a walk. -/
namespace Go.Proofs.YtjimjolfnimimaaDoor
open Go Go.Am
set_option maxRecDepth 100000
set_option linter.unusedVariables false

/-- A step, and the slice of its proof's sides. -/
structure Stp where
  key : Hsh
  old : Hsh
  mask : Hsh
  l : List Hsh
  v : Value
def Stp.c (s : Stp) : List Value := hC s.key ++ (hC s.old ++ (hC s.mask ++ [s.v]))
theorem Stp.c_length (s : Stp) : s.c.length = 97 := by simp [Stp.c]
def stCs (ss : List Stp) : List Value := (ss.map Stp.c).flatten
theorem stCs_length (ss : List Stp) : (stCs ss).length = ss.length * 97 := by
  induction ss with
  | nil => rfl
  | cons a l ih => simp only [stCs, List.map_cons, List.flatten_cons, List.length_append, Stp.c_length, List.length_cons] at ih ⊢; rw [ih]; omega
theorem stCs_append (a b : List Stp) : stCs (a ++ b) = stCs a ++ stCs b := by simp [stCs]
theorem stCs_cut {ss : List Stp} {i : Nat} {s : Stp} (e : ss[i]? = some s) : stCs ss = stCs (ss.take i) ++ (s.c ++ stCs (ss.drop (i + 1))) := by
  obtain ⟨hi, e1⟩ := List.getElem?_eq_some_iff.1 e
  have e2 : ss = ss.take i ++ (s :: ss.drop (i + 1)) := by rw [← e1, ← List.drop_eq_getElem_cons hi, List.take_append_drop]
  conv => lhs; rw [e2]
  rw [stCs_append]
  simp [stCs]
/-- Reading a step's parts. -/
theorem st_drop {ss : List Stp} {i k : Nat} {s : Stp} (e : ss[i]? = some s) : (stCs ss).drop (i * 97 + k) = (s.c ++ stCs (ss.drop (i + 1))).drop k := by
  obtain ⟨hi, _⟩ := List.getElem?_eq_some_iff.1 e
  have hl : (stCs (ss.take i)).length = i * 97 := by rw [stCs_length, List.length_take]; congr 1; omega
  rw [stCs_cut e, ← hl, ← List.drop_drop, List.drop_left]
theorem st_key {ss : List Stp} {i o T : Nat} {s : Stp} {w : Bool} (e : ss[i]? = some s) (ho : o = i * 97) : aLoad Tryd.prog 44 (.cells (stCs ss) T w) o = some (hV s.key) := by
  obtain ⟨hi, _⟩ := List.getElem?_eq_some_iff.1 e
  refine ld_agg (cs' := hC s.key) ag44 sz44 (by rw [stCs_length]; omega) ?_
  have := st_drop (k := 0) e
  rw [Nat.add_zero] at this
  rw [ho, this, List.drop_zero, Stp.c, List.append_assoc, ← hC_length s.key, List.take_left]
theorem st_old {ss : List Stp} {i o T : Nat} {s : Stp} {w : Bool} (e : ss[i]? = some s) (ho : o = i * 97 + 32) : aLoad Tryd.prog 44 (.cells (stCs ss) T w) o = some (hV s.old) := by
  obtain ⟨hi, _⟩ := List.getElem?_eq_some_iff.1 e
  refine ld_agg (cs' := hC s.old) ag44 sz44 (by rw [stCs_length]; omega) ?_
  have hd : (s.c ++ stCs (ss.drop (i + 1))).drop 32 = hC s.old ++ (hC s.mask ++ [s.v] ++ stCs (ss.drop (i + 1))) := by
    rw [Stp.c, List.append_assoc, List.drop_left' (by simp)]; simp
  rw [ho, st_drop e, hd, ← hC_length s.old, List.take_left]
theorem st_prT {ss : List Stp} {i o t T : Nat} {s : Stp} {w : Bool} (hag : aggT Tryd.prog t = true) (hsz : szT Tryd.prog t = some 33) (e : ss[i]? = some s) (ho : o = i * 97 + 64) : aLoad Tryd.prog t (.cells (stCs ss) T w) o = some (prV s.mask s.v) := by
  obtain ⟨hi, _⟩ := List.getElem?_eq_some_iff.1 e
  refine ld_agg (cs' := hC s.mask ++ [s.v]) hag hsz (by rw [stCs_length]; omega) ?_
  have hd : (s.c ++ stCs (ss.drop (i + 1))).drop 64 = (hC s.mask ++ [s.v]) ++ stCs (ss.drop (i + 1)) := by
    rw [Stp.c, ← List.append_assoc (hC s.key), List.append_assoc, List.drop_left' (by simp)]
  rw [ho, st_drop e, hd, List.take_left' (by simp)]
theorem st_pr {ss : List Stp} {i o T : Nat} {s : Stp} {w : Bool} (e : ss[i]? = some s) (ho : o = i * 97 + 64) : aLoad Tryd.prog 121 (.cells (stCs ss) T w) o = some (prV s.mask s.v) := st_prT ag121 sz121 e ho
end Go.Proofs.YtjimjolfnimimaaDoor

/- Layer 06: the reference's walk. -/
namespace Go.Proofs.YtjimjolfnimimaaDoor
open Go Go.Am
set_option maxRecDepth 100000
set_option linter.unusedVariables false

/-- Steps in memory. -/
def StsAt (T : Nat) (H : AHeap) (v : Value) (ss : List Stp) : Prop := (∃ a c, v = .slice a ss.length c ∧ (ss = [] ∨ ∃ b w, a = some ⟨b, 0, none⟩ ∧ H.get b = .cells (stCs ss) T w)) ∧ ∀ s ∈ ss, HsS H s.v s.l ∧ s.l.length ≤ 4398046511104

end Go.Proofs.YtjimjolfnimimaaDoor

/- Layer 06: the program's walk. -/
namespace Go.Proofs.YtjimjolfnimimaaDoor
open Go Go.Am
set_option maxRecDepth 100000
set_option linter.unusedVariables false

/-- A step that is read whole, and kept. -/
theorem st_all {ss : List Stp} {i o T t : Nat} {s : Stp} {w : Bool} (hag : aggT Tryd.prog t = true) (hsz : szT Tryd.prog t = some 97) (e : ss[i]? = some s) (ho : o = i * 97) : aLoad Tryd.prog t (.cells (stCs ss) T w) o = some (.agg ⟨s.c⟩) := by
  obtain ⟨hi, _⟩ := List.getElem?_eq_some_iff.1 e
  refine ld_agg (cs' := s.c) hag hsz (by rw [stCs_length]; omega) ?_
  have := st_drop (k := 0) e
  rw [Nat.add_zero] at this
  rw [ho, this, List.drop_zero, ← s.c_length, List.take_left]
theorem sk_key {s : Stp} {T : Nat} {w : Bool} : aLoad Tryd.prog 44 (.cells s.c T w) 0 = some (hV s.key) :=
  ld_agg (cs' := hC s.key) ag44 sz44 (by rw [s.c_length]; omega) (by rw [List.drop_zero, Stp.c, ← hC_length s.key, List.take_left])
theorem sk_old {s : Stp} {T : Nat} {w : Bool} : aLoad Tryd.prog 44 (.cells s.c T w) 32 = some (hV s.old) :=
  ld_agg (cs' := hC s.old) ag44 sz44 (by rw [s.c_length]; omega) (by rw [Stp.c, List.drop_left' (by simp), ← hC_length s.old, List.take_left])
theorem sk_pr {s : Stp} {t T : Nat} {w : Bool} (hag : aggT Tryd.prog t = true) (hsz : szT Tryd.prog t = some 33) : aLoad Tryd.prog t (.cells s.c T w) 64 = some (prV s.mask s.v) :=
  ld_agg (cs' := hC s.mask ++ [s.v]) hag hsz (by rw [s.c_length]; omega) (by rw [Stp.c, ← List.append_assoc, List.drop_left' (by simp), List.take_of_length_le (by simp)])
theorem setSt {a b c : Hsh} {x : Value} {s : Stp} : lay (hC a ++ (hC b ++ (hC c ++ [x]))) 0 s.c = s.c := lay_all (by rw [s.c_length]; simp)
theorem oneSt {s : Stp} (h : s.v.oneCell' = true) : oneL s.c = true := by simp [Stp.c, oneL_append, hC_one, oneL_cons, oneL_nil, h]

end Go.Proofs.YtjimjolfnimimaaDoor

/- Layer 06: the program's copy of steps. -/
namespace Go.Proofs.YtjimjolfnimimaaDoor
open Go Go.Am
set_option maxRecDepth 100000
set_option linter.unusedVariables false

/-- What a step says. -/
def Stp.k (s : Stp) : Hsh × Hsh × Hsh × List Hsh := (s.key, s.old, s.mask, s.l)
theorem bvSt {key old mask : Hsh} {v : Value} : buildV Tryd.prog 118 [(0, hV key), (1, hV old), (2, .agg ⟨hC mask ++ [v]⟩)] = some (.agg ⟨hC key ++ (hC old ++ (hC mask ++ [v]))⟩) := bv118 (by
  simp only [fillL, plc, hV_cells]
  have e1 : lay (hC zeroH ++ (hC zeroH ++ (hC zeroH ++ [Value.slice none 0 0]))) 0 (hC key) = hC key ++ (hC zeroH ++ (hC zeroH ++ [Value.slice none 0 0])) := lay_here (by simp)
  have e2 : lay (hC key ++ (hC zeroH ++ (hC zeroH ++ [Value.slice none 0 0]))) 32 (hC old) = hC key ++ (hC old ++ (hC zeroH ++ [Value.slice none 0 0])) := by
    have := lay_there (a := hC key) (b := hC zeroH ++ (hC zeroH ++ [Value.slice none 0 0])) (v := hC old) (o := 32) (k := 0) (by simp)
    rw [Nat.add_zero] at this
    rw [this, lay_here (by simp)]
  have e3 : lay (hC key ++ (hC old ++ (hC zeroH ++ [Value.slice none 0 0]))) 64 (hC mask ++ [v]) = hC key ++ (hC old ++ (hC mask ++ [v])) := by
    have := lay_there (a := hC key ++ hC old) (b := hC zeroH ++ [Value.slice none 0 0]) (v := hC mask ++ [v]) (o := 64) (k := 0) (by simp)
    rw [Nat.add_zero, List.append_assoc, List.append_assoc] at this
    rw [this, lay_all (by simp)]
  simp [e1, e2, e3, Value.cells])
/-- Copied steps: each with a copy of its sides. -/
def Cop (L : Hm) (out : List Stp) : Prop := ∀ s ∈ out, ∃ b c, s.v = .slice (some ⟨b, 0, none⟩) s.l.length c ∧ Has L b (.cells (hcs s.l) 44 true)
theorem Cop.more {L : Hm} {out : List Stp} {key old mask : Hsh} {l : List Hsh} {b c : Nat} (h : Cop L out) : Cop ((b, .cells (hcs l) 44 true) :: L) (out ++ [⟨key, old, mask, l, .slice (some ⟨b, 0, none⟩) l.length c⟩]) := by
  intro s hs
  rcases List.mem_append.1 hs with hs | hs
  · obtain ⟨b1, c1, e, hh⟩ := h s hs
    exact ⟨b1, c1, e, .there hh⟩
  · obtain rfl := List.mem_singleton.1 hs
    exact ⟨b, c, rfl, .here⟩
theorem SrcY.st {H0 : AHeap} {lo hi q c T : Nat} {w : Bool} {Mo Mn : Hm} {s : Stp} (hm : Has Mn q (.cells s.c T w)) : SrcY H0 lo hi Mo Mn 97 (.slice (some ⟨q, 0, none⟩) 1 c) 1 s.c :=
  (SrcY.ofN hm (by rw [s.c_length]; omega)).eq (by rw [List.drop_zero, List.take_of_length_le (by rw [s.c_length]; omega)])
theorem stCs_one (s : Stp) : stCs [s] = s.c := by simp [stCs]

set_option maxHeartbeats 2000000 in
theorem c_Own (ss : List Stp) (v1 : Value) (H : AHeap) (h1 : StsAt 123 H v1 ss) (hn1 : ss.length ≤ 1172812402926) : CallR Tryd.prog noPrims 25 [v1] H (fun u H' => ∃ i : List Stp × Nat × Hm, (i.1.map Stp.k = ss.map Stp.k ∧ Cop i.2.2 i.1) ∧ u = accV 97 (stCs i.1) i.1.length i.2.1 ∧ Hp H 0 0 H' [] (accM 118 (stCs i.1) i.1.length i.2.1 ++ i.2.2)) := by
  obtain ⟨⟨a1, c1, rfl, h1⟩, hss⟩ := h1
  refine CallR.sy (n := 32) Tryd.func25 rfl rfl rfl ?_
  repeat' (first
    | (with_reducible refine Sy.seq ?_)
    | (with_reducible refine Sy.regionL ?_)
    | (with_reducible refine Sy.opsnil ?_)
    | (with_reducible refine Sy.go ?_)
    | (with_reducible refine Sy.nrm ?_)
    | ((with_reducible apply Sy.assign); exact rfl; exact rfl)
    | (with_reducible refine Sy.block ?_))
  refine Sy.loop (ι := Nat × List Stp × Nat × Hm) (fun i => ss.length - i.1) (fun i => [(0, .slice a1 ss.length c1), (3, accV 97 (stCs i.2.1) i.2.1.length i.2.2.1), (4, .int .i64 (i.1 : Nat))]) (fun _ => []) (fun i => accM 118 (stCs i.2.1) i.2.1.length i.2.2.1 ++ i.2.2.2) (fun i => i.1 ≤ ss.length ∧ i.2.1.map Stp.k = (ss.take i.1).map Stp.k ∧ Cop i.2.2.2 i.2.1) (0, [], 0, []) ⟨Nat.zero_le _, rfl, by simp [Cop]⟩ ⟨rfl, rfl, rfl, trivial⟩ (fun H h => h) ?_
  rintro ⟨i, out, bo, L⟩ ⟨hi, hk, hL⟩
  dsimp only at hi hk hL ⊢
  have hol : out.length = i := by have := congrArg List.length hk; simp at this; omega
  by_cases hlt : i < ss.length
  · obtain ⟨s, hs⟩ : ∃ s, ss[i]? = some s := ⟨ss[i], List.getElem?_eq_getElem hlt⟩
    rcases h1 with rfl | ⟨b1, w1, rfl, hb1⟩
    · simp at hlt
    obtain ⟨hsv, hsl⟩ := hss s (List.mem_of_getElem? hs)
    have hk2 : ∀ v, (out ++ [(⟨s.key, s.old, s.mask, s.l, v⟩ : Stp)]).map Stp.k = (ss.take (i + 1)).map Stp.k := fun v => by
      rw [List.take_add_one, hs, List.map_append, List.map_append, hk]; rfl
    have pP : ∀ {H' : AHeap} {lo hi : Nat} {Mn : Hm}, Hp H lo hi H' [] Mn → CallR Tryd.prog noPrims 62 [prV s.mask s.v] H' (fun u H2 => ∃ i : Nat × Nat, True ∧ u = .agg ⟨hC s.mask ++ [.slice (some ⟨i.1, 0, none⟩) s.l.length i.2]⟩ ∧ Hp H' 0 0 H2 [] [(i.1, .cells (hcs s.l) 44 true)]) := fun hp => c_Proof s.mask _ s.l _ (hsv.of hp) hsl
    have hbn : b1 < H.next := get_live_lt (by rw [hb1]; rfl)
    by_cases h0 : i = 0
    · subst h0
      obtain rfl := List.length_eq_zero_iff.1 hol
      simp only [accV, accM, List.length_nil, if_true, List.nil_append]
      repeat' (first
    | (with_reducible refine Sy.seq ?_)
    | (with_reducible refine Sy.regionL ?_)
    | (with_reducible refine Sy.opsnil ?_)
    | (with_reducible refine Sy.go ?_)
    | (with_reducible refine Sy.nrm ?_)
    | ((with_reducible refine Sy.build (t := 118) rfl rfl bvSt ?_))
    | ((with_reducible apply Sy.move); exact rfl; exact rfl)
    | ((with_reducible apply Sy.lenS); exact rfl; exact Tryd.underlying52; exact rfl)
    | ((with_reducible apply Sy.bin (op := .lss) (t := 3)); exact rfl; exact rfl; exact rfl; exact b_lss)
    | ((with_reducible apply Sy.bin (op := .lss) (t := 3)); exact rfl; exact rfl; exact rfl; exact bz_lss)
    | ((with_reducible apply Sy.ia (t := 52)); exact rfl; exact rfl; exact rfl; exact (ia_sl Tryd.underlying52 sz123 (by omega)))
    | ((with_reducible apply Sy.fa (t := 123) (i := 0)); exact rfl; exact rfl; exact fa123_0 _ _)
    | ((with_reducible apply Sy.fa (t := 123) (i := 1)); exact rfl; exact rfl; exact fa123_1 _ _)
    | ((with_reducible apply Sy.fa (t := 123) (i := 2)); exact rfl; exact rfl; exact fa123_2 _ _)
    | ((with_reducible apply Sy.dcall (k := 62)); (first | exact wantY_none); exact rfl; (intro h hh; first | exact hh | (subst hh; omega)); exact rfl; exact rfl; exact rfl; exact en62; exact rfl; (intro H' hp; exact pP hp); rintro ⟨b, c2⟩ _)
    | (with_reducible refine Sy.ld0 (t := 44) rfl rfl hb1 rfl (by simp only [List.forall_mem_cons, List.not_mem_nil, false_implies, implies_true, and_true, ne_eq]; first | done | omega | (repeat (first | with_reducible assumption | (refine And.intro ?_ ?_)))) (st_key hs (by omega)) ?_)
    | (with_reducible refine Sy.ld0 (t := 44) rfl rfl hb1 rfl (by simp only [List.forall_mem_cons, List.not_mem_nil, false_implies, implies_true, and_true, ne_eq]; first | done | omega | (repeat (first | with_reducible assumption | (refine And.intro ?_ ?_)))) (st_old hs (by omega)) ?_)
    | (with_reducible refine Sy.ld0 (t := 121) rfl rfl hb1 rfl (by simp only [List.forall_mem_cons, List.not_mem_nil, false_implies, implies_true, and_true, ne_eq]; first | done | omega | (repeat (first | with_reducible assumption | (refine And.intro ?_ ?_)))) (st_pr hs (by omega)) ?_)
    | ((with_reducible apply Sy.dnew (o := ⟨some 29, .buildSlice 54 _ _, _, _, _, _⟩)); (· first | exact wantY_none); exact rfl; exact rfl; exact rfl; exact rfl; exact rfl; (· exact (nba1 Tryd.underlying54 sz118 zr118 rfl (by decide) rfl (by first | (simp; done)))); intro q29 hq29)
    | ((with_reducible apply Sy.dnew (o := ⟨some 29, .buildSlice 54 _ _, _, _, _, _⟩)); (· first | exact wantY_none); exact rfl; exact rfl; exact rfl; exact rfl; exact rfl; (· exact (newY_bs Tryd.underlying54 sz118 zr118 rfl (by decide) rfl (by first | rfl | (simp [List.drop_append, List.take_append, List.getElem?_append, lay, hC_length, ints_length, ints_drop, ints_take, ints_append, List.drop_of_length_le, List.take_of_length_le, List.map_append, List.set_append, Value.cells]; done)))); intro q29 hq29)
    | (with_reducible refine Sy.skip ?_)
    | (with_reducible refine Sy.block ?_)
    | ((with_reducible apply Sy.drawL (id := 5) 21 [(5, 16), (10, 16)] (fun hi h => h < hi)); (case hp => kernel_rfl); (case hN => exact rfl); intro base hbase hM; try simp only [List.forall_mem_cons, List.forall_mem_append, List.not_mem_nil, false_implies, implies_true, and_true] at hM)
    | ((with_reducible apply Sy.dgo); (· first | exact wantY_none); (· intro hcls; cases hcls); exact rfl; exact rfl)
    | ((with_reducible apply Sy.dld); (· first | exact wantY_none); exact rfl; (· first | omega | exact rfl); exact rfl)
    | ((with_reducible apply Sy.ite); (case hx => exact rfl); all_goals (intro hc; try (exfalso; omega))))
      dsimp only
      refine Sy.appN (t := 54) (xt := 54) (ap54_54 zr118 rfl) rfl rfl rfl (SrcY.st (s := ⟨s.key, s.old, s.mask, s.l, .slice (some ⟨b, 0, none⟩) s.l.length c2⟩) (by repeat (first | exact Has.here | apply Has.there | apply Has.app))) (oneSt rfl) (by decide) (by omega) ?_
      intro b'
      repeat' (first
    | (with_reducible refine Sy.regionL ?_)
    | (with_reducible refine Sy.opsnil ?_)
    | (with_reducible refine Sy.go ?_)
    | (with_reducible refine Sy.nrm ?_)
    | ((with_reducible apply Sy.assign); exact rfl; exact rfl)
    | ((with_reducible apply Sy.move); exact rfl; exact rfl)
    | ((with_reducible apply Sy.bin (op := .add) (t := 3)); exact rfl; exact rfl; exact rfl; exact (b_add (by omega)))
    | ((with_reducible apply Sy.bin (op := .add) (t := 3)); exact rfl; exact rfl; exact rfl; exact (bz_add (by omega) (by omega)))
    | (with_reducible refine Sy.inrm ?_)
    | (with_reducible refine Sy.dend ?_)
    | ((with_reducible apply Sy.dgo); (· first | exact wantY_none); (· intro hcls; cases hcls); exact rfl; exact rfl))
      refine Sy.rnrm (1, [⟨s.key, s.old, s.mask, s.l, .slice (some ⟨b, 0, none⟩) s.l.length c2⟩], b', (b, .cells (hcs s.l) 44 true) :: L) ⟨by omega, hk2 _, hL.more⟩ (by dsimp only; omega) ⟨rfl, rfl, rfl, trivial⟩ (fun H1 h => ?_)
      rw [stCs_one]
      exact h.less (.cons_cons _ (.cons _ (.refl _)))
    · have hne : out.length ≠ 0 := by omega
      simp only [accV, accM, hne, if_false]
      repeat' (first
    | (with_reducible refine Sy.seq ?_)
    | (with_reducible refine Sy.regionL ?_)
    | (with_reducible refine Sy.opsnil ?_)
    | (with_reducible refine Sy.go ?_)
    | (with_reducible refine Sy.nrm ?_)
    | ((with_reducible refine Sy.build (t := 118) rfl rfl bvSt ?_))
    | ((with_reducible apply Sy.move); exact rfl; exact rfl)
    | ((with_reducible apply Sy.lenS); exact rfl; exact Tryd.underlying52; exact rfl)
    | ((with_reducible apply Sy.bin (op := .lss) (t := 3)); exact rfl; exact rfl; exact rfl; exact b_lss)
    | ((with_reducible apply Sy.bin (op := .lss) (t := 3)); exact rfl; exact rfl; exact rfl; exact bz_lss)
    | ((with_reducible apply Sy.ia (t := 52)); exact rfl; exact rfl; exact rfl; exact (ia_sl Tryd.underlying52 sz123 (by omega)))
    | ((with_reducible apply Sy.fa (t := 123) (i := 0)); exact rfl; exact rfl; exact fa123_0 _ _)
    | ((with_reducible apply Sy.fa (t := 123) (i := 1)); exact rfl; exact rfl; exact fa123_1 _ _)
    | ((with_reducible apply Sy.fa (t := 123) (i := 2)); exact rfl; exact rfl; exact fa123_2 _ _)
    | ((with_reducible apply Sy.dcall (k := 62)); (first | exact wantY_none); exact rfl; (intro h hh; first | exact hh | (subst hh; omega)); exact rfl; exact rfl; exact rfl; exact en62; exact rfl; (intro H' hp; exact pP hp); rintro ⟨b, c2⟩ _)
    | (with_reducible refine Sy.ld0 (t := 44) rfl rfl hb1 rfl (by simp only [List.forall_mem_cons, List.not_mem_nil, false_implies, implies_true, and_true, ne_eq]; first | done | omega | (repeat (first | with_reducible assumption | (refine And.intro ?_ ?_)))) (st_key hs (by omega)) ?_)
    | (with_reducible refine Sy.ld0 (t := 44) rfl rfl hb1 rfl (by simp only [List.forall_mem_cons, List.not_mem_nil, false_implies, implies_true, and_true, ne_eq]; first | done | omega | (repeat (first | with_reducible assumption | (refine And.intro ?_ ?_)))) (st_old hs (by omega)) ?_)
    | (with_reducible refine Sy.ld0 (t := 121) rfl rfl hb1 rfl (by simp only [List.forall_mem_cons, List.not_mem_nil, false_implies, implies_true, and_true, ne_eq]; first | done | omega | (repeat (first | with_reducible assumption | (refine And.intro ?_ ?_)))) (st_pr hs (by omega)) ?_)
    | ((with_reducible apply Sy.dnew (o := ⟨some 29, .buildSlice 54 _ _, _, _, _, _⟩)); (· first | exact wantY_none); exact rfl; exact rfl; exact rfl; exact rfl; exact rfl; (· exact (nba1 Tryd.underlying54 sz118 zr118 rfl (by decide) rfl (by first | (simp; done)))); intro q29 hq29)
    | ((with_reducible apply Sy.dnew (o := ⟨some 29, .buildSlice 54 _ _, _, _, _, _⟩)); (· first | exact wantY_none); exact rfl; exact rfl; exact rfl; exact rfl; exact rfl; (· exact (newY_bs Tryd.underlying54 sz118 zr118 rfl (by decide) rfl (by first | rfl | (simp [List.drop_append, List.take_append, List.getElem?_append, lay, hC_length, ints_length, ints_drop, ints_take, ints_append, List.drop_of_length_le, List.take_of_length_le, List.map_append, List.set_append, Value.cells]; done)))); intro q29 hq29)
    | (with_reducible refine Sy.skip ?_)
    | (with_reducible refine Sy.block ?_)
    | ((with_reducible apply Sy.drawL (id := 5) 21 [(5, 16), (10, 16)] (fun hi h => h < hi)); (case hp => kernel_rfl); (case hN => exact rfl); intro base hbase hM; try simp only [List.forall_mem_cons, List.forall_mem_append, List.not_mem_nil, false_implies, implies_true, and_true] at hM)
    | ((with_reducible apply Sy.dgo); (· first | exact wantY_none); (· intro hcls; cases hcls); exact rfl; exact rfl)
    | ((with_reducible apply Sy.dld); (· first | exact wantY_none); exact rfl; (· first | omega | exact rfl); exact rfl)
    | ((with_reducible apply Sy.ite); (case hx => exact rfl); all_goals (intro hc; try (exfalso; omega))))
      dsimp only
      refine Sy.appO (t := 54) (xt := 54) (ap54_54 zr118 rfl) rfl rfl rfl (SrcY.st (s := ⟨s.key, s.old, s.mask, s.l, .slice (some ⟨b, 0, none⟩) s.l.length c2⟩) (by repeat (first | exact Has.here | apply Has.there | apply Has.app))) (oneSt rfl) (by decide) (by omega) (by repeat (first | exact Turn.here | apply Turn.there | apply Turn.app)) (stCs_length out) ?_
      intro b'
      repeat' (first
    | (with_reducible refine Sy.regionL ?_)
    | (with_reducible refine Sy.opsnil ?_)
    | (with_reducible refine Sy.go ?_)
    | (with_reducible refine Sy.nrm ?_)
    | ((with_reducible apply Sy.assign); exact rfl; exact rfl)
    | ((with_reducible apply Sy.move); exact rfl; exact rfl)
    | ((with_reducible apply Sy.bin (op := .add) (t := 3)); exact rfl; exact rfl; exact rfl; exact (b_add (by omega)))
    | ((with_reducible apply Sy.bin (op := .add) (t := 3)); exact rfl; exact rfl; exact rfl; exact (bz_add (by omega) (by omega)))
    | (with_reducible refine Sy.inrm ?_)
    | (with_reducible refine Sy.dend ?_)
    | ((with_reducible apply Sy.dgo); (· first | exact wantY_none); (· intro hcls; cases hcls); exact rfl; exact rfl))
      have e : ∀ s' : Stp, (out ++ [s']).length = out.length + 1 := fun s' => by simp
      have e2 : ¬ out.length + 1 = 0 := by omega
      refine Sy.rnrm (i + 1, out ++ [⟨s.key, s.old, s.mask, s.l, .slice (some ⟨b, 0, none⟩) s.l.length c2⟩], b', (b, .cells (hcs s.l) 44 true) :: L) ⟨by omega, hk2 _, hL.more⟩ (by dsimp only; omega) ⟨rfl, ?_, rfl, trivial⟩ (fun H1 h => ?_)
      · dsimp only
        rw [e, if_neg e2]; rfl
      · dsimp only
        rw [e, if_neg e2, stCs_append, stCs_one]
        exact h.less (.cons_cons _ (.cons _ (.cons_cons _ (.cons _ (.refl _)))))
  · obtain rfl : i = ss.length := by omega
    repeat' (first
    | (with_reducible refine Sy.seq ?_)
    | (with_reducible refine Sy.regionL ?_)
    | (with_reducible refine Sy.opsnil ?_)
    | (with_reducible refine Sy.go ?_)
    | (with_reducible refine Sy.nrm ?_)
    | ((with_reducible apply Sy.assign); exact rfl; exact rfl)
    | ((with_reducible apply Sy.move); exact rfl; exact rfl)
    | ((with_reducible apply Sy.lenS); exact rfl; exact Tryd.underlying52; exact rfl)
    | ((with_reducible apply Sy.bin (op := .lss) (t := 3)); exact rfl; exact rfl; exact rfl; exact b_lss)
    | ((with_reducible apply Sy.bin (op := .lss) (t := 3)); exact rfl; exact rfl; exact rfl; exact bz_lss)
    | (with_reducible refine Sy.exit ?_)
    | (with_reducible refine Sy.ret ?_)
    | (with_reducible refine Sy.aex ?_)
    | ((with_reducible apply Sy.iex); exact rfl)
    | (with_reducible refine Sy.rex ?_)
    | ((with_reducible apply Sy.ite); (case hx => exact rfl); all_goals (intro hc; try (exfalso; omega))))
    exact .fin [_] (.inr rfl) ⟨rfl, trivial⟩ fun H' hp => ⟨(out, bo, L), ⟨by rw [hk, List.take_length], hL⟩, rfl, hp⟩
end Go.Proofs.YtjimjolfnimimaaDoor

/- Layer 06: steps compared; walks of the same steps. -/
namespace Go.Proofs.YtjimjolfnimimaaDoor
open Go Go.Am
set_option maxRecDepth 100000
set_option linter.unusedVariables false

theorem neHS {a : Hsh} : binV Tryd.prog .neq 44 (hV a) (hV a) = some (.bool false) := by rw [ne44]; simp
set_option maxHeartbeats 2000000 in
theorem c_SameS (out ss : List Stp) (v1 v2 : Value) (H : AHeap) (h1 : StsAt 118 H v1 out) (h2 : StsAt 123 H v2 ss) (hk : out.map Stp.k = ss.map Stp.k) (hn1 : ss.length ≤ 1000000) : CallR Tryd.prog noPrims 30 [v1, v2] H (fun u H' => u = .bool true ∧ Hp H 0 0 H' [] []) := by
  have hl : out.length = ss.length := by simpa using congrArg List.length hk
  obtain ⟨⟨a1, c1, rfl, h1⟩, hs1⟩ := h1
  obtain ⟨⟨a2, c2, rfl, h2⟩, hs2⟩ := h2
  rw [hl]
  refine CallR.sy (n := 55) Tryd.func30 rfl rfl rfl ?_
  repeat' (first
    | (with_reducible refine Sy.seq ?_)
    | (with_reducible refine Sy.regionL ?_)
    | (with_reducible refine Sy.opsnil ?_)
    | (with_reducible refine Sy.go ?_)
    | (with_reducible refine Sy.nrm ?_)
    | ((with_reducible apply Sy.assign); exact rfl; exact rfl)
    | ((with_reducible apply Sy.move); exact rfl; exact rfl)
    | ((with_reducible apply Sy.lenS); exact rfl; exact Tryd.underlying54; exact rfl)
    | ((with_reducible apply Sy.lenS); exact rfl; exact Tryd.underlying52; exact rfl)
    | ((with_reducible apply Sy.bin (op := .neq) (t := 3)); exact rfl; exact rfl; exact rfl; exact b_neq)
    | ((with_reducible apply Sy.bin (op := .neq) (t := 3)); exact rfl; exact rfl; exact rfl; exact bz_neq)
    | ((with_reducible apply Sy.bin (op := .neq) (t := 44)); exact rfl; exact rfl; exact rfl; exact ne44)
    | (with_reducible refine Sy.skip ?_)
    | (with_reducible refine Sy.block ?_)
    | ((with_reducible apply Sy.ite); (case hx => exact rfl); all_goals (intro hc; try (exfalso; omega))))
  all_goals (try exact absurd rfl hc)
  refine Sy.loop (ι := Nat) (fun i => ss.length - i) (fun i => [(0, .slice a1 ss.length c1), (1, .slice a2 ss.length c2), (5, .int .i64 (i : Nat))]) (fun _ => []) (fun _ => []) (fun i => i ≤ ss.length) 0 (Nat.zero_le _) ⟨rfl, rfl, rfl, trivial⟩ (fun H h => h) ?_
  intro i hi
  by_cases hlt : i < ss.length
  · obtain ⟨s, hs⟩ : ∃ s, ss[i]? = some s := ⟨ss[i], List.getElem?_eq_getElem hlt⟩
    obtain ⟨s', hs'⟩ : ∃ s, out[i]? = some s := ⟨out[i]'(by omega), List.getElem?_eq_getElem (by omega)⟩
    have hkk : s'.k = s.k := by
      have e : (out.map Stp.k)[i]? = (ss.map Stp.k)[i]? := by rw [hk]
      rw [List.getElem?_map, List.getElem?_map, hs, hs'] at e
      simpa using e
    simp only [Stp.k, Prod.mk.injEq] at hkk
    obtain ⟨k1, k2, k3, k4⟩ := hkk
    rcases h1 with rfl | ⟨b1, w1, rfl, hb1⟩
    · simp at hs'
    rcases h2 with rfl | ⟨b2, w2, rfl, hb2⟩
    · simp at hlt
    obtain ⟨hsv1, hsl1⟩ := hs1 s' (List.mem_of_getElem? hs')
    obtain ⟨hsv2, hsl2⟩ := hs2 s (List.mem_of_getElem? hs)
    have hbn1 : b1 < H.next := get_live_lt (by rw [hb1]; rfl)
    have hbn2 : b2 < H.next := get_live_lt (by rw [hb2]; rfl)
    have e1 := fun o (ho : o = i * 97) => st_key (T := 118) (w := w1) hs' ho
    have e2 := fun o (ho : o = i * 97 + 32) => st_old (T := 118) (w := w1) hs' ho
    have e3 : ∀ o, o = i * 97 + 64 → aLoad Tryd.prog 116 (.cells (stCs out) 118 w1) o = some (prV s'.mask s'.v) := fun o ho => st_prT ag116 sz116 hs' ho
    rw [k1] at e1
    rw [k2] at e2
    rw [k3] at e3
    have cS : ∀ {H' : AHeap} {lo hi : Nat} {Mn : Hm}, Hp H lo hi H' [] Mn → CallR Tryd.prog noPrims 71 [prV s.mask s'.v, prV s.mask s.v] H' (fun u H2 => u = .bool true ∧ Hp H' 0 0 H2 [] []) := fun hp => c_Same s.mask _ _ s.l _ (by rw [← k4]; exact (hsv1.of hp).at) (hsv2.of hp).at hsl2
    repeat' (first
    | (with_reducible refine Sy.seq ?_)
    | (with_reducible refine Sy.regionL ?_)
    | (with_reducible refine Sy.opsnil ?_)
    | (with_reducible refine Sy.go ?_)
    | (with_reducible refine Sy.nrm ?_)
    | ((with_reducible refine Sy.bin (op := .neq) (t := 44) rfl rfl rfl neHS ?_))
    | ((with_reducible apply Sy.assign); exact rfl; exact rfl)
    | ((with_reducible apply Sy.move); exact rfl; exact rfl)
    | ((with_reducible apply Sy.lenS); exact rfl; exact Tryd.underlying54; exact rfl)
    | ((with_reducible apply Sy.lenS); exact rfl; exact Tryd.underlying52; exact rfl)
    | ((with_reducible apply Sy.bin (op := .lss) (t := 3)); exact rfl; exact rfl; exact rfl; exact b_lss)
    | ((with_reducible apply Sy.bin (op := .lss) (t := 3)); exact rfl; exact rfl; exact rfl; exact bz_lss)
    | ((with_reducible apply Sy.ia (t := 54)); exact rfl; exact rfl; exact rfl; exact (ia_sl Tryd.underlying54 sz118 (by omega)))
    | ((with_reducible apply Sy.fa (t := 118) (i := 0)); exact rfl; exact rfl; exact fa118_0 _ _)
    | ((with_reducible apply Sy.ia (t := 52)); exact rfl; exact rfl; exact rfl; exact (ia_sl Tryd.underlying52 sz123 (by omega)))
    | ((with_reducible apply Sy.fa (t := 123) (i := 0)); exact rfl; exact rfl; exact fa123_0 _ _)
    | ((with_reducible apply Sy.fa (t := 118) (i := 1)); exact rfl; exact rfl; exact fa118_1 _ _)
    | ((with_reducible apply Sy.fa (t := 123) (i := 1)); exact rfl; exact rfl; exact fa123_1 _ _)
    | ((with_reducible apply Sy.pickF); exact rfl; exact rfl; exact rfl)
    | ((with_reducible apply Sy.fa (t := 118) (i := 2)); exact rfl; exact rfl; exact fa118_2 _ _)
    | ((with_reducible apply Sy.fa (t := 123) (i := 2)); exact rfl; exact rfl; exact fa123_2 _ _)
    | ((with_reducible apply Sy.un (op := .not)); exact rfl; exact rfl; exact un_notT)
    | ((with_reducible apply Sy.un (op := .not)); exact rfl; exact rfl; exact un_notF)
    | ((with_reducible apply Sy.un (op := .not)); exact rfl; exact rfl; exact un_notD)
    | ((with_reducible apply Sy.un (op := .not)); exact rfl; exact rfl; exact un_not)
    | ((with_reducible apply Sy.bin (op := .add) (t := 3)); exact rfl; exact rfl; exact rfl; exact (b_add (by omega)))
    | ((with_reducible apply Sy.bin (op := .add) (t := 3)); exact rfl; exact rfl; exact rfl; exact (bz_add (by omega) (by omega)))
    | ((with_reducible apply Sy.dcall0 (k := 71)); (first | exact wantY_some rfl rfl rfl); exact rfl; (intro h hh; first | exact hh | (subst hh; omega)); exact rfl; exact rfl; exact rfl; exact en71; exact rfl; (intro H' hp; exact cS hp))
    | (with_reducible refine Sy.ld0 (t := 44) rfl rfl hb1 rfl (by simp only [List.forall_mem_cons, List.not_mem_nil, false_implies, implies_true, and_true, ne_eq]; first | done | omega | (repeat (first | with_reducible assumption | (refine And.intro ?_ ?_)))) (e1 _ (by omega)) ?_)
    | (with_reducible refine Sy.ld0 (t := 44) rfl rfl hb1 rfl (by simp only [List.forall_mem_cons, List.not_mem_nil, false_implies, implies_true, and_true, ne_eq]; first | done | omega | (repeat (first | with_reducible assumption | (refine And.intro ?_ ?_)))) (e2 _ (by omega)) ?_)
    | (with_reducible refine Sy.ld0 (t := 116) rfl rfl hb1 rfl (by simp only [List.forall_mem_cons, List.not_mem_nil, false_implies, implies_true, and_true, ne_eq]; first | done | omega | (repeat (first | with_reducible assumption | (refine And.intro ?_ ?_)))) (e3 _ (by omega)) ?_)
    | (with_reducible refine Sy.ld0 (t := 44) rfl rfl hb2 rfl (by simp only [List.forall_mem_cons, List.not_mem_nil, false_implies, implies_true, and_true, ne_eq]; first | done | omega | (repeat (first | with_reducible assumption | (refine And.intro ?_ ?_)))) (st_key hs (by omega)) ?_)
    | (with_reducible refine Sy.ld0 (t := 44) rfl rfl hb2 rfl (by simp only [List.forall_mem_cons, List.not_mem_nil, false_implies, implies_true, and_true, ne_eq]; first | done | omega | (repeat (first | with_reducible assumption | (refine And.intro ?_ ?_)))) (st_old hs (by omega)) ?_)
    | (with_reducible refine Sy.ld0 (t := 121) rfl rfl hb2 rfl (by simp only [List.forall_mem_cons, List.not_mem_nil, false_implies, implies_true, and_true, ne_eq]; first | done | omega | (repeat (first | with_reducible assumption | (refine And.intro ?_ ?_)))) (st_pr hs (by omega)) ?_)
    | (with_reducible refine Sy.skip ?_)
    | (with_reducible refine Sy.block ?_)
    | (with_reducible refine Sy.inrm ?_)
    | ((with_reducible apply Sy.drawL (id := 6) 38 [] (fun hi h => h < hi)); (case hp => kernel_rfl); (case hN => exact rfl); intro base hbase hM; try simp only [List.forall_mem_cons, List.forall_mem_append, List.not_mem_nil, false_implies, implies_true, and_true] at hM)
    | ((with_reducible apply Sy.no); exact rfl)
    | (with_reducible refine Sy.dend ?_)
    | ((with_reducible apply Sy.dgo); (· first | exact wantY_none | exact wantY_some rfl rfl rfl); (· intro hcls; cases hcls); exact rfl; exact rfl)
    | ((with_reducible apply Sy.ite); (case hx => exact rfl); all_goals (intro hc; try (exfalso; omega))))
    exact Sy.rnrm (i + 1) (by omega) (by omega) ⟨rfl, rfl, rfl, trivial⟩ (fun H h => h)
  · repeat' (first
    | (with_reducible refine Sy.seq ?_)
    | (with_reducible refine Sy.regionL ?_)
    | (with_reducible refine Sy.opsnil ?_)
    | (with_reducible refine Sy.go ?_)
    | (with_reducible refine Sy.nrm ?_)
    | ((with_reducible apply Sy.assign); exact rfl; exact rfl)
    | ((with_reducible apply Sy.move); exact rfl; exact rfl)
    | ((with_reducible apply Sy.lenS); exact rfl; exact Tryd.underlying54; exact rfl)
    | ((with_reducible apply Sy.lenS); exact rfl; exact Tryd.underlying52; exact rfl)
    | ((with_reducible apply Sy.bin (op := .lss) (t := 3)); exact rfl; exact rfl; exact rfl; exact b_lss)
    | ((with_reducible apply Sy.bin (op := .lss) (t := 3)); exact rfl; exact rfl; exact rfl; exact bz_lss)
    | (with_reducible refine Sy.exit ?_)
    | (with_reducible refine Sy.ret ?_)
    | (with_reducible refine Sy.aex ?_)
    | ((with_reducible apply Sy.iex); exact rfl)
    | (with_reducible refine Sy.rex ?_)
    | ((with_reducible apply Sy.ite); (case hx => exact rfl); all_goals (intro hc; try (exfalso; omega))))
    exact .fin [_] (.inr rfl) ⟨rfl, trivial⟩ fun H' hp => ⟨rfl, hp⟩
end Go.Proofs.YtjimjolfnimimaaDoor

/- The law ProofWalks. -/
namespace Go.Proofs.YtjimjolfnimimaaDoor
open Go Go.Am
set_option maxRecDepth 100000
set_option linter.unusedVariables false

theorem StsAt.of {T lo hi : Nat} {H H1 : AHeap} {Mn : Hm} {v : Value} {ss : List Stp} (h : StsAt T H v ss) (hp : Hp H lo hi H1 [] Mn) : StsAt T H1 v ss := by
  obtain ⟨⟨a, c, e, h⟩, hs⟩ := h
  refine ⟨⟨a, c, e, ?_⟩, fun s m => ⟨(hs s m).1.of hp, (hs s m).2⟩⟩
  rcases h with h | ⟨b, w, e2, h⟩
  · exact .inl h
  · exact .inr ⟨b, w, e2, hp.get0 h rfl (by simp)⟩
theorem own_at {H H1 : AHeap} {lo hi b : Nat} {L : Hm} {out ss : List Stp} (hk : out.map Stp.k = ss.map Stp.k) (hL : Cop L out) (hss : ∀ s ∈ ss, s.l.length ≤ 4398046511104) (hp : Hp H lo hi H1 [] (accM 118 (stCs out) out.length b ++ L)) : StsAt 118 H1 (accV 97 (stCs out) out.length b) out := by
  refine ⟨?_, fun s hs => ⟨?_, ?_⟩⟩
  · by_cases h0 : out.length = 0
    · refine ⟨none, 0, by rw [accV, if_pos h0, h0], .inl (List.length_eq_zero_iff.1 h0)⟩
    · refine ⟨some ⟨b, 0, none⟩, _, by rw [accV, if_neg h0], .inr ⟨b, true, rfl, ?_⟩⟩
      rw [accM, if_neg h0] at hp
      exact hp.getN .here
  · obtain ⟨b1, c1, e, hh⟩ := hL s hs
    exact .inr ⟨b1, c1, _, _, e, hp.getN (.app hh)⟩
  · have : s.k ∈ ss.map Stp.k := hk ▸ List.mem_map_of_mem hs
    obtain ⟨t, ht, e⟩ := List.mem_map.1 this
    simp only [Stp.k, Prod.mk.injEq] at e
    rw [← e.2.2.2]
    exact hss t ht
end Go.Proofs.YtjimjolfnimimaaDoor
