/- The codec: the references readers, writers; what is written is read back. -/
import Derived.Test.YtcaafoibabijgaaCodecA
set_option linter.unusedSimpArgs false
set_option linter.unusedVariables false
/- Layer 03: the document's reader, what it reads. -/
namespace Go.Proofs.Ytcaafoibabijgaa
open Go Go.Am
set_option maxRecDepth 100000
set_option linter.unusedVariables false

end Go.Proofs.Ytcaafoibabijgaa

/- Layer 03: the document's reader: wide numbers, counts, blobs; a new one. -/
namespace Go.Proofs.Ytcaafoibabijgaa
open Go Go.Am
set_option maxRecDepth 100000
set_option linter.unusedVariables false

end Go.Proofs.Ytcaafoibabijgaa

/- Layer 03: the program's writer. -/
namespace Go.Proofs.Ytcaafoibabijgaa
open Go Go.Am
set_option maxRecDepth 100000
set_option linter.unusedVariables false

abbrev bufV (l : List Nat) (q : Nat) : Value := accV 1 (ints .u8 l) l.length q
abbrev wrC (l : List Nat) (q : Nat) : List Value := [bufV l q, .bool true, .int .i64 ((0 : Nat) : Int)]
/-- A writer that has written l; its bytes lie at q. -/
structure WrAt (H : AHeap) (p : Nat) (l : List Nat) (q : Nat) : Prop where
  obj : H.get p = .cells (wrC l q) 126 true
  buf : l ≠ [] → H.get q = .cells (ints .u8 l) 5 true
  lt : ∀ x ∈ l, x < 256
  len : l.length ≤ 65536
def WrM (p q : Nat) (l : List Nat) (h : Nat) : Prop := h = p ∨ (h = q ∧ l ≠ [])
/-- From a heap to a later one: the writer has l' where it had l. -/
def WrOut (H H' : AHeap) (p q : Nat) (l l' : List Nat) : Prop := ∃ q', WrAt H' p l' q' ∧ Kp (WrM p q l) H H' ∧ (l' = [] ∨ (q' = q ∧ l ≠ []) ∨ H.next ≤ q')
theorem WrAt.lt' {H : AHeap} {p q : Nat} {l : List Nat} (h : WrAt H p l q) : p < H.next := get_live_lt (by rw [h.obj]; rfl)
theorem WrAt.ltq {H : AHeap} {p q : Nat} {l : List Nat} (h : WrAt H p l q) (hl : l ≠ []) : q < H.next := get_live_lt (by rw [h.buf hl]; rfl)
theorem WrAt.ne {H : AHeap} {p q : Nat} {l : List Nat} (h : WrAt H p l q) (hl : l ≠ []) : p ≠ q := fun e => by
  have h1 := h.buf hl
  subst e
  rw [h.obj] at h1
  injection h1 with h1 _ _
  exact ints_noB h1.symm
theorem WrAt.of {H0 H : AHeap} {lo hi p q : Nat} {l : List Nat} {Mn : Hm} (h : WrAt H0 p l q) (hp : Hp H0 lo hi H [] Mn) : WrAt H p l q :=
  ⟨hp.get0 h.obj rfl (by simp), fun hl => hp.get0 (h.buf hl) rfl (by simp), h.lt, h.len⟩
theorem WrOut.refl {H H' : AHeap} {lo hi p q : Nat} {l : List Nat} {Mn : Hm} (h : WrAt H p l q) (hp : Hp H lo hi H' [] Mn) : WrOut H H' p q l l :=
  ⟨q, h.of hp, Kp.of hp (by simp), by by_cases hl : l = []; exact .inl hl; exact .inr (.inl ⟨rfl, hl⟩)⟩
theorem WrOut.trans {H H1 H2 : AHeap} {p q q1 : Nat} {l l1 l2 : List Nat} (h : Kp (WrM p q l) H H1) (hq : l1 = [] ∨ (q1 = q ∧ l ≠ []) ∨ H.next ≤ q1) (k : WrOut H1 H2 p q1 l1 l2) : WrOut H H2 p q l l2 := by
  obtain ⟨q2, w2, k2, e2⟩ := k
  refine ⟨q2, w2, h.trans k2 fun x hx hs => ?_, ?_⟩
  · rcases hs with rfl | ⟨rfl, hl1⟩
    · exact .inl rfl
    · rcases hq with hq | ⟨rfl, hl⟩ | hq
      · exact absurd hq hl1
      · exact .inr ⟨rfl, hl⟩
      · omega
  · rcases e2 with e2 | ⟨rfl, hl1⟩ | e2
    · exact .inl e2
    · rcases hq with hq | hq | hq
      · exact absurd hq hl1
      · exact .inr (.inl hq)
      · exact .inr (.inr hq)
    · exact .inr (.inr (Nat.le_trans h.1 e2))
theorem WrOut.pre {H H1 H2 : AHeap} {lo hi p q : Nat} {l l2 : List Nat} {Mn : Hm} (hp : Hp H lo hi H1 [] Mn) (k : WrOut H1 H2 p q l l2) : WrOut H H2 p q l l2 :=
  .trans (Kp.of hp (by simp)) (by by_cases hl : l = []; exact .inl hl; exact .inr (.inl ⟨rfl, hl⟩)) k
theorem WrOut.post {H H1 H2 : AHeap} {lo hi p q : Nat} {l l2 : List Nat} {Mn : Hm} (k : WrOut H H1 p q l l2) (hp : Hp H1 lo hi H2 [] Mn) : WrOut H H2 p q l l2 := by
  obtain ⟨q2, w2, k2, e2⟩ := k
  exact ⟨q2, w2.of hp, k2.trans (Kp.of (S := fun _ => False) hp (by simp)) (fun _ _ h => h.elim), e2⟩

/-- What all does. -/
def wrA (l x : List Nat) : List Nat × Nat := if 65536 - l.length < x.length then (l, 6) else (l ++ x, 0)
set_option maxHeartbeats 1000000 in
theorem c_all (p q : Nat) (l x : List Nat) (v : Value) (H : AHeap) (hw : WrAt H p l q) (hv : SlR H 1 v x.length (ints .u8 x)) (hx : ∀ y ∈ x, y < 256) (hxl : x.length ≤ 140737488355328) :
    CallR Try.prog noPrims 92 [.pointer (some ⟨p, 0, none⟩), v] H (fun u H' => ∃ i : Unit, u = .int .i64 (((wrA l x).2 : Nat) : Int) ∧ WrOut H H' p q l (wrA l x).1) := by
  have hp0 := hw.obj
  have hplt := hw.lt'
  have hll := hw.len
  obtain ⟨m, hm⟩ : ∃ m, m = x.length := ⟨_, rfl⟩
  obtain ⟨sv, c, rfl⟩ : ∃ a c, v = .slice a x.length c := by
    rcases hv.two with ⟨rfl, h0, _⟩ | ⟨b, o, c, rfl⟩
    · rw [h0]; exact ⟨_, _, rfl⟩
    · exact ⟨_, _, rfl⟩
  by_cases h0 : l = []
  · subst h0
    refine CallR.sy (n := 38) Try.func92 rfl rfl rfl ?_
    repeat' (first
    | (with_reducible refine Sy.seq ?_)
    | (with_reducible refine Sy.regionL ?_)
    | (with_reducible refine Sy.opsnil ?_)
    | (with_reducible refine Sy.go ?_)
    | (with_reducible refine Sy.nrm ?_)
    | ((with_reducible apply Sy.assign); exact rfl; exact rfl)
    | ((with_reducible apply Sy.move); exact rfl; exact rfl)
    | ((with_reducible apply Sy.bin (op := .eql) (t := 111)); exact rfl; exact rfl; exact rfl; exact p_eq0 kd111)
    | ((with_reducible apply Sy.bin (op := .eql) (t := 111)); exact rfl; exact rfl; exact rfl; exact p_eq1 kd111)
    | ((with_reducible apply Sy.bin (op := .eql) (t := 111)); exact rfl; exact rfl; exact rfl; exact p_eq2 kd111)
    | ((with_reducible apply Sy.nilC); exact rfl; exact rfl; exact rfl)
    | ((with_reducible apply Sy.fa (t := 126) (i := 0)); exact rfl; exact rfl; exact fa126_0 _ _)
    | ((with_reducible apply Sy.fa (t := 124) (i := 1)); exact rfl; exact rfl; exact fa124_1 _ _)
    | ((with_reducible apply Sy.ld0 (t := 4)); exact rfl; exact rfl; (· with_reducible assumption); exact rfl; exact notM; (· first | exact ld_one ag4 rfl))
    | ((with_reducible apply Sy.un (op := .not)); exact rfl; exact rfl; exact un_notT)
    | ((with_reducible apply Sy.un (op := .not)); exact rfl; exact rfl; exact un_notF)
    | ((with_reducible apply Sy.un (op := .not)); exact rfl; exact rfl; exact un_notD)
    | ((with_reducible apply Sy.un (op := .not)); exact rfl; exact rfl; exact un_not)
    | ((with_reducible apply Sy.pickF); exact rfl; exact rfl; exact rfl)
    | ((with_reducible apply Sy.lenS); exact rfl; exact Try.underlying23; exact rfl)
    | ((with_reducible apply Sy.fa (t := 124) (i := 0)); exact rfl; exact rfl; exact fa124_0 _ _)
    | ((with_reducible apply Sy.ld0 (t := 23)); exact rfl; exact rfl; (· with_reducible assumption); exact rfl; exact notM; (· first | exact ld_one ag23 rfl))
    | ((with_reducible apply Sy.bin (op := .sub) (t := 3)); exact rfl; exact rfl; exact rfl; exact (b_sub (by omega) (by omega)))
    | ((with_reducible apply Sy.bin (op := .sub) (t := 3)); exact rfl; exact rfl; exact rfl; exact (bz_sub (by omega) (by omega)))
    | ((with_reducible apply Sy.bin (op := .gtr) (t := 3)); exact rfl; exact rfl; exact rfl; exact b_gtr)
    | ((with_reducible apply Sy.bin (op := .gtr) (t := 3)); exact rfl; exact rfl; exact rfl; exact bz_gtr)
    | ((with_reducible apply Sy.appB (t := 23) (xt := 23)); exact ap23_23 zr5 rfl; exact rfl; exact rfl; exact rfl; (· first | exact SrcY.ofR (by with_reducible assumption) rfl); (· first | exact oneL_ints _ _); (· first | omega | (simp; done)); (· first | omega | (simp; done)); exact pullT; (· first | omega | (simp; done)); (· first | exact ints_append _ _ _); intro q34)
    | ((with_reducible apply Sy.st01 (t := 23)); exact rfl; exact rfl; exact sz23; (· first | exact accV_cells); (· first | exact accV_oneL); (· with_reducible assumption); exact notM; (· first | (simp; done)); (· first | rfl))
    | (with_reducible refine Sy.skip ?_)
    | (with_reducible refine Sy.ret ?_)
    | (with_reducible refine Sy.block ?_)
    | (with_reducible refine Sy.aret ?_)
    | (with_reducible refine Sy.inrm ?_)
    | (with_reducible refine Sy.iret ?_)
    | ((with_reducible apply Sy.no); exact rfl)
    | ((with_reducible apply Sy.goG); exact rfl; exact rfl; exact rfl)
    | ((with_reducible apply Sy.ite); (case hx => exact rfl); all_goals (intro hc; try (exfalso; omega))))
    · have e : wrA [] x = ([], 6) := by rw [wrA, if_pos (by simpa using hc)]
      rw [e]
      exact .fin [_] (.inr rfl) ⟨rfl, trivial⟩ fun H' hp => ⟨(), rfl, .refl hw hp⟩
    · have e : wrA [] x = (x, 0) := by rw [wrA, if_neg (by simpa using hc)]; rfl
      rw [e]
      refine .fin [_] (.inr rfl) ⟨rfl, trivial⟩ fun H' hp => ⟨(), rfl, ?_⟩
      simp only [List.nil_append, List.length_nil, Nat.zero_add] at hp
      have hob := hp.getO .here
      refine ⟨q34, ⟨hob, fun hne => ?_, hx, by dsimp only; omega⟩, Kp.of hp (by simp [WrM]), ?_⟩
      · have h2 : Has (bufM x q34 ++ []) q34 (.cells (ints .u8 x) 5 true) := bufM_has hne
        first
          | exact hp.getN h2
          | (rw [List.append_nil] at h2; exact hp.getN h2)
      · by_cases hx0 : x = []
        · exact .inl hx0
        · refine .inr (.inr ?_)
          have h2 : Has (bufM x q34 ++ []) q34 (.cells (ints .u8 x) 5 true) := bufM_has hx0
          first
            | exact (hp.new_lt h2).1
            | (rw [List.append_nil] at h2; exact (hp.new_lt h2).1)
  · have hne := hw.ne h0
    have hb0 := hw.buf h0
    have hm0 : ¬ l.length = 0 := fun e => h0 (List.length_eq_zero_iff.1 e)
    have hwr : ∀ (y : List Nat) (b : Nat), y.length ≠ 0 → wrC y b = [.slice (some ⟨b, 0, none⟩) y.length (y.length + 2 + 1), .bool true, .int .i64 ((0 : Nat) : Int)] := fun y b hy => by simp [wrC, bufV, accV, hy]
    have hp1 : H.get p = .cells [.slice (some ⟨q, 0, none⟩) l.length (l.length + 2 + 1), .bool true, .int .i64 ((0 : Nat) : Int)] 126 true := by rw [hp0, hwr _ _ hm0]
    clear hp0
    refine CallR.sy (n := 38) Try.func92 rfl rfl rfl ?_
    by_cases hx0 : x = []
    · subst hx0
      have e : wrA l [] = (l, 0) := by rw [wrA, if_neg (by simp), List.append_nil]
      have hv0 : SlR H 1 (.slice sv 0 c) 0 [] := hv
      rw [e]
      show Sy _ _ _ _ (envOf 0 [.pointer (some ⟨p, 0, none⟩), .slice sv 0 c]) _ _ _
      clear hv
      repeat' (first
    | (with_reducible refine Sy.seq ?_)
    | (with_reducible refine Sy.regionL ?_)
    | (with_reducible refine Sy.opsnil ?_)
    | (with_reducible refine Sy.go ?_)
    | (with_reducible refine Sy.nrm ?_)
    | ((with_reducible apply Sy.appZ (t := 23) (xt := 23)); exact (ap23_23 zr5 rfl); exact rfl; exact rfl; exact rfl; exact .inl ⟨_, _, _, _, rfl⟩; exact SrcY.ofR (by with_reducible assumption) rfl; exact rfl)
    | ((with_reducible apply Sy.assign); exact rfl; exact rfl)
    | ((with_reducible apply Sy.move); exact rfl; exact rfl)
    | ((with_reducible apply Sy.bin (op := .eql) (t := 111)); exact rfl; exact rfl; exact rfl; exact p_eq0 kd111)
    | ((with_reducible apply Sy.bin (op := .eql) (t := 111)); exact rfl; exact rfl; exact rfl; exact p_eq1 kd111)
    | ((with_reducible apply Sy.bin (op := .eql) (t := 111)); exact rfl; exact rfl; exact rfl; exact p_eq2 kd111)
    | ((with_reducible apply Sy.nilC); exact rfl; exact rfl; exact rfl)
    | ((with_reducible apply Sy.fa (t := 126) (i := 0)); exact rfl; exact rfl; exact fa126_0 _ _)
    | ((with_reducible apply Sy.fa (t := 124) (i := 1)); exact rfl; exact rfl; exact fa124_1 _ _)
    | ((with_reducible apply Sy.ld0 (t := 4)); exact rfl; exact rfl; (· with_reducible assumption); exact rfl; exact notM; (· first | exact ld_one ag4 rfl))
    | ((with_reducible apply Sy.un (op := .not)); exact rfl; exact rfl; exact un_notT)
    | ((with_reducible apply Sy.un (op := .not)); exact rfl; exact rfl; exact un_notF)
    | ((with_reducible apply Sy.un (op := .not)); exact rfl; exact rfl; exact un_notD)
    | ((with_reducible apply Sy.un (op := .not)); exact rfl; exact rfl; exact un_not)
    | ((with_reducible apply Sy.pickF); exact rfl; exact rfl; exact rfl)
    | ((with_reducible apply Sy.lenS); exact rfl; exact Try.underlying23; exact rfl)
    | ((with_reducible apply Sy.fa (t := 124) (i := 0)); exact rfl; exact rfl; exact fa124_0 _ _)
    | ((with_reducible apply Sy.ld0 (t := 23)); exact rfl; exact rfl; (· with_reducible assumption); exact rfl; exact notM; (· first | exact ld_one ag23 rfl))
    | ((with_reducible apply Sy.bin (op := .sub) (t := 3)); exact rfl; exact rfl; exact rfl; exact (b_sub (by omega) (by omega)))
    | ((with_reducible apply Sy.bin (op := .sub) (t := 3)); exact rfl; exact rfl; exact rfl; exact (bz_sub (by omega) (by omega)))
    | ((with_reducible apply Sy.bin (op := .gtr) (t := 3)); exact rfl; exact rfl; exact rfl; exact b_gtr)
    | ((with_reducible apply Sy.bin (op := .gtr) (t := 3)); exact rfl; exact rfl; exact rfl; exact bz_gtr)
    | ((with_reducible apply Sy.st01 (t := 23)); exact rfl; exact rfl; exact sz23; (· first | exact rfl); (· first | exact rfl); (· with_reducible assumption); exact notM; (· first | (simp; done)); (· first | rfl))
    | (with_reducible refine Sy.skip ?_)
    | (with_reducible refine Sy.ret ?_)
    | (with_reducible refine Sy.block ?_)
    | (with_reducible refine Sy.inrm ?_)
    | ((with_reducible apply Sy.no); exact rfl)
    | ((with_reducible apply Sy.goG); exact rfl; exact rfl; exact rfl))
      refine .fin [_] (.inr rfl) ⟨rfl, trivial⟩ fun H' hp => ⟨(), rfl, q, ⟨?_, fun _ => hp.get0 hb0 rfl (by simpa using hne), hw.lt, hll⟩, Kp.of hp (by simp [WrM]), .inr (.inl ⟨rfl, h0⟩)⟩
      rw [hwr _ _ hm0]; exact hp.getO .here
    · have hk : x.length ≠ 0 := fun e => hx0 (List.length_eq_zero_iff.1 e)
      repeat' (first
    | (with_reducible refine Sy.seq ?_)
    | (with_reducible refine Sy.regionL ?_)
    | (with_reducible refine Sy.opsnil ?_)
    | (with_reducible refine Sy.go ?_)
    | (with_reducible refine Sy.nrm ?_)
    | ((with_reducible apply Sy.assign); exact rfl; exact rfl)
    | ((with_reducible apply Sy.move); exact rfl; exact rfl)
    | ((with_reducible apply Sy.bin (op := .eql) (t := 111)); exact rfl; exact rfl; exact rfl; exact p_eq0 kd111)
    | ((with_reducible apply Sy.bin (op := .eql) (t := 111)); exact rfl; exact rfl; exact rfl; exact p_eq1 kd111)
    | ((with_reducible apply Sy.bin (op := .eql) (t := 111)); exact rfl; exact rfl; exact rfl; exact p_eq2 kd111)
    | ((with_reducible apply Sy.nilC); exact rfl; exact rfl; exact rfl)
    | ((with_reducible apply Sy.fa (t := 126) (i := 0)); exact rfl; exact rfl; exact fa126_0 _ _)
    | ((with_reducible apply Sy.fa (t := 124) (i := 1)); exact rfl; exact rfl; exact fa124_1 _ _)
    | ((with_reducible apply Sy.ld0 (t := 4)); exact rfl; exact rfl; (· with_reducible assumption); exact rfl; exact notM; (· first | exact ld_one ag4 rfl))
    | ((with_reducible apply Sy.un (op := .not)); exact rfl; exact rfl; exact un_notT)
    | ((with_reducible apply Sy.un (op := .not)); exact rfl; exact rfl; exact un_notF)
    | ((with_reducible apply Sy.un (op := .not)); exact rfl; exact rfl; exact un_notD)
    | ((with_reducible apply Sy.un (op := .not)); exact rfl; exact rfl; exact un_not)
    | ((with_reducible apply Sy.pickF); exact rfl; exact rfl; exact rfl)
    | ((with_reducible apply Sy.lenS); exact rfl; exact Try.underlying23; exact rfl)
    | ((with_reducible apply Sy.fa (t := 124) (i := 0)); exact rfl; exact rfl; exact fa124_0 _ _)
    | ((with_reducible apply Sy.ld0 (t := 23)); exact rfl; exact rfl; (· with_reducible assumption); exact rfl; exact notM; (· first | exact ld_one ag23 rfl))
    | ((with_reducible apply Sy.bin (op := .sub) (t := 3)); exact rfl; exact rfl; exact rfl; exact (b_sub (by omega) (by omega)))
    | ((with_reducible apply Sy.bin (op := .sub) (t := 3)); exact rfl; exact rfl; exact rfl; exact (bz_sub (by omega) (by omega)))
    | ((with_reducible apply Sy.bin (op := .gtr) (t := 3)); exact rfl; exact rfl; exact rfl; exact b_gtr)
    | ((with_reducible apply Sy.bin (op := .gtr) (t := 3)); exact rfl; exact rfl; exact rfl; exact bz_gtr)
    | ((with_reducible apply Sy.st01 (t := 23)); exact rfl; exact rfl; exact sz23; (· first | exact rfl); (· first | exact rfl); (· with_reducible assumption); exact notM; (· first | (simp; done)); (· first | rfl))
    | ((with_reducible apply Sy.appX (t := 23) (xt := 23)); exact (ap23_23 zr5 rfl); exact rfl; exact rfl; exact rfl; exact SrcY.ofR (by with_reducible assumption) rfl; exact oneL_ints _ _; exact hk; (· omega); exact hb0; exact notM; (· simp); intro q34)
    | (with_reducible refine Sy.skip ?_)
    | (with_reducible refine Sy.ret ?_)
    | (with_reducible refine Sy.block ?_)
    | (with_reducible refine Sy.aret ?_)
    | (with_reducible refine Sy.inrm ?_)
    | (with_reducible refine Sy.iret ?_)
    | ((with_reducible apply Sy.no); exact rfl)
    | ((with_reducible apply Sy.goG); exact rfl; exact rfl; exact rfl)
    | ((with_reducible apply Sy.ite); (case hx => exact rfl); all_goals (intro hc; try (exfalso; omega))))
      · have e : wrA l x = (l, 6) := by rw [wrA, if_pos hc]
        rw [e]
        exact .fin [_] (.inr rfl) ⟨rfl, trivial⟩ fun H' hp => ⟨(), rfl, .refl hw hp⟩
      · have e : wrA l x = (l ++ x, 0) := by rw [wrA, if_neg hc]
        rw [e]
        rw [ints_append, ← List.length_append]
        refine .fin [_] (.inr rfl) ⟨rfl, trivial⟩ fun H' hp => ⟨(), rfl, q34, ⟨?_, fun _ => hp.getN .here, ?_, by dsimp only; rw [List.length_append]; omega⟩, Kp.of hp ?_, .inr (.inr (hp.new_lt .here).1)⟩
        · rw [hwr _ _ (by rw [List.length_append]; omega)]; exact hp.getO .here
        · intro y hy
          rcases List.mem_append.1 hy with hy | hy
          · exact hw.lt y hy
          · exact hx y hy
        · simp [WrM, h0]
end Go.Proofs.Ytcaafoibabijgaa

/- Layer 03: the program's writer, what it writes. -/
namespace Go.Proofs.Ytcaafoibabijgaa
open Go Go.Am
set_option maxRecDepth 100000
set_option linter.unusedVariables false

theorem buf_slr {H0 H : AHeap} {lo hi b : Nat} {Mo Mn : Hm} {x : List Nat} (hp : Hp H0 lo hi H Mo Mn) (h : x ≠ [] → Has Mn b (.cells (ints .u8 x) 5 true)) : SlR H 1 (bufV x b) x.length (ints .u8 x) := by
  by_cases hx : x = []
  · subst hx; exact .nil
  · have hm : ¬ x.length = 0 := fun e => hx (List.length_eq_zero_iff.1 e)
    have : bufV x b = .slice (some ⟨b, 0, none⟩) x.length (x.length + 2 + 1) := by simp [bufV, accV, hm]
    rw [this]
    exact .mk (hp.getN (h hx)) (by simp) (by rw [List.drop_zero, List.take_of_length_le (by simp)])
/-- A row of words, whole. -/
def NsAt (H : AHeap) (v : Value) (ns : List Nat) : Prop := ∃ b cap T w, v = .slice (some ⟨b, 0, none⟩) ns.length cap ∧ H.get b = .cells (ints .u64 ns) T w
def u64s (ns : List Nat) : List Nat := (ns.map be64).flatten
theorem u64s_snoc (ns : List Nat) (n : Nat) : u64s (ns ++ [n]) = u64s ns ++ be64 n := by simp [u64s]
theorem u64s_length (ns : List Nat) : (u64s ns).length = 8 * ns.length := by
  induction ns with
  | nil => rfl
  | cons a l ih => simp only [u64s, List.map_cons, List.flatten_cons, List.length_append, be64_length, List.length_cons] at ih ⊢; rw [ih]; omega
theorem u64s_lt (ns : List Nat) : ∀ x ∈ u64s ns, x < 256 := by
  intro x hx
  simp only [u64s, List.mem_flatten, List.mem_map] at hx
  obtain ⟨_, ⟨n, _, rfl⟩, hx⟩ := hx
  exact be64_lt n x hx
set_option maxHeartbeats 1000000 in
theorem k_wUint (p q : Nat) (l ns : List Nat) (v : Value) (H : AHeap) (hw : WrAt H p l q) (hv : NsAt H v ns) (h64 : ∀ x ∈ ns, x < 18446744073709551616) (hn : ns.length ≤ 1000000) :
    CallR Try.prog noPrims 88 [.pointer (some ⟨p, 0, none⟩), v] H (fun u H' => ∃ i : Unit, u = .int .i64 (((wrA l (u64s ns)).2 : Nat) : Int) ∧ WrOut H H' p q l (wrA l (u64s ns)).1) := by
  obtain ⟨bv, cap, Tv, wv, rfl, hg⟩ := hv
  refine CallR.sy (n := 22) Try.func88 rfl rfl rfl ?_
  repeat' (first
    | (with_reducible refine Sy.seq ?_)
    | (with_reducible refine Sy.regionL ?_)
    | (with_reducible refine Sy.opsnil ?_)
    | (with_reducible refine Sy.go ?_)
    | (with_reducible refine Sy.nrm ?_)
    | ((with_reducible apply Sy.assign); exact rfl; exact rfl)
    | ((with_reducible apply Sy.move); exact rfl; exact rfl)
    | ((with_reducible apply Sy.lenS); exact rfl; exact Try.underlying156; exact rfl)
    | (with_reducible refine Sy.block ?_))
  refine Sy.loop (ι := Nat × Nat) (fun i => ns.length - i.1) (fun i => [(0, .pointer (some ⟨p, 0, none⟩)), (5, accV 1 (ints .u8 (u64s (ns.take i.1))) (8 * i.1) i.2), (8, .slice (some ⟨bv, 0, none⟩) ns.length cap), (9, .int .i64 ((ns.length : Nat) : Int)), (10, .int .i64 (i.1 : Nat))]) (fun _ => []) (fun i => accM 5 (ints .u8 (u64s (ns.take i.1))) (8 * i.1) i.2) (fun i => i.1 ≤ ns.length) (0, 0) (Nat.zero_le _) ⟨rfl, rfl, rfl, rfl, rfl, trivial⟩ (fun H h => h) ?_
  rintro ⟨i, b⟩ hi
  dsimp only at hi ⊢
  by_cases hlt : i < ns.length
  · obtain ⟨y, hy⟩ : ∃ y, ns[i]? = some y := ⟨ns[i], List.getElem?_eq_getElem hlt⟩
    have hyl := h64 y (List.mem_of_getElem? hy)
    have hyv : ns.getD i 0 = y := by rw [List.getD, hy]; rfl
    have htk : u64s (ns.take (i + 1)) = u64s (ns.take i) ++ be64 y := by rw [List.take_add_one, hy]; exact u64s_snoc _ _
    have hul : (u64s (ns.take i)).length = 8 * i := by rw [u64s_length, List.length_take]; omega
    repeat' (first
    | (with_reducible refine Sy.seq ?_)
    | (with_reducible refine Sy.regionL ?_)
    | (with_reducible refine Sy.opsnil ?_)
    | (with_reducible refine Sy.go ?_)
    | (with_reducible refine Sy.nrm ?_)
    | ((with_reducible apply Sy.assign); exact rfl; exact rfl)
    | ((with_reducible apply Sy.move); exact rfl; exact rfl)
    | ((with_reducible apply Sy.bin (op := .lss) (t := 3)); exact rfl; exact rfl; exact rfl; exact b_lss)
    | ((with_reducible apply Sy.bin (op := .lss) (t := 3)); exact rfl; exact rfl; exact rfl; exact bz_lss)
    | ((with_reducible apply Sy.ia (t := 156)); exact rfl; exact rfl; exact rfl; exact (ia_sl10 Try.underlying156 sz53 (by omega)))
    | ((with_reducible apply Sy.ia (t := 156)); exact rfl; exact rfl; exact rfl; exact (ia_sl1 Try.underlying156 sz53 (by omega)))
    | ((with_reducible apply Sy.ld0 (t := 53)); exact rfl; exact rfl; (· with_reducible assumption); exact rfl; exact notM; (· first | ((with_reducible refine ld_int ag53 ?_); first | omega)))
    | ((with_reducible apply Sy.appB (t := 23) (xt := 23)); exact ap23_23 zr5 rfl; exact rfl; exact rfl; exact rfl; (· first | exact SrcY.ofNi' (by repeat (first | exact Has.here)) (by first | (simp; done))); (· first | exact oneL_ints _ _); (· first | omega | (simp; done) | (simp; omega)); (· first | omega | (simp; done) | (simp; omega)); exact pullT; (· first | omega | (simp; done) | (simp; omega)); (· first | exact ints_append _ _ _); intro q17)
    | ((with_reducible apply Sy.bin (op := .add) (t := 3)); exact rfl; exact rfl; exact rfl; exact (b_add (by omega)))
    | ((with_reducible apply Sy.bin (op := .add) (t := 3)); exact rfl; exact rfl; exact rfl; exact (bz_add (by omega) (by omega)))
    | ((with_reducible apply Sy.callN (k := 91)); exact rfl; exact rfl; exact en91; exact rfl; (intro H' hp; exact c_ceight _ (by omega) H'); rintro q16 -)
    | (with_reducible refine Sy.skip ?_)
    | (with_reducible refine Sy.block ?_)
    | (with_reducible refine Sy.inrm ?_)
    | ((with_reducible apply Sy.ite); (case hx => exact rfl); all_goals (intro hc; try (exfalso; omega))))
    rw [hyv, ← htk]
    refine Sy.rnrm (i + 1, q17) (by simp only; omega) (by simp only; omega) ⟨rfl, rfl, rfl, rfl, rfl, trivial⟩ (fun H1 h => h.less (List.sublist_append_left _ _))
  · obtain rfl : i = ns.length := by omega
    have e8 : 8 * ns.length = (u64s ns).length := (u64s_length ns).symm
    rw [List.take_length, e8]
    repeat' (first
    | (with_reducible refine Sy.seq ?_)
    | (with_reducible refine Sy.regionL ?_)
    | (with_reducible refine Sy.opsnil ?_)
    | (with_reducible refine Sy.go ?_)
    | (with_reducible refine Sy.nrm ?_)
    | ((with_reducible apply Sy.assign); exact rfl; exact rfl)
    | ((with_reducible apply Sy.move); exact rfl; exact rfl)
    | ((with_reducible apply Sy.bin (op := .lss) (t := 3)); exact rfl; exact rfl; exact rfl; exact b_lss)
    | ((with_reducible apply Sy.bin (op := .lss) (t := 3)); exact rfl; exact rfl; exact rfl; exact bz_lss)
    | ((with_reducible apply Sy.callH (k := 92)); exact rfl; exact rfl; exact en92; exact rfl; (intro H' hp; exact c_all p q l (u64s ns) _ H' (hw.of hp) (buf_slr hp fun hx => bufM_has' hx) (u64s_lt ns) (by omega)); rintro ⟨⟩ H1 H2 hp hJ)
    | (with_reducible refine Sy.exit ?_)
    | (with_reducible refine Sy.ret ?_)
    | (with_reducible refine Sy.aex ?_)
    | ((with_reducible apply Sy.iex); exact rfl)
    | (with_reducible refine Sy.rex ?_)
    | ((with_reducible apply Sy.ite); (case hx => exact rfl); all_goals (intro hc; try (exfalso; omega))))
    exact .fin [_] (.inr rfl) ⟨rfl, trivial⟩ fun H' hp3 => ⟨(), rfl, (hJ.pre hp).post hp3⟩

end Go.Proofs.Ytcaafoibabijgaa

/- Layer 03: the program's writer: wide numbers, blobs; a new one; what it has. -/
namespace Go.Proofs.Ytcaafoibabijgaa
open Go Go.Am
set_option maxRecDepth 100000
set_option linter.unusedVariables false

set_option maxHeartbeats 1000000 in
theorem k_wWide (p q bv cap Tv : Nat) (wv : Bool) (l : List Nat) (w : Wd) (H : AHeap) (hw : WrAt H p l q) (hg : H.get bv = .cells (wC w) Tv wv) :
    CallR Try.prog noPrims 89 [.pointer (some ⟨p, 0, none⟩), .slice (some ⟨bv, 0, none⟩) 1 cap] H (fun u H' => ∃ i : Unit, u = .int .i64 (((wrA l (be256 w)).2 : Nat) : Int) ∧ WrOut H H' p q l (wrA l (be256 w)).1) := by
  have hbn : bv < H.next := get_live_lt (by rw [hg]; rfl)
  have hwl := w.len
  refine CallR.sy (n := 22) Try.func89 rfl rfl rfl ?_
  repeat' (first
    | (with_reducible refine Sy.seq ?_)
    | (with_reducible refine Sy.regionL ?_)
    | (with_reducible refine Sy.opsnil ?_)
    | (with_reducible refine Sy.go ?_)
    | (with_reducible refine Sy.nrm ?_)
    | ((with_reducible apply Sy.assign); exact rfl; exact rfl)
    | ((with_reducible apply Sy.move); exact rfl; exact rfl)
    | ((with_reducible apply Sy.lenS); exact rfl; exact Try.underlying159; exact rfl)
    | (with_reducible refine Sy.block ?_))
  refine Sy.loop (ι := Bool × Nat) (fun i => cond i.1 0 1) (fun i => [(0, .pointer (some ⟨p, 0, none⟩)), (5, accV 1 (ints .u8 (cond i.1 (be256 w) [])) (cond i.1 (be256 w).length 0) i.2), (8, .slice (some ⟨bv, 0, none⟩) 1 cap), (9, .int .i64 ((1 : Nat) : Int)), (10, .int .i64 ((cond i.1 1 0 : Nat) : Int))]) (fun _ => []) (fun i => accM 5 (ints .u8 (cond i.1 (be256 w) [])) (cond i.1 (be256 w).length 0) i.2) (fun i => True) (false, 0) trivial ⟨rfl, rfl, rfl, rfl, rfl, trivial⟩ (fun H h => h) ?_
  rintro ⟨i, b⟩ -
  cases i with
  | false =>
    have hld : aLoad Try.prog 55 (.cells (wC w) Tv wv) (0 + 0 * 4) = some (wV w) := ld_wV
    dsimp only [cond_false]
    repeat' (first
    | (with_reducible refine Sy.seq ?_)
    | (with_reducible refine Sy.regionL ?_)
    | (with_reducible refine Sy.opsnil ?_)
    | (with_reducible refine Sy.go ?_)
    | (with_reducible refine Sy.nrm ?_)
    | ((with_reducible apply Sy.ld0 (t := 55)); exact rfl; exact rfl; exact hg; exact rfl; exact notM; exact hld)
    | ((with_reducible apply Sy.assign); exact rfl; exact rfl)
    | ((with_reducible apply Sy.move); exact rfl; exact rfl)
    | ((with_reducible apply Sy.bin (op := .lss) (t := 3)); exact rfl; exact rfl; exact rfl; exact b_lss)
    | ((with_reducible apply Sy.bin (op := .lss) (t := 3)); exact rfl; exact rfl; exact rfl; exact bz_lss)
    | ((with_reducible apply Sy.ia (t := 159)); exact rfl; exact rfl; exact rfl; exact (ia_sl Try.underlying159 sz55 (by omega)))
    | ((with_reducible apply Sy.ldN (t := 55)); exact rfl; exact rfl; exact hasT; (· first | exact ld_all ag55 (by first | (simp [sz55, *]; done))))
    | ((with_reducible apply Sy.stNa (t := 55)); exact rfl; exact rfl; exact sz55; (· first | (simp; done)); (· first | exact oneL_ints _ _); exact turnT; (· first | (simp; done)); (· first | exact lay_all (by first | (simp; done))))
    | ((with_reducible apply Sy.appN (t := 23) (xt := 23)); exact ap23_23 zr5 rfl; exact rfl; exact rfl; exact rfl; (· first | exact SrcY.ofNi' (by repeat (first | exact Has.here)) (by first | (simp; done))); (· first | exact oneL_ints _ _); (· first | omega); (· first | omega); intro q17)
    | ((with_reducible apply Sy.bin (op := .add) (t := 3)); exact rfl; exact rfl; exact rfl; exact (b_add (by omega)))
    | ((with_reducible apply Sy.bin (op := .add) (t := 3)); exact rfl; exact rfl; exact rfl; exact (bz_add (by omega) (by omega)))
    | ((with_reducible apply Sy.callN (k := 93)); exact rfl; exact rfl; exact en93; exact rfl; (intro H' hp; exact c_wBytes _ H'); rintro q16 -)
    | ((with_reducible apply Sy.newY (o := ⟨some 7, .alloc 55, _, _, _, _⟩)); exact rfl; exact rfl; exact nwz55; intro q7)
    | (with_reducible refine Sy.skip ?_)
    | (with_reducible refine Sy.block ?_)
    | (with_reducible refine Sy.inrm ?_)
    | ((with_reducible apply Sy.yes); exact rfl))
    refine Sy.rnrm (true, q17) trivial Nat.zero_lt_one ⟨rfl, ?_, rfl, rfl, rfl, trivial⟩ (fun H1 h => ?_)
    · dsimp only [cond_true]; rw [be256_length]; rfl
    · dsimp only [cond_true]; rw [be256_length]; exact h.less (.cons_cons _ (List.nil_sublist _))
  | true =>
    dsimp only [cond_true]
    repeat' (first
    | (with_reducible refine Sy.seq ?_)
    | (with_reducible refine Sy.regionL ?_)
    | (with_reducible refine Sy.opsnil ?_)
    | (with_reducible refine Sy.go ?_)
    | (with_reducible refine Sy.nrm ?_)
    | ((with_reducible apply Sy.assign); exact rfl; exact rfl)
    | ((with_reducible apply Sy.move); exact rfl; exact rfl)
    | ((with_reducible apply Sy.bin (op := .lss) (t := 3)); exact rfl; exact rfl; exact rfl; exact b_lss)
    | ((with_reducible apply Sy.bin (op := .lss) (t := 3)); exact rfl; exact rfl; exact rfl; exact bz_lss)
    | ((with_reducible apply Sy.callH (k := 92)); exact rfl; exact rfl; exact en92; exact rfl; (intro H' hp; exact c_all p q l (be256 w) _ H' (hw.of hp) (buf_slr hp fun hx => bufM_has' hx) (be256_lt w) (by simp)); rintro ⟨⟩ H1 H2 hp hJ)
    | (with_reducible refine Sy.exit ?_)
    | (with_reducible refine Sy.ret ?_)
    | (with_reducible refine Sy.aex ?_)
    | ((with_reducible apply Sy.iex); exact rfl)
    | (with_reducible refine Sy.rex ?_)
    | ((with_reducible apply Sy.no); exact rfl))
    exact .fin [_] (.inr rfl) ⟨rfl, trivial⟩ fun H' hp3 => ⟨(), rfl, (hJ.pre hp).post hp3⟩

theorem full_slr {H0 H : AHeap} {lo hi b c : Nat} {Mo Mn : Hm} {x : List Nat} {T : TypeId} {w : Bool} (hp : Hp H0 lo hi H Mo Mn) (h : Has Mn b (.cells (ints .u8 x) T w)) : SlR H 1 (.slice (some ⟨b, 0, none⟩) x.length c) x.length (ints .u8 x) :=
  .mk (hp.getN h) (by simp) (by rw [List.drop_zero, List.take_of_length_le (by simp)])
/-- A blob's bytes. -/
def blobN (x : List Nat) : List Nat := be64 x.length ++ x
theorem blobN_lt {x : List Nat} (h : ∀ y ∈ x, y < 256) : ∀ y ∈ blobN x, y < 256 := fun y hy => by
  rcases List.mem_append.1 hy with hy | hy
  · exact be64_lt _ y hy
  · exact h y hy
@[simp] theorem blobN_length (x : List Nat) : (blobN x).length = 8 + x.length := by simp [blobN]
set_option maxHeartbeats 1000000 in
theorem k_wBlob (p q bv cap Tv : Nat) (wv : Bool) (l x : List Nat) (v : Value) (H : AHeap) (hw : WrAt H p l q) (hg : H.get bv = .cells [v] Tv wv) (hv : SlR H 1 v x.length (ints .u8 x)) (h256 : ∀ y ∈ x, y < 256) (hx : x.length ≤ 100000000000000) :
    CallR Try.prog noPrims 90 [.pointer (some ⟨p, 0, none⟩), .slice (some ⟨bv, 0, none⟩) 1 cap] H (fun u H' => ∃ i : Unit, u = .int .i64 (((wrA l (blobN x)).2 : Nat) : Int) ∧ WrOut H H' p q l (wrA l (blobN x)).1) := by
  have hbn : bv < H.next := get_live_lt (by rw [hg]; rfl)
  obtain ⟨sv, c, rfl⟩ : ∃ a c, v = .slice a x.length c := by
    rcases hv.two with ⟨rfl, h0, _⟩ | ⟨b, o, c, rfl⟩
    · rw [h0]; exact ⟨_, _, rfl⟩
    · exact ⟨_, _, rfl⟩
  refine CallR.sy (n := 29) Try.func90 rfl rfl rfl ?_
  repeat' (first
    | (with_reducible refine Sy.seq ?_)
    | (with_reducible refine Sy.regionL ?_)
    | (with_reducible refine Sy.opsnil ?_)
    | (with_reducible refine Sy.go ?_)
    | (with_reducible refine Sy.nrm ?_)
    | ((with_reducible apply Sy.assign); exact rfl; exact rfl)
    | ((with_reducible apply Sy.move); exact rfl; exact rfl)
    | ((with_reducible apply Sy.lenS); exact rfl; exact Try.underlying35; exact rfl)
    | ((with_reducible apply Sy.lenS); exact rfl; exact Try.underlying23; exact rfl)
    | (with_reducible refine Sy.block ?_))
  refine Sy.loop (ι := Bool × Nat) (fun i => cond i.1 0 1) (fun i => [(0, .pointer (some ⟨p, 0, none⟩)), (5, accV 1 (ints .u8 (cond i.1 (blobN x) [])) (cond i.1 (blobN x).length 0) i.2), (8, .slice (some ⟨bv, 0, none⟩) 1 cap), (9, .int .i64 ((1 : Nat) : Int)), (10, .int .i64 ((cond i.1 1 0 : Nat) : Int))]) (fun _ => []) (fun i => accM 5 (ints .u8 (cond i.1 (blobN x) [])) (cond i.1 (blobN x).length 0) i.2) (fun i => True) (false, 0) trivial ⟨rfl, rfl, rfl, rfl, rfl, trivial⟩ (fun H h => h) ?_
  rintro ⟨i, b⟩ -
  cases i with
  | false =>
    dsimp only [cond_false]
    repeat' (first
    | (with_reducible refine Sy.seq ?_)
    | (with_reducible refine Sy.regionL ?_)
    | (with_reducible refine Sy.opsnil ?_)
    | (with_reducible refine Sy.go ?_)
    | (with_reducible refine Sy.nrm ?_)
    | ((with_reducible apply Sy.assign); exact rfl; exact rfl)
    | ((with_reducible apply Sy.move); exact rfl; exact rfl)
    | ((with_reducible apply Sy.lenS); exact rfl; exact Try.underlying35; exact rfl)
    | ((with_reducible apply Sy.bin (op := .lss) (t := 3)); exact rfl; exact rfl; exact rfl; exact b_lss)
    | ((with_reducible apply Sy.bin (op := .lss) (t := 3)); exact rfl; exact rfl; exact rfl; exact bz_lss)
    | ((with_reducible apply Sy.ia (t := 35)); exact rfl; exact rfl; exact rfl; exact (ia_sl10 Try.underlying35 sz23 (by omega)))
    | ((with_reducible apply Sy.ia (t := 35)); exact rfl; exact rfl; exact rfl; exact (ia_sl1 Try.underlying35 sz23 (by omega)))
    | ((with_reducible apply Sy.ld0 (t := 23)); exact rfl; exact rfl; (· with_reducible assumption); exact rfl; exact notM; (· first | exact ld_one ag23 rfl))
    | ((with_reducible apply Sy.lenS); exact rfl; exact Try.underlying23; exact rfl)
    | ((with_reducible apply Sy.conv (D := 0) (T := .bool)); exact rfl; exact Try.underlying3; exact Try.underlying53; exact rfl; exact (wrap_u64x (by omega)))
    | ((with_reducible apply Sy.conv (D := 0) (T := .bool)); exact rfl; exact Try.underlying3; exact Try.underlying53; exact rfl; exact wrap_u64 _)
    | ((with_reducible apply Sy.appQ (t := 23) (xt := 23)); exact ap23_23 zr5 rfl; exact rfl; exact rfl; exact rfl; (· first | exact SrcY.ofR (by with_reducible assumption) rfl); (· first | exact oneL_ints _ _); (· first | omega | (simp; done)); (· first | omega | (simp; done)); (· repeat (first | exact Drop.here)); (· first | omega | (simp; done)); (· first | exact ints_append _ _ _); intro q19)
    | ((with_reducible apply Sy.appN (t := 23) (xt := 23)); exact ap23_23 zr5 rfl; exact rfl; exact rfl; exact rfl; (· first | exact SrcY.ofNi' (by repeat (first | exact Has.here)) (by first | (simp; done))); (· first | exact oneL_ints _ _); (· first | omega); (· first | omega); intro q19)
    | ((with_reducible apply Sy.appQ (t := 23) (xt := 23)); exact ap23_23 zr5 rfl; exact rfl; exact rfl; exact rfl; (· first | exact SrcY.ofR (by with_reducible assumption) rfl); (· first | exact oneL_ints _ _); (· first | omega | (simp; done)); (· first | omega | (simp; done)); (· repeat (first | exact Drop.here)); (· first | omega | (simp; done)); (· first | exact ints_append _ _ _); intro q21)
    | ((with_reducible apply Sy.appN (t := 23) (xt := 23)); exact ap23_23 zr5 rfl; exact rfl; exact rfl; exact rfl; (· first | exact SrcY.ofNi' (by repeat (first | exact Has.here)) (by first | (simp; done))); (· first | exact oneL_ints _ _); (· first | omega); (· first | omega); intro q21)
    | ((with_reducible apply Sy.bin (op := .gtr) (t := 3)); exact rfl; exact rfl; exact rfl; exact b_gtr)
    | ((with_reducible apply Sy.bin (op := .gtr) (t := 3)); exact rfl; exact rfl; exact rfl; exact bz_gtr)
    | ((with_reducible apply Sy.bin (op := .add) (t := 3)); exact rfl; exact rfl; exact rfl; exact (b_add (by omega)))
    | ((with_reducible apply Sy.bin (op := .add) (t := 3)); exact rfl; exact rfl; exact rfl; exact (bz_add (by omega) (by omega)))
    | ((with_reducible apply Sy.callN (k := 91)); exact rfl; exact rfl; exact en91; exact rfl; (intro H' hp; exact c_ceight _ (by omega) H'); rintro q18 -)
    | (with_reducible refine Sy.skip ?_)
    | (with_reducible refine Sy.exit ?_)
    | (with_reducible refine Sy.block ?_)
    | (with_reducible refine Sy.aex ?_)
    | (with_reducible refine Sy.inrm ?_)
    | ((with_reducible apply Sy.iex); exact rfl)
    | ((with_reducible apply Sy.iex2); exact rfl)
    | (with_reducible refine Sy.rex ?_)
    | ((with_reducible apply Sy.yes); exact rfl)
    | ((with_reducible apply Sy.ite); (case hx => exact rfl); all_goals (intro hc; try (exfalso; omega))))
    · rw [show 8 + x.length = (blobN x).length from (blobN_length x).symm]
      repeat' (first
    | (with_reducible refine Sy.opsnil ?_)
    | (with_reducible refine Sy.go ?_)
    | (with_reducible refine Sy.nrm ?_)
    | ((with_reducible apply Sy.assign); exact rfl; exact rfl)
    | ((with_reducible apply Sy.callH (k := 92)); exact rfl; exact rfl; exact en92; exact rfl; (intro H' hp; exact c_all p q l (blobN x) _ H' (hw.of hp) (full_slr hp .here) (blobN_lt h256) (by simp; omega)); rintro ⟨⟩ H1 H2 hp hJ)
    | (with_reducible refine Sy.ret ?_))
      exact .fin [_] (.inr rfl) ⟨rfl, trivial⟩ fun H' hp3 => ⟨(), rfl, (hJ.pre hp).post hp3⟩
    · rw [show 8 + x.length = (blobN x).length from (blobN_length x).symm]
      refine Sy.rnrm (true, q19) trivial Nat.zero_lt_one ⟨rfl, ?_, rfl, rfl, rfl, trivial⟩ (fun H1 h => ?_)
      · have hb0 : ¬ (blobN x).length = 0 := by rw [blobN_length]; omega
        have e : accV 1 (ints .u8 (blobN x)) (blobN x).length q19 = .slice (some ⟨q19, 0, none⟩) (blobN x).length ((blobN x).length + 2 + 1) := by simp only [accV, hb0, if_false]
        dsimp only [cond_true]
        rw [e]; rfl
      · show Hp H 0 0 H1 [] (accM 5 (ints .u8 (blobN x)) (blobN x).length q19)
        have hb0 : ¬ (blobN x).length = 0 := by rw [blobN_length]; omega
        simp only [accM, hb0, if_false]
        exact h.less (.cons_cons _ (List.nil_sublist _))
  | true =>
    dsimp only [cond_true]
    repeat' (first
    | (with_reducible refine Sy.seq ?_)
    | (with_reducible refine Sy.regionL ?_)
    | (with_reducible refine Sy.opsnil ?_)
    | (with_reducible refine Sy.go ?_)
    | (with_reducible refine Sy.nrm ?_)
    | ((with_reducible apply Sy.assign); exact rfl; exact rfl)
    | ((with_reducible apply Sy.move); exact rfl; exact rfl)
    | ((with_reducible apply Sy.bin (op := .lss) (t := 3)); exact rfl; exact rfl; exact rfl; exact b_lss)
    | ((with_reducible apply Sy.bin (op := .lss) (t := 3)); exact rfl; exact rfl; exact rfl; exact bz_lss)
    | ((with_reducible apply Sy.callH (k := 92)); exact rfl; exact rfl; exact en92; exact rfl; (intro H' hp; exact c_all p q l (blobN x) _ H' (hw.of hp) (buf_slr hp fun hx => bufM_has' hx) (blobN_lt h256) (by simp; omega)); rintro ⟨⟩ H1 H2 hp hJ)
    | (with_reducible refine Sy.exit ?_)
    | (with_reducible refine Sy.ret ?_)
    | (with_reducible refine Sy.aex ?_)
    | ((with_reducible apply Sy.iex); exact rfl)
    | (with_reducible refine Sy.rex ?_)
    | ((with_reducible apply Sy.no); exact rfl))
    exact .fin [_] (.inr rfl) ⟨rfl, trivial⟩ fun H' hp3 => ⟨(), rfl, (hJ.pre hp).post hp3⟩
theorem k_NewWriter (H : AHeap) :
    CallR Try.prog noPrims 50 [] H (fun u H' => ∃ p : Nat, True ∧ u = .pointer (some ⟨p, 0, none⟩) ∧ Hp H 0 0 H' [] [(p, .cells [.slice none 0 0, .bool true, .int .i64 ((0 : Nat) : Int)] 126 true)]) := by
  refine CallR.sy (n := 4) Try.func50 rfl rfl rfl ?_
  repeat' (first
    | (with_reducible refine Sy.seq ?_)
    | (with_reducible refine Sy.regionL ?_)
    | (with_reducible refine Sy.opsnil ?_)
    | (with_reducible refine Sy.go ?_)
    | (with_reducible refine Sy.nrm ?_)
    | ((with_reducible apply Sy.assign); exact rfl; exact rfl)
    | ((with_reducible apply Sy.build (t := 124)); exact rfl; exact rfl; (· exact (bv124 (by first | rfl))))
    | ((with_reducible apply Sy.build (t := 126)); exact rfl; exact rfl; (· exact (bv126 (by first | rfl))))
    | ((with_reducible apply Sy.newY (o := ⟨some 3, .box 126 _, _, _, _, _⟩)); exact rfl; exact rfl; exact nbA rfl; intro q3)
    | (with_reducible refine Sy.ret ?_))
  exact .fin [_] (.inr rfl) ⟨rfl, trivial⟩ fun H' hp => ⟨q3, trivial, rfl, hp⟩
/-- A new writer, among new things. -/
theorem WrAt.new {H0 H : AHeap} {lo hi p : Nat} {Mo Mn : Hm} (hp : Hp H0 lo hi H Mo Mn) (hm : Has Mn p (.cells [.slice none 0 0, .bool true, .int .i64 ((0 : Nat) : Int)] 126 true)) : WrAt H p [] 0 :=
  ⟨hp.getN hm, fun h => absurd rfl h, by simp, by simp⟩
theorem WrAt.slr {H : AHeap} {p q : Nat} {l : List Nat} (h : WrAt H p l q) : SlR H 1 (bufV l q) l.length (ints .u8 l) := by
  by_cases hx : l = []
  · subst hx; exact .nil
  · have hm : ¬ l.length = 0 := fun e => hx (List.length_eq_zero_iff.1 e)
    have : bufV l q = .slice (some ⟨q, 0, none⟩) l.length (l.length + 2 + 1) := by simp [bufV, accV, hm]
    rw [this]
    exact .mk (h.buf hx) (by simp) (by rw [List.drop_zero, List.take_of_length_le (by simp)])
theorem k_sBytes (p q : Nat) (l : List Nat) (H : AHeap) (hw : WrAt H p l q) :
    CallR Try.prog noPrims 61 [.pointer (some ⟨p, 0, none⟩)] H (fun u H' => ∃ i : Nat × Value, Vw i.1 l i.2 l ∧ u = i.2 ∧ Hp H 0 0 H' [] (bufM l i.1)) := by
  have hp0 := hw.obj
  have hll := hw.len
  refine CallR.sy (n := 10) Try.func61 rfl rfl rfl ?_
  repeat' (first
    | (with_reducible refine Sy.seq ?_)
    | (with_reducible refine Sy.regionL ?_)
    | (with_reducible refine Sy.opsnil ?_)
    | (with_reducible refine Sy.go ?_)
    | (with_reducible refine Sy.nrm ?_)
    | ((with_reducible apply Sy.assign); exact rfl; exact rfl)
    | ((with_reducible apply Sy.move); exact rfl; exact rfl)
    | ((with_reducible apply Sy.bin (op := .eql) (t := 134)); exact rfl; exact rfl; exact rfl; exact p_eq0 kd134)
    | ((with_reducible apply Sy.bin (op := .eql) (t := 134)); exact rfl; exact rfl; exact rfl; exact p_eq1 kd134)
    | ((with_reducible apply Sy.bin (op := .eql) (t := 134)); exact rfl; exact rfl; exact rfl; exact p_eq2 kd134)
    | ((with_reducible apply Sy.nilC); exact rfl; exact rfl; exact rfl)
    | ((with_reducible apply Sy.fa (t := 124) (i := 0)); exact rfl; exact rfl; exact fa124_0 _ _)
    | ((with_reducible apply Sy.ld0 (t := 23)); exact rfl; exact rfl; (· with_reducible assumption); exact rfl; exact notM; (· first | exact ld_one ag23 rfl))
    | ((with_reducible apply Sy.callN (k := 27)); exact rfl; exact rfl; exact en27; exact rfl; (intro H' hp; exact k_Clone _ l H' (hw.slr.of hp) (by omega)); rintro ⟨c, v'⟩ hv')
    | (with_reducible refine Sy.skip ?_)
    | (with_reducible refine Sy.ret ?_)
    | ((with_reducible apply Sy.no); exact rfl))
  exact .fin [_] (.inr rfl) ⟨rfl, trivial⟩ fun H' hp => ⟨(c, v'), hv', rfl, hp.less (List.sublist_append_left _ _)⟩
theorem k_wrBytes (p q : Nat) (l : List Nat) (H : AHeap) (hw : WrAt H p l q) :
    CallR Try.prog noPrims 51 [.pointer (some ⟨p, 0, none⟩)] H (fun u H' => ∃ i : Nat × Value, Vw i.1 l i.2 l ∧ u = i.2 ∧ Hp H 0 0 H' [] (bufM l i.1)) := by
  refine CallR.sy (n := 9) Try.func51 rfl rfl rfl ?_
  repeat' (first
    | (with_reducible refine Sy.seq ?_)
    | (with_reducible refine Sy.regionL ?_)
    | (with_reducible refine Sy.opsnil ?_)
    | (with_reducible refine Sy.go ?_)
    | (with_reducible refine Sy.nrm ?_)
    | ((with_reducible apply Sy.assign); exact rfl; exact rfl)
    | ((with_reducible apply Sy.move); exact rfl; exact rfl)
    | ((with_reducible apply Sy.bin (op := .eql) (t := 111)); exact rfl; exact rfl; exact rfl; exact p_eq0 kd111)
    | ((with_reducible apply Sy.bin (op := .eql) (t := 111)); exact rfl; exact rfl; exact rfl; exact p_eq1 kd111)
    | ((with_reducible apply Sy.bin (op := .eql) (t := 111)); exact rfl; exact rfl; exact rfl; exact p_eq2 kd111)
    | ((with_reducible apply Sy.nilC); exact rfl; exact rfl; exact rfl)
    | ((with_reducible apply Sy.fa (t := 126) (i := 0)); exact rfl; exact rfl; exact fa126_0 _ _)
    | ((with_reducible apply Sy.callN (k := 61)); exact rfl; exact rfl; exact en61; exact rfl; (intro H' hp; exact k_sBytes p q l H' (hw.of hp)); rintro ⟨c, v'⟩ hv')
    | (with_reducible refine Sy.skip ?_)
    | (with_reducible refine Sy.ret ?_)
    | ((with_reducible apply Sy.no); exact rfl))
  exact .fin [_] (.inr rfl) ⟨rfl, trivial⟩ fun H' hp => ⟨(c, v'), hv', rfl, hp.less (List.sublist_append_left _ _)⟩
end Go.Proofs.Ytcaafoibabijgaa

/- Rows joined. -/
namespace Go.Proofs.Ytcaafoibabijgaa
open Go Go.Am
set_option maxRecDepth 100000
set_option linter.unusedVariables false

end Go.Proofs.Ytcaafoibabijgaa

/- Layer 03: a row of writes. -/
namespace Go.Proofs.Ytcaafoibabijgaa
open Go Go.Am
set_option maxRecDepth 100000
set_option linter.unusedVariables false

/-- A writer that had l0 has l by now. -/
structure Ses (H0 H : AHeap) (p q0 : Nat) (l0 l : List Nat) (q : Nat) : Prop where
  wr : WrAt H p l q
  kp : Kp (WrM p q0 l0) H0 H
  fr : l = [] ∨ (q = q0 ∧ l0 ≠ []) ∨ H0.next ≤ q
theorem Ses.start {H : AHeap} {p q : Nat} {l : List Nat} (h : WrAt H p l q) : Ses H H p q l l q :=
  ⟨h, Kp.refl _ _, by by_cases hl : l = []; exact .inl hl; exact .inr (.inl ⟨rfl, hl⟩)⟩
theorem Ses.step {H0 Hk Ha Hb : AHeap} {lo hi p q0 q : Nat} {l0 l l' : List Nat} {Mn : Hm} (s : Ses H0 Hk p q0 l0 l q) (hp : Hp Hk lo hi Ha [] Mn) (hJ : WrOut Ha Hb p q l l') : ∃ q', Ses H0 Hb p q0 l0 l' q' := by
  obtain ⟨q', a, b, c⟩ := WrOut.trans s.kp s.fr (WrOut.pre hp hJ)
  exact ⟨q', a, b, c⟩
theorem Ses.out {H0 H : AHeap} {p q0 q : Nat} {l0 l : List Nat} (s : Ses H0 H p q0 l0 l q) : WrOut H0 H p q0 l0 l := ⟨q, s.wr, s.kp, s.fr⟩
theorem Ses.get {H0 H : AHeap} {p q0 q b : Nat} {l0 l : List Nat} {o : AObj} (s : Ses H0 H p q0 l0 l q) (h : H0.get b = o) (hl : o.live = true) (hn : ¬ WrM p q0 l0 b) : H.get b = o := s.kp.get h hl hn
/-- A slice that lies elsewhere. -/
def Away (v : Value) (S : Nat → Prop) : Prop := ∀ b o m c, v = .slice (some ⟨b, o, none⟩) m c → m ≠ 0 → ¬ S b
theorem Away.nil {S : Nat → Prop} : Away (.slice none 0 0) S := fun _ _ _ _ h _ => by cases h
theorem Kp.slr {S : Nat → Prop} {H H' : AHeap} {sz m : Nat} {v : Value} {cs : List Value} (k : Kp S H H') (h : SlR H sz v m cs) (ha : Away v S) : SlR H' sz v m cs := by
  cases h with
  | nil => exact .nil
  | emp => exact .emp
  | mk h1 h2 h3 =>
    by_cases h0 : m = 0
    · subst h0
      obtain rfl : cs = [] := by rw [← h3]; simp
      exact .emp
    · exact .mk (k.get h1 rfl (ha _ _ _ _ rfl h0)) h2 h3
theorem Ses.slr {H0 H : AHeap} {p q0 q sz m : Nat} {l0 l : List Nat} {v : Value} {cs : List Value} (s : Ses H0 H p q0 l0 l q) (h : SlR H0 sz v m cs) (ha : Away v (WrM p q0 l0)) : SlR H sz v m cs := Kp.slr s.kp h ha
theorem new_away {H0 H : AHeap} {lo hi p q b : Nat} {l : List Nat} {o : AObj} {Mo Mn : Hm} (hp : Hp H0 lo hi H Mo Mn) (hm : Has Mn b o) (hw : WrAt H0 p l q) : ¬ WrM p q l b := fun h => by
  have h1 := (hp.new_lt hm).1
  rcases h with rfl | ⟨rfl, hl⟩
  · have := hw.lt'; omega
  · have := hw.ltq hl; omega
theorem Away.fresh {v : Value} {p : Nat} {q : Nat} {H : AHeap} {m : Nat} {cs : List Value} (h : SlR H 1 v m cs) (hp : H.next ≤ p) : Away v (WrM p q []) := fun b o k c e hk0 hw => by
  rcases hw with rfl | ⟨_, hl⟩
  · subst e
    cases h with
    | emp => exact absurd rfl hk0
    | mk h1 _ _ => have := get_live_lt (H := H) (h := b) (by rw [h1]; rfl); omega
  · exact hl rfl
end Go.Proofs.Ytcaafoibabijgaa

/- Layer 03: a writer among the new objects. -/
namespace Go.Proofs.Ytcaafoibabijgaa
open Go Go.Am
set_option maxRecDepth 100000
set_option linter.unusedVariables false

abbrev wrO (p q : Nat) (l : List Nat) : Hm := (p, .cells (wrC l q) 126 true) :: bufM l q
def PullW (Mn : Hm) (p q : Nat) (l : List Nat) (M1 : Hm) : Prop := List.Perm Mn (wrO p q l ++ M1)
theorem PullW.new {Mn M1 : Hm} {p : Nat} (h : Pull Mn [(p, .cells [.slice none 0 0, .bool true, .int .i64 ((0 : Nat) : Int)] 126 true)] M1) : PullW Mn p 0 [] M1 := h.perm
theorem PullW.old {Mn M1 : Hm} {p q : Nat} {l : List Nat} (h : Pull Mn (wrO p q l) M1) : PullW Mn p q l M1 := h.perm
theorem bufM_nil {q : Nat} : bufM [] q = [] := rfl
theorem bufM_one {x : List Nat} {q : Nat} (h : x ≠ []) : bufM x q = [(q, .cells (ints .u8 x) 5 true)] := by
  have : x.length ≠ 0 := fun e => h (List.length_eq_zero_iff.1 e)
  simp [accM, this]
theorem PullW.wr {Mn M1 Mo : Hm} {p q lo hi : Nat} {l : List Nat} {H0 H : AHeap} (h : PullW Mn p q l M1) (hp : Hp H0 lo hi H Mo Mn) (h1 : ∀ x ∈ l, x < 256) (h2 : l.length ≤ 65536) : WrAt H p l q := by
  have r : Hp H0 lo hi H Mo (wrO p q l ++ M1) := hp.perm h.symm
  refine ⟨r.getN .here, fun hl => r.getN (.there (bufM_has hl)), h1, h2⟩
section
variable {P : Program} {pr : Prims} {f n : Nat} {H0 : AHeap} {lo hi : Nat} {E : Env} {Mo Mn : Hm} {K : AS → Prop} {d : Nat} {ty : TypeId} {p : String} {a : Array Edge} {g : Option (Nat × Bool)}
end
end Go.Proofs.Ytcaafoibabijgaa

/- Layer 02: bytes that are lent; small things of rows. -/
namespace Go.Proofs.Ytcaafoibabijgaa
open Go Go.Am
set_option maxRecDepth 100000
set_option linter.unusedVariables false

theorem slr_form {H : AHeap} {sz m : Nat} {v : Value} {cs : List Value} (h : SlR H sz v m cs) : ∃ a c, v = .slice a m c := by
  cases h <;> exact ⟨_, _, rfl⟩
theorem wrA_ok {l x : List Nat} (h : l.length + x.length ≤ 65536) : wrA l x = (l ++ x, 0) := by rw [wrA, if_neg (by omega)]
theorem Vw.of0 {b cap : Nat} {l : List Nat} : Vw b l (.slice (some ⟨b, 0, none⟩) l.length cap) l := .inr ⟨0, cap, rfl, by omega, by rw [List.drop_zero, List.take_length]⟩
theorem SrL.vw {H0 : AHeap} {lo hi c : Nat} {Mo Mn : Hm} {lb l : List Nat} {v : Value} {T : TypeId} {w : Bool} (h : Vw c lb v l) (hm : lb ≠ [] → Has Mn c (.cells (ints .u8 lb) T w)) : SrL H0 lo hi Mo Mn v l := fun H hp => h.slr' fun x => hp.getN (hm x)
end Go.Proofs.Ytcaafoibabijgaa

/- Layer 03: what was written is read back. -/
namespace Go.Proofs.Ytcaafoibabijgaa
open Go Go.Am
set_option maxRecDepth 100000
set_option linter.unusedVariables false

theorem beV_beP {n : Nat} (hn : n < 18446744073709551616) : ∀ i, i ≤ 8 → beV (beP n i) = n >>> (64 - 8 * i)
  | 0, _ => by
    rw [Nat.shiftRight_eq_div_pow]
    show 0 = n / 2 ^ 64
    omega
  | i + 1, hi => by
    rw [beP, beV_snoc, beV_beP hn i (by omega)]
    have e : 64 - 8 * i = (56 - 8 * i) + 8 := by omega
    have e2 : 64 - 8 * (i + 1) = 56 - 8 * i := by omega
    rw [e, e2, Nat.shiftRight_add, Nat.shiftRight_eq_div_pow _ 8]
    generalize n >>> (56 - 8 * i) = m
    show m / 256 * 256 + m % 256 = m
    omega
theorem beV_be64 {n : Nat} (hn : n < 18446744073709551616) : beV (be64 n) = n := by
  rw [← beP_8, beV_beP hn 8 (by omega)]
  rfl
theorem next_app {x r : List Nat} {k : Nat} (h : x.length = k) : (⟨x ++ r, 0⟩ : Rd).next k = ⟨r, 0⟩ := by
  subst h
  rw [next_ok (by simp), List.drop_left]
theorem got_app {x r : List Nat} {k : Nat} (h : x.length = k) : (⟨x ++ r, 0⟩ : Rd).got k = x := by
  subst h
  rw [got_ok (by simp), List.take_left]
theorem be64_len (n : Nat) : (be64 n).length = 8 := be64_length n
theorem rdU_app {n : Nat} {r : List Nat} (hn : n < 18446744073709551616) : rdU ⟨be64 n ++ r, 0⟩ = n := by
  unfold rdU
  rw [got_app (be64_len n), beV_be64 hn]
theorem next_u {n : Nat} {r : List Nat} : (⟨be64 n ++ r, 0⟩ : Rd).next 8 = ⟨r, 0⟩ := next_app (be64_len n)
theorem rdCnt_app {m n : Nat} {r : List Nat} (hn : n < 18446744073709551616) (hm : n ≤ m) : rdCnt m ⟨be64 n ++ r, 0⟩ = (n, ⟨r, 0⟩) := by
  unfold rdCnt
  rw [next_u, rdU_app hn]
  rw [if_neg (by omega), if_neg (by simp)]
theorem be256_seg (w : Wd) : segN (be256 w) 0 = be64 (w.at 0) ∧ segN (be256 w) 1 = be64 (w.at 1) ∧ segN (be256 w) 2 = be64 (w.at 2) ∧ segN (be256 w) 3 = be64 (w.at 3) := by
  have a := be64_len (w.at 0); have b := be64_len (w.at 1); have c := be64_len (w.at 2); have d := be64_len (w.at 3)
  unfold segN be256
  generalize be64 (w.at 0) = A at *
  generalize be64 (w.at 1) = B at *
  generalize be64 (w.at 2) = C at *
  generalize be64 (w.at 3) = D at *
  refine ⟨?_, ?_, ?_, ?_⟩
  · show ((D ++ C ++ B ++ A).drop 24).take 8 = A
    rw [List.drop_left' (by simp; omega), List.take_of_length_le (by omega)]
  · show ((D ++ C ++ B ++ A).drop 16).take 8 = B
    rw [List.append_assoc, List.drop_left' (by simp; omega), List.take_left' b]
  · show ((D ++ C ++ B ++ A).drop 8).take 8 = C
    rw [List.append_assoc, List.append_assoc, List.drop_left' d, List.take_left' c]
  · show ((D ++ C ++ B ++ A).drop 0).take 8 = D
    rw [List.drop_zero, List.append_assoc, List.append_assoc, List.take_left' d]
theorem wd_list (w : Wd) : w.l = [w.at 0, w.at 1, w.at 2, w.at 3] := by
  obtain ⟨l, h1, h2⟩ := w
  match l, h1 with
  | [a, b, c, d], _ => rfl
theorem wdOf_be (w : Wd) : wdOf (be256 w) = w := by
  apply Wd.ext'
  show wdL (be256 w) = w.l
  obtain ⟨a, b, c, d⟩ := be256_seg w
  unfold wdL
  rw [a, b, c, d, beV_be64 (w.at_lt 0), beV_be64 (w.at_lt 1), beV_be64 (w.at_lt 2), beV_be64 (w.at_lt 3), Nat.mod_eq_of_lt (w.at_lt 0), Nat.mod_eq_of_lt (w.at_lt 1), Nat.mod_eq_of_lt (w.at_lt 2), Nat.mod_eq_of_lt (w.at_lt 3), ← wd_list]
theorem rdW_app {w : Wd} {r : List Nat} : rdW ⟨be256 w ++ r, 0⟩ = w := by
  unfold rdW
  rw [got_app (be256_length w), wdOf_be]
theorem next_w {w : Wd} {r : List Nat} : (⟨be256 w ++ r, 0⟩ : Rd).next 32 = ⟨r, 0⟩ := next_app (be256_length w)
theorem rdBlob_app {x r : List Nat} (hx : x.length ≤ 65536) : rdBlob ⟨blobN x ++ r, 0⟩ = (x, ⟨r, 0⟩) := by
  unfold rdBlob blobN
  rw [List.append_assoc, next_u, rdU_app (by omega)]
  rw [if_neg (by omega), if_neg (by simp), if_pos (by simp), List.take_left, List.drop_left]
end Go.Proofs.Ytcaafoibabijgaa

/- Layer 03: a writer that was handed in, nothing written yet. -/
namespace Go.Proofs.Ytcaafoibabijgaa
open Go Go.Am
set_option maxRecDepth 100000
set_option linter.unusedVariables false

abbrev wrP (p q : Nat) (l : List Nat) : Hm := [(p, .cells (wrC l q) 126 true)]
theorem hp_thenWo {H0 H H' : AHeap} {lo hi p q : Nat} {Mn M1 : Hm} {l l' : List Nat} (r0 : Hp H0 lo hi H (wrP p q l) Mn) (hm : List.Perm Mn (bufM l q ++ M1)) (hJ : WrOut H H' p q l l') :
    ∃ q', Hp H0 lo hi H' (wrP p q' l') (bufM l' q' ++ M1) ∧ (∀ x ∈ l', x < 256) ∧ l'.length ≤ 65536 := by
  obtain ⟨q', w', k, e⟩ := hJ
  have r : Hp H0 lo hi H (wrP p q l) (bufM l q ++ M1) := r0.perm hm.symm
  have hp1 : p < H0.next := r.ol _ (List.mem_cons_self ..)
  have hle := r.le
  have hq1 : l ≠ [] → H0.next ≤ q ∧ q < H.next := fun hl => r.new_lt (bufM_has hl)
  have nn := r.nn
  rw [List.map_append, List.nodup_append] at nn
  obtain ⟨n2, n3, n4⟩ := nn
  have g1 : ∀ x ∈ M1, H0.next ≤ x.1 ∧ x.1 < H.next := fun x hx => ⟨r.ge x (List.mem_append_right _ hx), r.lt x (List.mem_append_right _ hx)⟩
  have np : ∀ x ∈ M1, x.1 ≠ p := fun x hx e => by have := g1 x hx; omega
  have nq : l ≠ [] → ∀ x ∈ M1, x.1 ≠ q := fun hl x hx e => n4 q (by rw [bufM_one hl]; simp) x.1 (List.mem_map_of_mem hx) e.symm
  have un : ∀ h, h < H.next → h ≠ p → (l ≠ [] → h ≠ q) → H'.get h = H.get h := fun h hh h1 h2 => k.2 h hh fun x => by
    rcases x with x | ⟨x, hl⟩
    · exact h1 x
    · exact h2 hl x
  have le := k.1
  have q1 : l' ≠ [] → (q' = q ∧ l ≠ []) ∨ H.next ≤ q' := fun hl => e.resolve_left hl
  have mem : ∀ x ∈ bufM l' q' ++ M1, (l' ≠ [] ∧ x = (q', .cells (ints .u8 l') 5 true)) ∨ x ∈ M1 := fun x hx => by
    rcases List.mem_append.1 hx with hx | hx
    · by_cases hl : l' = []
      · subst hl; simp [bufM_nil] at hx
      · rw [bufM_one hl, List.mem_singleton] at hx; exact .inl ⟨hl, hx⟩
    · exact .inr hx
  refine ⟨q', ⟨fun x hx => ?_, fun x hx => ?_, by simp, ?_, fun x hx => ?_, fun x hx => ?_, fun x hx => ?_, by omega, fun x hx hn => ?_, fun hw => ⟨(r.w1 hw).1, by have := (r.w1 hw).2; omega⟩, fun hw x hx => ?_⟩, w'.lt, w'.len⟩
  · rw [List.mem_singleton] at hx; subst hx; exact w'.obj
  · rcases mem x hx with ⟨hl, rfl⟩ | hx
    · exact w'.buf hl
    · rw [un _ (g1 x hx).2 (np x hx) (fun hl => nq hl x hx)]
      exact r.vn x (List.mem_append_right _ hx)
  · by_cases hl : l' = []
    · subst hl; exact n3
    · rw [bufM_one hl]
      show (((q', _) :: M1).map (·.1)).Nodup
      rw [List.map_cons, List.nodup_cons]
      refine ⟨fun hx => ?_, n3⟩
      obtain ⟨x, hx, e2⟩ := List.mem_map.1 hx
      simp only at e2
      rcases q1 hl with ⟨rfl, h2⟩ | h2
      · exact nq h2 x hx e2
      · have := g1 x hx; omega
  · rw [List.mem_singleton] at hx; subst hx; exact hp1
  · rcases mem x hx with ⟨hl, rfl⟩ | hx
    · rcases q1 hl with ⟨rfl, h2⟩ | h2
      · exact (hq1 h2).1
      · show H0.next ≤ q'; omega
    · exact (g1 x hx).1
  · rcases mem x hx with ⟨hl, rfl⟩ | hx
    · exact w'.ltq hl
    · have := (g1 x hx).2; omega
  · have hxp : x ≠ p := fun e => hn _ (List.mem_cons_self ..) e.symm
    rw [un x (by omega) hxp (fun hl => by have := hq1 hl; omega)]
    exact r.fr x hx (fun y hy => by rw [List.mem_singleton] at hy; subst hy; exact fun e => hxp e.symm)
  · have w2 := r.w2 hw
    rcases mem x hx with ⟨hl, rfl⟩ | hx
    · rcases q1 hl with ⟨rfl, h2⟩ | h2
      · have := w2 (q', .cells (ints .u8 l) 5 true) (List.mem_append_left _ (by rw [bufM_one h2]; simp)); exact this
      · have := (r.w1 hw).2; show q' < lo ∨ hi ≤ q'; omega
    · exact w2 x (List.mem_append_right _ hx)
theorem wrP_at {H0 H : AHeap} {lo hi p q : Nat} {Mn M1 : Hm} {l : List Nat} (r0 : Hp H0 lo hi H (wrP p q l) Mn) (hm : List.Perm Mn (bufM l q ++ M1)) (h1 : ∀ x ∈ l, x < 256) (h2 : l.length ≤ 65536) : WrAt H p l q := by
  have r : Hp H0 lo hi H (wrP p q l) (bufM l q ++ M1) := r0.perm hm.symm
  exact ⟨r.getO .here, fun hl => r.getN (bufM_has hl), h1, h2⟩
/-- What was written since the writer was handed in. -/
theorem wrP_out {H0 H : AHeap} {lo hi p q q0 : Nat} {Mn M1 : Hm} {l : List Nat} (r0 : Hp H0 lo hi H (wrP p q l) Mn) (hm : List.Perm Mn (bufM l q ++ M1)) (h1 : ∀ x ∈ l, x < 256) (h2 : l.length ≤ 65536) : WrOut H0 H p q0 [] l := by
  have r : Hp H0 lo hi H (wrP p q l) (bufM l q ++ M1) := r0.perm hm.symm
  refine ⟨q, wrP_at r0 hm h1 h2, Kp.of r0 (fun x hx => by rw [List.mem_singleton] at hx; subst hx; exact .inl rfl), ?_⟩
  by_cases hl : l = []
  · exact .inl hl
  · exact .inr (.inr (r.new_lt (bufM_has hl)).1)
section
variable {P : Program} {pr : Prims} {f n : Nat} {H0 : AHeap} {lo hi : Nat} {E : Env} {Mn : Hm} {K : AS → Prop} {d : Nat} {ty : TypeId} {p : String} {a : Array Edge} {g : Option (Nat × Bool)}
theorem Sy.callWo {fo : Operand} {xs : Array Operand} {ts : Array TypeId} {k pw q : Nat} {l l' : List Nat} {M1 : Hm} {vs first cap : List Value} {v : Value} (hd : Nat.blt d n = true) (hf : ev E fo = some (.func (.func k) ⟨first⟩ ⟨cap⟩)) (hen : enters P k = true) (hx : evs E xs.toList = some vs)
    (hm : Pull Mn (bufM l q) M1) (hc : ∀ H, Hp H0 lo hi H (wrP pw q l) Mn → CallR P pr k (first ++ vs ++ cap) H (fun u H' => ∃ i : Unit, u = v ∧ WrOut H H' pw q l l')) (h : ∀ q', (∀ x ∈ l', x < 256) → l'.length ≤ 65536 → Sy n H0 lo hi ((d, v) :: E) (wrP pw q' l') (bufM l' q' ++ M1) K) :
    Sy n H0 lo hi E (wrP pw q l) Mn (StepY P pr ⟨some d, .call ⟨.value fo, xs, ts⟩, ty, p, a, g⟩ K) := by
  intro tm H u hE hH
  refine ⟨(wp_callF rfl).2 ⟨_, cop_val hE hf hen hx, (hc H hH).mono ?_⟩⟩
  rintro w H' ⟨-, rfl, hJ⟩
  obtain ⟨q', hq, h1, h2⟩ := hp_thenWo hH hm.perm hJ
  exact h q' h1 h2 _ _ (by simp [putT, u]) (hE.put (by rw [u]; exact of_blt hd) _) hq
end
theorem pull_nil {M : Hm} {q : Nat} : Pull M (bufM [] q) M := .here (A := []) (R := M)
/-- Bytes that were there are not the writer's. -/
theorem away_rd {H0 : AHeap} {p q q0 : Nat} {T : TypeId} {w : Bool} {l l0 x : List Nat} {v : Value} (hv : SlR H0 1 v x.length (ints .u8 x)) (hp0 : H0.get p = .cells (wrC l0 q0) T w) (hq : l ≠ [] → H0.next ≤ q) : Away v (WrM p q l) := fun b o m c e hm0 hw => by
  subst e
  generalize hn : x.length = n at hv
  generalize hcx : ints .u8 x = cx at hv
  cases hv with
  | emp => exact absurd rfl hm0
  | mk h1 h2 h3 =>
    rcases hw with rfl | ⟨rfl, hl⟩
    · rw [hp0] at h1
      injection h1 with h1 _ _
      subst h1
      match x, hn, hcx with
      | [], hn, _ => exact absurd hn.symm hm0
      | y :: r, hn, hcx =>
        have hm1 : 0 < m := by omega
        have e0 : ((wrC l0 q0).drop o)[0]? = some (.int .u8 (y : Int)) := by
          have : (((wrC l0 q0).drop o).take (m * 1))[0]? = some (.int .u8 (y : Int)) := by rw [h3, ← hcx]; rfl
          rw [List.getElem?_take_of_lt (by omega)] at this
          exact this
        rw [List.getElem?_drop, Nat.add_zero] at e0
        match o, e0 with
        | 0, e0 => simp only [List.getElem?_cons_zero, Option.some.injEq] at e0; unfold bufV accV at e0; split at e0 <;> simp at e0
        | 1, e0 => simp at e0
        | 2, e0 => simp at e0
        | _ + 3, e0 => simp at e0
    · have := hq hl
      have := get_live_lt (H := H0) (h := b) (by rw [h1]; rfl)
      omega
end Go.Proofs.Ytcaafoibabijgaa

/- Layer 03: what is read is written as it was. -/
namespace Go.Proofs.Ytcaafoibabijgaa
open Go Go.Am
set_option maxRecDepth 100000
set_option linter.unusedVariables false

theorem be64_beV {x : List Nat} (hx : x.length = 8) (h : ∀ c ∈ x, c < 256) : be64 (beV x) = x := by
  match x, hx with
  | [a, b, c, d, e, f, g, k], _ =>
    have ha := h a (by simp); have hb := h b (by simp); have hc := h c (by simp); have hd := h d (by simp)
    have he := h e (by simp); have hf := h f (by simp); have hg := h g (by simp); have hk := h k (by simp)
    rw [← beP_8]
    simp only [beP, beV, List.foldl, List.nil_append, List.cons_append, Nat.shiftRight_eq_div_pow]
    congr 1
    · omega
    congr 1
    · omega
    congr 1
    · omega
    congr 1
    · omega
    congr 1
    · omega
    congr 1
    · omega
    congr 1
    · omega
    congr 1
    omega
theorem next_e0 {r : Rd} {k : Nat} (h : (r.next k).e = 0) : r.e = 0 ∧ k ≤ r.l.length ∧ r.next k = ⟨r.l.drop k, 0⟩ := by
  unfold Rd.next at h ⊢
  split at h
  · rename_i hk
    exact ⟨hk.1, hk.2, by rw [if_pos hk]⟩
  · rename_i hk
    unfold Rd.bad at h
    dsimp only at h
    split at h
    · simp at h
    · exact absurd h (by assumption)
theorem got_of {r : Rd} {k : Nat} (he : r.e = 0) (hk : k ≤ r.l.length) : r.got k = r.l.take k := by
  unfold Rd.got
  rw [if_pos ⟨he, hk⟩]
theorem lt_take {l : List Nat} {k : Nat} (h : ∀ x ∈ l, x < 256) : ∀ x ∈ l.take k, x < 256 := fun x hx => h x (List.mem_of_mem_take hx)
theorem can_u {r : Rd} (h : (r.next 8).e = 0) (hl : ∀ x ∈ r.l, x < 256) : r.e = 0 ∧ r.l = be64 (rdU r) ++ (r.next 8).l := by
  obtain ⟨h1, h2, h3⟩ := next_e0 h
  refine ⟨h1, ?_⟩
  rw [h3]
  unfold rdU
  rw [got_of h1 h2, be64_beV (by rw [List.length_take]; omega) (lt_take hl), List.take_append_drop]
theorem be256_wdOf {x : List Nat} (hx : x.length = 32) (h : ∀ c ∈ x, c < 256) : be256 (wdOf x) = x := by
  have e : ∀ j, j < 4 → be64 ((wdOf x).at j) = segN x j := fun j hj => by
    have e1 : (wdOf x).at j = beV (segN x j) := by
      match j, hj with
      | 0, _ => exact seg_small hx h (by decide)
      | 1, _ => exact seg_small hx h (by decide)
      | 2, _ => exact seg_small hx h (by decide)
      | 3, _ => exact seg_small hx h (by decide)
    rw [e1, be64_beV (segN_len hx hj) (segN_lt h)]
  unfold be256
  rw [e 0 (by decide), e 1 (by decide), e 2 (by decide), e 3 (by decide)]
  unfold segN
  show (x.drop 0).take 8 ++ (x.drop 8).take 8 ++ (x.drop 16).take 8 ++ (x.drop 24).take 8 = x
  have e4 : (x.drop 24).take 8 = x.drop 24 := List.take_of_length_le (by rw [List.length_drop]; omega)
  have e3 : (x.drop 16).take 8 ++ x.drop 24 = x.drop 16 := by
    have := List.take_append_drop 8 (x.drop 16)
    rwa [List.drop_drop] at this
  have e2 : (x.drop 8).take 8 ++ x.drop 16 = x.drop 8 := by
    have := List.take_append_drop 8 (x.drop 8)
    rwa [List.drop_drop] at this
  have e1 : (x.drop 0).take 8 ++ x.drop 8 = x := by rw [List.drop_zero, List.take_append_drop]
  rw [e4, List.append_assoc, List.append_assoc, e3, e2, e1]
theorem can_w {r : Rd} (h : (r.next 32).e = 0) (hl : ∀ x ∈ r.l, x < 256) : r.e = 0 ∧ r.l = be256 (rdW r) ++ (r.next 32).l := by
  obtain ⟨h1, h2, h3⟩ := next_e0 h
  refine ⟨h1, ?_⟩
  rw [h3]
  unfold rdW
  rw [got_of h1 h2, be256_wdOf (by rw [List.length_take]; omega) (lt_take hl), List.take_append_drop]
theorem can_cnt {m : Nat} {r : Rd} (h : (rdCnt m r).2.e = 0) (hl : ∀ x ∈ r.l, x < 256) : r.e = 0 ∧ r.l = be64 (rdCnt m r).1 ++ (rdCnt m r).2.l ∧ (rdCnt m r).1 ≤ m := by
  unfold rdCnt at h ⊢
  by_cases h1 : (r.next 8).e = 0 ∧ m < rdU r
  · rw [if_pos h1] at h; simp at h
  · rw [if_neg h1] at h ⊢
    by_cases h2 : (r.next 8).e ≠ 0
    · rw [if_pos h2] at h; exact absurd h h2
    · rw [if_neg h2] at h ⊢
      obtain ⟨a, b⟩ := can_u (by omega) hl
      exact ⟨a, b, by dsimp only; omega⟩
theorem can_blob {r : Rd} (h : (rdBlob r).2.e = 0) (hl : ∀ x ∈ r.l, x < 256) : r.e = 0 ∧ r.l = blobN (rdBlob r).1 ++ (rdBlob r).2.l := by
  unfold rdBlob at h ⊢
  by_cases h1 : (r.next 8).e = 0 ∧ 65536 < rdU r
  · rw [if_pos h1] at h; simp at h
  · rw [if_neg h1] at h ⊢
    by_cases h2 : (r.next 8).e ≠ 0
    · rw [if_pos h2] at h; exact absurd h h2
    · rw [if_neg h2] at h ⊢
      by_cases h3 : rdU r ≤ (r.next 8).l.length
      · rw [if_pos h3] at h ⊢
        obtain ⟨a, b⟩ := can_u (by omega) hl
        refine ⟨a, ?_⟩
        have e : ((r.next 8).l.take (rdU r)).length = rdU r := by rw [List.length_take]; omega
        show r.l = blobN ((r.next 8).l.take (rdU r)) ++ (r.next 8).l.drop (rdU r)
        unfold blobN
        rw [e, List.append_assoc, List.take_append_drop]
        exact b
      · rw [if_neg h3] at h; simp at h
end Go.Proofs.Ytcaafoibabijgaa
