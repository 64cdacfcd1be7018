/- Steps as bytes and back, the laws. -/
import Derived.Test.YtjimjolfnimimaaDoorProofB
import Derived.Test.YtjimjolfnimimaaDoorCodecB
set_option linter.unusedSimpArgs false
set_option linter.unusedVariables false
/- Layer 06: the program's Put. -/
namespace Go.Proofs.YtjimjolfnimimaaDoor
open Go Go.Am
set_option maxRecDepth 100000
set_option linter.unusedVariables false

def stepB (s : Stp) : List Nat := hshs [s.key, s.old, s.mask] ++ (u64s [s.l.length] ++ hshs s.l)
/-- What the writing of a step does: what is written, the error so far. -/
def stepW (x : List Nat × Nat) (s : Stp) : List Nat × Nat :=
  ((wrA (wrA (wrA x.1 (hshs [s.key, s.old, s.mask])).1 (u64s [s.l.length])).1 (hshs s.l)).1, max (max (max x.2 (wrA x.1 (hshs [s.key, s.old, s.mask])).2) (wrA (wrA x.1 (hshs [s.key, s.old, s.mask])).1 (u64s [s.l.length])).2) (wrA (wrA (wrA x.1 (hshs [s.key, s.old, s.mask])).1 (u64s [s.l.length])).1 (hshs s.l)).2)
def putGo (x : List Nat × Nat) : List Stp → Option (List Nat × Nat)
  | [] => some x
  | s :: r => if rightB s.mask s.l = true then putGo (stepW x s) r else none
def putS (ss : List Stp) : List Nat × Nat := if 64 < ss.length then ([], 6) else match putGo (wrA [] (u64s [ss.length])) ss with
  | none => ([], 21)
  | some x => if x.2 ≠ 0 then ([], x.2) else (x.1, 0)
theorem wrA_cases (l x : List Nat) : (wrA l x = (l ++ x, 0) ∧ (l.length ≤ 65536 → l.length + x.length ≤ 65536)) ∨ (wrA l x = (l, 6) ∧ 65536 < l.length + x.length) := by
  unfold wrA
  split
  · exact .inr ⟨rfl, by omega⟩
  · exact .inl ⟨rfl, by omega⟩
theorem wrA_len {l x : List Nat} (h : l.length ≤ 65536) : (wrA l x).1.length ≤ 65536 := by
  rcases wrA_cases l x with e | e <;> rw [e.1]
  · rw [List.length_append]; exact e.2 h
  · exact h
theorem wrA_e (l x : List Nat) : (wrA l x).2 ≤ 6 := by rcases wrA_cases l x with h | h <;> rw [h.1] <;> simp
theorem stepW_e {x : List Nat × Nat} {s : Stp} (h : x.2 ≤ 6) : (stepW x s).2 ≤ 6 := by
  have h1 := wrA_e x.1 (hshs [s.key, s.old, s.mask])
  have h2 := wrA_e (wrA x.1 (hshs [s.key, s.old, s.mask])).1 (u64s [s.l.length])
  have h3 := wrA_e (wrA (wrA x.1 (hshs [s.key, s.old, s.mask])).1 (u64s [s.l.length])).1 (hshs s.l)
  show max (max (max _ _) _) _ ≤ 6
  omega
theorem wrA_fit {l x : List Nat} (h : l.length + x.length ≤ 65536) : wrA l x = (l ++ x, 0) := if_neg (by omega)
def rputGo (B : List Nat) : List Stp → Option (List Nat)
  | [] => some B
  | s :: r => if rightB s.mask s.l = true then rputGo (B ++ stepB s) r else none
def rputS (ss : List Stp) : List Nat × Nat := if 64 < ss.length then ([], 6) else match rputGo (u64s [ss.length]) ss with
  | none => ([], 21)
  | some B => if 65536 < B.length then ([], 6) else (B, 0)
def PutI (x : List Nat × Nat) (B : List Nat) : Prop := (x.2 = 0 ∧ x.1 = B ∧ B.length ≤ 65536) ∨ (x.2 = 6 ∧ x.1.length ≤ 65536 ∧ 65536 < B.length)
theorem PutI.step {x : List Nat × Nat} {B : List Nat} {s : Stp} (h : PutI x B) : PutI (stepW x s) (B ++ stepB s) := by
  have hB : (B ++ stepB s).length = B.length + ((hshs [s.key, s.old, s.mask]).length + ((u64s [s.l.length]).length + (hshs s.l).length)) := by simp [stepB]
  have e1 := wrA_e x.1 (hshs [s.key, s.old, s.mask])
  have e2 := wrA_e (wrA x.1 (hshs [s.key, s.old, s.mask])).1 (u64s [s.l.length])
  have e3 := wrA_e (wrA (wrA x.1 (hshs [s.key, s.old, s.mask])).1 (u64s [s.l.length])).1 (hshs s.l)
  rcases h with ⟨h1, h2, h3⟩ | ⟨h1, h2, h3⟩
  · subst h2
    unfold stepW at *
    rw [h1]
    rcases wrA_cases x.1 (hshs [s.key, s.old, s.mask]) with ⟨a1, a2⟩ | ⟨a1, a2⟩
    · simp only [a1] at e1 e2 e3 ⊢
      have a3 := a2 h3
      rcases wrA_cases (x.1 ++ hshs [s.key, s.old, s.mask]) (u64s [s.l.length]) with ⟨b1, b2⟩ | ⟨b1, b2⟩
      · simp only [b1] at e2 e3 ⊢
        have b3 := b2 (by rw [List.length_append]; exact a3)
        rw [List.length_append] at b3
        rcases wrA_cases (x.1 ++ hshs [s.key, s.old, s.mask] ++ u64s [s.l.length]) (hshs s.l) with ⟨c1, c2⟩ | ⟨c1, c2⟩
        · simp only [c1] at e3 ⊢
          have c3 := c2 (by rw [List.length_append, List.length_append]; exact b3)
          rw [List.length_append, List.length_append] at c3
          exact .inl ⟨rfl, by simp [stepB, List.append_assoc], by omega⟩
        · simp only [c1] at e3 ⊢
          rw [List.length_append, List.length_append] at c2
          exact .inr ⟨rfl, by rw [List.length_append, List.length_append]; exact b3, by omega⟩
      · simp only [b1] at e2 e3 ⊢
        rw [List.length_append] at b2
        refine .inr ⟨?_, wrA_len (by rw [List.length_append]; exact a3), by omega⟩
        show max (max (max 0 0) 6) _ = 6
        omega
    · simp only [a1] at e1 e2 e3 ⊢
      refine .inr ⟨?_, wrA_len (wrA_len h3), by omega⟩
      show max (max (max 0 6) _) _ = 6
      omega
  · refine .inr ⟨?_, wrA_len (wrA_len (wrA_len h2)), by omega⟩
    show max (max (max x.2 _) _) _ = 6
    omega
theorem putI_go : ∀ (ss : List Stp) {x : List Nat × Nat} {B : List Nat}, PutI x B → (putGo x ss = none ∧ rputGo B ss = none) ∨ ∃ y C, putGo x ss = some y ∧ rputGo B ss = some C ∧ PutI y C
  | [], x, B, h => .inr ⟨x, B, rfl, rfl, h⟩
  | s :: r, x, B, h => by
    unfold putGo rputGo
    by_cases hr : rightB s.mask s.l = true
    · rw [if_pos hr, if_pos hr]; exact putI_go r h.step
    · rw [if_neg hr, if_neg hr]; exact .inl ⟨rfl, rfl⟩
theorem put_eq (ss : List Stp) : putS ss = rputS ss := by
  unfold putS rputS
  by_cases h : 64 < ss.length
  · rw [if_pos h, if_pos h]
  · rw [if_neg h, if_neg h]
    have h0 : PutI (wrA [] (u64s [ss.length])) (u64s [ss.length]) := by
      rw [wrA_fit (by simp [u64s_length])]
      exact .inl ⟨rfl, by simp, by simp [u64s_length]⟩
    rcases putI_go ss h0 with ⟨a, b⟩ | ⟨y, C, a, b, c⟩
    · rw [a, b]
    · rw [a, b]
      rcases c with ⟨c1, c2, c3⟩ | ⟨c1, c2, c3⟩
      · simp only [c1]; rw [if_neg (by omega), if_neg (by omega), c2]
      · simp only [c1]; rw [if_pos (by omega), if_pos c3]
theorem stepB_k {a b : Stp} (h : a.k = b.k) : stepB a = stepB b := by
  obtain ⟨a1, a2, a3, a4, a5⟩ := a
  obtain ⟨b1, b2, b3, b4, b5⟩ := b
  simp only [Stp.k, Prod.mk.injEq] at h
  obtain ⟨rfl, rfl, rfl, rfl⟩ := h
  rfl
theorem rputGo_k : ∀ {a b : List Stp} (B : List Nat), a.map Stp.k = b.map Stp.k → rputGo B a = rputGo B b
  | [], [], _, _ => rfl
  | [], _ :: _, _, h => by simp at h
  | _ :: _, [], _, h => by simp at h
  | a :: x, b :: y, B, h => by
    simp only [List.map_cons, List.cons.injEq] at h
    have e : rightB a.mask a.l = rightB b.mask b.l := by
      have := h.1
      simp only [Stp.k, Prod.mk.injEq] at this
      rw [this.2.2.1, this.2.2.2]
    unfold rputGo
    rw [e, stepB_k h.1, rputGo_k _ h.2]
theorem rputS_k {a b : List Stp} (h : a.map Stp.k = b.map Stp.k) : rputS a = rputS b := by
  have hl : a.length = b.length := by simpa using congrArg List.length h
  unfold rputS
  rw [hl, rputGo_k _ h]
end Go.Proofs.YtjimjolfnimimaaDoor

/- Layer 06: the program's Put, walked. -/
namespace Go.Proofs.YtjimjolfnimimaaDoor
open Go Go.Am
set_option maxRecDepth 100000
set_option linter.unusedVariables false

section
variable {P : Program} {pr : Prims} {n : Nat} {H0 : AHeap} {lo hi : Nat} {E : Env} {Mo Mn : Hm} {K : AS → Prop} {d : Nat} {ty : TypeId} {p : String} {aa : Array Edge} {g : Option (Nat × Bool)} {ts : Array TypeId}
theorem max_int4 {P : Program} {k : IntKind} {a b c e : Nat} {ts : Array TypeId} {t : TypeId} : prunP P (Builtin.max_ ts t ⟨[.int k (a : Int), .int k (b : Int), .int k (c : Int), .int k (e : Int)]⟩) = some (.int k ((max (max (max a b) c) e : Nat) : Int)) := by
  have m2 : ∀ a b : Nat, (if a < b then (b : Int) else (a : Int)) = ((max a b : Nat) : Int) := fun a b => by split <;> omega
  have e : ∀ a b : Nat, Builtin.max2 (.int k (a : Int)) (.int k (b : Int)) = pure (.int k ((max a b : Nat) : Int)) := fun a b => by
    simp only [Builtin.max2]
    rw [← m2]
    norm_cast
  simp only [prunP, Builtin.max_, List.foldlM, e, pure_bind]
  simp [plainV]
theorem Sy.max4 {x y z w : Operand} {k : IntKind} {a b c e : Nat} (hd : Nat.blt d n = true) (hx : ev E x = some (.int k (a : Int))) (hy : ev E y = some (.int k (b : Int))) (hz : ev E z = some (.int k (c : Int))) (hw : ev E w = some (.int k (e : Int))) (h : Sy n H0 lo hi ((d, .int k ((max (max (max a b) c) e : Nat) : Int)) :: E) Mo Mn K) :
    Sy n H0 lo hi E Mo Mn (StepY P pr ⟨some d, .call ⟨.builtin .max, #[x, y, z, w], ts⟩, ty, p, aa, g⟩ K) :=
  .pureV rfl hd rfl (fun tm hE => by
    have h1 : pop P (aval tm) ⟨some d, .call ⟨.builtin .max, #[x, y, z, w], ts⟩, ty, p, aa, g⟩ = if ([x, y, z, w].all fun z => plainV (aval tm z)) = true then prunP P (Builtin.max_ ts ty ⟨[x, y, z, w].map (aval tm)⟩) else none := rfl
    rw [h1, if_pos (by simp [hE.ev hx, hE.ev hy, hE.ev hz, hE.ev hw, plainV])]
    simp only [List.map_cons, List.map_nil, hE.ev hx, hE.ev hy, hE.ev hz, hE.ev hw]
    exact max_int4) h
end
theorem nbsH {m d : Nat} {E : Env} {ty : TypeId} {p : String} {a : Array Edge} {g : Option (Nat × Bool)} {ps : Array (Nat × Operand)} (hs : List Hsh) (hm : hs.length = m) (h1 : m ≤ 1000) (hx : evp E ps.toList = some ((hs.zipIdx 0).map fun q => (q.2, hV q.1))) :
    NewY Tryd.prog E ⟨some d, .buildSlice 114 m ps, ty, p, a, g⟩ (.cells (hcs hs) 44 true) (fun h => .slice (some ⟨h, 0, none⟩) m m) :=
  newY_bs (sz := 32) Tryd.underlying114 sz44 zr44 rfl (by omega) hx (by
    have := fill_all (sz := 32) (hs.map hC) 0 [] (List.replicate m (List.replicate 32 (Value.int .u8 0))).flatten ((hs.zipIdx 0).map fun q => (q.2, hV q.1)) (by simp) (by simp [hm]) (by
      rw [List.zipIdx_map, List.map_map]; rfl) (by intro w hw; obtain ⟨h, _, rfl⟩ := List.mem_map.1 hw; exact hC_length h)
    rw [List.nil_append, List.nil_append] at this; exact this)
theorem NsAt.one {H : AHeap} {b c n T : Nat} {w : Bool} (h : H.get b = .cells (ints .u64 [n]) T w) : NsAt H (.slice (some ⟨b, 0, none⟩) 1 c) [n] := ⟨b, c, T, w, rfl, h⟩
theorem HsAt.lit {H : AHeap} {b c m T : Nat} {w : Bool} {hs : List Hsh} (hm : hs.length = m) (h : H.get b = .cells (hcs hs) T w) : HsAt H (.slice (some ⟨b, 0, none⟩) m c) hs := ⟨some ⟨b, 0, none⟩, c, by rw [hm], .inr ⟨b, T, w, rfl, h⟩⟩
theorem putGo_none {ss : List Stp} {x y : List Nat × Nat} {i : Nat} {s : Stp} (h : putGo x ss = putGo y (ss.drop i)) (hs : ss[i]? = some s) (hr : rightB s.mask s.l = false) : putGo x ss = none := by
  rw [h, List.drop_eq_getElem_cons (List.getElem?_eq_some_iff.1 hs).1, (List.getElem?_eq_some_iff.1 hs).2, putGo, hr]; rfl
theorem putGo_step {ss : List Stp} {x y : List Nat × Nat} {i : Nat} {s : Stp} (h : putGo x ss = putGo y (ss.drop i)) (hs : ss[i]? = some s) (hr : rightB s.mask s.l = true) : putGo x ss = putGo (stepW y s) (ss.drop (i + 1)) := by
  rw [h, List.drop_eq_getElem_cons (List.getElem?_eq_some_iff.1 hs).1, (List.getElem?_eq_some_iff.1 hs).2, putGo, if_pos hr]
theorem putGo_end {ss : List Stp} {x y : List Nat × Nat} (h : putGo x ss = putGo y (ss.drop ss.length)) : putGo x ss = some y := by
  rw [h, List.drop_length]; rfl
theorem sk_mask {s : Stp} {T : Nat} {w : Bool} : aLoad Tryd.prog 44 (.cells s.c T w) 64 = some (hV s.mask) :=
  ld_agg (cs' := hC s.mask) ag44 sz44 (by rw [s.c_length]; omega) (by rw [Stp.c, ← List.append_assoc, List.drop_left' (by simp), ← hC_length s.mask, List.take_left])
theorem sk_v {s : Stp} {T : Nat} {w : Bool} : aLoad Tryd.prog 114 (.cells s.c T w) (0 + 64 + 32) = some s.v :=
  ld_one ag114 (by simp [Stp.c, List.drop_append, List.take_append, List.getElem?_append, lay, hC_length, ints_length, ints_drop, ints_take, ints_append, List.drop_of_length_le, List.take_of_length_le, List.map_append, List.set_append, Value.cells])
theorem k_wHash' (p q : Nat) (l : List Nat) (hs : List Hsh) (X : List Nat × Nat) (v : Value) (H : AHeap) (hX : wrA l (hshs hs) = X) (hw : WrAt H p l q) (hv : HsAt H v hs) (hn : hs.length ≤ 4294967296) :
    CallR Tryd.prog noPrims 61 [.pointer (some ⟨p, 0, none⟩), v] H (fun u H' => ∃ i : Unit, u = .int .i64 ((X.2 : Nat) : Int) ∧ WrOut H H' p q l X.1) := by
  subst hX; exact k_wHash p q l hs v H hw hv hn
theorem k_wUint' (p q : Nat) (l ns : List Nat) (X : List Nat × Nat) (v : Value) (H : AHeap) (hX : wrA l (u64s ns) = X) (hw : WrAt H p l q) (hv : NsAt H v ns) (h64 : ∀ x ∈ ns, x < 18446744073709551616) (hn : ns.length ≤ 1000000) :
    CallR Tryd.prog noPrims 54 [.pointer (some ⟨p, 0, none⟩), v] H (fun u H' => ∃ i : Unit, u = .int .i64 ((X.2 : Nat) : Int) ∧ WrOut H H' p q l X.1) := by
  subst hX; exact k_wUint p q l ns v H hw hv h64 hn
set_option maxHeartbeats 4000000 in
theorem c_pPut (ss : List Stp) (v1 : Value) (H : AHeap) (h1 : StsAt 118 H v1 ss) (hn1 : ss.length ≤ 4398046511104) : CallR Tryd.prog noPrims 24 [v1] H (fun u H' => ∃ i : Nat × Value, Vw i.1 (putS ss).1 i.2 (putS ss).1 ∧ u = .tuple ⟨[i.2, .int .i64 (((putS ss).2 : Nat) : Int)]⟩ ∧ Hp H 0 0 H' [] (bufM (putS ss).1 i.1)) := by
  obtain ⟨⟨a1, c1, rfl, h1⟩, hss⟩ := h1
  refine CallR.sy (n := 59) Tryd.func24 rfl rfl rfl ?_
  repeat' (first
    | (with_reducible refine Sy.seq ?_)
    | (with_reducible refine Sy.regionL ?_)
    | (with_reducible refine Sy.opsnil ?_)
    | (with_reducible refine Sy.go ?_)
    | (with_reducible refine Sy.nrm ?_)
    | ((with_reducible apply Sy.assign); exact rfl; exact rfl)
    | ((with_reducible apply Sy.move); exact rfl; exact rfl)
    | ((with_reducible apply Sy.lenS); exact rfl; exact Tryd.underlying54; exact rfl)
    | ((with_reducible apply Sy.bin (op := .gtr) (t := 3)); exact rfl; exact rfl; exact rfl; exact b_gtr)
    | ((with_reducible apply Sy.bin (op := .gtr) (t := 3)); exact rfl; exact rfl; exact rfl; exact bz_gtr)
    | ((with_reducible apply Sy.conv (D := 0) (T := .bool)); exact rfl; exact Tryd.underlying3; exact Tryd.underlying22; exact rfl; exact (wrap_u64x (by omega)))
    | ((with_reducible apply Sy.conv (D := 0) (T := .bool)); exact rfl; exact Tryd.underlying3; exact Tryd.underlying22; exact rfl; exact wrap_u64 _)
    | ((with_reducible apply Sy.lenS); exact rfl; exact Tryd.underlying114; exact rfl)
    | ((with_reducible apply Sy.callN (k := 53)); exact rfl; exact rfl; exact en53; exact rfl; (intro H' hp; exact k_NewWriter H'); rintro p -)
    | ((with_reducible apply Sy.callW (k := 54) (pw := p) (q := 0) (l := [])); exact rfl; exact rfl; exact en54; exact rfl; exact pullW1; (intro H' hp; exact k_wUint p 0 [] [ss.length] _ H' (WrAt.new hp hasT) (NsAt.one (hp.getN hasT)) (by simp; omega) (by simp)); rintro q1 ht1 hl1)
    | ((with_reducible apply Sy.newY (o := ⟨some 16, .buildSlice 162 _ _, _, _, _, _⟩)); exact rfl; exact rfl; exact (nbsI [_] Tryd.underlying162 sz22 zr22 rfl (by decide) rfl rfl); intro q16)
    | ((with_reducible apply Sy.newY (o := ⟨some 16, .buildSlice 162 _ _, _, _, _, _⟩)); exact rfl; exact rfl; exact (nbs1 Tryd.underlying162 sz22 zr22 rfl (by decide) rfl rfl); intro q16)
    | ((with_reducible apply Sy.newY (o := ⟨some 16, .buildSlice 162 _ _, _, _, _, _⟩)); exact rfl; exact rfl; (· exact (newY_bs Tryd.underlying162 sz22 zr22 rfl (by decide) rfl (by first | rfl | (simp [List.drop_append, List.take_append, List.getElem?_append, lay, hC_length, ints_length, ints_drop, ints_take, ints_append, List.drop_of_length_le, List.take_of_length_le, List.map_append, List.set_append, Value.cells]; done)))); intro q16)
    | (with_reducible refine Sy.skip ?_)
    | (with_reducible refine Sy.ret ?_)
    | (with_reducible refine Sy.block ?_)
    | (with_reducible refine Sy.aret ?_)
    | ((with_reducible apply Sy.ite); (case hx => exact rfl); all_goals (intro hc; try (exfalso; omega))))
  · have e : putS ss = ([], 6) := by unfold putS; rw [if_pos hc]
    rw [e]
    exact .fin [_, _] (.inr rfl) ⟨rfl, rfl, trivial⟩ fun H' hp => ⟨(0, .slice none 0 0), .inl ⟨rfl, rfl⟩, rfl, hp⟩
  have hP : putS ss = match putGo (wrA [] (u64s [ss.length])) ss with
    | none => ([], 21)
    | some x => if x.2 ≠ 0 then ([], x.2) else (x.1, 0) := by
    unfold putS; rw [if_neg hc]; try (cases putGo (wrA [] (u64s [ss.length])) ss <;> rfl)
  have he0 := wrA_e [] (u64s [ss.length])
  generalize putS ss = R at hP ⊢
  generalize wrA [] (u64s [ss.length]) = x0 at ht1 hl1 hP he0 ⊢
  refine Sy.loop (ι := Nat × (List Nat × Nat) × Nat) (fun i => ss.length - i.1) (fun i => [(4, .pointer (some ⟨p, 0, none⟩)), (5, .int .i64 ((i.2.1.2 : Nat) : Int)), (18, .slice a1 ss.length c1), (19, .int .i64 ((ss.length : Nat) : Int)), (20, .int .i64 (i.1 : Nat))]) (fun _ => []) (fun i => wrO p i.2.2 i.2.1.1) (fun i => i.1 ≤ ss.length ∧ putGo x0 ss = putGo i.2.1 (ss.drop i.1) ∧ (∀ x ∈ i.2.1.1, x < 256) ∧ i.2.1.1.length ≤ 65536 ∧ i.2.1.2 ≤ 6) (0, x0, q1) ⟨Nat.zero_le _, rfl, ht1, hl1, he0⟩ ⟨rfl, rfl, rfl, rfl, rfl, trivial⟩ (fun H h => h.less (List.sublist_append_left _ _)) ?_
  rintro ⟨i, ⟨L, e⟩, q⟩ ⟨hi, hI, ht, hl, he⟩
  dsimp only at hi hI ht hl he ⊢
  by_cases hlt : i < ss.length
  · obtain ⟨s, hs⟩ : ∃ s, ss[i]? = some s := ⟨ss[i], List.getElem?_eq_getElem hlt⟩
    rcases h1 with rfl | ⟨b1, w1, rfl, hb1⟩
    · simp at hlt
    obtain ⟨hsv, hsl⟩ := hss s (List.mem_of_getElem? hs)
    obtain ⟨sa, sc, hsve, -⟩ := hsv.at
    obtain ⟨key, old, mask, sl, sv⟩ := s
    dsimp only at hsv hsl hsve
    subst hsve
    obtain ⟨X1, hX1⟩ : ∃ X, wrA L (hshs [key, old, mask]) = X := ⟨_, rfl⟩
    obtain ⟨X2, hX2⟩ : ∃ X, wrA X1.1 (u64s [sl.length]) = X := ⟨_, rfl⟩
    obtain ⟨X3, hX3⟩ : ∃ X, wrA X2.1 (hshs sl) = X := ⟨_, rfl⟩
    have hstep : stepW (L, e) ⟨key, old, mask, sl, .slice sa sl.length sc⟩ = (X3.1, max (max (max e X1.2) X2.2) X3.2) := by
      show (_, _) = _
      rw [hX1, hX2, hX3]
    repeat' (first
    | (with_reducible refine Sy.seq ?_)
    | (with_reducible refine Sy.regionL ?_)
    | (with_reducible refine Sy.opsnil ?_)
    | (with_reducible refine Sy.go ?_)
    | (with_reducible refine Sy.nrm ?_)
    | ((with_reducible refine Sy.ld0 (t := 118) rfl rfl hb1 rfl (by simp only [List.forall_mem_cons, List.not_mem_nil, false_implies, implies_true, and_true, ne_eq]; first | done | omega | (repeat (first | with_reducible assumption | (refine And.intro ?_ ?_)))) (st_all ag118 sz118 hs (by omega)) ?_))
    | ((with_reducible refine Sy.stNa (t := 118) rfl rfl sz118 (by simp [Stp.c_length]) (oneSt rfl) (by repeat (first | exact Turn.here | apply Turn.there | apply Turn.app)) (by simp) setSt ?_))
    | ((with_reducible refine Sy.ldN (t := 116) rfl rfl (by repeat (first | exact Has.here | apply Has.there | apply Has.app)) (sk_pr ag116 sz116) ?_))
    | ((with_reducible apply Sy.drawL (id := 10) 26 [(14, 10), (22, 10), (22, 18)] (fun hi h => h = q7)); (case hp => kernel_rfl); (case hN => exact rfl); intro base hbase hM; try simp only [List.forall_mem_cons, List.forall_mem_append, List.not_mem_nil, false_implies, implies_true, and_true] at hM)
    | ((with_reducible refine Sy.ldN (t := 44) rfl rfl (by repeat (first | exact Has.here | apply Has.there | apply Has.app)) sk_key ?_))
    | ((with_reducible refine Sy.ldN (t := 44) rfl rfl (by repeat (first | exact Has.here | apply Has.there | apply Has.app)) sk_old ?_))
    | ((with_reducible refine Sy.ldN (t := 44) rfl rfl (by repeat (first | exact Has.here | apply Has.there | apply Has.app)) sk_mask ?_))
    | ((with_reducible refine Sy.ldN (t := 114) rfl rfl (by repeat (first | exact Has.here | apply Has.there | apply Has.app)) sk_v ?_))
    | ((with_reducible apply Sy.dnew (o := ⟨some 37, .buildSlice 114 _ _, _, _, _, _⟩)); exact wantY_none; exact rfl; exact rfl; exact rfl; exact rfl; exact rfl; exact (nbsH [key, old, mask] rfl (by decide) rfl); intro q37 hq37)
    | ((with_reducible apply Sy.assign); exact rfl; exact rfl)
    | ((with_reducible apply Sy.move); exact rfl; exact rfl)
    | ((with_reducible apply Sy.lenS); exact rfl; exact Tryd.underlying54; exact rfl)
    | ((with_reducible apply Sy.conv (D := 0) (T := .bool)); exact rfl; exact Tryd.underlying3; exact Tryd.underlying22; exact rfl; exact (wrap_u64x (by omega)))
    | ((with_reducible apply Sy.conv (D := 0) (T := .bool)); exact rfl; exact Tryd.underlying3; exact Tryd.underlying22; exact rfl; exact wrap_u64 _)
    | ((with_reducible apply Sy.bin (op := .lss) (t := 3)); exact rfl; exact rfl; exact rfl; exact b_lss)
    | ((with_reducible apply Sy.bin (op := .lss) (t := 3)); exact rfl; exact rfl; exact rfl; exact bz_lss)
    | ((with_reducible apply Sy.ia (t := 54)); exact rfl; exact rfl; exact rfl; exact (ia_sl Tryd.underlying54 sz118 (by omega)))
    | ((with_reducible apply Sy.fa (t := 118) (i := 2)); exact rfl; exact rfl; exact fa118_2 _ _)
    | ((with_reducible apply Sy.un (op := .not)); exact rfl; exact rfl; exact un_notT)
    | ((with_reducible apply Sy.un (op := .not)); exact rfl; exact rfl; exact un_notF)
    | ((with_reducible apply Sy.un (op := .not)); exact rfl; exact rfl; exact un_notD)
    | ((with_reducible apply Sy.un (op := .not)); exact rfl; exact rfl; exact un_not)
    | ((with_reducible apply Sy.fa (t := 118) (i := 0)); exact rfl; exact rfl; exact fa118_0 _ _)
    | ((with_reducible apply Sy.fa (t := 118) (i := 1)); exact rfl; exact rfl; exact fa118_1 _ _)
    | ((with_reducible apply Sy.fa (t := 116) (i := 0)); exact rfl; exact rfl; exact fa116_0 _ _)
    | ((with_reducible apply Sy.fa (t := 116) (i := 1)); exact rfl; exact rfl; exact fa116_1 _ _)
    | ((with_reducible apply Sy.lenS); exact rfl; exact Tryd.underlying114; exact rfl)
    | ((with_reducible apply Sy.bin (op := .add) (t := 3)); exact rfl; exact rfl; exact rfl; exact (b_add (by omega)))
    | ((with_reducible apply Sy.bin (op := .add) (t := 3)); exact rfl; exact rfl; exact rfl; exact (bz_add (by omega) (by omega)))
    | ((with_reducible apply Sy.call0 (k := 60)); exact rfl; exact rfl; exact en60; exact rfl; (intro H' hp; exact c_Right mask _ sl H' (hsv.of hp).at hsl))
    | ((with_reducible apply Sy.dgo); (· first | exact wantY_none); (· intro hcls; cases hcls); exact rfl; exact rfl)
    | ((with_reducible apply Sy.dwr); (case hw => first | exact wantY_none); (case hc => intro hcls; cases hcls); (case h1 => exact rfl); (case hk => exact .consN (b := q7) hasT .nil); (case hS => intro h hh; subst hh; exact ⟨_, List.mem_singleton.2 rfl⟩))
    | ((with_reducible apply Sy.dand); (case hk => exact .consN (b := q7) hasT .nil))
    | ((with_reducible apply Sy.callW (k := 61) (pw := p) (q := q) (l := L)); exact rfl; exact rfl; exact en61; exact rfl; exact pullW; (intro H' hp; exact k_wHash' p q L [key, old, mask] X1 _ H' hX1 (PullW.wr pullW hp ht hl) (HsAt.lit rfl (hp.getN hasT)) (by simp)); rintro q2 ht2 hl2)
    | ((with_reducible apply Sy.callW (k := 54) (pw := p) (q := q2) (l := X1.1)); exact rfl; exact rfl; exact en54; exact rfl; exact pullW; (intro H' hp; exact k_wUint' p q2 _ [sl.length] X2 _ H' hX2 (PullW.wr pullW hp ht2 hl2) (NsAt.one (hp.getN hasT)) (by simp; omega) (by simp)); rintro q3 ht3 hl3)
    | ((with_reducible apply Sy.callW (k := 61) (pw := p) (q := q3) (l := X2.1)); exact rfl; exact rfl; exact en61; exact rfl; exact pullW; (intro H' hp; exact k_wHash' p q3 _ sl X3 _ H' hX3 (PullW.wr pullW hp ht3 hl3) (hsv.of hp).at (by have := right_len (show rightB mask sl = true by simpa using hc); have := bitTo_le mask 256; omega)); rintro q4 ht4 hl4)
    | ((with_reducible apply Sy.max4); exact rfl; exact rfl; exact rfl; exact rfl; exact rfl)
    | ((with_reducible apply Sy.newY (o := ⟨some 7, .alloc 118, _, _, _, _⟩)); exact rfl; exact rfl; exact nwz118; intro q7)
    | ((with_reducible apply Sy.dnew (o := ⟨some 37, .buildSlice 114 _ _, _, _, _, _⟩)); (· first | exact wantY_none); exact rfl; exact rfl; exact rfl; exact rfl; exact rfl; (· exact (newY_bs Tryd.underlying114 sz44 zr44 rfl (by decide) rfl (by first | rfl | (simp [List.drop_append, List.take_append, List.getElem?_append, lay, hC_length, ints_length, ints_drop, ints_take, ints_append, List.drop_of_length_le, List.take_of_length_le, List.map_append, List.set_append, Value.cells]; done)))); intro q37 hq37)
    | ((with_reducible apply Sy.dnew (o := ⟨some 45, .buildSlice 162 _ _, _, _, _, _⟩)); (· first | exact wantY_none); exact rfl; exact rfl; exact rfl; exact rfl; exact rfl; exact (nbsI [_] Tryd.underlying162 sz22 zr22 rfl (by decide) rfl rfl); intro q45 hq45)
    | ((with_reducible apply Sy.dnew (o := ⟨some 45, .buildSlice 162 _ _, _, _, _, _⟩)); (· first | exact wantY_none); exact rfl; exact rfl; exact rfl; exact rfl; exact rfl; exact (nbs1 Tryd.underlying162 sz22 zr22 rfl (by decide) rfl rfl); intro q45 hq45)
    | ((with_reducible apply Sy.dnew (o := ⟨some 45, .buildSlice 162 _ _, _, _, _, _⟩)); (· first | exact wantY_none); exact rfl; exact rfl; exact rfl; exact rfl; exact rfl; (· exact (newY_bs Tryd.underlying162 sz22 zr22 rfl (by decide) rfl (by first | rfl | (simp [List.drop_append, List.take_append, List.getElem?_append, lay, hC_length, ints_length, ints_drop, ints_take, ints_append, List.drop_of_length_le, List.take_of_length_le, List.map_append, List.set_append, Value.cells]; done)))); intro q45 hq45)
    | (with_reducible refine Sy.skip ?_)
    | (with_reducible refine Sy.ret ?_)
    | (with_reducible refine Sy.block ?_)
    | (with_reducible refine Sy.aret ?_)
    | (with_reducible refine Sy.inrm ?_)
    | (with_reducible refine Sy.iret ?_)
    | (with_reducible refine Sy.rret ?_)
    | (with_reducible refine Sy.dend ?_)
    | ((with_reducible apply Sy.dgo); (· first | exact wantY_none); (· intro hcls; cases hcls); exact rfl; exact rfl)
    | ((with_reducible apply Sy.dld); (· first | exact wantY_none); exact rfl; (· first | omega); exact rfl)
    | ((with_reducible apply Sy.ite); (case hx => exact rfl); all_goals (intro hc; try (exfalso; omega)))
    | ((with_reducible apply Sy.iteB); (case hx => exact rfl); all_goals intro hc))
    · have hr : rightB mask sl = false := by simpa using hc
      rw [putGo_none hI hs hr] at hP
      rw [hP]
      exact .fin [_, _] (.inr rfl) ⟨rfl, rfl, trivial⟩ fun H' hp => ⟨(0, .slice none 0 0), .inl ⟨rfl, rfl⟩, rfl, hp.less (List.nil_sublist _)⟩
    have hr : rightB mask sl = true := by simpa using hc
    refine Sy.rnrm (i + 1, (X3.1, max (max (max e X1.2) X2.2) X3.2), q4) ⟨by omega, by rw [← hstep]; exact putGo_step hI hs hr, ht4, hl4, by rw [← hstep]; exact stepW_e he⟩ (by dsimp only; omega) ⟨rfl, rfl, rfl, rfl, rfl, trivial⟩ (fun H1 h => ?_)
    exact h.less (List.sublist_append_left _ _)
  · obtain rfl : i = ss.length := by omega
    rw [putGo_end hI] at hP
    repeat' (first
    | (with_reducible refine Sy.seq ?_)
    | (with_reducible refine Sy.regionL ?_)
    | (with_reducible refine Sy.opsnil ?_)
    | (with_reducible refine Sy.go ?_)
    | (with_reducible refine Sy.nrm ?_)
    | ((with_reducible apply Sy.assign); exact rfl; exact rfl)
    | ((with_reducible apply Sy.move); exact rfl; exact rfl)
    | ((with_reducible apply Sy.bin (op := .lss) (t := 3)); exact rfl; exact rfl; exact rfl; exact b_lss)
    | ((with_reducible apply Sy.bin (op := .lss) (t := 3)); exact rfl; exact rfl; exact rfl; exact bz_lss)
    | ((with_reducible apply Sy.bin (op := .neq) (t := 32)); exact rfl; exact rfl; exact rfl; exact b_neq)
    | ((with_reducible apply Sy.bin (op := .neq) (t := 32)); exact rfl; exact rfl; exact rfl; exact bz_neq)
    | (with_reducible refine Sy.skip ?_)
    | (with_reducible refine Sy.exit ?_)
    | (with_reducible refine Sy.ret ?_)
    | (with_reducible refine Sy.aex ?_)
    | (with_reducible refine Sy.aret ?_)
    | ((with_reducible apply Sy.iex); exact rfl)
    | (with_reducible refine Sy.rex ?_)
    | ((with_reducible apply Sy.ite); (case hx => exact rfl); all_goals (intro hc; try (exfalso; omega))))
    · rw [hP]
      dsimp only
      rw [if_pos hc]
      exact .fin [_, _] (.inr rfl) ⟨rfl, rfl, trivial⟩ fun H' hp => ⟨(0, .slice none 0 0), .inl ⟨rfl, rfl⟩, rfl, hp.less (List.nil_sublist _)⟩
    · have he1 : e = 0 := by omega
      subst he1
      rw [hP]
      dsimp only
      rw [if_neg hc]
      repeat' (first
    | (with_reducible refine Sy.opsnil ?_)
    | (with_reducible refine Sy.go ?_)
    | (with_reducible refine Sy.nrm ?_)
    | ((with_reducible apply Sy.assign); exact rfl; exact rfl)
    | ((with_reducible apply Sy.callN (k := 58)); exact rfl; exact rfl; exact en58; exact rfl; (intro H' hp; exact k_wrBytes p q L H' (PullW.wr pullW hp ht hl)); rintro ⟨c3, v3⟩ h3)
    | (with_reducible refine Sy.ret ?_))
      exact .fin [_, _] (.inr rfl) ⟨rfl, rfl, trivial⟩ fun H' hp => ⟨(c3, v3), h3, rfl, hp.less (List.sublist_append_left _ _)⟩
end Go.Proofs.YtjimjolfnimimaaDoor

/- Layer 06: steps out of a reader. -/
namespace Go.Proofs.YtjimjolfnimimaaDoor
open Go Go.Am
set_option maxRecDepth 100000
set_option linter.unusedVariables false

/-- k hashes out of a reader. -/
def rdHs (r : Rd) : Nat → List Hsh × Rd
  | 0 => ([], r)
  | i + 1 => ((rdHs r i).1 ++ [rdH (rdHs r i).2], (rdHs r i).2.next 32)
theorem rdHs_len (r : Rd) : ∀ i, (rdHs r i).1.length = i
  | 0 => rfl
  | i + 1 => by simp [rdHs, rdHs_len r i]
abbrev Sk : Type := Hsh × Hsh × Hsh × List Hsh
def rdSt (r : Rd) : Sk × Rd :=
  ((rdH r, rdH (r.next 32), rdH ((r.next 32).next 32), (rdHs (rdCnt 256 (((r.next 32).next 32).next 32)).2 (rdCnt 256 (((r.next 32).next 32).next 32)).1).1),
   (rdHs (rdCnt 256 (((r.next 32).next 32).next 32)).2 (rdCnt 256 (((r.next 32).next 32).next 32)).1).2)
def rdSts (r : Rd) : Nat → List Sk × Rd
  | 0 => ([], r)
  | i + 1 => ((rdSts r i).1 ++ [(rdSt (rdSts r i).2).1], (rdSt (rdSts r i).2).2)
theorem rdSts_len (r : Rd) : ∀ i, (rdSts r i).1.length = i
  | 0 => rfl
  | i + 1 => by simp [rdSts, rdSts_len r i]
def getS (l : List Nat) : List Sk × Nat := if 65536 < l.length then ([], 21) else
  if rdDone (rdSts (rdCnt 64 ⟨l, 0⟩).2 (rdCnt 64 ⟨l, 0⟩).1).2 ≠ 0 ∨ ((rdSts (rdCnt 64 ⟨l, 0⟩).2 (rdCnt 64 ⟨l, 0⟩).1).1.any fun k => !rightB k.2.2.1 k.2.2.2) = true then ([], 21) else ((rdSts (rdCnt 64 ⟨l, 0⟩).2 (rdCnt 64 ⟨l, 0⟩).1).1, 0)
theorem rdCnt_le (m : Nat) (r : Rd) : (rdCnt m r).1 ≤ m := by
  unfold rdCnt
  split
  · exact Nat.zero_le _
  · split
    · exact Nat.zero_le _
    · show rdU r ≤ m
      omega
/-- The rows of some steps lie in L. -/
def CopS (L : Hm) (out : List Stp) : Prop := ∀ s ∈ out, (s.v = .slice none 0 0 ∧ s.l = []) ∨ ∃ b c, s.v = .slice (some ⟨b, 0, none⟩) s.l.length c ∧ Has L b (.cells (hcs s.l) 44 true)
theorem CopS.app {L L' : Hm} {out : List Stp} (h : CopS L out) : CopS (L' ++ L) out := fun s hs => by
  rcases h s hs with h | ⟨b, c, h1, h2⟩
  · exact .inl h
  · exact .inr ⟨b, c, h1, .app h2⟩
theorem accV_32 {l : List Hsh} {b : Nat} : (accV 32 (hcs l) l.length b = .slice none 0 0 ∧ l = []) ∨ accV 32 (hcs l) l.length b = .slice (some ⟨b, 0, none⟩) l.length (l.length + 2 + 32) := by
  unfold accV
  split
  · rename_i h; exact .inl ⟨rfl, List.length_eq_zero_iff.1 h⟩
  · exact .inr rfl
theorem accM_has {T : TypeId} {cs : List Value} {k b : Nat} {M : Hm} (h : k ≠ 0) : Has (accM T cs k b ++ M) b (.cells cs T true) := by
  simp only [accM, if_neg h]; exact .here
theorem CopS.snoc {L : Hm} {out : List Stp} {key old mask : Hsh} {l : List Hsh} {b : Nat} (h : CopS L out) : CopS (accM 44 (hcs l) l.length b ++ L) (out ++ [⟨key, old, mask, l, accV 32 (hcs l) l.length b⟩]) := fun s hs => by
  rcases List.mem_append.1 hs with hs | hs
  · exact h.app s hs
  · rw [List.mem_singleton] at hs
    subst hs
    rcases accV_32 (l := l) (b := b) with ⟨e, e2⟩ | e
    · exact .inl ⟨e, e2⟩
    · by_cases h0 : l.length = 0
      · have := List.length_eq_zero_iff.1 h0
        subst this
        exact .inl ⟨rfl, rfl⟩
      · exact .inr ⟨b, _, e, accM_has h0⟩
theorem CopS.at {L : Hm} {out : List Stp} {H0 H : AHeap} {lo hi b c : Nat} {T : TypeId} {Mo Mn : Hm} {w : Bool} (h : CopS L out) (hp : Hp H0 lo hi H Mo Mn) (hL : ∀ a o, Has L a o → Has Mn a o) (hb : out ≠ [] → Has Mn b (.cells (stCs out) T w)) (hl : ∀ s ∈ out, s.l.length ≤ 4398046511104) {v : Value} (hv : v = .slice none 0 0 ∧ out = [] ∨ v = .slice (some ⟨b, 0, none⟩) out.length c) : StsAt T H v out := by
  refine ⟨?_, fun s hs => ⟨?_, hl s hs⟩⟩
  · rcases hv with ⟨rfl, rfl⟩ | rfl
    · exact ⟨none, 0, rfl, .inl rfl⟩
    · refine ⟨_, _, rfl, ?_⟩
      by_cases h0 : out = []
      · exact .inl h0
      · exact .inr ⟨b, w, rfl, hp.getN (hb h0)⟩
  · rcases h s hs with h | ⟨b, c, h1, h2⟩
    · exact .inl h
    · exact .inr ⟨b, c, _, _, h1, hp.getN (hL _ _ h2)⟩
theorem bvPr1 {mask : Hsh} : buildV Tryd.prog 116 [(0, hV mask)] = some (.agg ⟨hC mask ++ [.slice none 0 0]⟩) := bv116 (by
  simp only [fillL, plc, hV_cells]
  have e1 : lay (hC zeroH ++ [Value.slice none 0 0]) 0 (hC mask) = hC mask ++ [Value.slice none 0 0] := lay_here (by simp)
  simp [e1])
theorem ld96 {a b c : Hsh} {x : Value} {T : TypeId} {w : Bool} : aLoad Tryd.prog 114 (.cells (hC a ++ (hC b ++ (hC c ++ [x]))) T w) (0 + 64 + 32) = some x :=
  ld_one ag114 (by simp [List.drop_append, List.take_append, List.getElem?_append, lay, hC_length, ints_length, ints_drop, ints_take, ints_append, List.drop_of_length_le, List.take_of_length_le, List.map_append, List.set_append, Value.cells])
theorem set96 {a b c : Hsh} {x y : Value} : (hC a ++ (hC b ++ (hC c ++ [x]))).set (0 + 64 + 32) y = hC a ++ (hC b ++ (hC c ++ [y])) := by simp [List.drop_append, List.take_append, List.getElem?_append, lay, hC_length, ints_length, ints_drop, ints_take, ints_append, List.drop_of_length_le, List.take_of_length_le, List.map_append, List.set_append, Value.cells]
theorem SrcY.h1 {H0 : AHeap} {lo hi q c : Nat} {T : TypeId} {w : Bool} {Mo Mn : Hm} {h : Hsh} (hm : Has Mn q (.cells (hC h) T w)) : SrcY H0 lo hi Mo Mn 32 (.slice (some ⟨q, 0, none⟩) 1 c) 1 (hC h) :=
  (SrcY.ofN hm (by rw [hC_length]; omega)).eq (by rw [List.drop_zero, List.take_of_length_le (by rw [hC_length]; omega)])
theorem hcs_snoc (hs : List Hsh) (h : Hsh) : hcs hs ++ hC h = hcs (hs ++ [h]) := by simp [hcs]
theorem stCs_snoc (ss : List Stp) (s : Stp) : stCs ss ++ s.c = stCs (ss ++ [s]) := by rw [stCs_append, stCs_one]
theorem ld_stp {a b c : Hsh} {x : Value} {T : TypeId} {w : Bool} : aLoad Tryd.prog 118 (.cells (hC a ++ (hC b ++ (hC c ++ [x]))) T w) 0 = some (.agg ⟨hC a ++ (hC b ++ (hC c ++ [x]))⟩) :=
  ld_agg ag118 sz118 (by simp) (by rw [List.drop_zero, List.take_of_length_le (by simp)])
abbrev kS (out : List Stp) : List Sk := out.map Stp.k
theorem pm4 {a p : Nat × AObj} {X B L : Hm} : List.Perm (p :: (B ++ ([a] ++ (X ++ L)))) (a :: p :: (X ++ (B ++ L))) := by
  refine (List.Perm.cons p ?_).trans (List.Perm.swap _ _ _)
  show List.Perm (B ++ a :: (X ++ L)) _
  refine (List.perm_middle).trans (List.Perm.cons _ ?_)
  rw [← List.append_assoc, ← List.append_assoc]
  exact List.Perm.append_right _ List.perm_append_comm
theorem k_snoc {out : List Stp} {ks : List Sk} {s : Stp} {k : Sk} (h : kS out = ks) (h2 : s.k = k) : kS (out ++ [s]) = ks ++ [k] := by rw [kS, List.map_append, ← h, ← h2]; rfl
end Go.Proofs.YtjimjolfnimimaaDoor

/- Layer 06: is a step among some that may not be? -/
namespace Go.Proofs.YtjimjolfnimimaaDoor
open Go Go.Am
set_option maxRecDepth 100000
set_option linter.unusedVariables false

abbrev badK (k : Sk) : Bool := !rightB k.2.2.1 k.2.2.2
theorem c_Get1 (s : Stp) (H : AHeap) (hsv : HsS H s.v s.l) (hsl : s.l.length ≤ 4398046511104) : CallR Tryd.prog noPrims 68 [.agg ⟨s.c⟩] H (fun u H' => u = .bool (badK s.k) ∧ Hp H 0 0 H' [] []) := by
  refine CallR.sy (n := 7) Tryd.func68 rfl rfl rfl ?_
  repeat' (first
    | (with_reducible refine Sy.seq ?_)
    | (with_reducible refine Sy.regionL ?_)
    | (with_reducible refine Sy.opsnil ?_)
    | (with_reducible refine Sy.go ?_)
    | (with_reducible refine Sy.nrm ?_)
    | ((with_reducible refine Sy.ldN (t := 116) rfl rfl (by repeat (first | exact Has.here | apply Has.there | apply Has.app)) (sk_pr ag116 sz116) ?_))
    | ((with_reducible apply Sy.assign); exact rfl; exact rfl)
    | ((with_reducible apply Sy.fa (t := 118) (i := 2)); exact rfl; exact rfl; exact fa118_2 _ _)
    | ((with_reducible apply Sy.un (op := .not)); exact rfl; exact rfl; exact un_notT)
    | ((with_reducible apply Sy.un (op := .not)); exact rfl; exact rfl; exact un_notF)
    | ((with_reducible apply Sy.un (op := .not)); exact rfl; exact rfl; exact un_notD)
    | ((with_reducible apply Sy.un (op := .not)); exact rfl; exact rfl; exact un_not)
    | ((with_reducible apply Sy.call0 (k := 60)); exact rfl; exact rfl; exact en60; exact rfl; (intro H' hp; exact c_Right s.mask s.v s.l H' (hsv.of hp).at hsl))
    | ((with_reducible apply Sy.newY (o := ⟨some 1, .box 118 _, _, _, _, _⟩)); exact rfl; exact rfl; exact nbA rfl; intro q1)
    | (with_reducible refine Sy.ret ?_))
  exact .fin [_] (.inr rfl) ⟨rfl, trivial⟩ fun H' hp => ⟨rfl, hp.less (List.nil_sublist _)⟩
set_option maxHeartbeats 2000000 in
theorem c_IndexF (ss : List Stp) (v1 : Value) (H : AHeap) (h1 : StsAt 118 H v1 ss) (hn1 : ss.length ≤ 1000000) : CallR Tryd.prog noPrims 111 [v1, .func (.func 68) #[] #[]] H (fun u H' => ∃ z : Int, (0 ≤ z ↔ (kS ss).any badK = true) ∧ u = .int .i64 z ∧ Hp H 0 0 H' [] []) := by
  obtain ⟨⟨a1, c1, rfl, h1⟩, hss⟩ := h1
  refine CallR.sy (n := 19) Tryd.func111 rfl rfl rfl ?_
  repeat' (first
    | (with_reducible refine Sy.seq ?_)
    | (with_reducible refine Sy.regionL ?_)
    | (with_reducible refine Sy.opsnil ?_)
    | (with_reducible refine Sy.go ?_)
    | (with_reducible refine Sy.nrm ?_)
    | ((with_reducible apply Sy.assign); exact rfl; exact rfl)
    | ((with_reducible apply Sy.move); exact rfl; exact rfl)
    | ((with_reducible apply Sy.lenS); exact rfl; exact Tryd.underlying54; exact rfl)
    | (with_reducible refine Sy.block ?_))
  refine Sy.loop (ι := Nat) (fun i => ss.length - i) (fun i => [(0, .slice a1 ss.length c1), (1, .func (.func 68) #[] #[]), (6, .slice a1 ss.length c1), (7, .int .i64 ((ss.length : Nat) : Int)), (8, .int .i64 (i : Nat))]) (fun _ => []) (fun _ => []) (fun i => i ≤ ss.length ∧ ((kS ss).take i).any badK = false) 0 ⟨Nat.zero_le _, by simp⟩ ⟨rfl, rfl, rfl, rfl, rfl, trivial⟩ (fun H h => h) ?_
  rintro i ⟨hi, hI⟩
  try dsimp only at hi hI ⊢
  by_cases hlt : i < ss.length
  · obtain ⟨s, hs⟩ : ∃ s, ss[i]? = some s := ⟨ss[i], List.getElem?_eq_getElem hlt⟩
    rcases h1 with rfl | ⟨b1, w1, rfl, hb1⟩
    · simp at hlt
    obtain ⟨hsv, hsl⟩ := hss s (List.mem_of_getElem? hs)
    have hk : (kS ss)[i]? = some s.k := by rw [List.getElem?_map, hs]; rfl
    repeat' (first
    | (with_reducible refine Sy.seq ?_)
    | (with_reducible refine Sy.regionL ?_)
    | (with_reducible refine Sy.opsnil ?_)
    | (with_reducible refine Sy.go ?_)
    | (with_reducible refine Sy.nrm ?_)
    | ((with_reducible refine Sy.ld0 (t := 118) rfl rfl hb1 rfl (by simp only [List.forall_mem_cons, List.not_mem_nil, false_implies, implies_true, and_true, ne_eq]; first | done | omega | (repeat (first | with_reducible assumption | (refine And.intro ?_ ?_)))) (st_all ag118 sz118 hs (by omega)) ?_))
    | ((with_reducible apply Sy.assign); exact rfl; exact rfl)
    | ((with_reducible apply Sy.move); exact rfl; exact rfl)
    | ((with_reducible apply Sy.bin (op := .lss) (t := 3)); exact rfl; exact rfl; exact rfl; exact b_lss)
    | ((with_reducible apply Sy.bin (op := .lss) (t := 3)); exact rfl; exact rfl; exact rfl; exact bz_lss)
    | ((with_reducible apply Sy.ia (t := 54)); exact rfl; exact rfl; exact rfl; exact (ia_sl Tryd.underlying54 sz118 (by omega)))
    | ((with_reducible apply Sy.bin (op := .add) (t := 3)); exact rfl; exact rfl; exact rfl; exact (b_add (by omega)))
    | ((with_reducible apply Sy.bin (op := .add) (t := 3)); exact rfl; exact rfl; exact rfl; exact (bz_add (by omega) (by omega)))
    | ((with_reducible apply Sy.call0 (k := 68)); exact rfl; exact rfl; exact en68; exact rfl; (intro H' hp; exact c_Get1 s H' (hsv.of hp) hsl))
    | (with_reducible refine Sy.skip ?_)
    | (with_reducible refine Sy.ret ?_)
    | (with_reducible refine Sy.block ?_)
    | (with_reducible refine Sy.aret ?_)
    | (with_reducible refine Sy.inrm ?_)
    | (with_reducible refine Sy.iret ?_)
    | (with_reducible refine Sy.rret ?_)
    | ((with_reducible apply Sy.ite); (case hx => exact rfl); all_goals (intro hc; try (exfalso; omega)))
    | ((with_reducible apply Sy.iteB); (case hx => exact rfl); all_goals intro hc))
    · refine .fin [_] (.inr rfl) ⟨rfl, trivial⟩ fun H' hp => ⟨_, ⟨fun _ => ?_, fun _ => by omega⟩, rfl, hp.less (List.nil_sublist _)⟩
      rw [List.any_eq_true]
      exact ⟨s.k, List.mem_of_getElem? hk, hc⟩
    · refine Sy.rnrm (i + 1) ⟨by omega, ?_⟩ (by show ss.length - (i + 1) < ss.length - i; omega) ⟨rfl, rfl, rfl, rfl, rfl, trivial⟩ (fun H1 h => h)
      rw [List.take_add_one, hk, List.any_append, hI, Option.toList_some, List.any_cons, hc, List.any_nil]; rfl
  · obtain rfl : i = ss.length := by omega
    rw [show (kS ss).take ss.length = kS ss by rw [List.take_of_length_le (by simp)]] at hI
    repeat' (first
    | (with_reducible refine Sy.seq ?_)
    | (with_reducible refine Sy.regionL ?_)
    | (with_reducible refine Sy.opsnil ?_)
    | (with_reducible refine Sy.go ?_)
    | (with_reducible refine Sy.nrm ?_)
    | ((with_reducible apply Sy.assign); exact rfl; exact rfl)
    | ((with_reducible apply Sy.bin (op := .lss) (t := 3)); exact rfl; exact rfl; exact rfl; exact b_lss)
    | ((with_reducible apply Sy.bin (op := .lss) (t := 3)); exact rfl; exact rfl; exact rfl; exact bz_lss)
    | (with_reducible refine Sy.exit ?_)
    | (with_reducible refine Sy.ret ?_)
    | (with_reducible refine Sy.aex ?_)
    | ((with_reducible apply Sy.iex); exact rfl)
    | (with_reducible refine Sy.rex ?_)
    | ((with_reducible apply Sy.ite); (case hx => exact rfl); all_goals (intro hc; try (exfalso; omega))))
    exact .fin [_] (.inr rfl) ⟨rfl, trivial⟩ fun H' hp => ⟨-1, ⟨fun h => by omega, fun h => by rw [hI] at h; exact absurd h (by decide)⟩, rfl, hp⟩
theorem c_ContainsF (ss : List Stp) (v1 : Value) (H : AHeap) (h1 : StsAt 118 H v1 ss) (hn1 : ss.length ≤ 1000000) : CallR Tryd.prog noPrims 67 [v1, .func (.func 68) #[] #[]] H (fun u H' => u = .bool ((kS ss).any badK) ∧ Hp H 0 0 H' [] []) := by
  have h1of : ∀ {lo hi H'}, Hp H lo hi H' [] [] → StsAt 118 H' v1 ss := fun hp => by
    obtain ⟨⟨a1, c1, e, h⟩, hss⟩ := h1
    exact ⟨⟨a1, c1, e, h.imp_right fun ⟨b, w, e1, e2⟩ => ⟨b, w, e1, hp.get0 e2 rfl (by simp)⟩⟩, fun s hs => ⟨(hss s hs).1.of hp, (hss s hs).2⟩⟩
  refine CallR.sy (n := 9) Tryd.func67 rfl rfl rfl ?_
  repeat' (first
    | (with_reducible refine Sy.seq ?_)
    | (with_reducible refine Sy.regionL ?_)
    | (with_reducible refine Sy.opsnil ?_)
    | (with_reducible refine Sy.go ?_)
    | (with_reducible refine Sy.nrm ?_)
    | ((with_reducible apply Sy.assign); exact rfl; exact rfl)
    | ((with_reducible apply Sy.move); exact rfl; exact rfl)
    | ((with_reducible apply Sy.bin (op := .geq) (t := 3)); exact rfl; exact rfl; exact rfl; exact b_geq)
    | ((with_reducible apply Sy.bin (op := .geq) (t := 3)); exact rfl; exact rfl; exact rfl; exact bz_geq)
    | ((with_reducible apply Sy.callN (k := 111)); exact rfl; exact rfl; exact en111; exact rfl; (intro H' hp; exact c_IndexF ss v1 H' (h1of hp) hn1); rintro z hz)
    | (with_reducible refine Sy.ret ?_))
  refine .fin [_] (.inr rfl) ⟨rfl, trivial⟩ fun H' hp => ⟨?_, hp.less (List.nil_sublist _)⟩
  show Value.bool _ = Value.bool _
  congr 1
  rw [Bool.eq_iff_iff, decide_eq_true_eq]
  exact hz
end Go.Proofs.YtjimjolfnimimaaDoor

/- Layer 06: the program's Get. -/
namespace Go.Proofs.YtjimjolfnimimaaDoor
open Go Go.Am
set_option maxRecDepth 100000
set_option linter.unusedVariables false

set_option maxHeartbeats 4000000 in
theorem c_pGet (v : Value) (l : List Nat) (H : AHeap) (hv : SlR H 1 v l.length (ints .u8 l)) (h256 : ∀ x ∈ l, x < 256) (hl : l.length ≤ 140737488355328) : CallR Tryd.prog noPrims 27 [v] H (fun u H' => ∃ i : List Stp × Nat × Hm, (kS i.1 = (getS l).1 ∧ CopS i.2.2 i.1 ∧ ∀ s ∈ i.1, s.l.length ≤ 256) ∧ u = .tuple ⟨[accV 97 (stCs i.1) i.1.length i.2.1, .int .i64 (((getS l).2 : Nat) : Int)]⟩ ∧ Hp H 0 0 H' [] (accM 118 (stCs i.1) i.1.length i.2.1 ++ i.2.2)) := by
  obtain ⟨va, vk, rfl⟩ := slr_form hv
  refine CallR.sy (n := 53) Tryd.func27 rfl rfl rfl ?_
  repeat' (first
    | (with_reducible refine Sy.seq ?_)
    | (with_reducible refine Sy.regionL ?_)
    | (with_reducible refine Sy.opsnil ?_)
    | (with_reducible refine Sy.go ?_)
    | (with_reducible refine Sy.nrm ?_)
    | ((with_reducible apply Sy.assign); exact rfl; exact rfl)
    | ((with_reducible apply Sy.move); exact rfl; exact rfl)
    | ((with_reducible apply Sy.lenS); exact rfl; exact Tryd.underlying25; exact rfl)
    | ((with_reducible apply Sy.bin (op := .gtr) (t := 3)); exact rfl; exact rfl; exact rfl; exact b_gtr)
    | ((with_reducible apply Sy.bin (op := .gtr) (t := 3)); exact rfl; exact rfl; exact rfl; exact bz_gtr)
    | ((with_reducible apply Sy.callN (k := 46)); exact rfl; exact rfl; exact en46; exact rfl; (intro H' hp; exact k_NewReader _ l H' (hv.of hp) hl); rintro ⟨p, c, v1⟩ h1)
    | (with_reducible refine Sy.skip ?_)
    | (with_reducible refine Sy.ret ?_)
    | (with_reducible refine Sy.aret ?_)
    | ((with_reducible apply Sy.ite); (case hx => exact rfl); all_goals (intro hc; try (exfalso; omega))))
  · have e : getS l = ([], 21) := by unfold getS; rw [if_pos (by omega)]
    rw [e]
    exact .fin [_, _] (.inr rfl) ⟨rfl, rfl, trivial⟩ fun H' hp => ⟨([], 0, []), ⟨rfl, by simp [CopS], by simp⟩, rfl, hp⟩
  dsimp only at h1 ⊢
  rw [List.cons_append]
  repeat' (first
    | (with_reducible refine Sy.opsnil ?_)
    | (with_reducible refine Sy.go ?_)
    | (with_reducible refine Sy.nrm ?_)
    | ((with_reducible apply Sy.move); exact rfl; exact rfl)
    | ((with_reducible apply Sy.callTN (k := 65)); exact rfl; exact rfl; exact en65; exact rfl; (case hc => intro H' hp; exact k_rdCount (most := 64) (RdAt.new (c := c) hp .here (fun hx => .there (bufM_has hx)) h1 h256 hl) (by decide)); (intro i; exact turnT); rintro v2 h2)
    | (with_reducible refine Sy.block ?_))
  have hn64 := rdCnt_le 64 ⟨l, 0⟩
  have hG : getS l = if rdDone (rdSts (rdCnt 64 ⟨l, 0⟩).2 (rdCnt 64 ⟨l, 0⟩).1).2 ≠ 0 ∨ ((rdSts (rdCnt 64 ⟨l, 0⟩).2 (rdCnt 64 ⟨l, 0⟩).1).1.any fun k => !rightB k.2.2.1 k.2.2.2) = true then ([], 21) else ((rdSts (rdCnt 64 ⟨l, 0⟩).2 (rdCnt 64 ⟨l, 0⟩).1).1, 0) := by
    unfold getS; rw [if_neg (by omega)]
  generalize getS l = G at hG ⊢
  generalize rdCnt 64 ⟨l, 0⟩ = N1 at hn64 hG h2 ⊢
  obtain ⟨n, r1⟩ := N1
  dsimp only at hn64 hG h2 ⊢
  refine Sy.loop (ι := Nat × List Stp × Nat × Hm × Value) (fun i => n - i.1) (fun i => [(4, .pointer (some ⟨p, 0, none⟩)), (5, accV 97 (stCs i.2.1) i.2.1.length i.2.2.1), (14, .int .i64 ((n : Nat) : Int)), (15, .int .i64 (i.1 : Nat))]) (fun _ => []) (fun i => (p, .cells (rdC i.2.2.2.2 (rdSts r1 i.1).2.e) 160 true) :: (bufM l c ++ (accM 118 (stCs i.2.1) i.2.1.length i.2.2.1 ++ i.2.2.2.1))) (fun i => i.1 ≤ n ∧ kS i.2.1 = (rdSts r1 i.1).1 ∧ CopS i.2.2.2.1 i.2.1 ∧ Vw c l i.2.2.2.2 (rdSts r1 i.1).2.l ∧ ∀ s ∈ i.2.1, s.l.length ≤ 256) (0, [], 0, [], v2) ⟨Nat.zero_le _, rfl, by simp [CopS], h2, by simp⟩ ⟨rfl, rfl, rfl, rfl, trivial⟩ (fun H h => h) ?_
  rintro ⟨i, out, bo, L, v3⟩ ⟨hi, hk, hL, hv3, h256o⟩
  dsimp only at hi hk hL hv3 h256o ⊢
  have hol : out.length = i := by have := congrArg List.length hk; rw [List.length_map, rdSts_len] at this; exact this
  by_cases hlt : i < n
  · have hS1 : rdSts r1 (i + 1) = ((rdSts r1 i).1 ++ [(rdSt (rdSts r1 i).2).1], (rdSt (rdSts r1 i).2).2) := rfl
    obtain ⟨⟨ks, r⟩, hS0⟩ : ∃ x, rdSts r1 i = x := ⟨_, rfl⟩
    rw [hS0] at hk hv3 hS1
    rw [hS0]
    dsimp only at hk hv3 hS1 ⊢
    repeat' (first
    | (with_reducible refine Sy.seq ?_)
    | (with_reducible refine Sy.regionL ?_)
    | (with_reducible refine Sy.opsnil ?_)
    | (with_reducible refine Sy.go ?_)
    | (with_reducible refine Sy.nrm ?_)
    | ((with_reducible refine Sy.build (t := 116) rfl rfl bvPr1 ?_))
    | ((with_reducible refine Sy.build (t := 118) rfl rfl bvSt ?_))
    | ((with_reducible apply Sy.move); exact rfl; exact rfl)
    | ((with_reducible apply Sy.bin (op := .lss) (t := 3)); exact rfl; exact rfl; exact rfl; exact b_lss)
    | ((with_reducible apply Sy.bin (op := .lss) (t := 3)); exact rfl; exact rfl; exact rfl; exact bz_lss)
    | ((with_reducible apply Sy.callTN (k := 66)); exact rfl; exact rfl; exact en66; exact rfl; (case hc => intro H' hp; exact k_rdHash (RdAt.n1 (r := r) (c := c) hp .here hv3 (fun hx => .there (bufM_has hx)) h256 hl)); (intro i; exact turnT); rintro v4 h4)
    | ((with_reducible apply Sy.callTN (k := 66)); exact rfl; exact rfl; exact en66; exact rfl; (case hc => intro H' hp; exact k_rdHash (RdAt.n1 (r := r.next 32) (c := c) hp .here h4 (fun hx => .there (bufM_has hx)) h256 hl)); (intro i; exact turnT); rintro v5 h5)
    | ((with_reducible apply Sy.callTN (k := 66)); exact rfl; exact rfl; exact en66; exact rfl; (case hc => intro H' hp; exact k_rdHash (RdAt.n1 (r := (r.next 32).next 32) (c := c) hp .here h5 (fun hx => .there (bufM_has hx)) h256 hl)); (intro i; exact turnT); rintro v6 h6)
    | ((with_reducible apply Sy.newY (o := ⟨some 6, .alloc 118, _, _, _, _⟩)); exact rfl; exact rfl; exact nwz118; intro q6)
    | (with_reducible refine Sy.skip ?_)
    | (with_reducible refine Sy.block ?_)
    | ((with_reducible apply Sy.ite); (case hx => exact rfl); all_goals (intro hc; try (exfalso; omega))))
    rw [List.nil_append]
    repeat' (first
    | (with_reducible refine Sy.seq ?_)
    | (with_reducible refine Sy.regionL ?_)
    | (with_reducible refine Sy.opsnil ?_)
    | (with_reducible refine Sy.go ?_)
    | (with_reducible refine Sy.nrm ?_)
    | ((with_reducible refine Sy.stNa (t := 118) rfl rfl sz118 (by simp) (by simp [oneL_append, hC_one, oneL_cons, oneL_nil, Value.oneCell']) (by repeat (first | exact Turn.here | apply Turn.there | apply Turn.app)) (by simp) (lay_all (by simp)) ?_))
    | ((with_reducible apply Sy.move); exact rfl; exact rfl)
    | ((with_reducible apply Sy.callTN (k := 65)); exact rfl; exact rfl; exact en65; exact rfl; (case hc => intro H' hp; exact k_rdCount (most := 256) (RdAt.n1 (r := ((r.next 32).next 32).next 32) (c := c) hp (.there .here) h6 (fun hx => .there (.there (bufM_has hx))) h256 hl) (by decide)); (intro i; exact turnT); rintro v7 h7)
    | (with_reducible refine Sy.block ?_))
    rw [List.nil_append]
    have hm256 := rdCnt_le 256 (((r.next 32).next 32).next 32)
    have hSt : rdSt r = ((rdH r, rdH (r.next 32), rdH ((r.next 32).next 32), (rdHs (rdCnt 256 (((r.next 32).next 32).next 32)).2 (rdCnt 256 (((r.next 32).next 32).next 32)).1).1), (rdHs (rdCnt 256 (((r.next 32).next 32).next 32)).2 (rdCnt 256 (((r.next 32).next 32).next 32)).1).2) := rfl
    rw [hSt] at hS1
    clear hSt
    generalize rdCnt 256 (((r.next 32).next 32).next 32) = N2 at hS1 hm256 h7 ⊢
    obtain ⟨m, r5⟩ := N2
    dsimp only at hS1 hm256 h7 ⊢
    generalize rdH r = k1 at hS1 ⊢
    generalize rdH (r.next 32) = k2 at hS1 ⊢
    generalize rdH ((r.next 32).next 32) = k3 at hS1 ⊢
    refine Sy.loop (ι := Nat × List Hsh × Nat × Value) (fun j => m - j.1) (fun j => [(4, .pointer (some ⟨p, 0, none⟩)), (5, accV 97 (stCs out) out.length bo), (6, .pointer (some ⟨q6, 0, none⟩)), (14, .int .i64 ((n : Nat) : Int)), (15, .int .i64 (i : Nat)), (26, .int .i64 ((m : Nat) : Int)), (27, .int .i64 (j.1 : Nat))]) (fun _ => []) (fun j => (q6, .cells (hC k1 ++ (hC k2 ++ (hC k3 ++ [accV 32 (hcs j.2.1) j.2.1.length j.2.2.1]))) 118 true) :: (p, .cells (rdC j.2.2.2 (rdHs r5 j.1).2.e) 160 true) :: (accM 44 (hcs j.2.1) j.2.1.length j.2.2.1 ++ (bufM l c ++ (accM 118 (stCs out) out.length bo ++ L)))) (fun j => j.1 ≤ m ∧ j.2.1 = (rdHs r5 j.1).1 ∧ Vw c l j.2.2.2 (rdHs r5 j.1).2.l) (0, [], 0, v7) ⟨Nat.zero_le _, rfl, h7⟩ ⟨rfl, rfl, rfl, rfl, rfl, rfl, rfl, trivial⟩ (fun H h => h) ?_
    rintro ⟨j, hs, bq, v8⟩ ⟨hj, hh, hv8⟩
    dsimp only at hj hh hv8 ⊢
    have hhl : hs.length = j := by rw [hh, rdHs_len]
    by_cases hjm : j < m
    · have hT1 : rdHs r5 (j + 1) = ((rdHs r5 j).1 ++ [rdH (rdHs r5 j).2], (rdHs r5 j).2.next 32) := rfl
      obtain ⟨⟨hs', r'⟩, hT0⟩ : ∃ x, rdHs r5 j = x := ⟨_, rfl⟩
      rw [hT0] at hh hv8 hT1
      rw [hT0]
      dsimp only at hh hv8 hT1 ⊢
      subst hh
      repeat' (first
    | (with_reducible refine Sy.seq ?_)
    | (with_reducible refine Sy.regionL ?_)
    | (with_reducible refine Sy.opsnil ?_)
    | (with_reducible refine Sy.go ?_)
    | (with_reducible refine Sy.nrm ?_)
    | ((with_reducible apply Sy.drawL (id := 10) 10 [(2, 4)] (fun hi h => h = q6)); (case hp => kernel_rfl); (case hN => exact rfl); intro base hbase hM; try simp only [List.forall_mem_cons, List.forall_mem_append, List.not_mem_nil, false_implies, implies_true, and_true] at hM)
    | ((with_reducible refine Sy.ldN (t := 114) rfl rfl (by repeat (first | exact Has.here | apply Has.there | apply Has.app)) ld96 ?_))
    | ((with_reducible apply Sy.appB (t := 114) (xt := 114)); exact (ap114_114 zr44 rfl); exact rfl; exact rfl; exact rfl; exact SrcY.h1 hasT; exact hC_one _; (· simp); (· omega); exact pullT; exact hcs_length _; exact hcs_snoc _ _; intro q35)
    | ((with_reducible apply Sy.stN1 (t := 114)); exact rfl; exact rfl; exact sz114; exact accV_cells; exact accV_oneL; exact turnT; (· simp); exact set96)
    | ((with_reducible apply Sy.move); exact rfl; exact rfl)
    | ((with_reducible apply Sy.bin (op := .lss) (t := 3)); exact rfl; exact rfl; exact rfl; exact b_lss)
    | ((with_reducible apply Sy.bin (op := .lss) (t := 3)); exact rfl; exact rfl; exact rfl; exact bz_lss)
    | ((with_reducible apply Sy.fa (t := 118) (i := 2)); exact rfl; exact rfl; exact fa118_2 _ _)
    | ((with_reducible apply Sy.fa (t := 116) (i := 1)); exact rfl; exact rfl; exact fa116_1 _ _)
    | ((with_reducible apply Sy.bin (op := .add) (t := 3)); exact rfl; exact rfl; exact rfl; exact (b_add (by omega)))
    | ((with_reducible apply Sy.bin (op := .add) (t := 3)); exact rfl; exact rfl; exact rfl; exact (bz_add (by omega) (by omega)))
    | ((with_reducible apply Sy.dgo); (· first | exact wantY_none); (· intro hcls; cases hcls); exact rfl; exact rfl)
    | ((with_reducible apply Sy.dwr); (case hw => first | exact wantY_none); (case hc => intro hcls; cases hcls); (case h1 => exact rfl); (case hk => exact .consN (b := q6) hasT .nil); (case hS => intro h hh; subst hh; exact ⟨_, List.mem_singleton.2 rfl⟩))
    | ((with_reducible apply Sy.dand); (case hk => exact .consN (b := q6) hasT .nil))
    | ((with_reducible apply Sy.callTN (k := 66)); exact rfl; exact rfl; exact en66; exact rfl; (case hc => intro H' hp; exact k_rdHash (RdAt.n1 (r := r') (c := c) hp hasT hv8 (fun hx => by repeat (first | exact bufM_has hx | apply Has.there | apply Has.app)) h256 hl)); (intro i; exact turnT); rintro v9 h9)
    | ((with_reducible apply Sy.dnew (o := ⟨some 34, .buildSlice 114 _ _, _, _, _, _⟩)); (· first | exact wantY_none); exact rfl; exact rfl; exact rfl; exact rfl; exact rfl; (· exact (nba1 Tryd.underlying114 sz44 zr44 rfl (by decide) rfl (by first | exact hC_length _))); intro q34 hq34)
    | ((with_reducible apply Sy.dnew (o := ⟨some 34, .buildSlice 114 _ _, _, _, _, _⟩)); (· first | exact wantY_none); exact rfl; exact rfl; exact rfl; exact rfl; exact rfl; (· exact (newY_bs Tryd.underlying114 sz44 zr44 rfl (by decide) rfl (by first | rfl | (simp [List.drop_append, List.take_append, List.getElem?_append, lay, hC_length, ints_length, ints_drop, ints_take, ints_append, List.drop_of_length_le, List.take_of_length_le, List.map_append, List.set_append, Value.cells]; done)))); intro q34 hq34)
    | (with_reducible refine Sy.skip ?_)
    | (with_reducible refine Sy.block ?_)
    | (with_reducible refine Sy.inrm ?_)
    | (with_reducible refine Sy.dend ?_)
    | ((with_reducible apply Sy.dgo); (· first | exact wantY_none); (· intro hcls; cases hcls); exact rfl; exact rfl)
    | ((with_reducible apply Sy.dld); (· first | exact wantY_none); exact rfl; (· first | omega); exact rfl)
    | ((with_reducible apply Sy.ite); (case hx => exact rfl); all_goals (intro hc; try (exfalso; omega))))
      have e1 : (hs ++ [rdH r']).length = hs.length + 1 := by simp
      refine Sy.rnrm (j + 1, hs ++ [rdH r'], q35, v9) ⟨by omega, by rw [hT1], by rw [hT1]; exact h9⟩ (by dsimp only; omega) ⟨rfl, rfl, rfl, rfl, rfl, rfl, rfl, trivial⟩ (fun H1 h => ?_)
      dsimp only
      rw [hT1, e1]
      exact (h.less (.cons_cons _ (.cons _ (.refl _)))).perm (List.perm_middle (l₁ := [_, _]))
    · obtain rfl : j = m := by omega
      repeat' (first
    | (with_reducible refine Sy.seq ?_)
    | (with_reducible refine Sy.regionL ?_)
    | (with_reducible refine Sy.opsnil ?_)
    | (with_reducible refine Sy.go ?_)
    | (with_reducible refine Sy.nrm ?_)
    | ((with_reducible refine Sy.ldN (t := 118) rfl rfl (by repeat (first | exact Has.here | apply Has.there | apply Has.app)) ld_stp ?_))
    | ((with_reducible apply Sy.move); exact rfl; exact rfl)
    | ((with_reducible apply Sy.bin (op := .lss) (t := 3)); exact rfl; exact rfl; exact rfl; exact b_lss)
    | ((with_reducible apply Sy.bin (op := .lss) (t := 3)); exact rfl; exact rfl; exact rfl; exact bz_lss)
    | ((with_reducible apply Sy.newY (o := ⟨some 41, .buildSlice 54 _ _, _, _, _, _⟩)); exact rfl; exact rfl; (· exact (nba1 Tryd.underlying54 sz118 zr118 rfl (by decide) rfl (by first | (simp; done)))); intro q41)
    | ((with_reducible apply Sy.newY (o := ⟨some 41, .buildSlice 54 _ _, _, _, _, _⟩)); exact rfl; exact rfl; (· exact (newY_bs Tryd.underlying54 sz118 zr118 rfl (by decide) rfl (by first | rfl | (simp [List.drop_append, List.take_append, List.getElem?_append, lay, hC_length, ints_length, ints_drop, ints_take, ints_append, List.drop_of_length_le, List.take_of_length_le, List.map_append, List.set_append, Value.cells]; done)))); intro q41)
    | (with_reducible refine Sy.exit ?_)
    | (with_reducible refine Sy.aex ?_)
    | ((with_reducible apply Sy.iex); exact rfl)
    | (with_reducible refine Sy.rex ?_)
    | ((with_reducible apply Sy.ite); (case hx => exact rfl); all_goals (intro hc; try (exfalso; omega))))
      refine Sy.appB (t := 54) (xt := 54) (ap54_54 zr118 rfl) rfl rfl rfl (SrcY.st (s := ⟨k1, k2, k3, hs, accV 32 (hcs hs) hs.length bq⟩) hasT) (oneSt (accV_one (l := hcs hs))) (by rw [Stp.c_length]) (by omega) pullT (stCs_length _) (stCs_snoc _ _) ?_
      intro q42
      repeat' (first
    | (with_reducible refine Sy.regionL ?_)
    | (with_reducible refine Sy.opsnil ?_)
    | (with_reducible refine Sy.go ?_)
    | (with_reducible refine Sy.nrm ?_)
    | ((with_reducible apply Sy.assign); exact rfl; exact rfl)
    | ((with_reducible apply Sy.move); exact rfl; exact rfl)
    | ((with_reducible apply Sy.bin (op := .add) (t := 3)); exact rfl; exact rfl; exact rfl; exact (b_add (by omega)))
    | ((with_reducible apply Sy.bin (op := .add) (t := 3)); exact rfl; exact rfl; exact rfl; exact (bz_add (by omega) (by omega)))
    | (with_reducible refine Sy.inrm ?_))
      have e1 : ∀ s : Stp, (out ++ [s]).length = out.length + 1 := fun s => by simp
      refine Sy.rnrm (i + 1, out ++ [⟨k1, k2, k3, hs, accV 32 (hcs hs) hs.length bq⟩], q42, accM 44 (hcs hs) hs.length bq ++ L, v8) ⟨by omega, by rw [hS1, ← hh]; exact k_snoc hk rfl, hL.snoc, by rw [hS1]; exact hv8, fun s hs2 => ?_⟩ (by dsimp only; omega) ⟨rfl, by rw [e1]; rfl, rfl, rfl, trivial⟩ (fun H1 h => ?_)
      · rcases List.mem_append.1 hs2 with h | h
        · exact h256o s h
        · rw [List.mem_singleton] at h; subst h; show hs.length ≤ 256; omega
      · dsimp only
        rw [hS1, e1]
        exact (h.less (.cons_cons _ (.cons _ (.cons _ (.refl _))))).perm pm4
  · obtain rfl : i = n := by omega
    have hat : ∀ {H' : AHeap} {lo hi : Nat}, Hp H lo hi H' [] ((p, .cells (rdC v3 (rdSts r1 i).2.e) 160 true) :: (bufM l c ++ (accM 118 (stCs out) out.length bo ++ L))) → StsAt 118 H' (accV 97 (stCs out) out.length bo) out := fun hp => by
      refine hL.at (b := bo) (c := out.length + 2 + 97) (w := true) hp (fun a o x => .there (.app (.app x))) (fun x => .there (.app (accM_has (fun e => x (List.length_eq_zero_iff.1 e))))) (fun s hs => by have := h256o s hs; omega) ?_
      unfold accV
      split
      · exact .inl ⟨rfl, List.length_eq_zero_iff.1 (by assumption)⟩
      · exact .inr rfl
    repeat' (first
    | (with_reducible refine Sy.seq ?_)
    | (with_reducible refine Sy.regionL ?_)
    | (with_reducible refine Sy.opsnil ?_)
    | (with_reducible refine Sy.go ?_)
    | (with_reducible refine Sy.nrm ?_)
    | ((with_reducible apply Sy.assign); exact rfl; exact rfl)
    | ((with_reducible apply Sy.move); exact rfl; exact rfl)
    | ((with_reducible apply Sy.bin (op := .lss) (t := 3)); exact rfl; exact rfl; exact rfl; exact b_lss)
    | ((with_reducible apply Sy.bin (op := .lss) (t := 3)); exact rfl; exact rfl; exact rfl; exact bz_lss)
    | ((with_reducible apply Sy.bin (op := .neq) (t := 32)); exact rfl; exact rfl; exact rfl; exact b_neq)
    | ((with_reducible apply Sy.bin (op := .neq) (t := 32)); exact rfl; exact rfl; exact rfl; exact bz_neq)
    | ((with_reducible apply Sy.pickT); exact rfl; exact rfl; exact rfl)
    | ((with_reducible apply Sy.pickF); exact rfl; exact rfl; exact rfl)
    | ((with_reducible apply Sy.call0 (k := 67)); exact rfl; exact rfl; exact en67; exact rfl; (intro H' hp; exact c_ContainsF out _ H' (hat hp) (by omega)))
    | ((with_reducible apply Sy.call0 (k := 69)); exact rfl; exact rfl; exact en69; exact rfl; (intro H' hp; exact k_rdDone (RdAt.n1 (r := (rdSts r1 i).2) (c := c) hp .here hv3 (fun hx => .there (bufM_has hx)) h256 hl)))
    | (with_reducible refine Sy.skip ?_)
    | (with_reducible refine Sy.exit ?_)
    | (with_reducible refine Sy.ret ?_)
    | (with_reducible refine Sy.aex ?_)
    | (with_reducible refine Sy.aret ?_)
    | ((with_reducible apply Sy.iex); exact rfl)
    | (with_reducible refine Sy.rex ?_)
    | ((with_reducible apply Sy.yes); exact rfl)
    | ((with_reducible apply Sy.goG); exact rfl; exact rfl; exact rfl)
    | ((with_reducible apply Sy.noG); exact rfl; exact rfl; exact rfl; exact rfl; exact rfl)
    | ((with_reducible apply Sy.caseG); (case hj => exact rfl); (case hx => exact rfl); all_goals (intro hc; try (exfalso; omega)))
    | ((with_reducible apply Sy.ite); (case hx => exact rfl); all_goals (intro hc; try (exfalso; omega)))
    | ((with_reducible apply Sy.iteB); (case hx => exact rfl); all_goals intro hc))
    · have e : G = ([], 21) := by rw [hG, if_pos (.inl hc)]
      rw [e]
      exact .fin [_, _] (.inr rfl) ⟨rfl, rfl, trivial⟩ fun H' hp => ⟨([], 0, []), ⟨rfl, by simp [CopS], by simp⟩, rfl, hp.less (List.nil_sublist _)⟩
    · have e : G = ([], 21) := by rw [hG, if_pos (.inr (by rw [← hk]; exact hc))]
      rw [e]
      exact .fin [_, _] (.inr rfl) ⟨rfl, rfl, trivial⟩ fun H' hp => ⟨([], 0, []), ⟨rfl, by simp [CopS], by simp⟩, rfl, hp.less (List.nil_sublist _)⟩
    · have e : G = ((rdSts r1 i).1, 0) := by
        rw [hG, if_neg]
        rintro (h | h)
        · exact absurd h (by assumption)
        · rw [← hk] at h; exact absurd (hc.symm.trans h) (by decide)
      rw [e]
      exact .fin [_, _] (.inr rfl) ⟨rfl, rfl, trivial⟩ fun H' hp => ⟨(out, bo, L), ⟨hk, hL, h256o⟩, rfl, hp.less (.cons _ (List.sublist_append_right _ _))⟩
end Go.Proofs.YtjimjolfnimimaaDoor

/- Layer 06: the reference's From. -/
namespace Go.Proofs.YtjimjolfnimimaaDoor
open Go Go.Am
set_option maxRecDepth 100000
set_option linter.unusedVariables false

theorem next_e {r : Rd} {k : Nat} (h : r.e ≠ 0) : (r.next k).e ≠ 0 := by
  unfold Rd.next
  rw [if_neg (fun x => h x.1)]
  unfold Rd.bad
  rw [if_neg h]
  exact h
theorem rdCnt_e {r : Rd} {k : Nat} (h : r.e ≠ 0) : (rdCnt k r).2.e ≠ 0 := by
  have h1 := next_e (k := 8) h
  unfold rdCnt
  rw [if_neg (fun x => h1 x.1), if_pos h1]
  exact h1
theorem rdHs_e {r : Rd} {i : Nat} (h : (rdHs r i).2.e ≠ 0) : ∀ j, i ≤ j → (rdHs r j).2.e ≠ 0 := fun j hj => by
  induction j with
  | zero => obtain rfl : i = 0 := by omega
            exact h
  | succ j ih =>
    by_cases he : i = j + 1
    · subst he; exact h
    · exact next_e (ih (by omega))
theorem rdSt_e {r : Rd} (h : r.e ≠ 0) : (rdSt r).2.e ≠ 0 := by
  have h1 : (rdCnt 256 (((r.next 32).next 32).next 32)).2.e ≠ 0 := rdCnt_e (next_e (next_e (next_e h)))
  exact rdHs_e (i := 0) h1 _ (Nat.zero_le _)
theorem rdSts_e {r : Rd} {i : Nat} (h : (rdSts r i).2.e ≠ 0) : ∀ j, i ≤ j → (rdSts r j).2.e ≠ 0 := fun j hj => by
  induction j with
  | zero => obtain rfl : i = 0 := by omega
            exact h
  | succ j ih =>
    by_cases he : i = j + 1
    · subst he; exact h
    · exact rdSt_e (ih (by omega))
theorem bvR1 {k : Hsh} : buildV Tryd.prog 123 [(0, hV k)] = some (.agg ⟨hC k ++ (hC zeroH ++ (hC zeroH ++ [.slice none 0 0]))⟩) := bv123 (by
  simp only [fillL, plc, hV_cells]
  have e1 : lay (hC zeroH ++ (hC zeroH ++ (hC zeroH ++ [Value.slice none 0 0]))) 0 (hC k) = hC k ++ (hC zeroH ++ (hC zeroH ++ [Value.slice none 0 0])) := lay_here (by simp)
  simp [e1])
theorem setR2 {a b b' : Hsh} {x : List Value} : lay (hC a ++ (hC b ++ x)) (0 + 32) (hC b') = hC a ++ (hC b' ++ x) := by
  have := lay_there (a := hC a) (b := hC b ++ x) (v := hC b') (o := 32) (k := 0) (by simp)
  rw [Nat.add_zero] at this
  rw [this, lay_here (by simp)]
theorem setR3 {a b c c' : Hsh} {x : List Value} : lay (hC a ++ (hC b ++ (hC c ++ x))) (0 + 64) (hC c') = hC a ++ (hC b ++ (hC c' ++ x)) := by
  have := lay_there (a := hC a ++ hC b) (b := hC c ++ x) (v := hC c') (o := 64) (k := 0) (by simp)
  rw [Nat.add_zero, List.append_assoc] at this
  rw [this, lay_here (by simp), List.append_assoc]
theorem ld_rstp {a b c : Hsh} {x : Value} {T : TypeId} {w : Bool} : aLoad Tryd.prog 123 (.cells (hC a ++ (hC b ++ (hC c ++ [x]))) T w) 0 = some (.agg ⟨hC a ++ (hC b ++ (hC c ++ [x]))⟩) :=
  ld_agg ag123 sz123 (by simp) (by rw [List.drop_zero, List.take_of_length_le (by simp)])
set_option maxHeartbeats 4000000 in
theorem c_rFrom {H : AHeap} {p c a : Nat} {lb : List Nat} {r0 : Rd} {v : Value} (h : RrAt H p c lb r0 v a) : CallR Tryd.prog noPrims 70 [.pointer (some ⟨p, 0, none⟩)] H (fun u H' => ∃ i : List Stp × Nat × Hm × Nat × Rd, ((i.2.2.2.2.e = 0 → (kS i.1, i.2.2.2.2) = rdSts (rdCnt 64 r0).2 (rdCnt 64 r0).1) ∧ (i.2.2.2.2.e ≠ 0 → (rdSts (rdCnt 64 r0).2 (rdCnt 64 r0).1).2.e ≠ 0) ∧ CopS i.2.2.1 i.1 ∧ (∀ s ∈ i.1, s.l.length ≤ 256) ∧ i.1.length ≤ 64 ∧ i.2.2.2.1 ≤ lb.length ∧ lb.drop i.2.2.2.1 = i.2.2.2.2.l) ∧ u = accV 97 (stCs i.1) i.1.length i.2.1 ∧ Hp H 0 0 H' [(p, .cells (rrC v i.2.2.2.1 i.2.2.2.2.e) 148 true)] (accM 123 (stCs i.1) i.1.length i.2.1 ++ i.2.2.1)) := by
  have hplt := h.lt
  have hn64 := rdCnt_le 64 r0
  refine CallR.sy (n := 61) Tryd.func70 rfl rfl rfl ?_
  repeat' (first
    | (with_reducible refine Sy.seq ?_)
    | (with_reducible refine Sy.regionL ?_)
    | (with_reducible refine Sy.opsnil ?_)
    | (with_reducible refine Sy.go ?_)
    | (with_reducible refine Sy.nrm ?_)
    | ((with_reducible apply Sy.assign); exact rfl; exact rfl)
    | ((with_reducible apply Sy.move); exact rfl; exact rfl)
    | ((with_reducible apply Sy.callTX (k := 84)); exact rfl; exact rfl; exact en84; exact rfl; (case hc => intro H' hp; exact k_rCount (most := 64) (h.of hp (List.forall_mem_nil _)) (by decide)); exact hplt; exact notM; rintro a1 h1)
    | (with_reducible refine Sy.block ?_))
  generalize rdCnt 64 r0 = N1 at hn64 h1 ⊢
  obtain ⟨n, r1⟩ := N1
  dsimp only at hn64 h1 ⊢
  refine Sy.loop (ι := Nat × List Stp × Nat × Hm × Nat × Rd) (fun i => n - i.1) (fun i => [(0, .pointer (some ⟨p, 0, none⟩)), (3, .int .i64 ((n : Nat) : Int)), (4, accV 97 (stCs i.2.1) i.2.1.length i.2.2.1), (5, .int .i64 (i.1 : Nat))]) (fun i => [(p, .cells (rrC v i.2.2.2.2.1 i.2.2.2.2.2.e) 148 true)]) (fun i => accM 123 (stCs i.2.1) i.2.1.length i.2.2.1 ++ i.2.2.2.1) (fun i => i.1 ≤ n ∧ i.2.1.length = i.1 ∧ (i.2.2.2.2.2.e = 0 → (kS i.2.1, i.2.2.2.2.2) = rdSts r1 i.1) ∧ (i.2.2.2.2.2.e ≠ 0 → (rdSts r1 i.1).2.e ≠ 0) ∧ CopS i.2.2.2.1 i.2.1 ∧ (∀ s ∈ i.2.1, s.l.length ≤ 256) ∧ i.2.2.2.2.1 ≤ lb.length ∧ lb.drop i.2.2.2.2.1 = i.2.2.2.2.2.l) (0, [], 0, [], a1, r1) ⟨Nat.zero_le _, rfl, fun _ => rfl, fun h => h, by simp [CopS], by simp, h1⟩ ⟨rfl, rfl, rfl, rfl, trivial⟩ (fun H h => h) ?_
  rintro ⟨i, out, bo, L, a2, r⟩ ⟨hi, hol, hI1, hI2, hL, h256o, h2⟩
  dsimp only at hi hol hI1 hI2 hL h256o h2 ⊢
  by_cases hlt : i < n ∧ r.e = 0
  · obtain ⟨hlt, hr0⟩ := hlt
    have hI3 := hI1 hr0
    have hS1 : rdSts r1 (i + 1) = ((rdSts r1 i).1 ++ [(rdSt (rdSts r1 i).2).1], (rdSt (rdSts r1 i).2).2) := rfl
    rw [← hI3] at hS1
    dsimp only at hS1
    repeat' (first
    | (with_reducible refine Sy.seq ?_)
    | (with_reducible refine Sy.regionL ?_)
    | (with_reducible refine Sy.opsnil ?_)
    | (with_reducible refine Sy.go ?_)
    | (with_reducible refine Sy.nrm ?_)
    | ((with_reducible refine Sy.build (t := 123) rfl rfl bvR1 ?_))
    | ((with_reducible refine Sy.stNa (t := 44) rfl rfl sz44 (hC_length _) (hC_one _) (by repeat (first | exact Turn.here | apply Turn.there | apply Turn.app)) (by simp) setR2 ?_))
    | ((with_reducible refine Sy.stNa (t := 44) rfl rfl sz44 (hC_length _) (hC_one _) (by repeat (first | exact Turn.here | apply Turn.there | apply Turn.app)) (by simp) setR3 ?_))
    | ((with_reducible refine Sy.stNa (t := 123) rfl rfl sz123 (by simp) (by simp [oneL_append, hC_one, oneL_cons, oneL_nil, Value.oneCell']) (by repeat (first | exact Turn.here | apply Turn.there | apply Turn.app)) (by simp) (lay_all (by simp)) ?_))
    | ((with_reducible apply Sy.assign); exact rfl; exact rfl)
    | ((with_reducible apply Sy.move); exact rfl; exact rfl)
    | ((with_reducible apply Sy.bin (op := .lss) (t := 3)); exact rfl; exact rfl; exact rfl; exact b_lss)
    | ((with_reducible apply Sy.bin (op := .lss) (t := 3)); exact rfl; exact rfl; exact rfl; exact bz_lss)
    | ((with_reducible apply Sy.nilC); exact rfl; exact rfl; exact rfl)
    | ((with_reducible apply Sy.fa (t := 148) (i := 2)); exact rfl; exact rfl; exact fa148_2 _ _)
    | ((with_reducible apply Sy.ldO (t := 3)); exact rfl; exact rfl; exact hasT; (· first | exact ld_one ag3 rfl))
    | ((with_reducible apply Sy.bin (op := .eql) (t := 3)); exact rfl; exact rfl; exact rfl; exact b_eql)
    | ((with_reducible apply Sy.bin (op := .eql) (t := 3)); exact rfl; exact rfl; exact rfl; exact bz_eql)
    | ((with_reducible apply Sy.pickT); exact rfl; exact rfl; exact rfl)
    | ((with_reducible apply Sy.fa (t := 123) (i := 1)); exact rfl; exact rfl; exact fa123_1 _ _)
    | ((with_reducible apply Sy.fa (t := 123) (i := 2)); exact rfl; exact rfl; exact fa123_2 _ _)
    | ((with_reducible apply Sy.fa (t := 121) (i := 0)); exact rfl; exact rfl; exact fa121_0 _ _)
    | ((with_reducible apply Sy.fa (t := 121) (i := 1)); exact rfl; exact rfl; exact fa121_1 _ _)
    | ((with_reducible apply Sy.ldO (t := 114)); exact rfl; exact rfl; exact hasT; (· first | exact ld_one ag114 rfl))
    | ((with_reducible apply Sy.ldO (t := 123)); exact rfl; exact rfl; exact hasT; (· first | exact ld_all ag123 (by first | exact sz123 | (simp [sz123, *]; done)) | exact ld_agg ag123 sz123 (by first | (simp; done) | (simp; omega)) (by first | with_reducible exact cut_kids | rfl | (simp [List.drop_append, List.take_append, List.getElem?_append, lay, hC_length, ints_length, ints_drop, ints_take, ints_append, List.drop_of_length_le, List.take_of_length_le, List.map_append, List.set_append, Value.cells]; done))))
    | ((with_reducible apply Sy.callTO (k := 112)); exact rfl; exact rfl; exact en112; exact rfl; (case hc => intro H' hp; exact k_rHash (h.o1 (r' := r) hp h2)); (intro i; exact turnT); rintro a3 h3)
    | ((with_reducible apply Sy.callTO (k := 112)); exact rfl; exact rfl; exact en112; exact rfl; (case hc => intro H' hp; exact k_rHash (h.o1 (r' := r.next 32) hp h3)); (intro i; exact turnT); rintro a4 h4)
    | ((with_reducible apply Sy.callTO (k := 112)); exact rfl; exact rfl; exact en112; exact rfl; (case hc => intro H' hp; exact k_rHash (h.o1 (r' := (r.next 32).next 32) hp h4)); (intro i; exact turnT); rintro a5 h5)
    | ((with_reducible apply Sy.callTO (k := 84)); exact rfl; exact rfl; exact en84; exact rfl; (case hc => intro H' hp; exact k_rCount (most := 256) (h.o1 (r' := ((r.next 32).next 32).next 32) hp h5) (by decide)); (intro i; exact turnT); rintro a6 h6)
    | ((with_reducible apply Sy.newY (o := ⟨some 6, .alloc 123, _, _, _, _⟩)); exact rfl; exact rfl; exact nwz123; intro q6)
    | (with_reducible refine Sy.skip ?_)
    | (with_reducible refine Sy.block ?_)
    | ((with_reducible apply Sy.goG); exact rfl; exact rfl; exact rfl)
    | ((with_reducible apply Sy.caseG); (case hj => exact rfl); (case hx => exact rfl); all_goals (intro hc; try (exfalso; omega)))
    | ((with_reducible apply Sy.ite); (case hx => exact rfl); all_goals (intro hc; try (exfalso; omega))))
    simp only [List.nil_append]
    have hm256 := rdCnt_le 256 (((r.next 32).next 32).next 32)
    have hSt : rdSt r = ((rdH r, rdH (r.next 32), rdH ((r.next 32).next 32), (rdHs (rdCnt 256 (((r.next 32).next 32).next 32)).2 (rdCnt 256 (((r.next 32).next 32).next 32)).1).1), (rdHs (rdCnt 256 (((r.next 32).next 32).next 32)).2 (rdCnt 256 (((r.next 32).next 32).next 32)).1).2) := rfl
    rw [hSt] at hS1
    clear hSt
    generalize rdCnt 256 (((r.next 32).next 32).next 32) = N2 at hS1 hm256 h6 ⊢
    obtain ⟨m, r5⟩ := N2
    dsimp only at hS1 hm256 h6 ⊢
    generalize rdH r = k1 at hS1 ⊢
    generalize rdH (r.next 32) = k2 at hS1 ⊢
    generalize rdH ((r.next 32).next 32) = k3 at hS1 ⊢
    refine Sy.loop (ι := Nat × List Hsh × Nat × Nat × Rd) (fun j => m - j.1) (fun j => [(0, .pointer (some ⟨p, 0, none⟩)), (3, .int .i64 ((n : Nat) : Int)), (4, accV 97 (stCs out) out.length bo), (5, .int .i64 (i : Nat)), (6, .pointer (some ⟨q6, 0, none⟩)), (7, .int .i64 ((m : Nat) : Int)), (8, .int .i64 (j.1 : Nat))]) (fun j => [(p, .cells (rrC v j.2.2.2.1 j.2.2.2.2.e) 148 true)]) (fun j => (q6, .cells (hC k1 ++ (hC k2 ++ (hC k3 ++ [accV 32 (hcs j.2.1) j.2.1.length j.2.2.1]))) 123 true) :: (accM 44 (hcs j.2.1) j.2.1.length j.2.2.1 ++ (accM 123 (stCs out) out.length bo ++ L))) (fun j => j.1 ≤ m ∧ j.2.1.length = j.1 ∧ (j.2.1, j.2.2.2.2) = rdHs r5 j.1 ∧ j.2.2.2.1 ≤ lb.length ∧ lb.drop j.2.2.2.1 = j.2.2.2.2.l) (0, [], 0, a6, r5) ⟨Nat.zero_le _, rfl, rfl, h6⟩ ⟨rfl, rfl, rfl, rfl, rfl, rfl, rfl, trivial⟩ (fun H h => h) ?_
    rintro ⟨j, hs, bq, a7, r'⟩ ⟨hj, hhl, hh, h7⟩
    dsimp only at hj hhl hh h7 ⊢
    by_cases hjm : j < m ∧ r'.e = 0
    · obtain ⟨hjm, hr1⟩ := hjm
      have hT1 : rdHs r5 (j + 1) = ((rdHs r5 j).1 ++ [rdH (rdHs r5 j).2], (rdHs r5 j).2.next 32) := rfl
      rw [← hh] at hT1
      repeat' (first
    | (with_reducible refine Sy.seq ?_)
    | (with_reducible refine Sy.regionL ?_)
    | (with_reducible refine Sy.opsnil ?_)
    | (with_reducible refine Sy.go ?_)
    | (with_reducible refine Sy.nrm ?_)
    | ((with_reducible apply Sy.drawL (id := 13) 10 [(2, 4)] (fun hi h => h = q6)); (case hp => kernel_rfl); (case hN => exact rfl); intro base hbase hM; try simp only [List.forall_mem_cons, List.forall_mem_append, List.not_mem_nil, false_implies, implies_true, and_true] at hM)
    | ((with_reducible refine Sy.ldN (t := 114) rfl rfl (by repeat (first | exact Has.here | apply Has.there | apply Has.app)) ld96 ?_))
    | ((with_reducible apply Sy.appB (t := 114) (xt := 114)); exact (ap114_114 zr44 rfl); exact rfl; exact rfl; exact rfl; exact SrcY.h1 hasT; exact hC_one _; (· simp); (· omega); exact pullT; exact hcs_length _; exact hcs_snoc _ _; intro q53)
    | ((with_reducible apply Sy.stN1 (t := 114)); exact rfl; exact rfl; exact sz114; exact accV_cells; exact accV_oneL; exact turnT; (· simp); exact set96)
    | ((with_reducible apply Sy.assign); exact rfl; exact rfl)
    | ((with_reducible apply Sy.move); exact rfl; exact rfl)
    | ((with_reducible apply Sy.bin (op := .lss) (t := 3)); exact rfl; exact rfl; exact rfl; exact b_lss)
    | ((with_reducible apply Sy.bin (op := .lss) (t := 3)); exact rfl; exact rfl; exact rfl; exact bz_lss)
    | ((with_reducible apply Sy.nilC); exact rfl; exact rfl; exact rfl)
    | ((with_reducible apply Sy.fa (t := 148) (i := 2)); exact rfl; exact rfl; exact fa148_2 _ _)
    | ((with_reducible apply Sy.ldO (t := 3)); exact rfl; exact rfl; exact hasT; (· first | exact ld_one ag3 rfl))
    | ((with_reducible apply Sy.bin (op := .eql) (t := 3)); exact rfl; exact rfl; exact rfl; exact b_eql)
    | ((with_reducible apply Sy.bin (op := .eql) (t := 3)); exact rfl; exact rfl; exact rfl; exact bz_eql)
    | ((with_reducible apply Sy.pickT); exact rfl; exact rfl; exact rfl)
    | ((with_reducible apply Sy.fa (t := 123) (i := 1)); exact rfl; exact rfl; exact fa123_1 _ _)
    | ((with_reducible apply Sy.fa (t := 123) (i := 2)); exact rfl; exact rfl; exact fa123_2 _ _)
    | ((with_reducible apply Sy.fa (t := 121) (i := 0)); exact rfl; exact rfl; exact fa121_0 _ _)
    | ((with_reducible apply Sy.fa (t := 121) (i := 1)); exact rfl; exact rfl; exact fa121_1 _ _)
    | ((with_reducible apply Sy.ldO (t := 114)); exact rfl; exact rfl; exact hasT; (· first | exact ld_one ag114 rfl))
    | ((with_reducible apply Sy.bin (op := .add) (t := 3)); exact rfl; exact rfl; exact rfl; exact (b_add (by omega)))
    | ((with_reducible apply Sy.bin (op := .add) (t := 3)); exact rfl; exact rfl; exact rfl; exact (bz_add (by omega) (by omega)))
    | ((with_reducible apply Sy.ldO (t := 123)); exact rfl; exact rfl; exact hasT; (· first | exact ld_all ag123 (by first | exact sz123 | (simp [sz123, *]; done)) | exact ld_agg ag123 sz123 (by first | (simp; done) | (simp; omega)) (by first | with_reducible exact cut_kids | rfl | (simp [List.drop_append, List.take_append, List.getElem?_append, lay, hC_length, ints_length, ints_drop, ints_take, ints_append, List.drop_of_length_le, List.take_of_length_le, List.map_append, List.set_append, Value.cells]; done))))
    | ((with_reducible apply Sy.dgo); (· first | exact wantY_none); (· intro hcls; cases hcls); exact rfl; exact rfl)
    | ((with_reducible apply Sy.dwr); (case hw => first | exact wantY_none); (case hc => intro hcls; cases hcls); (case h1 => exact rfl); (case hk => exact .consN (b := q6) hasT .nil); (case hS => intro h hh; subst hh; exact ⟨_, List.mem_singleton.2 rfl⟩))
    | ((with_reducible apply Sy.dand); (case hk => exact .consN (b := q6) hasT .nil))
    | ((with_reducible apply Sy.callTO (k := 112)); exact rfl; exact rfl; exact en112; exact rfl; (case hc => intro H' hp; exact k_rHash (h.o1 (r' := r') hp h7)); (intro i; exact turnT); rintro a8 h8)
    | ((with_reducible apply Sy.dnew (o := ⟨some 52, .buildSlice 114 _ _, _, _, _, _⟩)); (· first | exact wantY_none); exact rfl; exact rfl; exact rfl; exact rfl; exact rfl; (· exact (nba1 Tryd.underlying114 sz44 zr44 rfl (by decide) rfl (by first | exact hC_length _))); intro q52 hq52)
    | ((with_reducible apply Sy.dnew (o := ⟨some 52, .buildSlice 114 _ _, _, _, _, _⟩)); (· first | exact wantY_none); exact rfl; exact rfl; exact rfl; exact rfl; exact rfl; (· exact (newY_bs Tryd.underlying114 sz44 zr44 rfl (by decide) rfl (by first | rfl | (simp [List.drop_append, List.take_append, List.getElem?_append, lay, hC_length, ints_length, ints_drop, ints_take, ints_append, List.drop_of_length_le, List.take_of_length_le, List.map_append, List.set_append, Value.cells]; done)))); intro q52 hq52)
    | (with_reducible refine Sy.skip ?_)
    | (with_reducible refine Sy.block ?_)
    | (with_reducible refine Sy.inrm ?_)
    | ((with_reducible apply Sy.goG); exact rfl; exact rfl; exact rfl)
    | (with_reducible refine Sy.dend ?_)
    | ((with_reducible apply Sy.dgo); (· first | exact wantY_none); (· intro hcls; cases hcls); exact rfl; exact rfl)
    | ((with_reducible apply Sy.dld); (· first | exact wantY_none); exact rfl; (· first | omega); exact rfl)
    | ((with_reducible apply Sy.caseG); (case hj => exact rfl); (case hx => exact rfl); all_goals (intro hc; try (exfalso; omega)))
    | ((with_reducible apply Sy.ite); (case hx => exact rfl); all_goals (intro hc; try (exfalso; omega))))
      have e1 : (hs ++ [rdH r']).length = hs.length + 1 := by simp
      refine Sy.rnrm (j + 1, hs ++ [rdH r'], q53, a8, r'.next 32) ⟨by omega, by dsimp only; omega, by rw [hT1], h8⟩ (by dsimp only; omega) ⟨rfl, rfl, rfl, rfl, rfl, rfl, rfl, trivial⟩ (fun H1 h => ?_)
      dsimp only
      rw [e1]
      exact (h.less (.cons_cons _ (.cons _ (.refl _)))).perm (List.perm_middle (l₁ := [_]))
    · have e1 : ∀ s : Stp, (out ++ [s]).length = out.length + 1 := fun s => by simp
      repeat' (first
    | (with_reducible refine Sy.seq ?_)
    | (with_reducible refine Sy.regionL ?_)
    | (with_reducible refine Sy.opsnil ?_)
    | (with_reducible refine Sy.go ?_)
    | (with_reducible refine Sy.nrm ?_)
    | ((with_reducible refine Sy.ldN (t := 123) rfl rfl (by repeat (first | exact Has.here | apply Has.there | apply Has.app)) ld_rstp ?_))
    | ((with_reducible apply Sy.move); exact rfl; exact rfl)
    | ((with_reducible apply Sy.bin (op := .lss) (t := 3)); exact rfl; exact rfl; exact rfl; exact b_lss)
    | ((with_reducible apply Sy.bin (op := .lss) (t := 3)); exact rfl; exact rfl; exact rfl; exact bz_lss)
    | ((with_reducible apply Sy.nilC); exact rfl; exact rfl; exact rfl)
    | ((with_reducible apply Sy.fa (t := 148) (i := 2)); exact rfl; exact rfl; exact fa148_2 _ _)
    | ((with_reducible apply Sy.ldO (t := 3)); exact rfl; exact rfl; exact hasT; (· first | exact ld_one ag3 rfl))
    | ((with_reducible apply Sy.bin (op := .eql) (t := 3)); exact rfl; exact rfl; exact rfl; exact b_eql)
    | ((with_reducible apply Sy.bin (op := .eql) (t := 3)); exact rfl; exact rfl; exact rfl; exact bz_eql)
    | ((with_reducible apply Sy.pickT); exact rfl; exact rfl; exact rfl)
    | ((with_reducible apply Sy.pickF); exact rfl; exact rfl; exact rfl)
    | ((with_reducible apply Sy.fa (t := 123) (i := 1)); exact rfl; exact rfl; exact fa123_1 _ _)
    | ((with_reducible apply Sy.fa (t := 123) (i := 2)); exact rfl; exact rfl; exact fa123_2 _ _)
    | ((with_reducible apply Sy.fa (t := 121) (i := 0)); exact rfl; exact rfl; exact fa121_0 _ _)
    | ((with_reducible apply Sy.fa (t := 121) (i := 1)); exact rfl; exact rfl; exact fa121_1 _ _)
    | ((with_reducible apply Sy.ldO (t := 114)); exact rfl; exact rfl; exact hasT; (· first | exact ld_one ag114 rfl))
    | ((with_reducible apply Sy.ldO (t := 123)); exact rfl; exact rfl; exact hasT; (· first | exact ld_all ag123 (by first | exact sz123 | (simp [sz123, *]; done)) | exact ld_agg ag123 sz123 (by first | (simp; done) | (simp; omega)) (by first | with_reducible exact cut_kids | rfl | (simp [List.drop_append, List.take_append, List.getElem?_append, lay, hC_length, ints_length, ints_drop, ints_take, ints_append, List.drop_of_length_le, List.take_of_length_le, List.map_append, List.set_append, Value.cells]; done))))
    | ((with_reducible apply Sy.newY (o := ⟨some 58, .buildSlice 52 _ _, _, _, _, _⟩)); exact rfl; exact rfl; (· exact (nba1 Tryd.underlying52 sz123 zr123 rfl (by decide) rfl (by first | (simp; done)))); intro q58)
    | ((with_reducible apply Sy.newY (o := ⟨some 58, .buildSlice 52 _ _, _, _, _, _⟩)); exact rfl; exact rfl; (· exact (newY_bs Tryd.underlying52 sz123 zr123 rfl (by decide) rfl (by first | rfl | (simp [List.drop_append, List.take_append, List.getElem?_append, lay, hC_length, ints_length, ints_drop, ints_take, ints_append, List.drop_of_length_le, List.take_of_length_le, List.map_append, List.set_append, Value.cells]; done)))); intro q58)
    | (with_reducible refine Sy.exit ?_)
    | (with_reducible refine Sy.aex ?_)
    | ((with_reducible apply Sy.iex); exact rfl)
    | (with_reducible refine Sy.rex ?_)
    | ((with_reducible apply Sy.no); exact rfl)
    | ((with_reducible apply Sy.goG); exact rfl; exact rfl; exact rfl)
    | ((with_reducible apply Sy.noG); exact rfl; exact rfl; exact rfl; exact rfl; exact rfl)
    | ((with_reducible apply Sy.caseG); (case hj => exact rfl); (case hx => exact rfl); all_goals (intro hc; try (exfalso; omega)))
    | ((with_reducible apply Sy.ite); (case hx => exact rfl); all_goals (intro hc; try (exfalso; omega))))
      all_goals (
        refine Sy.appB (t := 52) (xt := 52) (ap52_52 zr123 rfl) rfl rfl rfl (SrcY.st (s := ⟨k1, k2, k3, hs, accV 32 (hcs hs) hs.length bq⟩) hasT) (oneSt (accV_one (l := hcs hs))) (by rw [Stp.c_length]) (by omega) pullT (stCs_length _) (stCs_snoc _ _) ?_
        intro q59
        repeat' (first
    | (with_reducible refine Sy.regionL ?_)
    | (with_reducible refine Sy.opsnil ?_)
    | (with_reducible refine Sy.go ?_)
    | (with_reducible refine Sy.nrm ?_)
    | ((with_reducible apply Sy.assign); exact rfl; exact rfl)
    | ((with_reducible apply Sy.move); exact rfl; exact rfl)
    | ((with_reducible apply Sy.bin (op := .add) (t := 3)); exact rfl; exact rfl; exact rfl; exact (b_add (by omega)))
    | ((with_reducible apply Sy.bin (op := .add) (t := 3)); exact rfl; exact rfl; exact rfl; exact (bz_add (by omega) (by omega)))
    | (with_reducible refine Sy.inrm ?_)))
      all_goals (
        refine Sy.rnrm (i + 1, out ++ [⟨k1, k2, k3, hs, accV 32 (hcs hs) hs.length bq⟩], q59, accM 44 (hcs hs) hs.length bq ++ L, a7, r') ⟨by omega, by dsimp only; rw [e1, hol], fun he => ?_, fun he => ?_, hL.snoc, fun s hs2 => ?_, h7⟩ (by dsimp only; omega) ⟨rfl, rfl, by rw [e1]; rfl, rfl, trivial⟩ (fun H1 h => ?_)
        · dsimp only at he ⊢
          obtain rfl : j = m := by omega
          rw [hS1, ← hh, k_snoc rfl rfl]; rfl
        · dsimp only at he ⊢
          rw [hS1]
          exact rdHs_e (i := j) (by rw [← hh]; exact he) m hj
        · rcases List.mem_append.1 hs2 with h | h
          · exact h256o s h
          · rw [List.mem_singleton] at h; subst h; show hs.length ≤ 256; omega
        · dsimp only
          rw [e1]
          exact h.less (.cons_cons _ (.cons _ (.cons _ (.refl _)))))
  · repeat' (first
    | (with_reducible refine Sy.seq ?_)
    | (with_reducible refine Sy.regionL ?_)
    | (with_reducible refine Sy.opsnil ?_)
    | (with_reducible refine Sy.go ?_)
    | (with_reducible refine Sy.nrm ?_)
    | ((with_reducible apply Sy.assign); exact rfl; exact rfl)
    | ((with_reducible apply Sy.move); exact rfl; exact rfl)
    | ((with_reducible apply Sy.bin (op := .lss) (t := 3)); exact rfl; exact rfl; exact rfl; exact b_lss)
    | ((with_reducible apply Sy.bin (op := .lss) (t := 3)); exact rfl; exact rfl; exact rfl; exact bz_lss)
    | ((with_reducible apply Sy.nilC); exact rfl; exact rfl; exact rfl)
    | ((with_reducible apply Sy.fa (t := 148) (i := 2)); exact rfl; exact rfl; exact fa148_2 _ _)
    | ((with_reducible apply Sy.ldO (t := 3)); exact rfl; exact rfl; exact hasT; (· first | exact ld_one ag3 rfl))
    | ((with_reducible apply Sy.bin (op := .eql) (t := 3)); exact rfl; exact rfl; exact rfl; exact b_eql)
    | ((with_reducible apply Sy.bin (op := .eql) (t := 3)); exact rfl; exact rfl; exact rfl; exact bz_eql)
    | ((with_reducible apply Sy.pickT); exact rfl; exact rfl; exact rfl)
    | ((with_reducible apply Sy.pickF); exact rfl; exact rfl; exact rfl)
    | ((with_reducible apply Sy.fa (t := 123) (i := 1)); exact rfl; exact rfl; exact fa123_1 _ _)
    | ((with_reducible apply Sy.fa (t := 123) (i := 2)); exact rfl; exact rfl; exact fa123_2 _ _)
    | ((with_reducible apply Sy.fa (t := 121) (i := 0)); exact rfl; exact rfl; exact fa121_0 _ _)
    | ((with_reducible apply Sy.fa (t := 121) (i := 1)); exact rfl; exact rfl; exact fa121_1 _ _)
    | ((with_reducible apply Sy.ldO (t := 114)); exact rfl; exact rfl; exact hasT; (· first | exact ld_one ag114 rfl))
    | ((with_reducible apply Sy.ldO (t := 123)); exact rfl; exact rfl; exact hasT; (· first | exact ld_all ag123 (by first | exact sz123 | (simp [sz123, *]; done)) | exact ld_agg ag123 sz123 (by first | (simp; done) | (simp; omega)) (by first | with_reducible exact cut_kids | rfl | (simp [List.drop_append, List.take_append, List.getElem?_append, lay, hC_length, ints_length, ints_drop, ints_take, ints_append, List.drop_of_length_le, List.take_of_length_le, List.map_append, List.set_append, Value.cells]; done))))
    | (with_reducible refine Sy.exit ?_)
    | (with_reducible refine Sy.ret ?_)
    | (with_reducible refine Sy.aex ?_)
    | ((with_reducible apply Sy.iex); exact rfl)
    | (with_reducible refine Sy.rex ?_)
    | ((with_reducible apply Sy.no); exact rfl)
    | ((with_reducible apply Sy.goG); exact rfl; exact rfl; exact rfl)
    | ((with_reducible apply Sy.noG); exact rfl; exact rfl; exact rfl; exact rfl; exact rfl)
    | ((with_reducible apply Sy.caseG); (case hj => exact rfl); (case hx => exact rfl); all_goals (intro hc; try (exfalso; omega)))
    | ((with_reducible apply Sy.ite); (case hx => exact rfl); all_goals (intro hc; try (exfalso; omega))))
    all_goals exact .fin [_] (.inr rfl) ⟨rfl, trivial⟩ fun H' hp => ⟨(out, bo, L, a2, r), ⟨fun he => by
        have : i = n := by dsimp only at he; omega
        subst this; exact hI1 he, fun he => rdSts_e (hI2 he) n hi, hL, h256o, by dsimp only; omega, h2⟩, rfl, hp⟩
end Go.Proofs.YtjimjolfnimimaaDoor

/- Layer 06: the reference's Get. -/
namespace Go.Proofs.YtjimjolfnimimaaDoor
open Go Go.Am
set_option maxRecDepth 100000
set_option linter.unusedVariables false

set_option maxHeartbeats 4000000 in
theorem c_rGet (v : Value) (l : List Nat) (H : AHeap) (hv : SlR H 1 v l.length (ints .u8 l)) (h256 : ∀ x ∈ l, x < 256) (hl : l.length ≤ 140737488355328) : CallR Tryd.prog noPrims 28 [v] H (fun u H' => ∃ i : List Stp × Nat × Hm, (kS i.1 = (getS l).1 ∧ CopS i.2.2 i.1 ∧ ∀ s ∈ i.1, s.l.length ≤ 256) ∧ u = .tuple ⟨[accV 97 (stCs i.1) i.1.length i.2.1, .int .i64 (((getS l).2 : Nat) : Int)]⟩ ∧ Hp H 0 0 H' [] (accM 123 (stCs i.1) i.1.length i.2.1 ++ i.2.2)) := by
  obtain ⟨va, vk, rfl⟩ := slr_form hv
  refine CallR.sy (n := 33) Tryd.func28 rfl rfl rfl ?_
  repeat' (first
    | (with_reducible refine Sy.seq ?_)
    | (with_reducible refine Sy.regionL ?_)
    | (with_reducible refine Sy.opsnil ?_)
    | (with_reducible refine Sy.go ?_)
    | (with_reducible refine Sy.nrm ?_)
    | ((with_reducible apply Sy.assign); exact rfl; exact rfl)
    | ((with_reducible apply Sy.move); exact rfl; exact rfl)
    | ((with_reducible apply Sy.callN (k := 49)); exact rfl; exact rfl; exact en49; exact rfl; (intro H' hp; exact k_rNewReader _ l H' (hv.of hp) hl); rintro ⟨p, c, v1⟩ ⟨cap, h1⟩))
  dsimp only at h1 ⊢
  subst h1
  rw [List.cons_append]
  repeat' (first
    | (with_reducible refine Sy.seq ?_)
    | (with_reducible refine Sy.regionL ?_)
    | (with_reducible refine Sy.opsnil ?_)
    | (with_reducible refine Sy.go ?_)
    | (with_reducible refine Sy.nrm ?_)
    | ((with_reducible apply Sy.assign); exact rfl; exact rfl)
    | ((with_reducible apply Sy.move); exact rfl; exact rfl)
    | ((with_reducible apply Sy.callTN (k := 70)); exact rfl; exact rfl; exact en70; exact rfl; (case hc => intro H' hp; exact c_rFrom (RrAt.n1 (r := ⟨l, 0⟩) (c := c) (a := 0) hp .here ⟨_, rfl⟩ (fun hx => .there (bufM_has hx)) h256 hl ⟨Nat.zero_le _, rfl⟩)); (intro i; exact turnT); rintro ⟨out, bo, L, a1, r⟩ ⟨hF1, hF2, hL, h256o, hol, h2⟩))
  dsimp only at hF1 hF2 hL h256o hol h2 ⊢
  repeat' (first
    | (with_reducible refine Sy.seq ?_)
    | (with_reducible refine Sy.regionL ?_)
    | (with_reducible refine Sy.opsnil ?_)
    | (with_reducible refine Sy.go ?_)
    | (with_reducible refine Sy.nrm ?_)
    | ((with_reducible apply Sy.assign); exact rfl; exact rfl)
    | ((with_reducible apply Sy.move); exact rfl; exact rfl)
    | ((with_reducible apply Sy.bin (op := .neq) (t := 3)); exact rfl; exact rfl; exact rfl; exact b_neq)
    | ((with_reducible apply Sy.bin (op := .neq) (t := 3)); exact rfl; exact rfl; exact rfl; exact bz_neq)
    | ((with_reducible apply Sy.lenS); exact rfl; exact Tryd.underlying25; exact rfl)
    | ((with_reducible apply Sy.bin (op := .gtr) (t := 3)); exact rfl; exact rfl; exact rfl; exact b_gtr)
    | ((with_reducible apply Sy.bin (op := .gtr) (t := 3)); exact rfl; exact rfl; exact rfl; exact bz_gtr)
    | ((with_reducible apply Sy.pickT); exact rfl; exact rfl; exact rfl)
    | ((with_reducible apply Sy.pickF); exact rfl; exact rfl; exact rfl)
    | ((with_reducible apply Sy.lenS); exact rfl; exact Tryd.underlying52; exact rfl)
    | ((with_reducible apply Sy.call0 (k := 51)); exact rfl; exact rfl; exact en51; exact rfl; (intro H' hp; exact k_rDone (RrAt.n1 (r := r) (c := c) (a := a1) (v := .slice (some ⟨c, 0, none⟩) l.length cap) hp (by repeat (first | exact Has.here | apply Has.there | apply Has.app)) ⟨_, rfl⟩ (fun hx => by repeat (first | exact bufM_has hx | apply Has.there | apply Has.app)) h256 hl h2)))
    | (with_reducible refine Sy.skip ?_)
    | (with_reducible refine Sy.ret ?_)
    | (with_reducible refine Sy.block ?_)
    | (with_reducible refine Sy.aret ?_)
    | ((with_reducible apply Sy.yes); exact rfl)
    | ((with_reducible apply Sy.goG); exact rfl; exact rfl; exact rfl)
    | ((with_reducible apply Sy.noG); exact rfl; exact rfl; exact rfl; exact rfl; exact rfl)
    | ((with_reducible apply Sy.caseG); (case hj => exact rfl); (case hx => exact rfl); all_goals (intro hc; try (exfalso; omega)))
    | ((with_reducible apply Sy.ite); (case hx => exact rfl); all_goals (intro hc; try (exfalso; omega))))
  · have e : getS l = ([], 21) := by
      unfold getS
      split
      · rfl
      · rw [if_pos]
        by_cases he : r.e = 0
        · rw [← hF1 he]; exact .inl hc
        · left
          have h1 := hF2 he
          unfold rdDone
          rw [if_neg (fun x => h1 x.1)]
          exact h1
    rw [e]
    exact .fin [_, _] (.inr rfl) ⟨rfl, rfl, trivial⟩ fun H' hp => ⟨([], 0, []), ⟨rfl, by simp [CopS], by simp⟩, rfl, hp.less (List.nil_sublist _)⟩
  · have e : getS l = ([], 21) := by unfold getS; rw [if_pos hc]
    rw [e]
    exact .fin [_, _] (.inr rfl) ⟨rfl, rfl, trivial⟩ fun H' hp => ⟨([], 0, []), ⟨rfl, by simp [CopS], by simp⟩, rfl, hp.less (List.nil_sublist _)⟩
  rename_i hd
  have hd0 : rdDone r = 0 := by omega
  have he : r.e = 0 := by
    unfold rdDone at hd0
    split at hd0
    · omega
    · exact hd0
  have hG : getS l = if (kS out).any badK = true then ([], 21) else (kS out, 0) := by
    unfold getS
    rw [if_neg hc, ← hF1 he, hd0]
    by_cases hb : (kS out).any badK = true
    · rw [if_pos hb, if_pos (.inr hb)]
    · rw [if_neg hb, if_neg]
      rintro (h | h)
      · exact h rfl
      · exact hb h
  generalize getS l = G at hG ⊢
  obtain ⟨sa, sc, hv5, hsa⟩ : ∃ sa sc, accV 97 (stCs out) out.length bo = .slice sa out.length sc ∧ (out.length = 0 ∨ sa = some ⟨bo, 0, none⟩) := by
    unfold accV
    split
    · rename_i h; exact ⟨none, 0, by rw [h], .inl h⟩
    · exact ⟨_, _, rfl, .inr rfl⟩
  have hat : ∀ {H' : AHeap} {lo hi : Nat}, Hp H lo hi H' [] (accM 123 (stCs out) out.length bo ++ L) → StsAt 123 H' (accV 97 (stCs out) out.length bo) out := fun hp => by
    refine hL.at (b := bo) (c := out.length + 2 + 97) (w := true) hp (fun a o x => .app x) (fun x => accM_has (fun e => x (List.length_eq_zero_iff.1 e))) (fun s hs => by have := h256o s hs; omega) ?_
    unfold accV
    split
    · exact .inl ⟨rfl, List.length_eq_zero_iff.1 (by assumption)⟩
    · exact .inr rfl
  refine Sy.loop (ι := Nat) (fun i => out.length - i) (fun i => [(5, accV 97 (stCs out) out.length bo), (6, .int .i64 (i : Nat))]) (fun _ => []) (fun _ => accM 123 (stCs out) out.length bo ++ L) (fun i => i ≤ out.length ∧ ((kS out).take i).any badK = false) 0 ⟨Nat.zero_le _, by simp⟩ ⟨rfl, rfl, trivial⟩ (fun H h => h.less (List.sublist_append_left _ _)) ?_
  rintro i ⟨hi, hI⟩
  try dsimp only at hi hI ⊢
  rw [hv5] at hat ⊢
  by_cases hlt : i < out.length
  · obtain ⟨s, hs⟩ : ∃ s, out[i]? = some s := ⟨out[i], List.getElem?_eq_getElem hlt⟩
    have hk : (kS out)[i]? = some s.k := by rw [List.getElem?_map, hs]; rfl
    obtain rfl : sa = some ⟨bo, 0, none⟩ := hsa.resolve_left (by omega)
    repeat' (first
    | (with_reducible refine Sy.seq ?_)
    | (with_reducible refine Sy.regionL ?_)
    | (with_reducible refine Sy.opsnil ?_)
    | (with_reducible refine Sy.go ?_)
    | (with_reducible refine Sy.nrm ?_)
    | ((with_reducible refine Sy.ldN (t := 121) rfl rfl (accM_has (by omega)) (st_pr hs (by omega)) ?_))
    | ((with_reducible apply Sy.assign); exact rfl; exact rfl)
    | ((with_reducible apply Sy.move); exact rfl; exact rfl)
    | ((with_reducible apply Sy.lenS); exact rfl; exact Tryd.underlying25; exact rfl)
    | ((with_reducible apply Sy.lenS); exact rfl; exact Tryd.underlying52; exact rfl)
    | ((with_reducible apply Sy.bin (op := .lss) (t := 3)); exact rfl; exact rfl; exact rfl; exact b_lss)
    | ((with_reducible apply Sy.bin (op := .lss) (t := 3)); exact rfl; exact rfl; exact rfl; exact bz_lss)
    | ((with_reducible apply Sy.ia (t := 52)); exact rfl; exact rfl; exact rfl; exact (ia_sl Tryd.underlying52 sz123 (by omega)))
    | ((with_reducible apply Sy.fa (t := 123) (i := 2)); exact rfl; exact rfl; exact fa123_2 _ _)
    | ((with_reducible apply Sy.un (op := .not)); exact rfl; exact rfl; exact un_notT)
    | ((with_reducible apply Sy.un (op := .not)); exact rfl; exact rfl; exact un_notF)
    | ((with_reducible apply Sy.un (op := .not)); exact rfl; exact rfl; exact un_notD)
    | ((with_reducible apply Sy.un (op := .not)); exact rfl; exact rfl; exact un_not)
    | ((with_reducible apply Sy.bin (op := .add) (t := 3)); exact rfl; exact rfl; exact rfl; exact (b_add (by omega)))
    | ((with_reducible apply Sy.bin (op := .add) (t := 3)); exact rfl; exact rfl; exact rfl; exact (bz_add (by omega) (by omega)))
    | ((with_reducible apply Sy.call0 (k := 64)); exact rfl; exact rfl; exact en64; exact rfl; (intro H' hp; exact c_rRight s.mask s.v s.l H' ((hat hp).2 s (List.mem_of_getElem? hs)).1.at ((hat hp).2 s (List.mem_of_getElem? hs)).2))
    | (with_reducible refine Sy.skip ?_)
    | (with_reducible refine Sy.ret ?_)
    | (with_reducible refine Sy.block ?_)
    | (with_reducible refine Sy.aret ?_)
    | (with_reducible refine Sy.inrm ?_)
    | (with_reducible refine Sy.iret ?_)
    | (with_reducible refine Sy.rret ?_)
    | ((with_reducible apply Sy.ite); (case hx => exact rfl); all_goals (intro hc; try (exfalso; omega)))
    | ((with_reducible apply Sy.iteB); (case hx => exact rfl); all_goals intro hc))
    · have hb : badK s.k = true := by show (!rightB s.mask s.l) = true; simpa using hc
      rw [if_pos (by rw [List.any_eq_true]; exact ⟨s.k, List.mem_of_getElem? hk, hb⟩)] at hG
      subst hG
      exact .fin [_, _] (.inr rfl) ⟨rfl, rfl, trivial⟩ fun H' hp => ⟨([], 0, []), ⟨rfl, by simp [CopS], by simp⟩, rfl, hp.less (List.nil_sublist _)⟩
    · have hb : badK s.k = false := by show (!rightB s.mask s.l) = false; simpa using hc
      refine Sy.rnrm (i + 1) ⟨by omega, ?_⟩ (by show out.length - (i + 1) < out.length - i; omega) ⟨rfl, rfl, trivial⟩ (fun H1 h => h)
      rw [List.take_add_one, hk, List.any_append, hI, Option.toList_some, List.any_cons, hb, List.any_nil]; rfl
  · obtain rfl : i = out.length := by omega
    rw [show (kS out).take out.length = kS out by rw [List.take_of_length_le (by simp)]] at hI
    rw [hI, if_neg (by decide)] at hG
    subst hG
    repeat' (first
    | (with_reducible refine Sy.seq ?_)
    | (with_reducible refine Sy.regionL ?_)
    | (with_reducible refine Sy.opsnil ?_)
    | (with_reducible refine Sy.go ?_)
    | (with_reducible refine Sy.nrm ?_)
    | ((with_reducible apply Sy.assign); exact rfl; exact rfl)
    | ((with_reducible apply Sy.move); exact rfl; exact rfl)
    | ((with_reducible apply Sy.lenS); exact rfl; exact Tryd.underlying25; exact rfl)
    | ((with_reducible apply Sy.lenS); exact rfl; exact Tryd.underlying52; exact rfl)
    | ((with_reducible apply Sy.bin (op := .lss) (t := 3)); exact rfl; exact rfl; exact rfl; exact b_lss)
    | ((with_reducible apply Sy.bin (op := .lss) (t := 3)); exact rfl; exact rfl; exact rfl; exact bz_lss)
    | (with_reducible refine Sy.exit ?_)
    | (with_reducible refine Sy.ret ?_)
    | (with_reducible refine Sy.aex ?_)
    | ((with_reducible apply Sy.iex); exact rfl)
    | (with_reducible refine Sy.rex ?_)
    | ((with_reducible apply Sy.ite); (case hx => exact rfl); all_goals (intro hc; try (exfalso; omega))))
    refine .fin [_, _] (.inr rfl) ⟨rfl, rfl, trivial⟩ fun H' hp => ⟨(out, bo, L), ⟨rfl, hL, h256o⟩, by rw [hv5]; rfl, hp⟩
end Go.Proofs.YtjimjolfnimimaaDoor

/- Layer 06: the reference's Put. -/
namespace Go.Proofs.YtjimjolfnimimaaDoor
open Go Go.Am
set_option maxRecDepth 100000
set_option linter.unusedVariables false

theorem rputGo_none {ss : List Stp} {x y : List Nat} {i : Nat} {s : Stp} (h : rputGo x ss = rputGo y (ss.drop i)) (hs : ss[i]? = some s) (hr : rightB s.mask s.l = false) : rputGo x ss = none := by
  rw [h, List.drop_eq_getElem_cons (List.getElem?_eq_some_iff.1 hs).1, (List.getElem?_eq_some_iff.1 hs).2, rputGo, hr]; rfl
theorem rputGo_step {ss : List Stp} {x y : List Nat} {i : Nat} {s : Stp} (h : rputGo x ss = rputGo y (ss.drop i)) (hs : ss[i]? = some s) (hr : rightB s.mask s.l = true) : rputGo x ss = rputGo (y ++ stepB s) (ss.drop (i + 1)) := by
  rw [h, List.drop_eq_getElem_cons (List.getElem?_eq_some_iff.1 hs).1, (List.getElem?_eq_some_iff.1 hs).2, rputGo, if_pos hr]
theorem rputGo_end {ss : List Stp} {x y : List Nat} (h : rputGo x ss = rputGo y (ss.drop ss.length)) : rputGo x ss = some y := by
  rw [h, List.drop_length]; rfl
theorem u64_one (n : Nat) : u64s [n] = be64 n := by simp [u64s]
theorem SrcY.st0 {H0 : AHeap} {lo hi b c T : Nat} {w : Bool} {Mn : Hm} {ss : List Stp} {i o : Nat} {s : Stp} {h : Hsh} (hg : H0.get b = .cells (stCs ss) T w) (hs : ss[i]? = some s) (hl : o + 32 ≤ 97) (hh : (s.c.drop o).take 32 = hC h) {k : Nat} (ho : k = i * 97 + o) : SrcY H0 lo hi [] Mn 1 (.slice (some ⟨b, k, none⟩) 32 c) 32 (ints .u8 h.l) := by
  subst ho
  obtain ⟨hi, _⟩ := List.getElem?_eq_some_iff.1 hs
  refine (SrcY.of0 hg (by simp) (by rw [stCs_length]; omega)).eq ?_
  rw [st_drop hs, List.drop_append_of_le_length (by rw [s.c_length]; omega), List.take_append_of_le_length (by rw [List.length_drop, s.c_length]; omega)]
  exact hh
theorem sc_key (s : Stp) : (s.c.drop 0).take 32 = hC s.key := by rw [List.drop_zero, Stp.c, ← hC_length s.key, List.take_left]
theorem sc_old (s : Stp) : (s.c.drop 32).take 32 = hC s.old := by rw [Stp.c, List.drop_left' (by simp), ← hC_length s.old, List.take_left]
theorem sc_mask (s : Stp) : (s.c.drop 64).take 32 = hC s.mask := by rw [Stp.c, ← List.append_assoc, List.drop_left' (by simp), ← hC_length s.mask, List.take_left]
theorem st_v {ss : List Stp} {i o T : Nat} {s : Stp} {w : Bool} (e : ss[i]? = some s) (ho : o = i * 97 + 64 + 32) : aLoad Tryd.prog 114 (.cells (stCs ss) T w) o = some s.v := by
  subst ho
  refine ld_one ag114 ?_
  have h1 : (stCs ss)[i * 97 + 64 + 32]? = ((stCs ss).drop (i * 97 + 96))[0]? := by rw [List.getElem?_drop]
  rw [h1, st_drop e, List.getElem?_drop, List.getElem?_append_left (by rw [s.c_length]; omega)]
  simp [Stp.c, List.drop_append, List.take_append, List.getElem?_append, lay, hC_length, ints_length, ints_drop, ints_take, ints_append, List.drop_of_length_le, List.take_of_length_le, List.map_append, List.set_append, Value.cells]
theorem SrcY.hcs0 {H0 : AHeap} {lo hi b c T : Nat} {w : Bool} {Mn : Hm} {l : List Hsh} {i : Nat} {h : Hsh} (hg : H0.get b = .cells (hcs l) T w) (hs : l[i]? = some h) {k : Nat} (ho : k = i * 32) : SrcY H0 lo hi [] Mn 1 (.slice (some ⟨b, k, none⟩) 32 c) 32 (ints .u8 h.l) := by
  subst ho
  obtain ⟨hi, _⟩ := List.getElem?_eq_some_iff.1 hs
  refine (SrcY.of0 hg (by simp) (by rw [hcs_length]; omega)).eq ?_
  rw [hcs_cut hs, List.drop_left' (by rw [hcs_length, List.length_take]; omega)]
  show ((hC h ++ _).take 32) = hC h
  rw [List.take_append_of_le_length (by rw [hC_length]; omega), List.take_of_length_le (by rw [hC_length]; omega)]
set_option maxHeartbeats 4000000 in
theorem c_rPut (ss : List Stp) (v1 : Value) (H : AHeap) (h1 : StsAt 123 H v1 ss) (hn1 : ss.length ≤ 4398046511104) : CallR Tryd.prog noPrims 26 [v1] H (fun u H' => ∃ i : Nat × Value, Vw i.1 (rputS ss).1 i.2 (rputS ss).1 ∧ u = .tuple ⟨[i.2, .int .i64 (((rputS ss).2 : Nat) : Int)]⟩ ∧ Hp H 0 0 H' [] (bufM (rputS ss).1 i.1)) := by
  obtain ⟨⟨a1, c1, rfl, h1⟩, hss⟩ := h1
  refine CallR.sy (n := 84) Tryd.func26 rfl rfl rfl ?_
  repeat' (first
    | (with_reducible refine Sy.seq ?_)
    | (with_reducible refine Sy.regionL ?_)
    | (with_reducible refine Sy.opsnil ?_)
    | (with_reducible refine Sy.go ?_)
    | (with_reducible refine Sy.nrm ?_)
    | ((with_reducible apply Sy.assign); exact rfl; exact rfl)
    | ((with_reducible apply Sy.move); exact rfl; exact rfl)
    | ((with_reducible apply Sy.lenS); exact rfl; exact Tryd.underlying52; exact rfl)
    | ((with_reducible apply Sy.bin (op := .gtr) (t := 3)); exact rfl; exact rfl; exact rfl; exact b_gtr)
    | ((with_reducible apply Sy.bin (op := .gtr) (t := 3)); exact rfl; exact rfl; exact rfl; exact bz_gtr)
    | ((with_reducible apply Sy.conv (D := 0) (T := .bool)); exact rfl; exact Tryd.underlying3; exact Tryd.underlying22; exact rfl; exact (wrap_u64x (by omega)))
    | ((with_reducible apply Sy.conv (D := 0) (T := .bool)); exact rfl; exact Tryd.underlying3; exact Tryd.underlying22; exact rfl; exact wrap_u64 _)
    | ((with_reducible apply Sy.lenS); exact rfl; exact Tryd.underlying114; exact rfl)
    | ((with_reducible apply Sy.lenS); exact rfl; exact Tryd.underlying25; exact rfl)
    | ((with_reducible apply Sy.callN (k := 63)); exact rfl; exact rfl; exact en63; exact rfl; (intro H' hp; exact c_rUintB ss.length (by omega) H'); rintro b1 -)
    | (with_reducible refine Sy.skip ?_)
    | (with_reducible refine Sy.ret ?_)
    | (with_reducible refine Sy.block ?_)
    | (with_reducible refine Sy.aret ?_)
    | ((with_reducible apply Sy.ite); (case hx => exact rfl); all_goals (intro hc; try (exfalso; omega))))
  · have e : rputS ss = ([], 6) := by unfold rputS; rw [if_pos hc]
    rw [e]
    exact .fin [_, _] (.inr rfl) ⟨rfl, rfl, trivial⟩ fun H' hp => ⟨(0, .slice none 0 0), .inl ⟨rfl, rfl⟩, rfl, hp⟩
  have hP : rputS ss = match rputGo (be64 ss.length) ss with
    | none => ([], 21)
    | some B => if 65536 < B.length then ([], 6) else (B, 0) := by
    unfold rputS; rw [if_neg hc, u64_one]; try (cases rputGo (be64 ss.length) ss <;> rfl)
  have hB0 : (be64 ss.length).length = 8 := be64_length _
  generalize rputS ss = R at hP ⊢
  generalize be64 ss.length = B0 at hP hB0 ⊢
  refine Sy.loop (ι := Nat × List Nat × Nat × Nat) (fun i => ss.length - i.1) (fun i => [(0, .slice a1 ss.length c1), (4, .slice (some ⟨i.2.2.2, 0, none⟩) i.2.2.1 (i.2.2.1 + 2 + 1)), (5, .int .i64 (i.1 : Nat))]) (fun _ => []) (fun i => [(i.2.2.2, .cells (ints .u8 i.2.1) 5 true)]) (fun i => i.1 ≤ ss.length ∧ i.2.1.length = i.2.2.1 ∧ i.2.2.1 ≤ 8 + i.1 * 10000 ∧ rputGo B0 ss = rputGo i.2.1 (ss.drop i.1) ∧ 8 ≤ i.2.2.1) (0, B0, 8, b1) ⟨Nat.zero_le _, hB0, by dsimp only; omega, rfl, by dsimp only; omega⟩ ⟨rfl, rfl, rfl, trivial⟩ (fun H h => h) ?_
  rintro ⟨i, B, N, b⟩ ⟨hi, hN, hNb, hI, h8⟩
  dsimp only at hi hN hNb hI h8 ⊢
  by_cases hlt : i < ss.length
  · obtain ⟨s, hs⟩ : ∃ s, ss[i]? = some s := ⟨ss[i], List.getElem?_eq_getElem hlt⟩
    rcases h1 with rfl | ⟨b1, w1, rfl, hb1⟩
    · simp at hlt
    obtain ⟨hsv, hsl⟩ := hss s (List.mem_of_getElem? hs)
    obtain ⟨sa, sc, hsve, -⟩ := hsv.at
    obtain ⟨key, old, mask, sl, sv⟩ := s
    dsimp only at hsv hsl hsve
    subst hsve
    have hsm : ∀ x ∈ sl, x.l.length = 32 := fun x _ => x.len
    repeat' (first
    | (with_reducible refine Sy.seq ?_)
    | (with_reducible refine Sy.regionL ?_)
    | (with_reducible refine Sy.opsnil ?_)
    | (with_reducible refine Sy.go ?_)
    | (with_reducible refine Sy.nrm ?_)
    | ((with_reducible refine Sy.ld0 (t := 121) rfl rfl hb1 rfl (by simp only [List.forall_mem_cons, List.not_mem_nil, false_implies, implies_true, and_true, ne_eq]; first | done | omega | (repeat (first | with_reducible assumption | (refine And.intro ?_ ?_)))) (st_pr hs (by omega)) ?_))
    | ((with_reducible refine Sy.ld0 (t := 114) rfl rfl hb1 rfl (by simp only [List.forall_mem_cons, List.not_mem_nil, false_implies, implies_true, and_true, ne_eq]; first | done | omega | (repeat (first | with_reducible assumption | (refine And.intro ?_ ?_)))) (st_v hs (by omega)) ?_))
    | ((with_reducible apply Sy.appQ (t := 25) (xt := 25)); exact (ap25_25 zr5 rfl); exact rfl; exact rfl; exact rfl; exact SrcY.st0 hb1 hs (by decide) (sc_key _) (by omega); exact oneL_ints _ _; (· simp [Hsh.len]); (· omega); (· repeat (first | exact Drop.here | apply Drop.there)); (· simp [Hsh.len]; omega); exact ints_append _ _ _; intro q33)
    | ((with_reducible apply Sy.appQ (t := 25) (xt := 25)); exact (ap25_25 zr5 rfl); exact rfl; exact rfl; exact rfl; exact SrcY.st0 hb1 hs (by decide) (sc_old _) (by omega); exact oneL_ints _ _; (· simp [Hsh.len]); (· omega); (· repeat (first | exact Drop.here | apply Drop.there)); (· simp [Hsh.len]; omega); exact ints_append _ _ _; intro q39)
    | ((with_reducible apply Sy.appQ (t := 25) (xt := 25)); exact (ap25_25 zr5 rfl); exact rfl; exact rfl; exact rfl; exact SrcY.st0 hb1 hs (by decide) (sc_mask _) (by omega); exact oneL_ints _ _; (· simp [Hsh.len]); (· omega); (· repeat (first | exact Drop.here | apply Drop.there)); (· simp [Hsh.len]; omega); exact ints_append _ _ _; intro q46)
    | ((with_reducible apply Sy.appQ (t := 25) (xt := 25)); exact (ap25_25 zr5 rfl); exact rfl; exact rfl; exact rfl; exact SrcY.ofNi' hasT (be64_length _); exact oneL_ints _ _; (· simp [Hsh.len]); (· omega); (· repeat (first | exact Drop.here | apply Drop.there)); (· simp [Hsh.len]; omega); exact ints_append _ _ _; intro q57)
    | ((with_reducible apply Sy.assign); exact rfl; exact rfl)
    | ((with_reducible apply Sy.move); exact rfl; exact rfl)
    | ((with_reducible apply Sy.lenS); exact rfl; exact Tryd.underlying52; exact rfl)
    | ((with_reducible apply Sy.conv (D := 0) (T := .bool)); exact rfl; exact Tryd.underlying3; exact Tryd.underlying22; exact rfl; exact (wrap_u64x (by omega)))
    | ((with_reducible apply Sy.conv (D := 0) (T := .bool)); exact rfl; exact Tryd.underlying3; exact Tryd.underlying22; exact rfl; exact wrap_u64 _)
    | ((with_reducible apply Sy.bin (op := .lss) (t := 3)); exact rfl; exact rfl; exact rfl; exact b_lss)
    | ((with_reducible apply Sy.bin (op := .lss) (t := 3)); exact rfl; exact rfl; exact rfl; exact bz_lss)
    | ((with_reducible apply Sy.ia (t := 52)); exact rfl; exact rfl; exact rfl; exact (ia_sl Tryd.underlying52 sz123 (by omega)))
    | ((with_reducible apply Sy.fa (t := 123) (i := 2)); exact rfl; exact rfl; exact fa123_2 _ _)
    | ((with_reducible apply Sy.un (op := .not)); exact rfl; exact rfl; exact un_notT)
    | ((with_reducible apply Sy.un (op := .not)); exact rfl; exact rfl; exact un_notF)
    | ((with_reducible apply Sy.un (op := .not)); exact rfl; exact rfl; exact un_notD)
    | ((with_reducible apply Sy.un (op := .not)); exact rfl; exact rfl; exact un_not)
    | ((with_reducible apply Sy.fa (t := 123) (i := 0)); exact rfl; exact rfl; exact fa123_0 _ _)
    | ((with_reducible apply Sy.sl (t := 44)); exact rfl; exact rfl; exact rfl; exact rfl; exact rfl; exact sl_ar Tryd.underlying44 sz5)
    | ((with_reducible apply Sy.fa (t := 123) (i := 1)); exact rfl; exact rfl; exact fa123_1 _ _)
    | ((with_reducible apply Sy.fa (t := 121) (i := 0)); exact rfl; exact rfl; exact fa121_0 _ _)
    | ((with_reducible apply Sy.fa (t := 121) (i := 1)); exact rfl; exact rfl; exact fa121_1 _ _)
    | ((with_reducible apply Sy.lenS); exact rfl; exact Tryd.underlying114; exact rfl)
    | ((with_reducible apply Sy.ia (t := 114)); exact rfl; exact rfl; exact rfl; exact (ia_sl Tryd.underlying114 sz44 (by omega)))
    | ((with_reducible apply Sy.lenS); exact rfl; exact Tryd.underlying25; exact rfl)
    | ((with_reducible apply Sy.call0 (k := 64)); exact rfl; exact rfl; exact en64; exact rfl; (intro H' hp; exact c_rRight mask _ sl H' (hsv.of hp).at hsl))
    | ((with_reducible apply Sy.callN (k := 63)); exact rfl; exact rfl; exact en63; exact rfl; (intro H' hp; exact c_rUintB sl.length (by omega) H'); rintro b3 -)
    | (with_reducible refine Sy.skip ?_)
    | (with_reducible refine Sy.ret ?_)
    | (with_reducible refine Sy.block ?_)
    | (with_reducible refine Sy.aret ?_)
    | (with_reducible refine Sy.iret ?_)
    | (with_reducible refine Sy.rret ?_)
    | ((with_reducible apply Sy.drawL (id := 9) 21 [] (fun hi h => h < hi)); (case hp => kernel_rfl); (case hN => exact rfl); intro base hbase hM; try simp only [List.forall_mem_cons, List.forall_mem_append, List.not_mem_nil, false_implies, implies_true, and_true] at hM)
    | (with_reducible refine Sy.dend ?_)
    | ((with_reducible apply Sy.dgo); (· first | exact wantY_none); (· intro hcls; cases hcls); exact rfl; exact rfl)
    | ((with_reducible apply Sy.ite); (case hx => exact rfl); all_goals (intro hc; try (exfalso; omega)))
    | ((with_reducible apply Sy.iteB); (case hx => exact rfl); all_goals intro hc))
    · have hr : rightB mask sl = false := by simpa using hc
      rw [rputGo_none hI hs hr] at hP
      rw [hP]
      exact .fin [_, _] (.inr rfl) ⟨rfl, rfl, trivial⟩ fun H' hp => ⟨(0, .slice none 0 0), .inl ⟨rfl, rfl⟩, rfl, hp.less (List.nil_sublist _)⟩
    have hr : rightB mask sl = true := by simpa using hc
    have hsl2 : sl.length ≤ 256 := by have := right_len hr; have := bitTo_le mask 256; omega
    refine Sy.loop (ι := Nat × List Nat × Nat × Nat) (fun j => sl.length - j.1) (fun j => [(0, .slice (some ⟨b1, 0, none⟩) ss.length c1), (4, .slice (some ⟨j.2.2.2, 0, none⟩) j.2.2.1 (j.2.2.1 + 2 + 1)), (5, .int .i64 (i : Nat)), (6, .int .i64 (j.1 : Nat))]) (fun _ => []) (fun j => [(j.2.2.2, .cells (ints .u8 j.2.1) 5 true)]) (fun j => j.1 ≤ sl.length ∧ j.2.1.length = j.2.2.1 ∧ j.2.2.1 = N + 104 + j.1 * 32 ∧ j.2.1 = B ++ (hshs [key, old, mask] ++ (u64s [sl.length] ++ hshs (sl.take j.1)))) (0, B ++ key.l ++ old.l ++ mask.l ++ be64 sl.length, N + 32 + 32 + 32 + 8, q57) ⟨Nat.zero_le _, by (simp [Hsh.len] <;> omega), by show N + 32 + 32 + 32 + 8 = N + 104 + 0 * 32; omega, by simp [hshs, u64s]⟩ ⟨rfl, rfl, rfl, rfl, trivial⟩ (fun H h => h.less (.cons_cons _ (List.nil_sublist _))) ?_
    rintro ⟨j, B2, N2, b2⟩ ⟨hj, hN2, hNb2, hB2⟩
    dsimp only at hj hN2 hNb2 hB2 ⊢
    by_cases hjl : j < sl.length
    · obtain ⟨x, hx⟩ : ∃ x, sl[j]? = some x := ⟨sl[j], List.getElem?_eq_getElem hjl⟩
      rcases hsv with ⟨-, rfl⟩ | ⟨sb, sc2, T2, w2, e, hsb⟩
      · simp at hjl
      obtain ⟨rfl, -, rfl⟩ : sa = some ⟨sb, 0, none⟩ ∧ True ∧ sc = sc2 := by
        injection e with e1 e2 e3
        exact ⟨e1, trivial, e3⟩
      repeat' (first
    | (with_reducible refine Sy.seq ?_)
    | (with_reducible refine Sy.regionL ?_)
    | (with_reducible refine Sy.opsnil ?_)
    | (with_reducible refine Sy.go ?_)
    | (with_reducible refine Sy.nrm ?_)
    | ((with_reducible refine Sy.ld0 (t := 114) rfl rfl hb1 rfl (by simp only [List.forall_mem_cons, List.not_mem_nil, false_implies, implies_true, and_true, ne_eq]; first | done | omega | (repeat (first | with_reducible assumption | (refine And.intro ?_ ?_)))) (st_v hs (by omega)) ?_))
    | ((with_reducible apply Sy.appQ (t := 25) (xt := 25)); exact (ap25_25 zr5 rfl); exact rfl; exact rfl; exact rfl; exact SrcY.hcs0 hsb hx (by omega); exact oneL_ints _ _; (· simp [Hsh.len]); (· omega); (· repeat (first | exact Drop.here)); (· simp [Hsh.len]; omega); exact ints_append _ _ _; intro q79)
    | ((with_reducible apply Sy.assign); exact rfl; exact rfl)
    | ((with_reducible apply Sy.move); exact rfl; exact rfl)
    | ((with_reducible apply Sy.lenS); exact rfl; exact Tryd.underlying52; exact rfl)
    | ((with_reducible apply Sy.bin (op := .lss) (t := 3)); exact rfl; exact rfl; exact rfl; exact b_lss)
    | ((with_reducible apply Sy.bin (op := .lss) (t := 3)); exact rfl; exact rfl; exact rfl; exact bz_lss)
    | ((with_reducible apply Sy.ia (t := 52)); exact rfl; exact rfl; exact rfl; exact (ia_sl Tryd.underlying52 sz123 (by omega)))
    | ((with_reducible apply Sy.fa (t := 123) (i := 2)); exact rfl; exact rfl; exact fa123_2 _ _)
    | ((with_reducible apply Sy.fa (t := 123) (i := 0)); exact rfl; exact rfl; exact fa123_0 _ _)
    | ((with_reducible apply Sy.sl (t := 44)); exact rfl; exact rfl; exact rfl; exact rfl; exact rfl; exact sl_ar Tryd.underlying44 sz5)
    | ((with_reducible apply Sy.fa (t := 123) (i := 1)); exact rfl; exact rfl; exact fa123_1 _ _)
    | ((with_reducible apply Sy.fa (t := 121) (i := 0)); exact rfl; exact rfl; exact fa121_0 _ _)
    | ((with_reducible apply Sy.fa (t := 121) (i := 1)); exact rfl; exact rfl; exact fa121_1 _ _)
    | ((with_reducible apply Sy.lenS); exact rfl; exact Tryd.underlying114; exact rfl)
    | ((with_reducible apply Sy.ia (t := 114)); exact rfl; exact rfl; exact rfl; exact (ia_sl Tryd.underlying114 sz44 (by omega)))
    | ((with_reducible apply Sy.bin (op := .add) (t := 3)); exact rfl; exact rfl; exact rfl; exact (b_add (by omega)))
    | ((with_reducible apply Sy.bin (op := .add) (t := 3)); exact rfl; exact rfl; exact rfl; exact (bz_add (by omega) (by omega)))
    | ((with_reducible apply Sy.lenS); exact rfl; exact Tryd.underlying25; exact rfl)
    | (with_reducible refine Sy.skip ?_)
    | (with_reducible refine Sy.block ?_)
    | (with_reducible refine Sy.inrm ?_)
    | ((with_reducible apply Sy.ite); (case hx => exact rfl); all_goals (intro hc; try (exfalso; omega))))
      refine Sy.rnrm (j + 1, B2 ++ x.l, N2 + 32, q79) ⟨by omega, by simp [Hsh.len]; omega, by dsimp only; omega, ?_⟩ (by dsimp only; omega) ⟨rfl, rfl, rfl, rfl, trivial⟩ (fun H1 h => h.less (.cons_cons _ (List.nil_sublist _)))
      dsimp only
      rw [hB2, List.take_add_one, hx, Option.toList_some, hshs_snoc]
      simp only [List.append_assoc]
    · obtain rfl : j = sl.length := by omega
      repeat' (first
    | (with_reducible refine Sy.seq ?_)
    | (with_reducible refine Sy.regionL ?_)
    | (with_reducible refine Sy.opsnil ?_)
    | (with_reducible refine Sy.go ?_)
    | (with_reducible refine Sy.nrm ?_)
    | ((with_reducible refine Sy.ld0 (t := 114) rfl rfl hb1 rfl (by simp only [List.forall_mem_cons, List.not_mem_nil, false_implies, implies_true, and_true, ne_eq]; first | done | omega | (repeat (first | with_reducible assumption | (refine And.intro ?_ ?_)))) (st_v hs (by omega)) ?_))
    | ((with_reducible apply Sy.assign); exact rfl; exact rfl)
    | ((with_reducible apply Sy.move); exact rfl; exact rfl)
    | ((with_reducible apply Sy.lenS); exact rfl; exact Tryd.underlying52; exact rfl)
    | ((with_reducible apply Sy.bin (op := .lss) (t := 3)); exact rfl; exact rfl; exact rfl; exact b_lss)
    | ((with_reducible apply Sy.bin (op := .lss) (t := 3)); exact rfl; exact rfl; exact rfl; exact bz_lss)
    | ((with_reducible apply Sy.ia (t := 52)); exact rfl; exact rfl; exact rfl; exact (ia_sl Tryd.underlying52 sz123 (by omega)))
    | ((with_reducible apply Sy.fa (t := 123) (i := 2)); exact rfl; exact rfl; exact fa123_2 _ _)
    | ((with_reducible apply Sy.fa (t := 123) (i := 0)); exact rfl; exact rfl; exact fa123_0 _ _)
    | ((with_reducible apply Sy.fa (t := 123) (i := 1)); exact rfl; exact rfl; exact fa123_1 _ _)
    | ((with_reducible apply Sy.fa (t := 121) (i := 0)); exact rfl; exact rfl; exact fa121_0 _ _)
    | ((with_reducible apply Sy.fa (t := 121) (i := 1)); exact rfl; exact rfl; exact fa121_1 _ _)
    | ((with_reducible apply Sy.lenS); exact rfl; exact Tryd.underlying114; exact rfl)
    | ((with_reducible apply Sy.ia (t := 114)); exact rfl; exact rfl; exact rfl; exact (ia_sl Tryd.underlying114 sz44 (by omega)))
    | ((with_reducible apply Sy.bin (op := .add) (t := 3)); exact rfl; exact rfl; exact rfl; exact (b_add (by omega)))
    | ((with_reducible apply Sy.bin (op := .add) (t := 3)); exact rfl; exact rfl; exact rfl; exact (bz_add (by omega) (by omega)))
    | ((with_reducible apply Sy.lenS); exact rfl; exact Tryd.underlying25; exact rfl)
    | (with_reducible refine Sy.exit ?_)
    | (with_reducible refine Sy.aex ?_)
    | (with_reducible refine Sy.inrm ?_)
    | ((with_reducible apply Sy.iex); exact rfl)
    | (with_reducible refine Sy.rex ?_)
    | ((with_reducible apply Sy.ite); (case hx => exact rfl); all_goals (intro hc; try (exfalso; omega))))
      refine Sy.rnrm (i + 1, B2, N2, b2) ⟨by omega, hN2, by dsimp only; omega, ?_, by dsimp only; omega⟩ (by dsimp only; omega) ⟨rfl, rfl, rfl, trivial⟩ (fun H1 h => h)
      dsimp only
      rw [hB2, List.take_length]
      exact rputGo_step hI hs hr
  · obtain rfl : i = ss.length := by omega
    rw [rputGo_end hI] at hP
    dsimp only at hP
    repeat' (first
    | (with_reducible refine Sy.seq ?_)
    | (with_reducible refine Sy.regionL ?_)
    | (with_reducible refine Sy.opsnil ?_)
    | (with_reducible refine Sy.go ?_)
    | (with_reducible refine Sy.nrm ?_)
    | ((with_reducible apply Sy.assign); exact rfl; exact rfl)
    | ((with_reducible apply Sy.move); exact rfl; exact rfl)
    | ((with_reducible apply Sy.lenS); exact rfl; exact Tryd.underlying52; exact rfl)
    | ((with_reducible apply Sy.bin (op := .gtr) (t := 3)); exact rfl; exact rfl; exact rfl; exact b_gtr)
    | ((with_reducible apply Sy.bin (op := .gtr) (t := 3)); exact rfl; exact rfl; exact rfl; exact bz_gtr)
    | ((with_reducible apply Sy.bin (op := .lss) (t := 3)); exact rfl; exact rfl; exact rfl; exact b_lss)
    | ((with_reducible apply Sy.bin (op := .lss) (t := 3)); exact rfl; exact rfl; exact rfl; exact bz_lss)
    | ((with_reducible apply Sy.lenS); exact rfl; exact Tryd.underlying114; exact rfl)
    | ((with_reducible apply Sy.lenS); exact rfl; exact Tryd.underlying25; exact rfl)
    | (with_reducible refine Sy.skip ?_)
    | (with_reducible refine Sy.exit ?_)
    | (with_reducible refine Sy.ret ?_)
    | (with_reducible refine Sy.aex ?_)
    | (with_reducible refine Sy.aret ?_)
    | ((with_reducible apply Sy.iex); exact rfl)
    | (with_reducible refine Sy.rex ?_)
    | ((with_reducible apply Sy.ite); (case hx => exact rfl); all_goals (intro hc; try (exfalso; omega))))
    · rw [if_pos (by omega)] at hP
      subst hP
      exact .fin [_, _] (.inr rfl) ⟨rfl, rfl, trivial⟩ fun H' hp => ⟨(0, .slice none 0 0), .inl ⟨rfl, rfl⟩, rfl, hp.less (List.nil_sublist _)⟩
    · rw [if_neg (by omega)] at hP
      subst hP
      subst hN
      refine .fin [_, _] (.inr rfl) ⟨rfl, rfl, trivial⟩ fun H' hp => ⟨(b, .slice (some ⟨b, 0, none⟩) B.length (B.length + 2 + 1)), .of0, rfl, ?_⟩
      rw [bufM_one (by intro e; subst e; simp at h8)]
      exact hp
end Go.Proofs.YtjimjolfnimimaaDoor

/- The law ProofBytes. -/
namespace Go.Proofs.YtjimjolfnimimaaDoor
open Go Go.Am
set_option maxRecDepth 100000
set_option linter.unusedVariables false

theorem get_at {H H1 : AHeap} {lo hi b : Nat} {T : TypeId} {L : Hm} {out : List Stp} (hL : CopS L out) (hl : ∀ s ∈ out, s.l.length ≤ 256) (hp : Hp H lo hi H1 [] (accM T (stCs out) out.length b ++ L)) : StsAt T H1 (accV 97 (stCs out) out.length b) out := by
  refine hL.at (b := b) (c := out.length + 2 + 97) (w := true) hp (fun a o x => .app x) (fun x => accM_has (fun e => x (List.length_eq_zero_iff.1 e))) (fun s hs => by have := hl s hs; omega) ?_
  unfold accV
  split
  · exact .inl ⟨rfl, List.length_eq_zero_iff.1 (by assumption)⟩
  · exact .inr rfl
theorem c_pPut' (ss : List Stp) (v1 : Value) (P : List Nat × Nat) (H : AHeap) (hP : rputS ss = P) (h1 : StsAt 118 H v1 ss) (hn1 : ss.length ≤ 4398046511104) : CallR Tryd.prog noPrims 24 [v1] H (fun u H' => ∃ i : Nat × Option Addr × Nat, Vw i.1 P.1 (.slice i.2.1 P.1.length i.2.2) P.1 ∧ u = .tuple ⟨[.slice i.2.1 P.1.length i.2.2, .int .i64 ((P.2 : Nat) : Int)]⟩ ∧ Hp H 0 0 H' [] (bufM P.1 i.1)) := by
  subst hP
  rw [← put_eq]
  exact (c_pPut ss v1 H h1 hn1).mono fun u H' ⟨i, h1, h2, h3⟩ => by
    obtain ⟨a, c, e⟩ := h1.slice
    exact ⟨(i.1, a, c), by rw [← e]; exact h1, by rw [← e]; exact h2, h3⟩
theorem c_rPut' (ss : List Stp) (v1 : Value) (P : List Nat × Nat) (H : AHeap) (hP : rputS ss = P) (h1 : StsAt 123 H v1 ss) (hn1 : ss.length ≤ 4398046511104) : CallR Tryd.prog noPrims 26 [v1] H (fun u H' => ∃ i : Nat × Option Addr × Nat, Vw i.1 P.1 (.slice i.2.1 P.1.length i.2.2) P.1 ∧ u = .tuple ⟨[.slice i.2.1 P.1.length i.2.2, .int .i64 ((P.2 : Nat) : Int)]⟩ ∧ Hp H 0 0 H' [] (bufM P.1 i.1)) := by
  subst hP
  exact (c_rPut ss v1 H h1 hn1).mono fun u H' ⟨i, h1, h2, h3⟩ => by
    obtain ⟨a, c, e⟩ := h1.slice
    exact ⟨(i.1, a, c), by rw [← e]; exact h1, by rw [← e]; exact h2, h3⟩
theorem getS_len (l : List Nat) : (getS l).1.length ≤ 64 := by
  unfold getS
  split
  · simp
  · split
    · simp
    · show (rdSts _ _).1.length ≤ 64
      rw [rdSts_len]; exact rdCnt_le _ _
theorem stepB_lt (s : Stp) : ∀ x ∈ stepB s, x < 256 := fun x hx => by
  unfold stepB at hx
  rcases List.mem_append.1 hx with hx | hx
  · exact hshs_lt _ x hx
  · rcases List.mem_append.1 hx with hx | hx
    · exact u64s_lt _ x hx
    · exact hshs_lt _ x hx
theorem rputGo_lt : ∀ (ss : List Stp) {B C : List Nat}, (∀ x ∈ B, x < 256) → rputGo B ss = some C → ∀ x ∈ C, x < 256
  | [], B, C, h, e => by simp only [rputGo, Option.some.injEq] at e; subst e; exact h
  | s :: r, B, C, h, e => by
    unfold rputGo at e
    split at e
    · exact rputGo_lt r (fun x hx => by
        rcases List.mem_append.1 hx with hx | hx
        · exact h x hx
        · exact stepB_lt s x hx) e
    · simp at e
theorem rputS_lt (ss : List Stp) : (∀ x ∈ (rputS ss).1, x < 256) ∧ (rputS ss).1.length ≤ 65536 := by
  unfold rputS
  split
  · simp
  · cases h : rputGo (u64s [ss.length]) ss with
    | none => simp
    | some B =>
      dsimp only
      split
      · simp
      · exact ⟨rputGo_lt ss (u64s_lt _) h, by dsimp only; omega⟩
set_option maxHeartbeats 8000000 in
theorem c_ProofBytes (ss : List Stp) (v1 v2 : Value) (l : List Nat) (H : AHeap) (g : Gl H) (h1 : StsAt 123 H v1 ss) (h2 : SlR H 1 v2 l.length (ints .u8 l)) (h256 : ∀ x ∈ l, x < 256) (hn1 : ss.length ≤ 1172812402926) (hl : l.length ≤ 140737488351232) : CallR Tryd.prog noPrims 4 [v1, v2] H (fun u H' => u = .bool true) := by
  obtain ⟨va, vk, rfl⟩ := slr_form h2
  have h1' := h1
  obtain ⟨⟨a1, c1, rfl, _⟩, hss⟩ := h1
  obtain ⟨hPlt, hPl⟩ := rputS_lt ss
  have hG64 := getS_len l
  obtain ⟨P, hP⟩ : ∃ P, rputS ss = P := ⟨_, rfl⟩
  rw [hP] at hPlt hPl
  refine CallR.sy (n := 67) Tryd.func4 rfl rfl rfl ?_
  repeat' (first
    | (with_reducible refine Sy.seq ?_)
    | (with_reducible refine Sy.regionL ?_)
    | (with_reducible refine Sy.opsnil ?_)
    | (with_reducible refine Sy.go ?_)
    | (with_reducible refine Sy.nrm ?_)
    | ((with_reducible apply Sy.assign); exact rfl; exact rfl)
    | ((with_reducible apply Sy.move); exact rfl; exact rfl)
    | ((with_reducible apply Sy.callN (k := 10)); exact rfl; exact rfl; exact en10; exact rfl; (intro H' hp; exact k_Lent _ l H' (h2.of hp) hl); rintro b -)
    | ((with_reducible apply Sy.callN (k := 25)); exact rfl; exact rfl; exact en25; exact rfl; (intro H' hp; exact c_Own ss _ H' (h1'.of hp) hn1); rintro ⟨out, bo, L⟩ ⟨hk, hL⟩))
  dsimp only at hk hL ⊢
  have hlen : out.length = ss.length := by simpa using congrArg List.length hk
  have hP' : rputS out = P := by rw [rputS_k hk, hP]
  repeat' (first
    | (with_reducible refine Sy.seq ?_)
    | (with_reducible refine Sy.regionL ?_)
    | (with_reducible refine Sy.opsnil ?_)
    | (with_reducible refine Sy.go ?_)
    | (with_reducible refine Sy.nrm ?_)
    | ((with_reducible apply Sy.assign); exact rfl; exact rfl)
    | ((with_reducible apply Sy.move); exact rfl; exact rfl)
    | ((with_reducible apply Sy.ext); exact rfl; exact rfl; exact rfl)
    | ((with_reducible apply Sy.callN (k := 24)); exact rfl; exact rfl; exact en24; exact rfl; (intro H' hp; exact c_pPut' out _ P H' hP' (own_at hk hL (fun s hs => (hss s hs).2) (hp.less (List.sublist_append_left _ _))) (by omega)); rintro ⟨c3, a3, k3⟩ h3)
    | ((with_reducible apply Sy.callN (k := 26)); exact rfl; exact rfl; exact en26; exact rfl; (intro H' hp; exact c_rPut' ss _ P H' hP (h1'.of hp) (by omega)); rintro ⟨c4, a4, k4⟩ h4)
    | ((with_reducible apply Sy.callN (k := 27)); exact rfl; exact rfl; exact en27; exact rfl; (intro H' hp; exact c_pGet (.slice (some ⟨b, 0, none⟩) l.length _) l H' (lent_slr (hp.getN (h := b) (o := .cells (ints .u8 (l ++ [55, 56])) 5 true) hasT)) h256 (by omega)); rintro ⟨outG, bG, LG⟩ ⟨hkG, hLG, hlG⟩)
    | ((with_reducible apply Sy.callN (k := 28)); exact rfl; exact rfl; exact en28; exact rfl; (intro H' hp; exact c_rGet _ l H' (h2.of hp) h256 (by omega)); rintro ⟨outR, bR, LR⟩ ⟨hkR, hLR, hlR⟩))
  dsimp only at h3 h4 hkG hLG hlG hkR hLR hlR ⊢
  have hkk : outG.map Stp.k = outR.map Stp.k := hkG.trans hkR.symm
  have hlR64 : outR.length ≤ 64 := by have := congrArg List.length hkR; rw [List.length_map] at this; omega
  generalize getS l = G at hkG hkR hG64 ⊢
  repeat' (first
    | (with_reducible refine Sy.opsnil ?_)
    | (with_reducible refine Sy.go ?_)
    | (with_reducible refine Sy.nrm ?_)
    | ((with_reducible refine Sy.bin (op := .eql) (t := 3) rfl rfl rfl eqNS ?_))
    | ((with_reducible apply Sy.str); exact Tryd.underlying25; exact Tryd.underlying9; exact Tryd.underlying5; exact rfl; exact rfl; exact SrL.vw (by with_reducible assumption) (by intro x; repeat (first | exact bufM_has x | apply Has.app)))
    | ((with_reducible apply Sy.assign); exact rfl; exact rfl)
    | ((with_reducible apply Sy.move); exact rfl; exact rfl)
    | ((with_reducible apply Sy.str); exact Tryd.underlying25; exact Tryd.underlying9; exact Tryd.underlying5; exact rfl; exact rfl; (· first | assumption | exact SrL.nil | exact SrL.ofN hasT | exact SrL.of0 (by assumption) rfl))
    | ((with_reducible apply Sy.bin (op := .eql) (t := 9)); exact rfl; exact rfl; exact rfl; exact eqSS)
    | ((with_reducible apply Sy.bin (op := .eql) (t := 9)); exact rfl; exact rfl; exact rfl; exact (eqS (by assumption) (by assumption)))
    | ((with_reducible apply Sy.bin (op := .eql) (t := 3)); exact rfl; exact rfl; exact rfl; exact b_eql)
    | ((with_reducible apply Sy.bin (op := .eql) (t := 3)); exact rfl; exact rfl; exact rfl; exact bz_eql)
    | ((with_reducible apply Sy.pickT); exact rfl; exact rfl; exact rfl)
    | ((with_reducible apply Sy.call0 (k := 29)); exact rfl; exact rfl; exact en29; exact rfl; (intro H' hp; exact c_num6 _ H'))
    | ((with_reducible apply Sy.call0 (k := 30)); exact rfl; exact rfl; exact en30; exact rfl; (intro H' hp; exact c_SameS outG outR _ _ H' (get_at hLG hlG (hp.less ((List.sublist_append_left _ _).trans (List.sublist_append_right _ _)))) (get_at hLR hlR (hp.less (List.sublist_append_left _ _))) hkk (by omega)))
    | ((with_reducible apply Sy.call0 (k := 23)); exact rfl; exact rfl; exact en23; exact rfl; (intro H' hp; exact k_Stays b _ l 5 H' (hp.getN hasT) (h2.of hp) h256 (by omega)))
    | ((with_reducible apply Sy.call0 (k := 31)); exact rfl; exact rfl; exact en31; exact rfl; (intro H' hp; exact c_knows6 H' (g.of hp (List.forall_mem_nil _))))
    | (with_reducible refine Sy.ret ?_)
    | ((with_reducible apply Sy.goG); exact rfl; exact rfl; exact rfl))
  exact .fin [_] (.inr rfl) ⟨rfl, trivial⟩ fun H' hp => rfl
end Go.Proofs.YtjimjolfnimimaaDoor
