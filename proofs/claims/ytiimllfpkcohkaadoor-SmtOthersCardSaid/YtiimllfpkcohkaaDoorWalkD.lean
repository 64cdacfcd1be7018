/- Walks: pairs, the law SmtOthers. -/
import Derived.Test.YtiimllfpkcohkaaDoorSy
import Derived.Test.YtiimllfpkcohkaaDoorWalkC
set_option linter.unusedSimpArgs false
set_option linter.unusedVariables false
/- Pairs: what stands below a node, in order. -/
namespace Go.Proofs.YtiimllfpkcohkaaDoor
open Go Go.Am
set_option maxRecDepth 100000
set_option linter.unusedVariables false

/-- A tree's pairs. -/
def Tree.ps : Tree → List (Hsh × Hsh)
  | .nil => []
  | .leaf _ k v => [(k, v)]
  | .node _ l r => l.ps ++ r.ps
/-- Pairs as cells. -/
def pcs (l : List (Hsh × Hsh)) : List Value := (l.map fun p => hC p.1 ++ hC p.2).flatten
theorem pcs_length (l : List (Hsh × Hsh)) : (pcs l).length = l.length * 64 := by
  induction l with
  | nil => rfl
  | cons a l ih => simp only [pcs, List.map_cons, List.flatten_cons, List.length_append, hC_length, List.length_cons] at ih ⊢; rw [ih]; omega
theorem pcs_append (a b : List (Hsh × Hsh)) : pcs (a ++ b) = pcs a ++ pcs b := by simp [pcs]
theorem pcs_one (k v : Hsh) : pcs [(k, v)] = hC k ++ hC v := by simp [pcs]

/-- A slice of pairs that is built by append. -/
def accP (l : List (Hsh × Hsh)) (b : Nat) : Value := accV 64 (pcs l) l.length b
def deadM (a c : List (Hsh × Hsh)) (b : Nat) : Hm := if a = [] ∨ c = [] then [] else [(b, .dead)]
def newM (a c : List (Hsh × Hsh)) (b : Nat) : Hm := if c = [] then [] else [(b, .cells (pcs (a ++ c)) 40 true)]
theorem acc_then {H H1 H2 : AHeap} {lo hi : Nat} {a c d : List (Hsh × Hsh)} {b b1 b2 : Nat} (hb : a ≠ [] → b < H.next) (h : Hp H lo hi H1 (deadM a c b) (newM a c b1)) (h1 : c = [] → b1 = b) (q : Hp H1 0 0 H2 (deadM (a ++ c) d b1) (newM (a ++ c) d b2)) (h2 : d = [] → b2 = b1) :
    Hp H lo hi H2 (deadM a (c ++ d) b) (newM a (c ++ d) b2) := by
  by_cases hc : c = []
  · subst hc
    obtain rfl := h1 rfl
    simp only [deadM, newM, or_true, if_true, List.append_nil, List.nil_append] at h q ⊢
    by_cases hx : a = [] ∨ d = []
    · rw [if_pos hx] at q ⊢
      exact (h.then0 q).less (by simp)
    · rw [if_neg hx] at q ⊢
      rw [not_or] at hx
      exact (h.thenX q (hb hx.1) (by simp)).less (by simp)
  · by_cases hd : d = []
    · subst hd
      obtain rfl := h2 rfl
      simp only [deadM, newM, or_true, if_true, List.append_nil, List.append_eq_nil_iff, hc, or_false, if_false] at h q ⊢
      exact (h.then0 q).less (by simp)
    · have hcd : ¬ (c ++ d = []) := by simp [hc]
      simp only [deadM, newM, hc, hd, hcd, List.append_eq_nil_iff, or_false, if_false, and_false, List.append_assoc] at h q ⊢
      exact (h.thenN q .here).less (by simp)
theorem acc_then0 {H H1 H2 : AHeap} {lo hi : Nat} {a c : List (Hsh × Hsh)} {b b1 : Nat} (hb : a ≠ [] → b < H.next) (h : Hp H lo hi H1 [] []) (q : Hp H1 0 0 H2 (deadM a c b) (newM a c b1)) (h1 : c = [] → b1 = b) : Hp H lo hi H2 (deadM a c b) (newM a c b1) := by
  have := acc_then (c := []) (b1 := b) hb (by simpa [deadM, newM] using h) (fun _ => rfl) (d := c) (b2 := b1) (by simpa using q) h1
  simpa using this
theorem acc_has {H H1 : AHeap} {B lo hi : Nat} {a c : List (Hsh × Hsh)} {b b1 : Nat} (hB : B ≤ H.next) (ha : a ≠ [] → H.get b = .cells (pcs a) 40 true ∧ B ≤ b) (h : Hp H lo hi H1 (deadM a c b) (newM a c b1)) (h1 : c = [] → b1 = b) :
    a ++ c ≠ [] → H1.get b1 = .cells (pcs (a ++ c)) 40 true ∧ B ≤ b1 := by
  intro hne
  by_cases hc : c = []
  · subst hc
    obtain rfl := h1 rfl
    rw [List.append_nil] at hne ⊢
    obtain ⟨k1, k2⟩ := ha hne
    exact ⟨h.get0 k1 rfl (by simp [deadM]), k2⟩
  · have hm : (b1, AObj.cells (pcs (a ++ c)) 40 true) ∈ newM a c b1 := by simp [newM, hc]
    exact ⟨h.vn _ hm, Nat.le_trans hB (h.ge _ hm)⟩
theorem acc_same {H H1 : AHeap} {B lo hi : Nat} {a c : List (Hsh × Hsh)} {b : Nat} {Mn : Hm} (hB : B ≤ H.next) (ha : a ≠ [] → H.get b = .cells (pcs a) 40 true ∧ B ≤ b) (h : Hp H lo hi H1 (deadM a c b) Mn) (x : Nat) (hx : x < B) : H1.get x = H.get x := by
  refine h.fr x (by omega) fun p hp => ?_
  unfold deadM at hp
  split at hp
  · simp at hp
  · rename_i hn
    rw [not_or] at hn
    simp only [List.mem_singleton] at hp
    subst hp
    have := (ha hn.1).2
    show b ≠ x
    omega
theorem hasN {H0 H : AHeap} {Mo Mn : Hm} {b : Nat} {o : AObj} (h : Hp H0 0 0 H Mo Mn) (hm : (b, o) ∈ Mn) : H.get b = o ∧ H0.next ≤ b := ⟨h.vn _ hm, h.ge _ hm⟩

theorem c_pairs : ∀ (t : Tree) (pv : Option Addr) (B : Nat) (H : AHeap) (a : List (Hsh × Hsh)) (b : Nat), TreeL H B [] pv t → B ≤ H.next → (a ≠ [] → H.get b = .cells (pcs a) 40 true ∧ B ≤ b) → a.length + t.ps.length ≤ 1000000 →
    CallR Tryd.prog noPrims 26 [.pointer pv, accP a b] H (fun u H' => ∃ b', (t.ps = [] → b' = b) ∧ u = accP (a ++ t.ps) b' ∧ Hp H 0 0 H' (deadM a t.ps b) (newM a t.ps b')) := by
  intro t
  induction t with
  | nil =>
    intro pv B H a b ht hB ha hn
    cases ht
    refine CallR.sy (n := 37) Tryd.func26 rfl rfl rfl ?_
    repeat' (first
    | (with_reducible refine Sy.seq ?_)
    | (with_reducible refine Sy.regionL ?_)
    | (with_reducible refine Sy.opsnil ?_)
    | (with_reducible refine Sy.go ?_)
    | (with_reducible refine Sy.nrm ?_)
    | ((with_reducible apply Sy.assign); (case hd => exact rfl); (case hx => exact rfl))
    | ((with_reducible apply Sy.move); (case hd => exact rfl); (case hx => exact rfl))
    | ((with_reducible apply Sy.bin (op := .eql) (t := 47)); (case hd => exact rfl); (case hx => exact rfl); (case hy => exact rfl); (case hv => exact (p_eq0 kd47)))
    | (with_reducible refine Sy.ret ?_)
    | (with_reducible refine Sy.block ?_)
    | (with_reducible refine Sy.aret ?_)
    | (with_reducible refine Sy.iret ?_)
    | ((with_reducible apply Sy.yes); (case hx => exact rfl)))
    refine .fin [accP a b] (.inr rfl) ⟨rfl, trivial⟩ fun H' hp => ⟨b, fun _ => rfl, ?_, ?_⟩
    · simp only [Tree.ps, List.append_nil]; rfl
    · simpa [deadM, newM, Tree.ps] using hp
  | leaf h k v =>
    intro pv B H a b ht hB ha hn
    cases ht with
    | @leaf a1 q1 _ _ _ o1 o2 =>
    rcases o1 with o1 | ⟨hlt, w, hga⟩
    · simp at o1
    rcases o2 with o2 | ⟨hlt2, w2, hgq⟩
    · simp at o2
    unfold leafC at hga
    by_cases ha0 : a = []
    · subst ha0
      have e : accP [] b = .slice none 0 0 := rfl
      rw [e]
      refine CallR.sy (n := 37) Tryd.func26 rfl rfl rfl ?_
      repeat' (first
    | (with_reducible refine Sy.seq ?_)
    | (with_reducible refine Sy.regionL ?_)
    | (with_reducible refine Sy.opsnil ?_)
    | (with_reducible refine Sy.go ?_)
    | (with_reducible refine Sy.nrm ?_)
    | ((with_reducible apply Sy.assign); (case hd => exact rfl); (case hx => exact rfl))
    | ((with_reducible apply Sy.move); (case hd => exact rfl); (case hx => exact rfl))
    | ((with_reducible apply Sy.bin (op := .eql) (t := 47)); (case hd => exact rfl); (case hx => exact rfl); (case hy => exact rfl); (case hv => exact (p_eq1 kd47)))
    | ((with_reducible apply Sy.nilC); (case hd => exact rfl); (case hx => exact rfl); (case hv => exact rfl))
    | ((with_reducible apply Sy.fa (t := 62) (i := 2)); (case hd => exact rfl); (case hx => exact rfl); (case hv => exact (fa62_2 _ _)))
    | ((with_reducible apply Sy.bin (op := .neq) (t := 60)); (case hd => exact rfl); (case hx => exact rfl); (case hy => exact rfl); (case hv => exact (p_ne1 kd60)))
    | ((with_reducible apply Sy.ld0 (t := 40)); (case hd => exact rfl); (case hx => exact rfl); (case hm => with_reducible assumption); (case hl => exact rfl); (case hn => simp only [List.forall_mem_cons, List.not_mem_nil, false_implies, implies_true, and_true, ne_eq]; first | done); (case hv => first | exact ld_all ag40 (by first | (simp [sz40, *]; done))))
    | (with_reducible refine Sy.ld0 (t := 60) rfl rfl hga rfl (by simp only [List.forall_mem_cons, List.not_mem_nil, false_implies, implies_true, and_true, ne_eq]; first | done | omega | (repeat (first | with_reducible assumption | (refine And.intro ?_ ?_)))) ldp ?_)
    | ((with_reducible apply Sy.newY (o := ⟨some 22, .buildSlice 36 _ _, _, _, _, _⟩)); (case ho => exact rfl); (case hd => exact rfl); (case hc => exact (nba1 Tryd.underlying36 sz40 zr40 rfl (by decide) rfl (by first | (simp; done)))); intro q22)
    | (with_reducible refine Sy.block ?_)
    | ((with_reducible apply Sy.yes); (case hx => exact rfl))
    | ((with_reducible apply Sy.no); (case hx => exact rfl)))
      refine Sy.appN (t := 36) (xt := 36) (ap36_36 zr40 rfl) rfl rfl rfl ((SrcY.ofN (by repeat (first | exact Has.here | apply Has.there | apply Has.app)) (by simp)).eq (cs' := hC k ++ hC v) (by rw [List.drop_zero, List.take_of_length_le (by simp)])) (by simp [oneL_append, hC_one]) (by decide) (by decide) ?_
      intro q23
      repeat' (first
    | (with_reducible refine Sy.opsnil ?_)
    | (with_reducible refine Sy.go ?_)
    | (with_reducible refine Sy.nrm ?_)
    | ((with_reducible apply Sy.assign); (case hd => exact rfl); (case hx => exact rfl))
    | (with_reducible refine Sy.ret ?_)
    | (with_reducible refine Sy.aret ?_)
    | (with_reducible refine Sy.iret ?_))
      exact .fin [.slice (some ⟨q23, 0, none⟩) 1 (1 + 2 + 64)] (.inr rfl) ⟨rfl, trivial⟩ fun H' hp => ⟨q23, fun h => by simp [Tree.ps] at h, rfl, by
        have := hp.less (Mn' := newM [] [(k, v)] q23) (by simp [newM, pcs])
        simpa [deadM, Tree.ps] using this⟩
    · obtain ⟨hgb, hBb⟩ := ha ha0
      have hl0 : a.length ≠ 0 := by simpa using ha0
      have e : accP a b = .slice (some ⟨b, 0, none⟩) a.length (a.length + 2 + 64) := by unfold accP accV; rw [if_neg hl0]
      rw [e]
      refine CallR.sy (n := 37) Tryd.func26 rfl rfl rfl ?_
      repeat' (first
    | (with_reducible refine Sy.seq ?_)
    | (with_reducible refine Sy.regionL ?_)
    | (with_reducible refine Sy.opsnil ?_)
    | (with_reducible refine Sy.go ?_)
    | (with_reducible refine Sy.nrm ?_)
    | ((with_reducible apply Sy.assign); (case hd => exact rfl); (case hx => exact rfl))
    | ((with_reducible apply Sy.move); (case hd => exact rfl); (case hx => exact rfl))
    | ((with_reducible apply Sy.bin (op := .eql) (t := 47)); (case hd => exact rfl); (case hx => exact rfl); (case hy => exact rfl); (case hv => exact (p_eq1 kd47)))
    | ((with_reducible apply Sy.nilC); (case hd => exact rfl); (case hx => exact rfl); (case hv => exact rfl))
    | ((with_reducible apply Sy.fa (t := 62) (i := 2)); (case hd => exact rfl); (case hx => exact rfl); (case hv => exact (fa62_2 _ _)))
    | ((with_reducible apply Sy.bin (op := .neq) (t := 60)); (case hd => exact rfl); (case hx => exact rfl); (case hy => exact rfl); (case hv => exact (p_ne1 kd60)))
    | ((with_reducible apply Sy.ld0 (t := 40)); (case hd => exact rfl); (case hx => exact rfl); (case hm => with_reducible assumption); (case hl => exact rfl); (case hn => simp only [List.forall_mem_cons, List.not_mem_nil, false_implies, implies_true, and_true, ne_eq]; first | done); (case hv => first | exact ld_all ag40 (by first | (simp [sz40, *]; done))))
    | (with_reducible refine Sy.ld0 (t := 60) rfl rfl hga rfl (by simp only [List.forall_mem_cons, List.not_mem_nil, false_implies, implies_true, and_true, ne_eq]; first | done | omega | (repeat (first | with_reducible assumption | (refine And.intro ?_ ?_)))) ldp ?_)
    | ((with_reducible apply Sy.newY (o := ⟨some 22, .buildSlice 36 _ _, _, _, _, _⟩)); (case ho => exact rfl); (case hd => exact rfl); (case hc => exact (nba1 Tryd.underlying36 sz40 zr40 rfl (by decide) rfl (by first | (simp; done)))); intro q22)
    | (with_reducible refine Sy.block ?_)
    | ((with_reducible apply Sy.yes); (case hx => exact rfl))
    | ((with_reducible apply Sy.no); (case hx => exact rfl)))
      refine Sy.appX (t := 36) (xt := 36) (ap36_36 zr40 rfl) rfl rfl rfl ((SrcY.ofN (by repeat (first | exact Has.here | apply Has.there | apply Has.app)) (by simp)).eq (cs' := hC k ++ hC v) (by rw [List.drop_zero, List.take_of_length_le (by simp)])) (by simp [oneL_append, hC_one]) (by decide) (by simp only [Tree.ps, List.length_cons, List.length_nil] at hn; omega) hgb (by simp) (pcs_length a) ?_
      intro q23
      repeat' (first
    | (with_reducible refine Sy.opsnil ?_)
    | (with_reducible refine Sy.go ?_)
    | (with_reducible refine Sy.nrm ?_)
    | ((with_reducible apply Sy.assign); (case hd => exact rfl); (case hx => exact rfl))
    | (with_reducible refine Sy.ret ?_)
    | (with_reducible refine Sy.aret ?_)
    | (with_reducible refine Sy.iret ?_))
      exact .fin [.slice (some ⟨q23, 0, none⟩) (a.length + 1) (a.length + 1 + 2 + 64)] (.inr rfl) ⟨rfl, trivial⟩ fun H' hp => ⟨q23, fun h => by simp [Tree.ps] at h, by
        simp [accP, accV, Tree.ps, tupV], by
        have := hp.less (Mn' := newM a [(k, v)] q23) (by simp [newM, pcs_append, pcs_one])
        simpa [deadM, Tree.ps, ha0] using this⟩
  | node h l r ihl ihr =>
    intro pv B H a b ht hB ha hn
    cases ht with
    | @node a1 _ pl pr _ _ o1 htl htr =>
    rcases o1 with o1 | ⟨hlt, w, hga⟩
    · simp at o1
    unfold nodeC at hga
    simp only [Tree.ps, List.length_append] at hn
    have hMo : ∀ (c : List (Hsh × Hsh)), ∀ p ∈ deadM a c b, p.1 ≠ a1 := by
      intro c p hp
      unfold deadM at hp
      split at hp
      · simp at hp
      · rename_i hx
        rw [not_or] at hx
        simp only [List.mem_singleton] at hp
        subst hp
        have := (ha hx.1).2
        show b ≠ a1
        omega
    refine CallR.sy (n := 37) Tryd.func26 rfl rfl rfl ?_
    repeat' (first
    | (with_reducible refine Sy.seq ?_)
    | (with_reducible refine Sy.regionL ?_)
    | (with_reducible refine Sy.opsnil ?_)
    | (with_reducible refine Sy.go ?_)
    | (with_reducible refine Sy.nrm ?_)
    | ((with_reducible apply Sy.drawL (id := 5) 14 [(4, 11)] (fun hi h => h = a1)); (case hp => kernel_rfl); (case hN => exact rfl); intro base hbase hM)
    | ((with_reducible apply Sy.assign); (case hd => exact rfl); (case hx => exact rfl))
    | ((with_reducible apply Sy.move); (case hd => exact rfl); (case hx => exact rfl))
    | ((with_reducible apply Sy.bin (op := .eql) (t := 47)); (case hd => exact rfl); (case hx => exact rfl); (case hy => exact rfl); (case hv => exact (p_eq1 kd47)))
    | ((with_reducible apply Sy.nilC); (case hd => exact rfl); (case hx => exact rfl); (case hv => exact rfl))
    | ((with_reducible apply Sy.fa (t := 62) (i := 2)); (case hd => exact rfl); (case hx => exact rfl); (case hv => exact (fa62_2 _ _)))
    | ((with_reducible apply Sy.bin (op := .neq) (t := 60)); (case hd => exact rfl); (case hx => exact rfl); (case hy => exact rfl); (case hv => exact (p_ne0 kd60)))
    | ((with_reducible apply Sy.fa (t := 62) (i := 1)); (case hd => exact rfl); (case hx => exact rfl); (case hv => exact (fa62_1 _ _)))
    | ((with_reducible apply Sy.ia (t := 59)); (case hd => exact rfl); (case hx => exact rfl); (case hy => exact rfl); (case hv => exact (ia_ar1 Tryd.underlying59 sz47 (by omega))))
    | (with_reducible refine Sy.ld0 (t := 60) rfl rfl hga rfl (by simp only [List.forall_mem_cons, List.not_mem_nil, false_implies, implies_true, and_true, ne_eq]; first | done | omega | (repeat (first | with_reducible assumption | (refine And.intro ?_ ?_)))) ldp ?_)
    | (with_reducible refine Sy.ld0 (t := 47) rfl rfl hga rfl (by simp only [List.forall_mem_cons, List.not_mem_nil, false_implies, implies_true, and_true, ne_eq]; first | done | omega | (repeat (first | with_reducible assumption | (refine And.intro ?_ ?_)))) (ldl rfl) ?_)
    | (with_reducible refine Sy.ld0 (t := 47) rfl rfl hga rfl (by simp only [List.forall_mem_cons, List.not_mem_nil, false_implies, implies_true, and_true, ne_eq]; first | done | omega | (repeat (first | with_reducible assumption | (refine And.intro ?_ ?_)))) (ldr rfl) ?_)
    | ((with_reducible apply Sy.dld); (case hw => first | exact wantY_none); (case hx => exact rfl); (case hb => exact rfl); (case h2 => exact rfl))
    | ((with_reducible apply Sy.dwr (SK := [(a1, .cells (hC h ++ [.pointer pl, .pointer pr, .pointer none]) 62 w)])); (case hw => first | exact wantY_none); (case hc => intro hcls; cases hcls); (case h1 => exact rfl); (case hS => intro h hh; subst hh; exact ⟨_, List.mem_singleton.2 rfl⟩); (case hk => exact .cons0 hga rfl (by simp) .nil))
    | ((with_reducible apply Sy.dand); (case hk => exact .cons0 hga rfl (by simp) .nil))
    | (with_reducible refine Sy.skip ?_)
    | (with_reducible refine Sy.block ?_)
    | (with_reducible refine Sy.inrm ?_)
    | ((with_reducible apply Sy.no); (case hx => exact rfl)))
    have hbn : a ≠ [] → b < H.next := fun h0 => get_live_lt (by rw [(ha h0).1]; rfl)
    refine Sy.call (fun b1 => accP (a ++ l.ps) b1) (fun b1 => deadM a l.ps b) (fun b1 => newM a l.ps b1) (fun b1 => l.ps = [] → b1 = b) rfl rfl en26 rfl ?_ ?_
    · intro H1 hH
      have same : ∀ x, x < B → H1.get x = H.get x := fun x hx => hH.fr x (by omega) (by simp)
      refine (ihl pl B H1 a b (htl.back fun x hx => (same x hx).symm) (Nat.le_trans hB hH.le) (fun h0 => ⟨hH.get0 (ha h0).1 rfl (by simp), (ha h0).2⟩) (by omega)).mono ?_
      rintro u H' ⟨b1, h1, h2, h3⟩
      exact ⟨b1, h1, h2, acc_then0 hbn hH h3 h1⟩
    intro b1 hb1
    refine Sy.dand (.cons0 hga rfl (hMo _) .nil) ?_
    repeat' (first
    | ((with_reducible apply Sy.dgo); (case hw => first | exact wantY_none); (case hc => intro hcls; cases hcls); (case h1 => exact rfl); (case h2 => exact rfl)))
    refine Sy.call (fun b2 => accP (a ++ l.ps ++ r.ps) b2) (fun b2 => deadM a (l.ps ++ r.ps) b) (fun b2 => newM a (l.ps ++ r.ps) b2) (fun b2 => l.ps ++ r.ps = [] → b2 = b) rfl rfl en26 rfl ?_ ?_
    · intro H1 hH
      have same := acc_same hB ha hH
      refine (ihr pr B H1 (a ++ l.ps) b1 (htr.back fun x hx => (same x hx).symm) (Nat.le_trans hB hH.le) (acc_has hB ha hH hb1) (by rw [List.length_append]; omega)).mono ?_
      rintro u H' ⟨b2, h1, h2, h3⟩
      refine ⟨b2, fun h0 => ?_, h2, acc_then hbn hH hb1 h3 h1⟩
      rw [List.append_eq_nil_iff] at h0
      rw [h1 h0.2, hb1 h0.1]
    intro b2 hb2
    repeat' (first
    | (with_reducible refine Sy.nrm ?_)
    | ((with_reducible apply Sy.assign); (case hd => exact rfl); (case hx => exact rfl))
    | (with_reducible refine Sy.ret ?_)
    | (with_reducible refine Sy.dend ?_)
    | ((with_reducible apply Sy.dgo); (case hw => first | exact wantY_none); (case hc => intro hcls; cases hcls); (case h1 => exact rfl); (case h2 => exact rfl)))
    exact .fin [accP (a ++ l.ps ++ r.ps) b2] (.inr rfl) ⟨rfl, trivial⟩ fun H' hp => ⟨b2, hb2, by rw [Tree.ps, List.append_assoc]; rfl, hp⟩
end Go.Proofs.YtiimllfpkcohkaaDoor

/- Trees of pairs: what is put, told, and left. -/
namespace Go.Proofs.YtiimllfpkcohkaaDoor
open Go Go.Am
set_option maxRecDepth 100000
set_option linter.unusedVariables false

theorem mk_ps (l r : Tree) : (Tree.mk l r).ps = l.ps ++ r.ps := by cases l <;> cases r <;> rfl
/-- A tree of n levels, each leaf under its key. -/
def Wf : Nat → Tree → Prop
  | _, .nil => True
  | 0, .leaf _ _ _ => True
  | n + 1, .node _ l r => (∀ p ∈ l.ps, bitOf p.1 (256 - (n + 1)) = 0) ∧ (∀ p ∈ r.ps, bitOf p.1 (256 - (n + 1)) ≠ 0) ∧ Wf n l ∧ Wf n r
  | _, _ => False
theorem wf_nil (n : Nat) : Wf n .nil := by cases n <;> simp [Wf]
theorem Wf.lv : ∀ {n : Nat} {t : Tree}, Wf n t → Lv n t
  | n, .nil, _ => lv_nil n
  | 0, .leaf _ _ _, _ => by simp [Lv]
  | 0, .node _ _ _, h => by simp [Wf] at h
  | n + 1, .leaf _ _ _, h => by simp [Wf] at h
  | n + 1, .node _ l r, h => ⟨Wf.lv h.2.2.1, Wf.lv h.2.2.2⟩
theorem Wf.kids {n : Nat} {t : Tree} (h : Wf (n + 1) t) : (∀ p ∈ t.kids.1.ps, bitOf p.1 (256 - (n + 1)) = 0) ∧ (∀ p ∈ t.kids.2.ps, bitOf p.1 (256 - (n + 1)) ≠ 0) ∧ Wf n t.kids.1 ∧ Wf n t.kids.2 ∧ t.ps = t.kids.1.ps ++ t.kids.2.ps := by
  cases t with
  | nil => exact ⟨by simp [Tree.kids, Tree.ps], by simp [Tree.kids, Tree.ps], wf_nil n, wf_nil n, rfl⟩
  | leaf _ _ _ => simp [Wf] at h
  | node _ l r => exact ⟨h.1, h.2.1, h.2.2.1, h.2.2.2, rfl⟩
theorem wf_mk {n : Nat} {l r : Tree} (h1 : ∀ p ∈ l.ps, bitOf p.1 (256 - (n + 1)) = 0) (h2 : ∀ p ∈ r.ps, bitOf p.1 (256 - (n + 1)) ≠ 0) (h3 : Wf n l) (h4 : Wf n r) : Wf (n + 1) (Tree.mk l r) := by
  by_cases h : l = .nil ∧ r = .nil
  · rw [Tree.mk_nil h.1 h.2]; exact wf_nil _
  · rw [Tree.mk_node h]; exact ⟨h1, h2, h3, h4⟩
theorem mem_tput {k v : Hsh} : ∀ n t, Wf n t → ∀ p ∈ (tput k v n t).ps, p ∈ t.ps ∨ (p = (k, v) ∧ v ≠ zeroH)
  | 0, t, _, p, hp => by
    rw [tput] at hp
    split at hp
    · simp [Tree.ps] at hp
    · rename_i hv
      simp only [Tree.ps, List.mem_singleton] at hp
      exact .inr ⟨hp, hv⟩
  | n + 1, t, h, p, hp => by
    obtain ⟨_, _, w1, w2, e⟩ := h.kids
    rw [tput] at hp
    rw [e]
    split at hp
    · rw [mk_ps, List.mem_append] at hp
      rcases hp with hp | hp
      · rcases mem_tput n _ w1 p hp with h1 | h1
        · exact .inl (List.mem_append_left _ h1)
        · exact .inr h1
      · exact .inl (List.mem_append_right _ hp)
    · rw [mk_ps, List.mem_append] at hp
      rcases hp with hp | hp
      · exact .inl (List.mem_append_left _ hp)
      · rcases mem_tput n _ w2 p hp with h1 | h1
        · exact .inl (List.mem_append_right _ h1)
        · exact .inr h1
theorem wf_tput {k v : Hsh} : ∀ n t, Wf n t → Wf n (tput k v n t)
  | 0, t, _ => by rw [tput]; split <;> simp [Wf]
  | n + 1, t, h => by
    obtain ⟨b1, b2, w1, w2, e⟩ := h.kids
    rw [tput]
    split
    · rename_i hb
      refine wf_mk (fun p hp => ?_) b2 (wf_tput n _ w1) w2
      rcases mem_tput n _ w1 p hp with h1 | ⟨h1, _⟩
      · exact b1 p h1
      · rw [h1]; exact hb
    · rename_i hb
      refine wf_mk b1 (fun p hp => ?_) w1 (wf_tput n _ w2)
      rcases mem_tput n _ w2 p hp with h1 | ⟨h1, _⟩
      · exact b2 p h1
      · rw [h1]; exact hb
theorem len_tput {k v : Hsh} : ∀ n t, Wf n t → (tput k v n t).ps.length ≤ t.ps.length + 1 ∧ t.ps.length ≤ (tput k v n t).ps.length + 1
  | 0, t, h => by
    have h1 : t.ps.length ≤ 1 := by cases t <;> simp [Tree.ps, Wf] at h ⊢
    have h2 : (tput k v 0 t).ps.length ≤ 1 := by rw [tput]; split <;> simp [Tree.ps]
    omega
  | n + 1, t, h => by
    obtain ⟨_, _, w1, w2, e⟩ := h.kids
    have h1 := len_tput (k := k) (v := v) n _ w1
    have h2 := len_tput (k := k) (v := v) n _ w2
    rw [tput, e]
    split
    · rw [mk_ps, List.length_append, List.length_append]; omega
    · rw [mk_ps, List.length_append, List.length_append]; omega

/-- Two hashes whose bits agree. -/
theorem byte_ext {x y : Nat} (hx : x < 256) (hy : y < 256) (h : ∀ c, c < 8 → x >>> (7 - c) &&& 1 = y >>> (7 - c) &&& 1) : x = y := by
  apply Nat.eq_of_testBit_eq
  intro i
  by_cases hi : i < 8
  · have := h (7 - i) (by omega)
    rw [show 7 - (7 - i) = i by omega] at this
    simp only [Nat.testBit, Nat.and_comm 1, this]
  · have e : ∀ z, z < 256 → z.testBit i = false := fun z hz => Nat.testBit_lt_two_pow (Nat.lt_of_lt_of_le hz (by
      calc 256 = 2 ^ 8 := rfl
        _ ≤ 2 ^ i := Nat.pow_le_pow_right (by decide) (by omega)))
    rw [e x hx, e y hy]
theorem bits_ext {a b : Hsh} (h : ∀ i, i < 256 → bitOf a i = bitOf b i) : a = b := by
  refine Hsh.ext' (List.ext_getElem (by rw [a.len, b.len]) fun j h1 h2 => ?_)
  have hj : j < 32 := by rw [a.len] at h1; exact h1
  have e : a.at j = b.at j := byte_ext (a.at_lt j) (b.at_lt j) fun c hc => by
    have := h (8 * j + c) (by omega)
    unfold bitOf at this
    rwa [show (8 * j + c) / 8 = j by omega, show (8 * j + c) % 8 = c by omega] at this
  simpa [Hsh.at, List.getD, List.getElem?_eq_getElem h1, List.getElem?_eq_getElem h2] using e
/-- What is put leaves the other keys. -/
theorem mem_tput_other {k v : Hsh} : ∀ n t, n ≤ 256 → Wf n t → ∀ p ∈ t.ps, (∀ i, i < 256 - n → bitOf p.1 i = bitOf k i) → p.1 ≠ k → p ∈ (tput k v n t).ps
  | 0, t, _, _, p, _, hb, hk => absurd (bits_ext fun i hi => hb i (by omega)) hk
  | n + 1, t, hn, h, p, hp, hb, hk => by
    obtain ⟨b1, b2, w1, w2, e⟩ := h.kids
    rw [e, List.mem_append] at hp
    have ext : ∀ (hbit : bitOf p.1 (256 - (n + 1)) = bitOf k (256 - (n + 1))), ∀ i, i < 256 - n → bitOf p.1 i = bitOf k i := fun hbit i hi => by
      by_cases h1 : i < 256 - (n + 1)
      · exact hb i h1
      · obtain rfl : i = 256 - (n + 1) := by omega
        exact hbit
    have bit01 : ∀ (x : Hsh) (i : Nat), bitOf x i = 0 ∨ bitOf x i = 1 := fun x i => by have := and1_lt (x.at (i / 8) >>> (7 - i % 8)); unfold bitOf; omega
    rw [tput]
    by_cases hk0 : bitOf k (256 - (n + 1)) = 0
    · rw [if_pos hk0, mk_ps, List.mem_append]
      rcases hp with hp | hp
      · exact .inl (mem_tput_other n _ (by omega) w1 p hp (ext (by rw [b1 p hp, hk0])) hk)
      · exact .inr hp
    · rw [if_neg hk0, mk_ps, List.mem_append]
      rcases hp with hp | hp
      · exact .inl hp
      · refine .inr (mem_tput_other n _ (by omega) w2 p hp (ext ?_) hk)
        have := bit01 p.1 (256 - (n + 1)); have := bit01 k (256 - (n + 1)); have := b2 p hp; omega
/-- A pair is told. -/
theorem mem_down {k v : Hsh} {t : Tree} (h : Wf 256 t) (hm : (k, v) ∈ t.ps) : ∀ i, i ≤ 256 → (k, v) ∈ (down k t i).ps ∧ Wf (256 - i) (down k t i)
  | 0, _ => ⟨hm, h⟩
  | i + 1, hi => by
    obtain ⟨h1, h2⟩ := mem_down h hm i (by omega)
    rw [show 256 - i = (256 - (i + 1)) + 1 by omega] at h2
    obtain ⟨b1, b2, w1, w2, e⟩ := h2.kids
    rw [show 256 - (256 - (i + 1) + 1) = i by omega] at b1 b2
    rw [e, List.mem_append] at h1
    rw [down]
    by_cases hb : bitOf k i = 0
    · rw [if_pos hb]
      rcases h1 with h1 | h1
      · exact ⟨h1, w1⟩
      · exact absurd hb (b2 _ h1)
    · rw [if_neg hb]
      rcases h1 with h1 | h1
      · exact absurd (b1 _ h1) hb
      · exact ⟨h1, w2⟩
theorem get_mem {k v : Hsh} {t : Tree} (h : Wf 256 t) (hm : (k, v) ∈ t.ps) : tget k t = v := by
  obtain ⟨h1, h2⟩ := mem_down h hm 256 (Nat.le_refl _)
  unfold tget
  revert h1 h2
  generalize down k t 256 = s
  intro h1 h2
  rw [Nat.sub_self] at h2
  cases s with
  | nil => simp [Tree.ps] at h1
  | leaf _ _ _ => simp only [Tree.ps, List.mem_singleton, Prod.mk.injEq] at h1; exact h1.2.symm
  | node _ _ _ => simp [Wf] at h2
theorem get_other {k k' v v' : Hsh} {t : Tree} (h : Wf 256 t) (hm : (k', v') ∈ t.ps) (hk : k' ≠ k) : tget k' (tput k v 256 t) = v' :=
  get_mem (wf_tput 256 t h) (mem_tput_other 256 t (Nat.le_refl _) h _ hm (fun i hi => by omega) hk)

/-- The same for Put. -/
theorem put1_or (k v : Hsh) (t : Tree) (c : Int) : (tget k t = v ∧ (Put1 k v t c).1 = t) ∨ (Put1 k v t c).1 = tput k v 256 t ∨ 4096 ≤ c := by
  unfold Put1
  by_cases h1 : tget k t = v
  · rw [if_pos h1]; exact .inl ⟨h1, rfl⟩
  · rw [if_neg h1]
    by_cases h2 : v = zeroH
    · rw [if_pos h2]; exact .inr (.inl rfl)
    · rw [if_neg h2]
      by_cases h3 : tget k t = zeroH
      · rw [if_pos h3]
        by_cases h4 : 4096 ≤ c
        · exact .inr (.inr h4)
        · rw [if_neg h4]; exact .inr (.inl rfl)
      · rw [if_neg h3]; exact .inr (.inl rfl)
theorem put1_res {k v : Hsh} {t : Tree} {c : Int} (hc : c < 4096) : (Put1 k v t c).2.2 = 0 ∧ c - 1 ≤ (Put1 k v t c).2.1 ∧ (Put1 k v t c).2.1 ≤ c + 1 := by
  unfold Put1
  split
  · exact ⟨rfl, by dsimp only; omega, by dsimp only; omega⟩
  · split
    · exact ⟨rfl, by dsimp only; omega, by dsimp only; omega⟩
    · split
      · rw [if_neg (by omega)]; exact ⟨rfl, by dsimp only; omega, by dsimp only; omega⟩
      · exact ⟨rfl, by dsimp only; omega, by dsimp only; omega⟩
theorem put1_wf {k v : Hsh} {t : Tree} {c : Int} (hc : c < 4096) (h : Wf 256 t) : Wf 256 (Put1 k v t c).1 := by
  rcases put1_or k v t c with ⟨_, e⟩ | e | e
  · rw [e]; exact h
  · rw [e]; exact wf_tput 256 t h
  · omega
theorem put1_get {k v : Hsh} {t : Tree} {c : Int} (hc : c < 4096) : tget k (Put1 k v t c).1 = v := by
  rcases put1_or k v t c with ⟨h, e⟩ | e | e
  · rw [e]; exact h
  · rw [e]; exact tget_tput
  · omega
theorem put1_other {k k' v v' : Hsh} {t : Tree} {c : Int} (hc : c < 4096) (h : Wf 256 t) (hm : (k', v') ∈ t.ps) (hk : k' ≠ k) : tget k' (Put1 k v t c).1 = v' := by
  rcases put1_or k v t c with ⟨_, e⟩ | e | e
  · rw [e]; exact get_mem h hm
  · rw [e]; exact get_other h hm hk
  · omega
theorem put1_len {k v : Hsh} {t : Tree} {c : Int} (hc : c < 4096) (h : Wf 256 t) : (Put1 k v t c).1.ps.length ≤ t.ps.length + 1 ∧ t.ps.length ≤ (Put1 k v t c).1.ps.length + 1 := by
  rcases put1_or k v t c with ⟨_, e⟩ | e | e
  · rw [e]; omega
  · rw [e]; exact len_tput 256 t h
  · omega

theorem c_Pairs {m B : Nat} {c : Int} {r : Option Addr} {w : Bool} {t : Tree} (H : AHeap) (hm : H.get m = .cells (mapC r c true) 49 w) (ht : TreeL H B [] r t) (hB : B ≤ H.next) (hn : t.ps.length ≤ 1000000) :
    CallR Tryd.prog noPrims 15 [.pointer (some ⟨m, 0, none⟩)] H (fun u H' => ∃ b : Nat, True ∧ u = accP t.ps b ∧ Hp H 0 0 H' [] (newM [] t.ps b)) := by
  have hm0 := hm
  unfold mapC at hm0
  refine CallR.sy (n := 10) Tryd.func15 rfl rfl rfl ?_
  repeat' (first
    | (with_reducible refine Sy.seq ?_)
    | (with_reducible refine Sy.regionL ?_)
    | (with_reducible refine Sy.opsnil ?_)
    | (with_reducible refine Sy.go ?_)
    | (with_reducible refine Sy.nrm ?_)
    | ((with_reducible apply Sy.assign); (case hd => exact rfl); (case hx => exact rfl))
    | ((with_reducible apply Sy.move); (case hd => exact rfl); (case hx => exact rfl))
    | ((with_reducible apply Sy.nilC); (case hd => exact rfl); (case hx => exact rfl); (case hv => exact rfl))
    | ((with_reducible apply Sy.fa (t := 49) (i := 0)); (case hd => exact rfl); (case hx => exact rfl); (case hv => exact (fa49_0 _ _)))
    | ((with_reducible apply Sy.ld0 (t := 47)); (case hd => exact rfl); (case hx => exact rfl); (case hm => with_reducible assumption); (case hl => exact rfl); (case hn => simp only [List.forall_mem_cons, List.not_mem_nil, false_implies, implies_true, and_true, ne_eq]; first | done); (case hv => first | exact ld_one ag47 rfl))
    | ((with_reducible apply Sy.call0 (k := 24)); (case hd => exact rfl); (case hf => exact rfl); (case hen => exact en24); (case hx => exact rfl); (case hc => intro H' hp; exact c_mnone H' (hp.get0 hm rfl (by simp))))
    | ((with_reducible apply Sy.callN (k := 26)); (case hd => exact rfl); (case hf => exact rfl); (case hen => exact en26); (case hx => exact rfl); (case hc => intro H' hp; exact (by have q := c_pairs t r H'.next H' [] 0 (TreeL.at ht hp (fun p h => by cases h) hB) (Nat.le_refl _) (fun h => absurd rfl h) (by simpa using hn); simp only [List.nil_append] at q; exact q.mono fun u H2 ⟨b, _, h2, h3⟩ => (⟨b, trivial, h2, by simpa [deadM] using h3⟩ : ∃ b : Nat, True ∧ u = accP t.ps b ∧ Hp H' 0 0 H2 [] (newM [] t.ps b)))); rintro b _)
    | (with_reducible refine Sy.skip ?_)
    | (with_reducible refine Sy.ret ?_)
    | ((with_reducible apply Sy.no); (case hx => exact rfl)))
  exact .fin [accP t.ps b] (.inr rfl) ⟨rfl, trivial⟩ fun H' hp => ⟨b, trivial, rfl, by simpa using hp⟩
end Go.Proofs.YtiimllfpkcohkaaDoor

/- The law SmtOthers. -/
namespace Go.Proofs.YtiimllfpkcohkaaDoor
open Go Go.Am
set_option maxRecDepth 100000
set_option linter.unusedVariables false

/-- A slice of pairs, read. -/
def PairsAt (T : Nat) (H : AHeap) (v : Value) (l : List (Hsh × Hsh)) : Prop := (v = .slice none 0 0 ∧ l = []) ∨ ∃ b c w, v = .slice (some ⟨b, 0, none⟩) l.length c ∧ H.get b = .cells (pcs l) T w
theorem PairsAt.of {T B : Nat} {H H1 : AHeap} {v : Value} {l : List (Hsh × Hsh)} (h : PairsAt T H v l) (f : Fr B H H1) (hB : B = H.next) : PairsAt T H1 v l := by
  rcases h with h | ⟨b, c, w, h1, h2⟩
  · exact .inl h
  · exact .inr ⟨b, c, w, h1, f.get h2 (by rw [hB]; exact get_live_lt (by rw [h2]; rfl))⟩
theorem pcs_cut {l : List (Hsh × Hsh)} {i : Nat} {p : Hsh × Hsh} (h : l[i]? = some p) : pcs l = pcs (l.take i) ++ (hC p.1 ++ (hC p.2 ++ pcs (l.drop (i + 1)))) := by
  obtain ⟨hi, e⟩ := List.getElem?_eq_some_iff.1 h
  have e2 : l = l.take i ++ (p :: l.drop (i + 1)) := by rw [← e, ← List.drop_eq_getElem_cons hi, List.take_append_drop]
  conv => lhs; rw [e2]
  rw [pcs_append]
  simp [pcs]
theorem pcs_k {l : List (Hsh × Hsh)} {i o T : Nat} {p : Hsh × Hsh} {w : Bool} (h : l[i]? = some p) (ho : o = i * 64) : aLoad Tryd.prog 23 (.cells (pcs l) T w) o = some (hV p.1) := by
  obtain ⟨hi, _⟩ := List.getElem?_eq_some_iff.1 h
  refine ld_agg (cs' := hC p.1) ag23 sz23 (by rw [pcs_length]; omega) ?_
  have hl : (pcs (l.take i)).length = i * 64 := by rw [pcs_length, List.length_take]; congr 1; omega
  rw [pcs_cut h, ho, ← hl, List.drop_left, ← hC_length p.1, List.take_left]
theorem pcs_v {l : List (Hsh × Hsh)} {i o T : Nat} {p : Hsh × Hsh} {w : Bool} (h : l[i]? = some p) (ho : o = i * 64 + 32) : aLoad Tryd.prog 23 (.cells (pcs l) T w) o = some (hV p.2) := by
  obtain ⟨hi, _⟩ := List.getElem?_eq_some_iff.1 h
  refine ld_agg (cs' := hC p.2) ag23 sz23 (by rw [pcs_length]; omega) ?_
  have hl : (pcs (l.take i) ++ hC p.1).length = i * 64 + 32 := by rw [List.length_append, pcs_length, List.length_take, hC_length]; congr 2; omega
  rw [pcs_cut h, ho, ← List.append_assoc, ← hl, List.drop_left, ← hC_length p.2, List.take_left]

/-- A tree at a heap in which the map has turned. -/
theorem TreeL.atm {H0 H : AHeap} {B lo hi m : Nat} {L Mo Mn : Hm} {v : Option Addr} {t : Tree} {cs : List Value} {w : Bool} (ht : TreeL H0 B L v t) (h : Hp H0 lo hi H Mo Mn) (hMo : ∀ p ∈ Mo, p.1 = m) (hm : H0.get m = .cells cs 49 w) (hL : ∀ p ∈ L, p ∈ Mn) (hB : B ≤ H0.next) : TreeL H H.next [] v t := by
  have ob : ∀ {a cs' T}, (T = 62 ∨ T = 40) → Ob H0 B L a cs' T → Ob H H.next [] a cs' T := fun hT o => .inr (by
    rcases o with o | ⟨h1, w', h2⟩
    · exact ⟨h.lt _ (hL _ o), true, h.vn _ (hL _ o)⟩
    · refine ⟨by have := h.le; omega, w', ?_⟩
      rw [h.fr _ (by omega) fun p hp e => ?_, h2]
      rw [hMo p hp] at e; subst e
      rw [hm] at h2; injection h2 with _ h3 _
      subst h3; rcases hT with hT | hT <;> simp at hT)
  induction ht with
  | nil => exact .nil
  | leaf h1 h2 => exact .leaf (ob (.inl rfl) h1) (ob (.inr rfl) h2)
  | node h1 _ _ ih1 ih2 => exact .node (ob (.inl rfl) h1) ih1 ih2
theorem Put_at {m B lo hi : Nat} {c : Int} {k v : Hsh} {r : Option Addr} {t : Tree} {H1 H' : AHeap} {Mn : Hm} (hp : Hp H1 lo hi H' [] Mn) (g : Gl H1) (h0 : m ≠ 0) (h1 : m ≠ 1) (hm : H1.get m = .cells (mapC r c true) 49 true) (ht : TreeL H1 B [] r t) (hB : B ≤ H1.next) (hl : Lv 256 t) (hc0 : -1000000 ≤ c) (hc1 : c ≤ 1000000) :
    CallR Tryd.prog noPrims 14 [.pointer (some ⟨m, 0, none⟩), hV k, hV v] H' (fun u H2 => ∃ i : Option Addr × Hm, TreeL H1 B i.2 i.1 (Put1 k v t c).1 ∧ u = .int .i64 ((Put1 k v t c).2.2 : Nat) ∧ Hp H' 0 0 H2 [(m, .cells (mapC i.1 (Put1 k v t c).2.1 true) 49 true)] i.2) := by
  have same : ∀ a, a < B → H'.get a = H1.get a := fun a ha => hp.fr a (by omega) (by simp)
  refine (c_Put (B := B) H' (g.of hp (by simp)) h0 h1 (hp.get0 hm rfl (by simp)) (ht.back fun a ha => (same a ha).symm) (Nat.le_trans hB hp.le) hl hc0 hc1).mono ?_
  rintro u H2 ⟨i, a, b, d⟩
  exact ⟨i, a.back same, b, d⟩

/-- The map of a law, in the middle. -/
structure St (H : AHeap) (m k : Nat) (r : Option Addr) (t : Tree) (c : Int) (H1 : AHeap) : Prop where
  fr : Fr H.next H H1
  hm : H1.get m = .cells (mapC r c true) 49 true
  mn : H.next ≤ m
  tr : TreeL H1 H1.next [] r t
  wf : Wf 256 t
  c0 : -(k : Int) ≤ c
  c1 : c ≤ (k : Int)
  len : t.ps.length ≤ k
theorem St.put {H H1 H2 : AHeap} {m n lo hi : Nat} {r r' : Option Addr} {t : Tree} {c : Int} {k v : Hsh} {L Mn : Hm} (s : St H m n r t c H1) (hn : n < 4096) (hT : TreeL H1 H1.next L r' (Put1 k v t c).1)
    (hp : Hp H1 lo hi H2 [(m, .cells (mapC r' (Put1 k v t c).2.1 true) 49 true)] Mn) (hL : ∀ p ∈ L, p ∈ Mn) : St H m (n + 1) r' (Put1 k v t c).1 (Put1 k v t c).2.1 H2 := by
  have hc : c < 4096 := by have := s.c1; omega
  obtain ⟨_, e1, e2⟩ := put1_res (k := k) (v := v) (t := t) hc
  have hlen := (put1_len (k := k) (v := v) (c := c) hc s.wf).1
  refine ⟨s.fr.step hp (by simpa using s.mn), hp.vo (m, .cells (mapC r' (Put1 k v t c).2.1 true) 49 true) (by simp), s.mn, hT.atm (m := m) hp (by simp) s.hm hL (Nat.le_refl _), put1_wf hc s.wf, ?_, ?_, ?_⟩
  · have := s.c0; omega
  · have := s.c1; omega
  · have := s.len; omega
theorem box_ne {H1 : AHeap} {m q T : Nat} {cs cs' : List Value} {w w' : Bool} (hq : H1.get q = .cells cs' T w') (hm : H1.get m = .cells cs 49 w) (hT : T ≠ 49) : m ≠ q := by
  rintro rfl
  rw [hq] at hm
  injection hm with _ h _
  exact hT h
theorem St.keep {H H1 H2 : AHeap} {m n lo hi : Nat} {r : Option Addr} {t : Tree} {c : Int} {Mn : Hm} (s : St H m n r t c H1) (hp : Hp H1 lo hi H2 [] Mn) : St H m n r t c H2 :=
  ⟨s.fr.step hp (by simp), hp.get0 s.hm rfl (by simp), s.mn, s.tr.at hp (fun p h => by cases h) (Nat.le_refl _), s.wf, s.c0, s.c1, s.len⟩
/-- A box of one's own, behind what turned the map. -/
theorem box_keep {H1 H2 : AHeap} {m q lo hi : Nat} {cs cs' : List Value} {w w' : Bool} {o : AObj} {Mn : Hm} (hq : H1.get q = .cells cs' 23 w') (hm : H1.get m = .cells cs 49 w) (hp : Hp H1 lo hi H2 [(m, o)] Mn) : H2.get q = .cells cs' 23 w' :=
  hp.get0 hq rfl (by
    simp only [List.mem_singleton, forall_eq]
    intro e
    rw [e, hq] at hm
    injection hm with _ h _
    simp at h)
theorem Put_at0 {m B lo hi : Nat} {c : Int} {k v : Hsh} {r : Option Addr} {t : Tree} {H1 H' : AHeap} {Mn : Hm} (hp : Hp H1 lo hi H' [] Mn) (g : Gl H1) (h0 : m ≠ 0) (h1 : m ≠ 1) (hm : H1.get m = .cells (mapC r c true) 49 true) (ht : TreeL H1 B [] r t) (hB : B ≤ H1.next) (hl : Lv 256 t) (hc0 : -1000 ≤ c) (hc1 : c ≤ 1000) :
    CallR Tryd.prog noPrims 14 [.pointer (some ⟨m, 0, none⟩), hV k, hV v] H' (fun u H2 => ∃ i : Option Addr × Hm, TreeL H1 B i.2 i.1 (Put1 k v t c).1 ∧ u = .int .i64 ((0 : Nat) : Int) ∧ Hp H' 0 0 H2 [(m, .cells (mapC i.1 (Put1 k v t c).2.1 true) 49 true)] i.2) := by
  refine (Put_at hp g h0 h1 hm ht hB hl (by omega) (by omega)).mono ?_
  rintro u H2 ⟨i, a, b, d⟩
  exact ⟨i, a, by rw [b, (put1_res (by omega)).1], d⟩
theorem Gl.fr {H H1 : AHeap} {B : Nat} (g : Gl H) (f : Fr B H H1) (hB : B = H.next) : Gl H1 := by
  have h2 := g.two
  obtain ⟨⟨T, h⟩, ⟨T', h'⟩⟩ := g
  exact ⟨⟨T, f.get h (by omega)⟩, ⟨T', f.get h' (by omega)⟩⟩
theorem c_Pairs2 {m B : Nat} {c : Int} {r : Option Addr} {w : Bool} {t : Tree} (H : AHeap) (hm : H.get m = .cells (mapC r c true) 49 w) (ht : TreeL H B [] r t) (hB : B ≤ H.next) (hn : t.ps.length ≤ 1000000) :
    CallR Tryd.prog noPrims 15 [.pointer (some ⟨m, 0, none⟩)] H (fun u H' => ∃ i : Option Addr × Nat × Nat, ((t.ps = [] ∧ i.1 = none) ∨ (t.ps ≠ [] ∧ i.1 = some ⟨i.2.2, 0, none⟩)) ∧ u = .slice i.1 t.ps.length i.2.1 ∧ Hp H 0 0 H' [] (newM [] t.ps i.2.2)) := by
  refine (c_Pairs H hm ht hB hn).mono ?_
  rintro u H' ⟨b, _, hu, hp⟩
  by_cases h : t.ps = []
  · refine ⟨(none, 0, b), .inl ⟨h, rfl⟩, ?_, hp⟩
    rw [hu, h]; rfl
  · refine ⟨(some ⟨b, 0, none⟩, t.ps.length + 2 + 64, b), .inr ⟨h, rfl⟩, ?_, hp⟩
    have : ¬ t.ps.length = 0 := by simpa using h
    rw [hu]; unfold accP accV; rw [if_neg this]
set_option maxHeartbeats 2000000 in
theorem c_SmtOthers (hn : (tput h1 h2 256 .nil).hash ≠ zeroH) (l : List (Hsh × Hsh)) (key val : Hsh) (lv : Value) (H : AHeap) (g : Gl H) (hl : PairsAt 35 H lv l) : CallR Tryd.prog noPrims 5 [lv, hV key, hV val] H (fun u H' => u = .bool true ∧ Hp H 0 0 H' [] []) := by
  have h2n := g.two
  have hlv : ∃ a c, lv = .slice a l.length c := by
    rcases hl with ⟨rfl, rfl⟩ | ⟨b, c, w, rfl, _⟩
    · exact ⟨_, _, rfl⟩
    · exact ⟨_, _, rfl⟩
  obtain ⟨la, lc, rfl⟩ := hlv
  refine CallR.sy (n := 108) Tryd.func5 rfl rfl rfl ?_
  repeat' (first
    | (with_reducible refine Sy.seq ?_)
    | (with_reducible refine Sy.regionL ?_)
    | (with_reducible refine Sy.opsnil ?_)
    | (with_reducible refine Sy.go ?_)
    | (with_reducible refine Sy.nrm ?_)
    | ((with_reducible apply Sy.assign); (case hd => exact rfl); (case hx => exact rfl))
    | ((with_reducible apply Sy.move); (case hd => exact rfl); (case hx => exact rfl))
    | ((with_reducible apply Sy.lenS); (case hd => exact rfl); (case ht => exact Tryd.underlying27); (case hx => exact rfl))
    | ((with_reducible apply Sy.bin (op := .gtr) (t := 3)); (case hd => exact rfl); (case hx => exact rfl); (case hy => exact rfl); (case hv => exact b_gtr))
    | ((with_reducible apply Sy.ext); (case hd => exact rfl); (case hx => exact rfl); (case hv => exact rfl))
    | ((with_reducible apply Sy.bin (op := .neq) (t := 3)); (case hd => exact rfl); (case hx => exact rfl); (case hy => exact rfl); (case hv => exact b_neq))
    | ((with_reducible apply Sy.bin (op := .eql) (t := 28)); (case hd => exact rfl); (case hx => exact rfl); (case hy => exact rfl); (case hv => exact (p_eq1 kd28)))
    | ((with_reducible apply Sy.pickF); (case hd => exact rfl); (case hx => exact rfl); (case hy => exact rfl))
    | ((with_reducible apply Sy.un (op := .not)); (case hd => exact rfl); (case hx => exact rfl); (case hv => exact un_notT))
    | ((with_reducible apply Sy.callN (k := 12)); (case hd => exact rfl); (case hf => exact rfl); (case hen => exact en12); (case hx => exact rfl); (case hc => intro H' hp; exact c_New0 H'); rintro m _)
    | ((with_reducible apply Sy.call0 (k := 13)); (case hd => exact rfl); (case hf => exact rfl); (case hen => exact en13); (case hx => exact rfl); (case hc => intro H' hp; exact c_num 0 H'))
    | ((with_reducible apply Sy.call0 (k := 11)); (case hd => exact rfl); (case hf => exact rfl); (case hen => exact en11); (case hx => exact rfl); (case hc => intro H' hp; exact c_knows hn H' (g.of hp (by simp))))
    | ((with_reducible apply Sy.newY (o := ⟨some 4, .box 23 _, _, _, _, _⟩)); (case ho => exact rfl); (case hd => exact rfl); (case hc => exact (nbH rfl)); intro q4)
    | ((with_reducible apply Sy.newY (o := ⟨some 5, .box 23 _, _, _, _, _⟩)); (case ho => exact rfl); (case hd => exact rfl); (case hc => exact (nbH rfl)); intro q5)
    | (with_reducible refine Sy.skip ?_)
    | (with_reducible refine Sy.ret ?_)
    | (with_reducible refine Sy.block ?_)
    | (with_reducible refine Sy.aret ?_)
    | ((with_reducible apply Sy.no); (case hx => exact rfl))
    | ((with_reducible apply Sy.goG); (case hj => exact rfl); (case ht => exact rfl); (case hb => exact rfl))
    | ((with_reducible apply Sy.ite); (case hx => exact rfl); all_goals (intro hc; try (exfalso; omega))))
  · exact .fin [.bool true] (.inr rfl) ⟨rfl, trivial⟩ fun H' hp => ⟨rfl, hp.less (List.nil_sublist _)⟩
  refine Sy.loopH (ι := Nat × Option Addr × Tree × Int) (fun i => l.length - i.1) (fun i => [(0, .slice la l.length lc), (4, .pointer (some ⟨q4, 0, none⟩)), (5, .pointer (some ⟨q5, 0, none⟩)), (7, .pointer (some ⟨m, 0, none⟩)), (9, .int .i64 (i.1 : Nat))])
    (fun i H1 => i.1 ≤ l.length ∧ St H m i.1 i.2.1 i.2.2.1 i.2.2.2 H1 ∧ (H1.get q4 = .cells (hC key) 23 true ∧ H.next ≤ q4) ∧ (H1.get q5 = .cells (hC val) 23 true ∧ H.next ≤ q5)) (0, none, .nil, ((0 : Nat) : Int)) ⟨rfl, rfl, rfl, rfl, rfl, trivial⟩ ?_ ?_
  · intro H1 hp
    exact ⟨Nat.zero_le _, ⟨.of hp, hp.getN (by repeat (first | exact Has.here | apply Has.there | apply Has.app)), (hp.new_lt (h := m) (by repeat (first | exact Has.here | apply Has.there | apply Has.app))).1, .nil, wf_nil _, by simp, by simp, by simp [Tree.ps]⟩, ⟨hp.getN (by repeat (first | exact Has.here | apply Has.there | apply Has.app)), (hp.new_lt (h := q4) (by repeat (first | exact Has.here | apply Has.there | apply Has.app))).1⟩, ⟨hp.getN (by repeat (first | exact Has.here | apply Has.there | apply Has.app)), (hp.new_lt (h := q5) (by repeat (first | exact Has.here | apply Has.there | apply Has.app))).1⟩⟩
  rintro ⟨i, r, t, c⟩ H1 ⟨hi, st, ⟨hk4, hn4⟩, ⟨hk5, hn5⟩⟩
  dsimp only at hi st hk4 hk5 ⊢
  by_cases hlt : i < l.length
  · obtain ⟨p, hpi⟩ : ∃ p, l[i]? = some p := ⟨l[i], List.getElem?_eq_getElem hlt⟩
    rcases hl with ⟨_, rfl⟩ | ⟨b, c', w, hb1, hb2⟩
    · simp at hlt
    · simp only [Value.slice.injEq, true_and] at hb1
      obtain ⟨rfl, rfl⟩ := hb1
      have hb3 := st.fr.get hb2 (get_live_lt (by rw [hb2]; rfl))
      have hcb0 := st.c0
      have hcb1 := st.c1
      repeat' (first
    | (with_reducible refine Sy.seq ?_)
    | (with_reducible refine Sy.regionL ?_)
    | (with_reducible refine Sy.opsnil ?_)
    | (with_reducible refine Sy.go ?_)
    | (with_reducible refine Sy.nrm ?_)
    | ((with_reducible apply Sy.assign); (case hd => exact rfl); (case hx => exact rfl))
    | ((with_reducible apply Sy.move); (case hd => exact rfl); (case hx => exact rfl))
    | ((with_reducible apply Sy.lenS); (case hd => exact rfl); (case ht => exact Tryd.underlying27); (case hx => exact rfl))
    | ((with_reducible apply Sy.bin (op := .lss) (t := 3)); (case hd => exact rfl); (case hx => exact rfl); (case hy => exact rfl); (case hv => exact b_lss))
    | ((with_reducible apply Sy.ia (t := 27)); (case hd => exact rfl); (case hx => exact rfl); (case hy => exact rfl); (case hv => exact (ia_sl Tryd.underlying27 sz35 (by omega))))
    | ((with_reducible apply Sy.fa (t := 35) (i := 0)); (case hd => exact rfl); (case hx => exact rfl); (case hv => exact (fa35_0 _ _)))
    | ((with_reducible apply Sy.fa (t := 35) (i := 1)); (case hd => exact rfl); (case hx => exact rfl); (case hv => exact (fa35_1 _ _)))
    | ((with_reducible apply Sy.bin (op := .add) (t := 3)); (case hd => exact rfl); (case hx => exact rfl); (case hy => exact rfl); (case hv => exact (b_add (by omega))))
    | (with_reducible refine Sy.ld0 (t := 23) rfl rfl hb3 rfl (by simp only [List.forall_mem_cons, List.not_mem_nil, false_implies, implies_true, and_true, ne_eq]; first | done | omega | (repeat (first | with_reducible assumption | (refine And.intro ?_ ?_)))) (pcs_k hpi (by omega)) ?_)
    | (with_reducible refine Sy.ld0 (t := 23) rfl rfl hb3 rfl (by simp only [List.forall_mem_cons, List.not_mem_nil, false_implies, implies_true, and_true, ne_eq]; first | done | omega | (repeat (first | with_reducible assumption | (refine And.intro ?_ ?_)))) (pcs_v hpi (by omega)) ?_)
    | ((with_reducible apply Sy.callTX (k := 14)); (case hd => exact rfl); (case hf => exact rfl); (case hen => exact en14); (case hx => exact rfl); (case hc => intro H' hp; exact Put_at0 (k := p.1) (v := p.2) hp (g.fr st.fr rfl) (by have := st.mn; omega) (by have := st.mn; omega) st.hm st.tr (Nat.le_refl _) st.wf.lv (by omega) (by omega)); (case hb => exact get_live_lt (by rw [st.hm]; rfl)); (case hn => simp only [List.forall_mem_cons, List.not_mem_nil, false_implies, implies_true, and_true, ne_eq]; first | done); rintro ⟨r2, L⟩ hT)
    | (with_reducible refine Sy.skip ?_)
    | (with_reducible refine Sy.block ?_)
    | (with_reducible refine Sy.inrm ?_)
    | ((with_reducible apply Sy.drawL (id := 9) 12 [] (fun hi h => h < hi)); (case hp => kernel_rfl); (case hN => exact rfl); intro base hbase hM; try simp only [List.forall_mem_cons, List.forall_mem_append, List.not_mem_nil, false_implies, implies_true, and_true] at hM)
    | (with_reducible refine Sy.dend ?_)
    | ((with_reducible apply Sy.dgo); (case hw => first | exact wantY_none); (case hc => intro hcls; cases hcls); (case h1 => exact rfl); (case h2 => exact rfl))
    | ((with_reducible apply Sy.ite); (case hx => exact rfl); all_goals (intro hc; try (exfalso; omega))))
      refine Sy.hnrm (i + 1, r2, (Put1 p.1 p.2 t c).1, (Put1 p.1 p.2 t c).2.1) (by dsimp only; omega) ⟨rfl, rfl, rfl, rfl, rfl, trivial⟩ fun H2 hp => ?_
      exact ⟨by dsimp only; omega, st.put (by omega) hT hp (fun q hq => by simp only [List.mem_append, hq, true_or]), ⟨box_keep hk4 st.hm hp, hn4⟩, ⟨box_keep hk5 st.hm hp, hn5⟩⟩
  · obtain rfl : i = l.length := by omega
    have hcb0 := st.c0
    have hcb1 := st.c1
    have hlen := st.len
    have hq4n : q4 < H1.next := get_live_lt (by rw [hk4]; rfl)
    have hq5n : q5 < H1.next := get_live_lt (by rw [hk5]; rfl)
    have hmq4 := box_ne hk4 st.hm (by decide)
    have hmq5 := box_ne hk5 st.hm (by decide)
    have hg := put1_get (k := key) (v := val) (t := t) (c := c) (by omega)
    have hwf := put1_wf (k := key) (v := val) (t := t) (c := c) (by omega) st.wf
    repeat' (first
    | (with_reducible refine Sy.seq ?_)
    | (with_reducible refine Sy.regionL ?_)
    | (with_reducible refine Sy.opsnil ?_)
    | (with_reducible refine Sy.go ?_)
    | (with_reducible refine Sy.nrm ?_)
    | ((with_reducible apply Sy.assign); (case hd => exact rfl); (case hx => exact rfl))
    | ((with_reducible apply Sy.move); (case hd => exact rfl); (case hx => exact rfl))
    | ((with_reducible apply Sy.lenS); (case hd => exact rfl); (case ht => exact Tryd.underlying27); (case hx => exact rfl))
    | ((with_reducible apply Sy.bin (op := .neq) (t := 3)); (case hd => exact rfl); (case hx => exact rfl); (case hy => exact rfl); (case hv => exact b_neq))
    | ((with_reducible apply Sy.pickF); (case hd => exact rfl); (case hx => exact rfl); (case hy => exact rfl))
    | ((with_reducible apply Sy.bin (op := .lss) (t := 3)); (case hd => exact rfl); (case hx => exact rfl); (case hy => exact rfl); (case hv => exact b_lss))
    | ((with_reducible apply Sy.ld0 (t := 23)); (case hd => exact rfl); (case hx => exact rfl); (case hm => with_reducible assumption); (case hl => exact rfl); (case hn => simp only [List.forall_mem_cons, List.not_mem_nil, false_implies, implies_true, and_true, ne_eq]; first | done | omega); (case hv => first | exact ld_hV ag23 sz23))
    | ((with_reducible apply Sy.bin (op := .neq) (t := 23)); (case hd => exact rfl); (case hx => exact rfl); (case hy => exact rfl); (case hv => exact (ne23)))
    | (with_reducible refine Sy.hex ?_)
    | ((with_reducible apply Sy.callN (k := 15)); (case hd => exact rfl); (case hf => exact rfl); (case hen => exact en15); (case hx => exact rfl); (case hc => intro H' hp; exact c_Pairs2 H' (hp.get0 st.hm rfl (by simp)) (TreeL.at st.tr hp (fun p h => by cases h) (Nat.le_refl _)) (Nat.le_refl _) (by omega)); rintro ⟨wa, wc, wb⟩ hw)
    | ((with_reducible apply Sy.callTX (k := 14)); (case hd => exact rfl); (case hf => exact rfl); (case hen => exact en14); (case hx => exact rfl); (case hc => intro H' hp; exact Put_at0 (k := key) (v := val) hp (g.fr st.fr rfl) (by have := st.mn; omega) (by have := st.mn; omega) st.hm st.tr (Nat.le_refl _) st.wf.lv (by omega) (by omega)); (case hb => exact get_live_lt (by rw [st.hm]; rfl)); (case hn => simp only [List.forall_mem_cons, List.not_mem_nil, false_implies, implies_true, and_true, ne_eq]; first | done); rintro ⟨r2, L⟩ hT)
    | ((with_reducible apply Sy.dcall0 (k := 13)); (case hw => first | exact wantY_none | exact wantY_some rfl rfl rfl); (case h1 => exact rfl); (case hS => intro h hh; exact hh); (case hi1 => exact rfl); (case hd => exact rfl); (case hf => exact rfl); (case hen => exact en13); (case hx => exact rfl); (case hc => intro H' hp; exact c_num 0 H'))
    | ((with_reducible apply Sy.dcall0 (k := 17)); (case hw => first | exact wantY_none | exact wantY_some rfl rfl rfl); (case h1 => exact rfl); (case hS => intro h hh; exact hh); (case hi1 => exact rfl); (case hd => exact rfl); (case hf => exact rfl); (case hen => exact en17); (case hx => exact rfl); (case hc => intro H' hp; exact (by have q := c_get (k := key) H' (hp.getO (by repeat (first | exact Has.here | apply Has.there | apply Has.app))) (TreeL.atm hT hp (by simp) st.hm (fun q hq => by simp only [List.mem_append, hq, true_or]) (Nat.le_refl _)) (Nat.le_refl _) hwf.lv; rw [hg] at q; exact q)))
    | (with_reducible refine Sy.skip ?_)
    | (with_reducible refine Sy.exit ?_)
    | (with_reducible refine Sy.ret ?_)
    | (with_reducible refine Sy.block ?_)
    | (with_reducible refine Sy.aex ?_)
    | (with_reducible refine Sy.aret ?_)
    | ((with_reducible apply Sy.iex); (case hi' => exact rfl))
    | ((with_reducible apply Sy.drawL (id := 11) 13 [(10, 9)] (fun hi h => h < hi)); (case hp => kernel_rfl); (case hN => exact rfl); intro base hbase hM; try simp only [List.forall_mem_cons, List.forall_mem_append, List.not_mem_nil, false_implies, implies_true, and_true] at hM)
    | (with_reducible refine Sy.dend ?_)
    | ((with_reducible apply Sy.dgo); (case hw => first | exact wantY_none | exact wantY_some rfl rfl rfl); (case hc => intro hcls; cases hcls); (case h1 => exact rfl); (case h2 => exact rfl))
    | ((with_reducible apply Sy.dld); (case hw => first | exact wantY_some rfl rfl rfl); (case hx => exact rfl); (case hb => omega); (case h2 => exact rfl))
    | ((with_reducible apply Sy.ite); (case hx => exact rfl); all_goals (intro hc; try (exfalso; omega))))
    · exact absurd rfl hc
    have hlen2 := put1_len (k := key) (v := val) (c := c) (by omega) st.wf
    have hoth : ∀ p ∈ t.ps, p.1 ≠ key → tget p.1 (Put1 key val t c).1 = p.2 := fun p hp hk => put1_other (by omega) st.wf hp hk
    have hnx : ∀ {H2 : AHeap}, Hp H1 0 0 H2 [(m, .cells (mapC r2 (Put1 key val t c).2.1 true) 49 true)] (L ++ (newM [] t.ps wb ++ [])) → St H m (l.length + 1) r2 (Put1 key val t c).1 (Put1 key val t c).2.1 H2 := fun hp =>
      st.put (by omega) hT hp (fun q hq => by simp only [List.mem_append, hq, true_or])
    dsimp only at hw ⊢
    generalize (Put1 key val t c).1 = t2 at *
    generalize (Put1 key val t c).2.1 = c2 at *
    clear hT hg
    refine Sy.loopH (ι := Nat) (fun j => t.ps.length - j) (fun j => [(4, .pointer (some ⟨q4, 0, none⟩)), (7, .pointer (some ⟨m, 0, none⟩)), (10, .slice wa t.ps.length wc), (11, .int .i64 (j : Nat))])
      (fun j H2 => j ≤ t.ps.length ∧ St H m (l.length + 1) r2 t2 c2 H2 ∧ H2.get q4 = .cells (hC key) 23 true ∧ (t.ps ≠ [] → H2.get wb = .cells (pcs t.ps) 40 true)) 0 ⟨rfl, rfl, rfl, rfl, trivial⟩ ?_ ?_
    · intro H2 hp
      refine ⟨Nat.zero_le _, hnx hp, box_keep hk4 st.hm hp, fun h0 => ?_⟩
      exact hp.vn (wb, .cells (pcs t.ps) 40 true) (by simp [newM, h0])
    rintro j H2 ⟨hj, st2, hk42, hwb⟩
    try dsimp only at hj ⊢
    by_cases hlt2 : j < t.ps.length
    · obtain ⟨p, hpj⟩ : ∃ p, t.ps[j]? = some p := ⟨t.ps[j], List.getElem?_eq_getElem hlt2⟩
      have hne : t.ps ≠ [] := by rintro h0; rw [h0] at hlt2; simp at hlt2
      have hpm := hoth p (List.mem_of_getElem? hpj)
      rcases hw with ⟨h0, _⟩ | ⟨_, rfl⟩
      · exact absurd h0 hne
      have hwb2 := hwb hne
      have hwbn : wb < H2.next := get_live_lt (by rw [hwb2]; rfl)
      have hq42 : q4 < H2.next := get_live_lt (by rw [hk42]; rfl)
      repeat' (first
    | (with_reducible refine Sy.seq ?_)
    | (with_reducible refine Sy.regionL ?_)
    | (with_reducible refine Sy.opsnil ?_)
    | (with_reducible refine Sy.go ?_)
    | (with_reducible refine Sy.nrm ?_)
    | ((with_reducible apply Sy.assign); (case hd => exact rfl); (case hx => exact rfl))
    | ((with_reducible apply Sy.move); (case hd => exact rfl); (case hx => exact rfl))
    | ((with_reducible apply Sy.pickT); (case hd => exact rfl); (case hx => exact rfl); (case hy => exact rfl))
    | ((with_reducible apply Sy.pickF); (case hd => exact rfl); (case hx => exact rfl); (case hy => exact rfl))
    | ((with_reducible apply Sy.bin (op := .lss) (t := 3)); (case hd => exact rfl); (case hx => exact rfl); (case hy => exact rfl); (case hv => exact b_lss))
    | ((with_reducible apply Sy.ld0 (t := 23)); (case hd => exact rfl); (case hx => exact rfl); (case hm => with_reducible assumption); (case hl => exact rfl); (case hn => simp only [List.forall_mem_cons, List.not_mem_nil, false_implies, implies_true, and_true, ne_eq]; first | done); (case hv => first | exact ld_hV ag23 sz23))
    | ((with_reducible apply Sy.bin (op := .add) (t := 3)); (case hd => exact rfl); (case hx => exact rfl); (case hy => exact rfl); (case hv => exact (b_add (by omega))))
    | ((with_reducible apply Sy.bin (op := .neq) (t := 23)); (case hd => exact rfl); (case hx => exact rfl); (case hy => exact rfl); (case hv => exact (ne23)))
    | ((with_reducible apply Sy.lenS); (case hd => exact rfl); (case ht => exact Tryd.underlying36); (case hx => exact rfl))
    | ((with_reducible apply Sy.ia (t := 36)); (case hd => exact rfl); (case hx => exact rfl); (case hy => exact rfl); (case hv => exact (ia_sl Tryd.underlying36 sz40 (by omega))))
    | ((with_reducible apply Sy.fa (t := 40) (i := 0)); (case hd => exact rfl); (case hx => exact rfl); (case hv => exact (fa40_0 _ _)))
    | ((with_reducible apply Sy.fa (t := 40) (i := 1)); (case hd => exact rfl); (case hx => exact rfl); (case hv => exact (fa40_1 _ _)))
    | (with_reducible refine Sy.hret ?_)
    | (with_reducible refine Sy.ld0 (t := 23) rfl rfl hwb2 rfl (by simp only [List.forall_mem_cons, List.not_mem_nil, false_implies, implies_true, and_true, ne_eq]; first | done | omega | (repeat (first | with_reducible assumption | (refine And.intro ?_ ?_)))) (pcs_k hpj (by omega)) ?_)
    | (with_reducible refine Sy.ld0 (t := 23) rfl rfl hwb2 rfl (by simp only [List.forall_mem_cons, List.not_mem_nil, false_implies, implies_true, and_true, ne_eq]; first | done | omega | (repeat (first | with_reducible assumption | (refine And.intro ?_ ?_)))) (pcs_v hpj (by omega)) ?_)
    | ((with_reducible apply Sy.dcall0 (k := 17)); (case hw => first | exact wantY_some rfl rfl rfl); (case h1 => exact rfl); (case hS => intro h hh; exact hh); (case hi1 => exact rfl); (case hd => exact rfl); (case hf => exact rfl); (case hen => exact en17); (case hx => exact rfl); (case hc => intro H' hp; exact c_get (k := p.1) H' (hp.get0 st2.hm rfl (by simp)) (TreeL.at st2.tr hp (fun p h => by cases h) (Nat.le_refl _)) (Nat.le_refl _) st2.wf.lv))
    | (with_reducible refine Sy.skip ?_)
    | (with_reducible refine Sy.ret ?_)
    | (with_reducible refine Sy.block ?_)
    | (with_reducible refine Sy.aret ?_)
    | (with_reducible refine Sy.inrm ?_)
    | (with_reducible refine Sy.iret ?_)
    | ((with_reducible apply Sy.drawL (id := 16) 22 [(19, 14)] (fun hi h => h < hi)); (case hp => kernel_rfl); (case hN => exact rfl); intro base hbase hM; try simp only [List.forall_mem_cons, List.forall_mem_append, List.not_mem_nil, false_implies, implies_true, and_true] at hM)
    | ((with_reducible apply Sy.no); (case hx => exact rfl))
    | (with_reducible refine Sy.dend ?_)
    | ((with_reducible apply Sy.dgo); (case hw => first | exact wantY_none | exact wantY_some rfl rfl rfl); (case hc => intro hcls; cases hcls); (case h1 => exact rfl); (case h2 => exact rfl))
    | ((with_reducible apply Sy.dld); (case hw => first | exact wantY_some rfl rfl rfl); (case hx => exact rfl); (case hb => omega); (case h2 => exact rfl))
    | ((with_reducible apply Sy.dno); (case hj => exact rfl); (case ht => exact rfl); (case hb => exact rfl); (case hc => exact rfl); (case hd => exact rfl))
    | ((with_reducible apply Sy.dcaseG); (case hj => exact rfl); (case hx => exact rfl); all_goals (intro hc; try (exfalso; omega)))
    | ((with_reducible apply Sy.ite); (case hx => exact rfl); all_goals (intro hc; try (exfalso; omega))))
      all_goals first
        | exact absurd (hpm (by with_reducible assumption)) hc
        | exact Sy.hnrm (j + 1) (by omega) ⟨rfl, rfl, rfl, rfl, trivial⟩ fun H3 hp => ⟨by omega, st2.keep hp, hp.get0 hk42 rfl (by simp), fun h0 => hp.get0 (hwb h0) rfl (by simp)⟩
    · have hn2 : t2.ps.length ≤ 1000000 := by omega
      repeat' (first
    | (with_reducible refine Sy.seq ?_)
    | (with_reducible refine Sy.regionL ?_)
    | (with_reducible refine Sy.opsnil ?_)
    | (with_reducible refine Sy.go ?_)
    | (with_reducible refine Sy.nrm ?_)
    | ((with_reducible apply Sy.assign); (case hd => exact rfl); (case hx => exact rfl))
    | ((with_reducible apply Sy.move); (case hd => exact rfl); (case hx => exact rfl))
    | ((with_reducible apply Sy.pickT); (case hd => exact rfl); (case hx => exact rfl); (case hy => exact rfl))
    | ((with_reducible apply Sy.bin (op := .lss) (t := 3)); (case hd => exact rfl); (case hx => exact rfl); (case hy => exact rfl); (case hv => exact b_lss))
    | ((with_reducible apply Sy.bin (op := .add) (t := 3)); (case hd => exact rfl); (case hx => exact rfl); (case hy => exact rfl); (case hv => exact (b_add (by omega))))
    | ((with_reducible apply Sy.lenS); (case hd => exact rfl); (case ht => exact Tryd.underlying36); (case hx => exact rfl))
    | ((with_reducible apply Sy.bin (op := .leq) (t := 3)); (case hd => exact rfl); (case hx => exact rfl); (case hy => exact rfl); (case hv => exact b_leq))
    | ((with_reducible apply Sy.bin (op := .sub) (t := 3)); (case hd => exact rfl); (case hx => exact rfl); (case hy => exact rfl); (case hv => exact (bz_sub (by omega) (by omega))))
    | ((with_reducible apply Sy.bin (op := .geq) (t := 3)); (case hd => exact rfl); (case hx => exact rfl); (case hy => exact rfl); (case hv => exact bz_geq))
    | (with_reducible refine Sy.hex ?_)
    | ((with_reducible apply Sy.callN (k := 15)); (case hd => exact rfl); (case hf => exact rfl); (case hen => exact en15); (case hx => exact rfl); (case hc => intro H' hp; exact c_Pairs2 H' (hp.get0 st2.hm rfl (by simp)) (TreeL.at st2.tr hp (fun p h => by cases h) (Nat.le_refl _)) (Nat.le_refl _) hn2); rintro ⟨xa, xc, xb⟩ hx)
    | (with_reducible refine Sy.exit ?_)
    | (with_reducible refine Sy.ret ?_)
    | (with_reducible refine Sy.aex ?_)
    | ((with_reducible apply Sy.iex); (case hi' => exact rfl))
    | ((with_reducible apply Sy.goG); (case hj => exact rfl); (case ht => exact rfl); (case hb => exact rfl))
    | ((with_reducible apply Sy.caseG); (case hj => exact rfl); (case hx => exact rfl); all_goals (intro hc; try (exfalso; omega)))
    | ((with_reducible apply Sy.ite); (case hx => exact rfl); all_goals (intro hc; try (exfalso; omega))))
      refine .fin [_] (.inr rfl) ⟨rfl, trivial⟩ fun H' hp => ⟨congrArg Value.bool (decide_eq_true ?_), (st2.fr.step hp (by simp)).hp⟩
      omega
end Go.Proofs.YtiimllfpkcohkaaDoor
