/- What is known of some blocks: the plain functions; blocks that lie somewhere. -/
import Derived.Test.YtcaafoibabijgaaInpA
set_option linter.unusedSimpArgs false
set_option linter.unusedVariables false
/- Layer 14: what is known of some blocks: the plain functions. -/
namespace Go.Proofs.Ytcaafoibabijgaa
open Go Go.Am
set_option maxRecDepth 100000
set_option linter.unusedVariables false

structure Blk where
  ds : List Msg
  bs : List (List Nat)
structure Blk.ok (b : Blk) : Prop where
  ds : ∀ m ∈ b.ds, m.ok
  bs : ∀ c ∈ b.bs, ∀ x ∈ c, x < 256
def rightD (w : Int) : Bool := decide (1 ≤ w) && decide (w ≤ 64)
def knownD (h w : Int) : Int := if rightD w = false ∨ h < w then 0 else h - w
/-- The first batch of number n among some bytes, from place k on. -/
def scanB (n : Nat) : List (List Nat) → Nat → Option ((Nat × List Txn) × Nat)
  | [], _ => none
  | c :: r, k => if (getB c).2 = 0 ∧ (getB c).1.1 = n then some ((getB c).1, k) else scanB n r (k + 1)
/-- The same among some blocks, from block i on. -/
def scanL (n : Nat) : List Blk → Nat → Option ((Nat × List Txn) × Nat × Nat)
  | [], _ => none
  | b :: r, i => match scanB n b.bs 0 with
    | some (y, k) => some (y, i, k)
    | none => scanL n r (i + 1)
def laterD (ls : List Blk) (n w : Nat) : List Blk := (ls.drop n).take (min (ls.length - n) w)
def orB (o : Option ((Nat × List Txn) × Nat × Nat)) : (Nat × List Txn) × Nat × Nat := match o with
  | some x => x
  | none => ((0, []), 0, 0)
def batchD (ls : List Blk) (n w : Int) : (Nat × List Txn) × Nat × Nat :=
  if rightD w = false ∨ n < 1 ∨ (ls.length : Int) < n then ((0, []), 0, 0) else orB (scanL n.toNat (laterD ls n.toNat w.toNat) (n.toNat + 1))
def depI (m : Msg) : Inp := ⟨true, m.w, m, zeroT⟩
def txI (t : Txn) : Inp := ⟨false, zeroW, zeroM, t⟩
def inputsD (ls : List Blk) (n w : Int) : List Inp × Nat :=
  if rightD w = false then ([], 1) else if n < 1 ∨ knownD ls.length w < n then ([], 3) else
    (((ls.getD (n.toNat - 1) ⟨[], []⟩).ds.map depI) ++ (batchD ls n w).1.2.map txI, 0)
def allD (ls : List Blk) (w : Int) : List (List Inp) := (List.range (knownD ls.length w).toNat).map fun i : Nat => (inputsD ls ((i : Int) + 1) w).1
theorem scanB_step {n k : Nat} {c : List Nat} {r : List (List Nat)} : scanB n (c :: r) k = if (getB c).2 = 0 ∧ (getB c).1.1 = n then some ((getB c).1, k) else scanB n r (k + 1) := rfl
theorem scanL_step {n i : Nat} {b : Blk} {r : List Blk} : scanL n (b :: r) i = match scanB n b.bs 0 with | some (y, k) => some (y, i, k) | none => scanL n r (i + 1) := rfl
theorem rightD_le {w : Int} (h : rightD w = true) : 1 ≤ w ∧ w ≤ 64 := by simpa [rightD] using h
theorem knownD_le {h w : Int} (hr : rightD w = true) (h0 : 1 ≤ knownD h w) : knownD h w = h - w := by
  unfold knownD at *
  split
  · rename_i hc; rw [if_pos hc] at h0; omega
  · rfl
theorem laterD_app {ls more : List Blk} {n w : Nat} (h : n + w ≤ ls.length) : laterD (ls ++ more) n w = laterD ls n w := by
  unfold laterD
  have e1 : min ((ls ++ more).length - n) w = w := by rw [List.length_append]; omega
  have e2 : min (ls.length - n) w = w := by omega
  rw [e1, e2, List.drop_append_of_le_length (by omega), List.take_append_of_le_length (by rw [List.length_drop]; omega)]
theorem batchD_app {ls more : List Blk} {n w : Int} (hr : rightD w = true) (h1 : 1 ≤ n) (h : n + w ≤ ls.length) : batchD (ls ++ more) n w = batchD ls n w := by
  obtain ⟨hw1, hw2⟩ := rightD_le hr
  unfold batchD
  rw [if_neg (by rw [hr]; simp only [List.length_append]; simp; omega), if_neg (by rw [hr]; simp; omega), laterD_app (by omega)]
/-- What is known of some blocks is the same of these and more. -/
theorem inputsD_app {ls more : List Blk} {n w : Int} (hr : rightD w = true) (h1 : 1 ≤ n) (h : n ≤ knownD ls.length w) : inputsD (ls ++ more) n w = inputsD ls n w := by
  obtain ⟨hw1, hw2⟩ := rightD_le hr
  have hk := knownD_le hr (show 1 ≤ knownD ls.length w by omega)
  have hk2 : n ≤ knownD (ls ++ more).length w := by
    unfold knownD
    rw [if_neg (by rw [hr, List.length_append]; simp; omega), List.length_append]
    omega
  unfold inputsD
  rw [if_neg (by rw [hr]; simp), if_neg (by omega), if_neg (by rw [hr]; simp), if_neg (by omega), batchD_app hr h1 (by omega)]
  have e : (ls ++ more).getD (n.toNat - 1) ⟨[], []⟩ = ls.getD (n.toNat - 1) ⟨[], []⟩ := by
    rw [List.getD_eq_getElem?_getD, List.getD_eq_getElem?_getD, List.getElem?_append_left (by omega)]
  rw [e]
theorem scanB_ok {n : Nat} {bs : List (List Nat)} (h : ∀ c ∈ bs, ∀ x ∈ c, x < 256) : ∀ {k : Nat} {y : Nat × List Txn} {j : Nat}, scanB n bs k = some (y, j) → (∀ m ∈ y.2, m.ok) ∧ y.2.length ≤ 8 := by
  induction bs with
  | nil => intro k y j e; simp [scanB] at e
  | cons c r ih =>
    intro k y j e
    rw [scanB_step] at e
    split at e
    · obtain ⟨rfl, rfl⟩ := Prod.mk.inj (Option.some.inj e)
      exact getB_ok (h c (List.mem_cons_self ..))
    · exact ih (fun c hc => h c (List.mem_cons_of_mem _ hc)) e
theorem scanL_ok {n : Nat} {ls : List Blk} (h : ∀ b ∈ ls, b.ok) : ∀ {i : Nat} {y : Nat × List Txn} {p : Nat × Nat}, scanL n ls i = some (y, p) → (∀ m ∈ y.2, m.ok) ∧ y.2.length ≤ 8 := by
  induction ls with
  | nil => intro k y j e; simp [scanL] at e
  | cons b r ih =>
    intro i y p e
    rw [scanL_step] at e
    split at e
    · rename_i y' k hs
      obtain ⟨rfl, _⟩ := Prod.mk.inj (Option.some.inj e)
      exact scanB_ok (h b (List.mem_cons_self ..)).bs hs
    · exact ih (fun b hb => h b (List.mem_cons_of_mem _ hb)) e
theorem batchD_ok (ls : List Blk) (n w : Int) (h : ∀ b ∈ ls, b.ok) : (∀ m ∈ (batchD ls n w).1.2, m.ok) ∧ (batchD ls n w).1.2.length ≤ 8 := by
  unfold batchD
  split
  · exact ⟨by simp, by simp⟩
  · have hl : ∀ b ∈ laterD ls n.toNat w.toNat, b.ok := fun b hb => h b (List.mem_of_mem_drop (List.mem_of_mem_take hb))
    unfold orB
    split
    · rename_i x hx
      obtain ⟨y, p⟩ := x
      exact scanL_ok hl hx
    · exact ⟨by simp, by simp⟩
theorem batchD_8 (ls : List Blk) (n w : Int) (h : ∀ b ∈ ls, b.ok) : (batchD ls n w).1.2.length ≤ 8 := (batchD_ok ls n w h).2
end Go.Proofs.Ytcaafoibabijgaa

/- Layer 14: blocks that lie somewhere. -/
namespace Go.Proofs.Ytcaafoibabijgaa
open Go Go.Am
set_option maxRecDepth 100000
set_option linter.unusedVariables false

/-- Which rows are known: block, cells, type, whether it may be written. -/
abbrev Kn : Type := Nat → List Value → TypeId → Bool → Prop
abbrev knH (H : AHeap) : Kn := fun b cs T w => H.get b = .cells cs T w
abbrev knL (L : Hm) : Kn := fun b cs T w => Has L b (.cells cs T w)
def SlQ (Q : Kn) (v : Value) (l : List Nat) : Prop := ∃ a c, v = .slice a l.length c ∧ (l = [] ∧ (a = none → c = 0) ∧ (∀ p, a = some p → p.spot = none) ∨ ∃ b o cs T w, a = some ⟨b, o, none⟩ ∧ Q b cs T w ∧ o + l.length ≤ cs.length ∧ (cs.drop o).take l.length = ints .u8 l)
theorem SlQ.mono {Q Q' : Kn} {v : Value} {l : List Nat} (h : SlQ Q v l) (k : ∀ b cs T w, Q b cs T w → Q' b cs T w) : SlQ Q' v l := by
  obtain ⟨a, c, e, h⟩ := h
  refine ⟨a, c, e, ?_⟩
  rcases h with h | ⟨b, o, cs, T, w, h1, h2, h3⟩
  · exact .inl h
  · exact .inr ⟨b, o, cs, T, w, h1, k _ _ _ _ h2, h3⟩
theorem SlQ.slr {Q : Kn} {H : AHeap} {v : Value} {l : List Nat} (h : SlQ Q v l) (k : ∀ b cs T w, Q b cs T w → H.get b = .cells cs T w) : SlR H 1 v l.length (ints .u8 l) := by
  obtain ⟨a, c, rfl, h⟩ := h
  rcases h with ⟨rfl, h0, h1⟩ | ⟨b, o, cs, T, w, rfl, h2, h3, h4⟩
  · cases a with
    | none => rw [h0 rfl]; exact .nil
    | some p =>
      have := h1 p rfl
      obtain ⟨b, o, s⟩ := p
      dsimp only at this
      subst this
      exact .emp
  · exact .mk (k _ _ _ _ h2) (by omega) (by rw [Nat.mul_one]; exact h4)
theorem SlQ.of {H : AHeap} {v : Value} {l : List Nat} (h : SlR H 1 v l.length (ints .u8 l)) : SlQ (knH H) v l := by
  generalize hn : l.length = n at h
  generalize hc : ints .u8 l = cx at h
  cases h with
  | nil => exact ⟨none, 0, by rw [hn], .inl ⟨List.length_eq_zero_iff.1 hn, fun _ => rfl, by simp⟩⟩
  | @emp b o c => exact ⟨some ⟨b, o, none⟩, c, by rw [hn], .inl ⟨List.length_eq_zero_iff.1 hn, by simp, by simp⟩⟩
  | mk h1 h2 h3 => exact ⟨_, _, by rw [hn], .inr ⟨_, _, _, _, _, rfl, h1, by omega, by rw [hc, ← h3, hn, Nat.mul_one]⟩⟩
theorem SlQ.own {L : Hm} {b c : Nat} {l : List Nat} {T : TypeId} {w : Bool} (h : Has L b (.cells (ints .u8 l) T w)) : SlQ (knL L) (.slice (some ⟨b, 0, none⟩) l.length c) l :=
  ⟨_, _, rfl, .inr ⟨b, 0, _, _, _, rfl, h, by simp, by rw [List.drop_zero, List.take_of_length_le (by simp)]⟩⟩
abbrev Mel : Type := Msg × Value
def msC (es : List Mel) : List Value := (es.map fun e => msgC e.1 e.2).flatten
theorem msC_length (es : List Mel) : (msC es).length = es.length * 9 := by
  induction es with
  | nil => rfl
  | cons e r ih => simp only [msC, List.map_cons, List.flatten_cons, List.length_append, msgC_length, List.length_cons] at ih ⊢; omega
theorem msC_append (a b : List Mel) : msC (a ++ b) = msC a ++ msC b := by simp [msC]
theorem msC_snoc (es : List Mel) (e : Mel) : msC es ++ msgC e.1 e.2 = msC (es ++ [e]) := by rw [msC_append]; simp [msC]
theorem msC_cut {es : List Mel} {i : Nat} {x : Mel} (e : es[i]? = some x) : msC es = msC (es.take i) ++ (msgC x.1 x.2 ++ msC (es.drop (i + 1))) := by
  obtain ⟨hi, rfl⟩ := List.getElem?_eq_some_iff.1 e
  have : es = es.take i ++ (es[i] :: es.drop (i + 1)) := by rw [List.getElem_cons_drop, List.take_append_drop]
  conv => lhs; rw [this]
  rw [msC_append]; rfl
theorem ms_all {es : List Mel} {i o T t : Nat} {x : Mel} {w : Bool} (hag : aggT Try.prog t = true) (hsz : szT Try.prog t = some 9) (e : es[i]? = some x) (ho : o = i * 9) : aLoad Try.prog t (.cells (msC es) T w) o = some (msgV x.1 x.2) := by
  obtain ⟨hi, _⟩ := List.getElem?_eq_some_iff.1 e
  refine ld_agg (cs' := msgC x.1 x.2) hag hsz (by rw [msC_length]; omega) ?_
  rw [ho, msC_cut e, List.drop_left' (by rw [msC_length, List.length_take]; omega), ← msgC_length x.1 x.2, List.take_left]
abbrev Bel : Type := List Nat × Value
def bsC (es : List Bel) : List Value := es.map (·.2)
@[simp] theorem bsC_length (es : List Bel) : (bsC es).length = es.length := by simp [bsC]
theorem bsC_snoc (es : List Bel) (e : Bel) : bsC es ++ [e.2] = bsC (es ++ [e]) := by simp [bsC]
theorem bs_one {es : List Bel} {i o T : Nat} {x : Bel} {w : Bool} (e : es[i]? = some x) (ho : o = i) : aLoad Try.prog 23 (.cells (bsC es) T w) o = some x.2 := ld_one ag23 (by rw [ho, bsC, List.getElem?_map, e]; rfl)
/-- A row of elements of sz cells. -/
def RwQ (Q : Kn) (T : TypeId) (v : Value) (n : Nat) (cs : List Value) : Prop := ∃ a c, v = .slice a n c ∧ (n = 0 ∨ ∃ b w, a = some ⟨b, 0, none⟩ ∧ Q b cs T w)
theorem RwQ.mono {Q Q' : Kn} {T n : Nat} {v : Value} {cs : List Value} (h : RwQ Q T v n cs) (k : ∀ b cs T w, Q b cs T w → Q' b cs T w) : RwQ Q' T v n cs := by
  obtain ⟨a, c, e, h⟩ := h
  refine ⟨a, c, e, ?_⟩
  rcases h with h | ⟨b, w, h1, h2⟩
  · exact .inl h
  · exact .inr ⟨b, w, h1, k _ _ _ _ h2⟩
def MsQ (Q : Kn) (T : TypeId) (v : Value) (es : List Mel) : Prop := RwQ Q T v es.length (msC es) ∧ ∀ e ∈ es, e.1.ok ∧ SlQ Q e.2 e.1.d ∧ e.1.d.length ≤ 140737488355328
def BsQ (Q : Kn) (v : Value) (es : List Bel) : Prop := RwQ Q 23 v es.length (bsC es) ∧ ∀ e ∈ es, (∀ x ∈ e.1, x < 256) ∧ SlQ Q e.2 e.1 ∧ e.1.length ≤ 140737488355328
theorem MsQ.mono {Q Q' : Kn} {T : Nat} {v : Value} {es : List Mel} (h : MsQ Q T v es) (k : ∀ b cs T w, Q b cs T w → Q' b cs T w) : MsQ Q' T v es := ⟨h.1.mono k, fun e he => ⟨(h.2 e he).1, (h.2 e he).2.1.mono k, (h.2 e he).2.2⟩⟩
theorem BsQ.mono {Q Q' : Kn} {v : Value} {es : List Bel} (h : BsQ Q v es) (k : ∀ b cs T w, Q b cs T w → Q' b cs T w) : BsQ Q' v es := ⟨h.1.mono k, fun e he => ⟨(h.2 e he).1, (h.2 e he).2.1.mono k, (h.2 e he).2.2⟩⟩
structure Kel where
  ms : List Mel
  mv : Value
  bs : List Bel
  bv : Value
def Kel.c (x : Kel) : List Value := [x.mv, x.bv]
def Kel.p (x : Kel) : Blk := ⟨x.ms.map (·.1), x.bs.map (·.1)⟩
def ksC (xs : List Kel) : List Value := (xs.map Kel.c).flatten
theorem ksC_length (xs : List Kel) : (ksC xs).length = xs.length * 2 := by
  induction xs with
  | nil => rfl
  | cons e r ih => simp only [ksC, List.map_cons, List.flatten_cons, List.length_append, Kel.c, List.length_cons, List.length_nil] at ih ⊢; omega
theorem ksC_append (a b : List Kel) : ksC (a ++ b) = ksC a ++ ksC b := by simp [ksC]
theorem ksC_snoc (es : List Kel) (e : Kel) : ksC es ++ e.c = ksC (es ++ [e]) := by rw [ksC_append]; simp [ksC]
theorem ksC_cut {es : List Kel} {i : Nat} {x : Kel} (e : es[i]? = some x) : ksC es = ksC (es.take i) ++ ([x.mv, x.bv] ++ ksC (es.drop (i + 1))) := by
  obtain ⟨hi, rfl⟩ := List.getElem?_eq_some_iff.1 e
  have : es = es.take i ++ (es[i] :: es.drop (i + 1)) := by rw [List.getElem_cons_drop, List.take_append_drop]
  conv => lhs; rw [this]
  rw [ksC_append]; rfl
theorem ks_get {es : List Kel} {i j : Nat} {x : Kel} (e : es[i]? = some x) (hj : j < 2) : (ksC es)[i * 2 + j]? = [x.mv, x.bv][j]? := by
  obtain ⟨hi, _⟩ := List.getElem?_eq_some_iff.1 e
  rw [ksC_cut e, List.getElem?_append_right (by rw [ksC_length, List.length_take]; omega), ksC_length, List.length_take, Nat.min_eq_left (by omega), Nat.add_sub_cancel_left, List.getElem?_append_left (by simpa using hj)]
theorem ks_all {es : List Kel} {i o T t : Nat} {x : Kel} {w : Bool} (hag : aggT Try.prog t = true) (hsz : szT Try.prog t = some 2) (e : es[i]? = some x) (ho : o = i * 2) : aLoad Try.prog t (.cells (ksC es) T w) o = some (.agg ⟨[x.mv, x.bv]⟩) := by
  obtain ⟨hi, _⟩ := List.getElem?_eq_some_iff.1 e
  refine ld_agg (cs' := [x.mv, x.bv]) hag hsz (by rw [ksC_length]; omega) ?_
  rw [ho, ksC_cut e, List.drop_left' (by rw [ksC_length, List.length_take]; omega)]
  rfl
def KelQ (Q : Kn) (T : TypeId) (x : Kel) : Prop := MsQ Q T x.mv x.ms ∧ BsQ Q x.bv x.bs
theorem KelQ.mono {Q Q' : Kn} {T : Nat} {x : Kel} (h : KelQ Q T x) (k : ∀ b cs T w, Q b cs T w → Q' b cs T w) : KelQ Q' T x := ⟨h.1.mono k, h.2.mono k⟩
def KsQ (Q : Kn) (TM TB : TypeId) (v : Value) (xs : List Kel) : Prop := RwQ Q TB v xs.length (ksC xs) ∧ ∀ x ∈ xs, KelQ Q TM x
theorem KsQ.mono {Q Q' : Kn} {TM TB : Nat} {v : Value} {xs : List Kel} (h : KsQ Q TM TB v xs) (k : ∀ b cs T w, Q b cs T w → Q' b cs T w) : KsQ Q' TM TB v xs := ⟨h.1.mono k, fun x hx => (h.2 x hx).mono k⟩
theorem kn_of {lo hi : Nat} {H H1 : AHeap} {Mn : Hm} (hp : Hp H lo hi H1 [] Mn) : ∀ b cs T w, knH H b cs T w → knH H1 b cs T w := fun b cs T w h => hp.get0 h rfl (by simp)
theorem kn_new {lo hi : Nat} {H H1 : AHeap} {Mo Mn L : Hm} (hp : Hp H lo hi H1 Mo Mn) (h2 : ∀ x o, Has L x o → Has Mn x o) : ∀ b cs T w, knL L b cs T w → knH H1 b cs T w := fun b cs T w h => hp.getN (h2 _ _ h)
theorem Kel.ok {Q : Kn} {T : Nat} {x : Kel} (h : KelQ Q T x) : x.p.ok := ⟨fun m hm => by
  obtain ⟨e, he, rfl⟩ := List.mem_map.1 hm
  exact (h.1.2 e he).1, fun c hc => by
  obtain ⟨e, he, rfl⟩ := List.mem_map.1 hc
  exact (h.2.2 e he).1⟩
end Go.Proofs.Ytcaafoibabijgaa

/- Layer 14: rows of Txs, of inputs, of rows of inputs, that lie somewhere. -/
namespace Go.Proofs.Ytcaafoibabijgaa
open Go Go.Am
set_option maxRecDepth 100000
set_option linter.unusedVariables false

def TsQ (Q : Kn) (T : TypeId) (v : Value) (es : List Tel) : Prop := RwQ Q T v es.length (tsC es) ∧ ∀ e ∈ es, e.1.ok ∧ SlQ Q e.2 e.1.d ∧ e.1.d.length ≤ 140737488355328
theorem TsQ.mono {Q Q' : Kn} {T : Nat} {v : Value} {es : List Tel} (h : TsQ Q T v es) (k : ∀ b cs T w, Q b cs T w → Q' b cs T w) : TsQ Q' T v es := ⟨h.1.mono k, fun e he => ⟨(h.2 e he).1, (h.2 e he).2.1.mono k, (h.2 e he).2.2⟩⟩
structure Iel where
  x : Inp
  v1 : Value
  v2 : Value
def Iel.c (e : Iel) : List Value := inC e.x e.v1 e.v2
@[simp] theorem Iel.c_length (e : Iel) : e.c.length = 24 := inC_length _ _ _
def isC (es : List Iel) : List Value := (es.map Iel.c).flatten
theorem isC_length (es : List Iel) : (isC es).length = es.length * 24 := by
  induction es with
  | nil => rfl
  | cons e r ih => simp only [isC, List.map_cons, List.flatten_cons, List.length_append, Iel.c_length, List.length_cons] at ih ⊢; omega
theorem isC_append (a b : List Iel) : isC (a ++ b) = isC a ++ isC b := by simp [isC]
theorem isC_snoc (es : List Iel) (e : Iel) : isC es ++ inC e.x e.v1 e.v2 = isC (es ++ [e]) := by rw [isC_append]; simp [isC, Iel.c]
theorem isC_cut {es : List Iel} {i : Nat} {x : Iel} (e : es[i]? = some x) : isC es = isC (es.take i) ++ (x.c ++ isC (es.drop (i + 1))) := by
  obtain ⟨hi, rfl⟩ := List.getElem?_eq_some_iff.1 e
  have : es = es.take i ++ (es[i] :: es.drop (i + 1)) := by rw [List.getElem_cons_drop, List.take_append_drop]
  conv => lhs; rw [this]
  rw [isC_append]; rfl
theorem is_all {es : List Iel} {i o T t : Nat} {x : Iel} {w : Bool} (hag : aggT Try.prog t = true) (hsz : szT Try.prog t = some 24) (e : es[i]? = some x) (ho : o = i * 24) : aLoad Try.prog t (.cells (isC es) T w) o = some (inV x.x x.v1 x.v2) := by
  obtain ⟨hi, _⟩ := List.getElem?_eq_some_iff.1 e
  refine ld_agg (cs' := x.c) hag hsz (by rw [isC_length]; omega) ?_
  rw [ho, isC_cut e, List.drop_left' (by rw [isC_length, List.length_take]; omega)]
  exact take_at (by simp)
def IelQ (Q : Kn) (e : Iel) : Prop := e.x.ok ∧ SlQ Q e.v1 e.x.m.d ∧ SlQ Q e.v2 e.x.t.d ∧ e.x.m.d.length ≤ 140737488355328 ∧ e.x.t.d.length ≤ 140737488355328
theorem IelQ.mono {Q Q' : Kn} {e : Iel} (h : IelQ Q e) (k : ∀ b cs T w, Q b cs T w → Q' b cs T w) : IelQ Q' e := ⟨h.1, h.2.1.mono k, h.2.2.1.mono k, h.2.2.2⟩
def IsQ (Q : Kn) (T : TypeId) (v : Value) (es : List Iel) : Prop := RwQ Q T v es.length (isC es) ∧ ∀ e ∈ es, IelQ Q e
theorem IsQ.mono {Q Q' : Kn} {T : Nat} {v : Value} {es : List Iel} (h : IsQ Q T v es) (k : ∀ b cs T w, Q b cs T w → Q' b cs T w) : IsQ Q' T v es := ⟨h.1.mono k, fun e he => (h.2 e he).mono k⟩
abbrev isOf (es : List Iel) : List Inp := es.map (·.x)
/-- A row of rows of inputs. -/
abbrev Ael : Type := List Iel × Value
def asC (es : List Ael) : List Value := es.map (·.2)
@[simp] theorem asC_length (es : List Ael) : (asC es).length = es.length := by simp [asC]
theorem asC_snoc (es : List Ael) (e : Ael) : asC es ++ [e.2] = asC (es ++ [e]) := by simp [asC]
def AsQ (Q : Kn) (T TR : TypeId) (v : Value) (es : List Ael) : Prop := RwQ Q TR v es.length (asC es) ∧ ∀ e ∈ es, IsQ Q T e.2 e.1
theorem AsQ.mono {Q Q' : Kn} {T TR : Nat} {v : Value} {es : List Ael} (h : AsQ Q T TR v es) (k : ∀ b cs T w, Q b cs T w → Q' b cs T w) : AsQ Q' T TR v es := ⟨h.1.mono k, fun e he => (h.2 e he).mono k⟩
/-- A row that was built by append. -/
theorem RwQ.acc {L : Hm} {T sz n b : Nat} {cs : List Value} (h : n ≠ 0 → Has L b (.cells cs T true)) : RwQ (knL L) T (accV sz cs n b) n cs := by
  by_cases h0 : n = 0
  · exact ⟨none, 0, by rw [accV, if_pos h0, h0], .inl h0⟩
  · exact ⟨some ⟨b, 0, none⟩, _, by rw [accV, if_neg h0], .inr ⟨b, true, rfl, h h0⟩⟩
theorem kn_front {L M : Hm} : ∀ b cs T w, knL L b cs T w → knL (L ++ M) b cs T w := fun b cs T w h => Has.front h
theorem kn_app {L M : Hm} : ∀ b cs T w, knL M b cs T w → knL (L ++ M) b cs T w := fun b cs T w h => Has.app h
theorem kn_cons {p : Nat × AObj} {M : Hm} : ∀ b cs T w, knL M b cs T w → knL (p :: M) b cs T w := fun b cs T w h => Has.there h
theorem SlQ.nil {Q : Kn} : SlQ Q (.slice none ([] : List Nat).length 0) [] := ⟨none, 0, rfl, .inl ⟨rfl, fun _ => rfl, by simp⟩⟩
theorem SlQ.form {Q : Kn} {v : Value} {l : List Nat} (h : SlQ Q v l) : ∃ a c, v = .slice a l.length c := by obtain ⟨a, c, e, _⟩ := h; exact ⟨a, c, e⟩
theorem SlQ.vw {L : Hm} {c : Nat} {lb l : List Nat} {v : Value} {T : TypeId} {w : Bool} (h : Vw c lb v l) (hm : lb ≠ [] → Has L c (.cells (ints .u8 lb) T w)) : SlQ (knL L) v l := by
  rcases h with ⟨rfl, rfl⟩ | ⟨o, cap, rfl, h1, h2⟩
  · exact .nil
  · by_cases h0 : l = []
    · subst h0
      exact ⟨_, _, rfl, .inl ⟨rfl, by simp, by simp⟩⟩
    · have hb : lb ≠ [] := fun e => h0 (List.length_eq_zero_iff.1 (by rw [e] at h1; simp only [List.length_nil] at h1; omega))
      exact ⟨_, _, rfl, .inr ⟨c, o, _, _, _, rfl, hm hb, by simp; omega, by rw [ints_drop, ints_take, h2]⟩⟩
theorem SrcY.row {H0 : AHeap} {lo hi q c T sz : Nat} {w : Bool} {Mo Mn : Hm} {cs : List Value} (hm : Has Mn q (.cells cs T w)) (hs : cs.length = sz) : SrcY H0 lo hi Mo Mn sz (.slice (some ⟨q, 0, none⟩) 1 c) 1 cs :=
  (SrcY.ofN hm (by omega)).eq (by rw [List.drop_zero, List.take_of_length_le (by omega)])
/-- The program's GetBatch, what it gives lying in L. -/
theorem k_GetBatchQ (v : Value) (l : List Nat) (G : (Nat × List Txn) × Nat) (H : AHeap) (hG : getB l = G) (hv : SlR H 1 v l.length (ints .u8 l)) (h256 : ∀ x ∈ l, x < 256) (hl : l.length ≤ 140737488355328) : CallR Try.prog noPrims 40 [v] H (fun u H' => ∃ i : List Tel × Value × Hm, (tsOf i.1 = G.1.2 ∧ TsQ (knL i.2.2) 59 i.2.1 i.1 ∧ i.2.1.oneCell' = true ∧ i.2.1.cells.toList = [i.2.1]) ∧ u = .tuple ⟨[.agg ⟨baC G.1.1 i.2.1⟩, .int .i64 ((G.2 : Nat) : Int)]⟩ ∧ Hp H 0 0 H' [] i.2.2) := by
  subst hG
  refine (k_GetBatch v l H hv h256 hl).mono fun u H' ⟨⟨es, bo, c⟩, ⟨h1, h2⟩, h3, h4⟩ => ⟨(es, accV 10 (tsC es) es.length bo, _), ⟨h1, ⟨RwQ.acc fun h0 => ?_, fun e he => ⟨(h2 e he).1, SlQ.vw (T := 5) (w := true) (h2 e he).2.1 fun x => ?_, (h2 e he).2.2⟩⟩, accV_one (sz := 10) (k := es.length) (b := bo) (l := tsC es), accV_cells (sz := 10) (k := es.length) (b := bo) (l := tsC es)⟩, h3, h4⟩
  · have := accM_hasT (T := 59) (cs := tsC es) (b := bo) (M := bufM l c) h0
    exact this
  · exact Has.app (bufM_has' x)
end Go.Proofs.Ytcaafoibabijgaa

/- Layer 14: the laws' copies of blocks. -/
namespace Go.Proofs.Ytcaafoibabijgaa
open Go Go.Am
set_option maxRecDepth 100000
set_option linter.unusedVariables false

theorem SlQ.here {L : Hm} {b c : Nat} {l : List Nat} : SlQ (knL ((b, .cells (ints .u8 l) 5 true) :: L)) (.slice (some ⟨b, 0, none⟩) l.length c) l := SlQ.own (T := 5) (w := true) .here
theorem SlQ.zero {Q : Kn} {b o c : Nat} : SlQ Q (.slice (some ⟨b, o, none⟩) 0 c) [] := ⟨_, _, rfl, .inl ⟨rfl, by simp, by simp⟩⟩
def EbQ (Q : Kn) (es : List Bel) : Prop := ∀ e ∈ es, SlQ Q e.2 e.1
set_option maxHeartbeats 2000000 in
theorem k_lParts (es : List Bel) (v : Value) (H : AHeap) (h : BsQ (knH H) v es) (hn : es.length ≤ 100) : CallR Try.prog noPrims 41 [v] H (fun u H' => ∃ i : List Bel × Nat × Hm, (i.1.map (·.1) = es.map (·.1) ∧ EbQ (knL i.2.2) i.1) ∧ u = accV 1 (bsC i.1) i.1.length i.2.1 ∧ Hp H 0 0 H' [] (accM 23 (bsC i.1) i.1.length i.2.1 ++ i.2.2)) := by
  obtain ⟨⟨a1, c1, rfl, h1⟩, hss⟩ := h
  refine CallR.sy (n := 21) Try.func41 rfl rfl rfl ?_
  repeat' (first
    | (with_reducible refine Sy.seq ?_)
    | (with_reducible refine Sy.regionL ?_)
    | (with_reducible refine Sy.opsnil ?_)
    | (with_reducible refine Sy.go ?_)
    | (with_reducible refine Sy.nrm ?_)
    | ((with_reducible apply Sy.assign); exact rfl; exact rfl)
    | (with_reducible refine Sy.block ?_))
  refine Sy.loop (ι := Nat × List Bel × Nat × Hm) (fun i => es.length - i.1) (fun i => [(0, .slice a1 es.length c1), (3, accV 1 (bsC i.2.1) i.2.1.length i.2.2.1), (4, .int .i64 (i.1 : Nat))]) (fun _ => []) (fun i => accM 23 (bsC i.2.1) i.2.1.length i.2.2.1 ++ i.2.2.2) (fun i => i.1 ≤ es.length ∧ i.2.1.map (·.1) = (es.map (·.1)).take i.1 ∧ EbQ (knL i.2.2.2) i.2.1) (0, [], 0, []) ⟨Nat.zero_le _, rfl, by simp [EbQ]⟩ ⟨rfl, rfl, rfl, trivial⟩ (fun H h => h) ?_
  rintro ⟨i, out, bo, L⟩ ⟨hi, hk, hL⟩
  dsimp only at hi hk hL ⊢
  have hol : out.length = i := by have := congrArg List.length hk; simp at this; omega
  by_cases hlt : i < es.length
  · obtain ⟨x, hs⟩ : ∃ x, es[i]? = some x := ⟨es[i], List.getElem?_eq_getElem hlt⟩
    rcases h1 with h1 | ⟨b1, w1, rfl, hb1⟩
    · omega
    obtain ⟨ho, hsv, hsl⟩ := hss x (List.mem_of_getElem? hs)
    have hkx : (es.map (·.1))[i]? = some x.1 := by rw [List.getElem?_map, hs]; rfl
    obtain ⟨l, sv⟩ := x
    dsimp only at ho hsv hsl hkx
    have hsr := hsv.slr (H := H) (fun _ _ _ _ h => h)
    have e1 : ∀ s : Bel, (out ++ [s]).length = out.length + 1 := fun s => by simp
    have ek : ∀ w : Value, (out ++ [(l, w)]).map (·.1) = (es.map (·.1)).take (i + 1) := fun w => by
      rw [List.map_append, hk, List.take_add_one, hkx]; rfl
    by_cases h0 : l = []
    · subst h0
      have hv0 : SlR H 1 sv 0 [] := hsr
      obtain ⟨sa, sc, rfl⟩ := slr_form hv0
      repeat' (first
    | (with_reducible refine Sy.seq ?_)
    | (with_reducible refine Sy.regionL ?_)
    | (with_reducible refine Sy.opsnil ?_)
    | (with_reducible refine Sy.go ?_)
    | (with_reducible refine Sy.nrm ?_)
    | ((with_reducible refine Sy.ld0 (t := 23) rfl rfl hb1 rfl (by simp only [List.forall_mem_cons, List.not_mem_nil, false_implies, implies_true, and_true, ne_eq]; first | done | omega | (repeat (first | with_reducible assumption | (refine And.intro ?_ ?_)))) (bs_one hs (by omega)) ?_))
    | ((with_reducible apply Sy.appZ (t := 23) (xt := 23)); exact (ap23_23 zr5 rfl); exact rfl; exact rfl; exact rfl; exact .inl ⟨_, _, _, _, rfl⟩; exact SrcY.ofR (by with_reducible assumption) rfl; exact rfl)
    | ((with_reducible apply Sy.assign); exact rfl; exact rfl)
    | ((with_reducible apply Sy.move); exact rfl; exact rfl)
    | ((with_reducible apply Sy.lenS); exact rfl; exact Try.underlying35; exact rfl)
    | ((with_reducible apply Sy.bin (op := .lss) (t := 3)); exact rfl; exact rfl; exact rfl; exact b_lss)
    | ((with_reducible apply Sy.bin (op := .lss) (t := 3)); exact rfl; exact rfl; exact rfl; exact bz_lss)
    | ((with_reducible apply Sy.ia (t := 35)); exact rfl; exact rfl; exact rfl; exact (ia_sl10 Try.underlying35 sz23 (by omega)))
    | ((with_reducible apply Sy.ia (t := 35)); exact rfl; exact rfl; exact rfl; exact (ia_sl1 Try.underlying35 sz23 (by omega)))
    | ((with_reducible apply Sy.appB (t := 23) (xt := 23)); exact ap23_23 zr5 rfl; exact rfl; exact rfl; exact rfl; (· first | exact SrcY.ofN (by repeat (first | exact Has.here)) (by first | (simp; done))); (· first | exact rfl); (· first | omega | (simp; done)); (· first | omega | (simp; done)); exact pullT; (· first | omega | (simp; done)); (· first | exact rfl); intro q17)
    | ((with_reducible apply Sy.appB (t := 35) (xt := 35)); exact ap35_35 zr23 rfl; exact rfl; exact rfl; exact rfl; (· first | exact SrcY.ofN (by repeat (first | exact Has.here)) (by first | (simp; done))); (· first | exact rfl); (· first | omega | (simp; done)); (· first | omega | (simp; done)); exact pullT; (· first | omega | (simp; done)); (· first | exact rfl); intro q19)
    | ((with_reducible apply Sy.bin (op := .add) (t := 3)); exact rfl; exact rfl; exact rfl; exact (b_add (by omega)))
    | ((with_reducible apply Sy.bin (op := .add) (t := 3)); exact rfl; exact rfl; exact rfl; exact (bz_add (by omega) (by omega)))
    | ((with_reducible apply Sy.newY (o := ⟨some 12, .buildSlice 23 _ _, _, _, _, _⟩)); exact rfl; exact rfl; exact (nbs0 Try.underlying23 sz5 zr5 rfl (by decide) rfl); intro q12)
    | ((with_reducible apply Sy.newY (o := ⟨some 12, .buildSlice 23 _ _, _, _, _, _⟩)); exact rfl; exact rfl; (· exact (newY_bs Try.underlying23 sz5 zr5 rfl (by decide) rfl (by first | rfl | (simp [List.drop_append, List.take_append, List.getElem?_append, lay, hC_length, ints_length, ints_drop, ints_take, ints_append, List.drop_of_length_le, List.take_of_length_le, List.map_append, List.set_append, Value.cells]; done)))); intro q12)
    | ((with_reducible apply Sy.newY (o := ⟨some 18, .buildSlice 35 _ _, _, _, _, _⟩)); exact rfl; exact rfl; exact (nbs1 Try.underlying35 sz23 zr23 rfl (by decide) rfl rfl); intro q18)
    | ((with_reducible apply Sy.newY (o := ⟨some 18, .buildSlice 35 _ _, _, _, _, _⟩)); exact rfl; exact rfl; (· exact (newY_bs Try.underlying35 sz23 zr23 rfl (by decide) rfl (by first | rfl | (simp [List.drop_append, List.take_append, List.getElem?_append, lay, hC_length, ints_length, ints_drop, ints_take, ints_append, List.drop_of_length_le, List.take_of_length_le, List.map_append, List.set_append, Value.cells]; done)))); intro q18)
    | (with_reducible refine Sy.skip ?_)
    | (with_reducible refine Sy.block ?_)
    | (with_reducible refine Sy.inrm ?_)
    | ((with_reducible apply Sy.ite); (case hx => exact rfl); all_goals (intro hc; try (exfalso; omega))))
      have ec : ∀ w : Value, bsC out ++ List.take (1 * 1) (List.drop 0 [w]) = bsC (out ++ [([], w)]) := fun w => bsC_snoc out ([], w)
      rw [ec]
      refine Sy.rnrm (i + 1, out ++ [([], .slice (some ⟨q12, 0, none⟩) 0 0)], q19, L) ⟨by omega, ek _, fun e he => ?_⟩ (by dsimp only; omega) ⟨rfl, by rw [e1]; rfl, rfl, trivial⟩ (fun H1 h => ?_)
      · rcases List.mem_append.1 he with he | he
        · exact hL e he
        · rw [List.mem_singleton] at he; subst he; exact SlQ.zero
      · dsimp only
        rw [e1]
        exact h.less (List.Sublist.append_left (.cons _ (.cons _ (.refl _))) _)
    · obtain ⟨sa, sc, rfl⟩ := slr_form hsr
      have hne : l.length ≠ 0 := fun e => h0 (List.length_eq_zero_iff.1 e)
      repeat' (first
    | (with_reducible refine Sy.seq ?_)
    | (with_reducible refine Sy.regionL ?_)
    | (with_reducible refine Sy.opsnil ?_)
    | (with_reducible refine Sy.go ?_)
    | (with_reducible refine Sy.nrm ?_)
    | ((with_reducible refine Sy.ld0 (t := 23) rfl rfl hb1 rfl (by simp only [List.forall_mem_cons, List.not_mem_nil, false_implies, implies_true, and_true, ne_eq]; first | done | omega | (repeat (first | with_reducible assumption | (refine And.intro ?_ ?_)))) (bs_one hs (by omega)) ?_))
    | ((with_reducible apply Sy.assign); exact rfl; exact rfl)
    | ((with_reducible apply Sy.move); exact rfl; exact rfl)
    | ((with_reducible apply Sy.lenS); exact rfl; exact Try.underlying35; exact rfl)
    | ((with_reducible apply Sy.bin (op := .lss) (t := 3)); exact rfl; exact rfl; exact rfl; exact b_lss)
    | ((with_reducible apply Sy.bin (op := .lss) (t := 3)); exact rfl; exact rfl; exact rfl; exact bz_lss)
    | ((with_reducible apply Sy.ia (t := 35)); exact rfl; exact rfl; exact rfl; exact (ia_sl10 Try.underlying35 sz23 (by omega)))
    | ((with_reducible apply Sy.ia (t := 35)); exact rfl; exact rfl; exact rfl; exact (ia_sl1 Try.underlying35 sz23 (by omega)))
    | ((with_reducible apply Sy.appFN (t := 23) (xt := 23)); exact ap23_23 zr5 rfl; exact rfl; exact rfl; exact rfl; (· first | exact SrcY.ofR (by with_reducible assumption) rfl); (· first | exact oneL_ints _ _ | exact rfl); (· first | omega); (· first | omega); exact hasT; (· first | omega); (· first | exact rfl); (· first | exact rfl); intro q17)
    | ((with_reducible apply Sy.appB (t := 23) (xt := 23)); exact ap23_23 zr5 rfl; exact rfl; exact rfl; exact rfl; (· first | exact SrcY.ofN (by repeat (first | exact Has.here)) (by first | (simp; done))); (· first | exact rfl); (· first | omega | (simp; done)); (· first | omega | (simp; done)); exact pullT; (· first | omega | (simp; done)); (· first | exact rfl); intro q17)
    | ((with_reducible apply Sy.appFN (t := 35) (xt := 35)); exact ap35_35 zr23 rfl; exact rfl; exact rfl; exact rfl; (· first | exact SrcY.ofR (by with_reducible assumption) rfl); (· first | exact oneL_ints _ _ | exact rfl); (· first | omega); (· first | omega); exact hasT; (· first | omega); (· first | exact rfl); (· first | exact rfl); intro q19)
    | ((with_reducible apply Sy.appB (t := 35) (xt := 35)); exact ap35_35 zr23 rfl; exact rfl; exact rfl; exact rfl; (· first | exact SrcY.ofN (by repeat (first | exact Has.here)) (by first | (simp; done))); (· first | exact rfl); (· first | omega | (simp; done)); (· first | omega | (simp; done)); exact pullT; (· first | omega | (simp; done)); (· first | exact rfl); intro q19)
    | ((with_reducible apply Sy.bin (op := .add) (t := 3)); exact rfl; exact rfl; exact rfl; exact (b_add (by omega)))
    | ((with_reducible apply Sy.bin (op := .add) (t := 3)); exact rfl; exact rfl; exact rfl; exact (bz_add (by omega) (by omega)))
    | ((with_reducible apply Sy.newY (o := ⟨some 12, .buildSlice 23 _ _, _, _, _, _⟩)); exact rfl; exact rfl; exact (nbs0 Try.underlying23 sz5 zr5 rfl (by decide) rfl); intro q12)
    | ((with_reducible apply Sy.newY (o := ⟨some 12, .buildSlice 23 _ _, _, _, _, _⟩)); exact rfl; exact rfl; (· exact (newY_bs Try.underlying23 sz5 zr5 rfl (by decide) rfl (by first | rfl | (simp [List.drop_append, List.take_append, List.getElem?_append, lay, hC_length, ints_length, ints_drop, ints_take, ints_append, List.drop_of_length_le, List.take_of_length_le, List.map_append, List.set_append, Value.cells]; done)))); intro q12)
    | ((with_reducible apply Sy.newY (o := ⟨some 18, .buildSlice 35 _ _, _, _, _, _⟩)); exact rfl; exact rfl; exact (nbs1 Try.underlying35 sz23 zr23 rfl (by decide) rfl rfl); intro q18)
    | ((with_reducible apply Sy.newY (o := ⟨some 18, .buildSlice 35 _ _, _, _, _, _⟩)); exact rfl; exact rfl; (· exact (newY_bs Try.underlying35 sz23 zr23 rfl (by decide) rfl (by first | rfl | (simp [List.drop_append, List.take_append, List.getElem?_append, lay, hC_length, ints_length, ints_drop, ints_take, ints_append, List.drop_of_length_le, List.take_of_length_le, List.map_append, List.set_append, Value.cells]; done)))); intro q18)
    | (with_reducible refine Sy.skip ?_)
    | (with_reducible refine Sy.block ?_)
    | (with_reducible refine Sy.inrm ?_)
    | ((with_reducible apply Sy.ite); (case hx => exact rfl); all_goals (intro hc; try (exfalso; omega))))
      have ec : ∀ w : Value, bsC out ++ List.take (1 * 1) (List.drop 0 [w]) = bsC (out ++ [(l, w)]) := fun w => bsC_snoc out (l, w)
      rw [ec, Nat.zero_add l.length, show List.take (0 * 1) (List.drop 0 ([] : List Value)) ++ ints .u8 l = ints .u8 l by simp]
      refine Sy.rnrm (i + 1, out ++ [(l, .slice (some ⟨q17, 0, none⟩) l.length (l.length + 2 + 1))], q19, (q17, .cells (ints .u8 l) 5 true) :: L) ⟨by omega, ek _, fun e he => ?_⟩ (by dsimp only; omega) ⟨rfl, by rw [e1]; rfl, rfl, trivial⟩ (fun H1 h => ?_)
      · rcases List.mem_append.1 he with he | he
        · exact (hL e he).mono kn_cons
        · rw [List.mem_singleton] at he; subst he; exact SlQ.here
      · dsimp only
        rw [e1]
        exact h.less (List.Sublist.append_left (.cons _ (.cons_cons _ (.cons _ (.refl _)))) _)
  · obtain rfl : i = es.length := by omega
    repeat' (first
    | (with_reducible refine Sy.seq ?_)
    | (with_reducible refine Sy.regionL ?_)
    | (with_reducible refine Sy.opsnil ?_)
    | (with_reducible refine Sy.go ?_)
    | (with_reducible refine Sy.nrm ?_)
    | ((with_reducible apply Sy.assign); exact rfl; exact rfl)
    | ((with_reducible apply Sy.move); exact rfl; exact rfl)
    | ((with_reducible apply Sy.lenS); exact rfl; exact Try.underlying35; exact rfl)
    | ((with_reducible apply Sy.bin (op := .lss) (t := 3)); exact rfl; exact rfl; exact rfl; exact b_lss)
    | ((with_reducible apply Sy.bin (op := .lss) (t := 3)); exact rfl; exact rfl; exact rfl; exact bz_lss)
    | (with_reducible refine Sy.exit ?_)
    | (with_reducible refine Sy.ret ?_)
    | (with_reducible refine Sy.aex ?_)
    | ((with_reducible apply Sy.iex); exact rfl)
    | (with_reducible refine Sy.rex ?_)
    | ((with_reducible apply Sy.ite); (case hx => exact rfl); all_goals (intro hc; try (exfalso; omega))))
    exact .fin [_] (.inr rfl) ⟨rfl, trivial⟩ fun H' hp => ⟨(out, bo, L), ⟨by rw [hk]; exact List.take_of_length_le (by simp), hL⟩, rfl, hp⟩
theorem bvB1 {v : Value} (h : v.cells.toList = [v]) : buildV Try.prog 38 [(1, v)] = some (.agg ⟨[.slice none 0 0, v]⟩) := bv38 (by simp [fillL, plc, lay, h])
theorem one_sv {a : Option Addr} {k c : Nat} {v : Value} (h : v.oneCell' = true) : oneL [.slice a k c, v] = true := by
  simp only [oneL_cons, oneL_nil, h]; rfl
theorem set_b0 {v0 w v : Value} : [v0, w].set 0 v = [v, w] := rfl
def EmQ (Q : Kn) (es : List Mel) : Prop := ∀ e ∈ es, e.1.ok ∧ SlQ Q e.2 e.1.d ∧ e.1.d.length ≤ 140737488355328
set_option maxHeartbeats 4000000 in
theorem k_lBlk (x : Kel) (H : AHeap) (h : KelQ (knH H) 66 x) (hn1 : x.ms.length ≤ 100) (hn2 : x.bs.length ≤ 100) (hd : ∀ e ∈ x.ms, e.1.d.length ≤ 1000) :
    CallR Try.prog noPrims 29 [.agg ⟨[x.mv, x.bv]⟩] H (fun u H' => ∃ i : (List Mel × Nat × Hm) × (List Bel × Nat × Hm), (i.1.1.map (·.1) = x.ms.map (·.1) ∧ EmQ (knL i.1.2.2) i.1.1 ∧ i.2.1.map (·.1) = x.bs.map (·.1) ∧ EbQ (knL i.2.2.2) i.2.1) ∧ u = .agg ⟨[accV 9 (msC i.1.1) i.1.1.length i.1.2.1, accV 1 (bsC i.2.1) i.2.1.length i.2.2.1]⟩ ∧ Hp H 0 0 H' [] (accM 57 (msC i.1.1) i.1.1.length i.1.2.1 ++ (i.1.2.2 ++ (accM 23 (bsC i.2.1) i.2.1.length i.2.2.1 ++ i.2.2.2)))) := by
  obtain ⟨ms, mv, bs, bv⟩ := x
  obtain ⟨⟨⟨am, cm, hmv, hmr⟩, hms⟩, hbq⟩ := h
  dsimp only at hmv hmr hms hbq hn1 hn2 hd ⊢
  have hbq' := hbq
  obtain ⟨⟨ab, cb, hbv, -⟩, -⟩ := hbq
  subst hmv hbv
  refine CallR.sy (n := 28) Try.func29 rfl rfl rfl ?_
  repeat' (first
    | (with_reducible refine Sy.seq ?_)
    | (with_reducible refine Sy.regionL ?_)
    | (with_reducible refine Sy.opsnil ?_)
    | (with_reducible refine Sy.go ?_)
    | (with_reducible refine Sy.nrm ?_)
    | ((with_reducible refine Sy.build (t := 38) rfl rfl (bvB1 accV_cells) ?_))
    | ((with_reducible apply Sy.fa (t := 64) (i := 1)); exact rfl; exact rfl; exact fa64_1 _ _)
    | ((with_reducible apply Sy.ldN (t := 35)); exact rfl; exact rfl; exact hasT; (· first | exact ld_one ag35 rfl))
    | ((with_reducible apply Sy.fa (t := 64) (i := 0)); exact rfl; exact rfl; exact fa64_0 _ _)
    | ((with_reducible apply Sy.ldN (t := 62)); exact rfl; exact rfl; exact hasT; (· first | exact ld_one ag62 rfl))
    | ((with_reducible apply Sy.fa (t := 38) (i := 0)); exact rfl; exact rfl; exact fa38_0 _ _)
    | ((with_reducible apply Sy.ldN (t := 36)); exact rfl; exact rfl; exact hasT; (· first | exact ld_one ag36 rfl))
    | ((with_reducible apply Sy.ldN (t := 66)); exact rfl; exact rfl; exact hasT; (· first | exact ld_all ag66 (by first | exact sz66 | (simp [sz66, *]; done)) | exact ld_agg ag66 sz66 (by first | (simp; done) | (simp; omega)) (by first | with_reducible exact cut_kids | rfl | (simp [List.drop_append, List.take_append, List.getElem?_append, lay, hC_length, ints_length, ints_drop, ints_take, ints_append, List.drop_of_length_le, List.take_of_length_le, List.map_append, List.set_append, Value.cells]; done))))
    | ((with_reducible apply Sy.ldN (t := 38)); exact rfl; exact rfl; exact hasT; (· first | exact ld_all ag38 (by first | exact sz38 | (simp [sz38, *]; done)) | exact ld_agg ag38 sz38 (by first | (simp; done) | (simp; omega)) (by first | with_reducible exact cut_kids | rfl | (simp [List.drop_append, List.take_append, List.getElem?_append, lay, hC_length, ints_length, ints_drop, ints_take, ints_append, List.drop_of_length_le, List.take_of_length_le, List.map_append, List.set_append, Value.cells]; done))))
    | ((with_reducible apply Sy.callN (k := 41)); exact rfl; exact rfl; exact en41; exact rfl; (intro H' hp; exact k_lParts bs _ H' (hbq'.mono (kn_of hp)) hn2); rintro ⟨ob, bo, Lb⟩ ⟨hkb, hLb⟩)
    | ((with_reducible apply Sy.newY (o := ⟨some 1, .box 64 _, _, _, _, _⟩)); exact rfl; exact rfl; exact nbA rfl; intro q1)
    | ((with_reducible apply Sy.newY (o := ⟨some 2, .alloc 38, _, _, _, _⟩)); exact rfl; exact rfl; exact nwz38; intro q2)
    | ((with_reducible apply Sy.newY (o := ⟨some 3, .alloc 38, _, _, _, _⟩)); exact rfl; exact rfl; exact nwz38; intro q3))
  dsimp only at hkb hLb ⊢
  rw [List.append_assoc]
  repeat' (first
    | (with_reducible refine Sy.seq ?_)
    | (with_reducible refine Sy.regionL ?_)
    | (with_reducible refine Sy.opsnil ?_)
    | (with_reducible refine Sy.go ?_)
    | (with_reducible refine Sy.nrm ?_)
    | ((with_reducible refine Sy.stNa (t := 38) rfl rfl sz38 rfl (one_sv accV_one) (by repeat (first | exact Turn.here | apply Turn.there | apply Turn.app)) (by simp) (lay_all (by simp)) ?_))
    | ((with_reducible apply Sy.assign); exact rfl; exact rfl)
    | (with_reducible refine Sy.block ?_))
  refine Sy.loop (ι := Nat × List Mel × Nat × Hm) (fun i => ms.length - i.1) (fun i => [(1, .pointer (some ⟨q1, 0, none⟩)), (2, .pointer (some ⟨q2, 0, none⟩)), (3, .pointer (some ⟨q3, 0, none⟩)), (4, .int .i64 (i.1 : Nat))]) (fun _ => []) (fun i => (q3, .cells [accV 9 (msC i.2.1) i.2.1.length i.2.2.1, accV 1 (bsC ob) ob.length bo] 38 true) :: (accM 57 (msC i.2.1) i.2.1.length i.2.2.1 ++ (i.2.2.2 ++ (accM 23 (bsC ob) ob.length bo ++ (Lb ++ [(q2, AObj.cells [Value.slice none 0 0, Value.slice none 0 0] 38 true), (q1, AObj.cells [Value.slice am ms.length cm, Value.slice ab bs.length cb] 64 true)]))))) (fun i => i.1 ≤ ms.length ∧ i.2.1.map (·.1) = (ms.map (·.1)).take i.1 ∧ EmQ (knL i.2.2.2) i.2.1) (0, [], 0, []) ⟨Nat.zero_le _, rfl, by simp [EmQ]⟩ ⟨rfl, rfl, rfl, rfl, trivial⟩ (fun H h => h) ?_
  rintro ⟨i, out, bo2, L⟩ ⟨hi, hk, hL⟩
  dsimp only at hi hk hL ⊢
  have hol : out.length = i := by have := congrArg List.length hk; simp at this; omega
  by_cases hlt : i < ms.length
  · obtain ⟨⟨m, sv⟩, hse⟩ : ∃ y, ms[i]? = some y := ⟨ms[i], List.getElem?_eq_getElem hlt⟩
    obtain ⟨hmo, hsv, hml⟩ := hms _ (List.mem_of_getElem? hse)
    have hmd := hd _ (List.mem_of_getElem? hse)
    obtain ⟨bm, wm, rfl, hbm⟩ := hmr.resolve_left (by omega)
    dsimp only at hmo hsv hml hmd
    have hkx : (ms.map (·.1))[i]? = some m := by rw [List.getElem?_map, hse]; rfl
    have hsr := hsv.slr (H := H) (fun _ _ _ _ h => h)
    obtain ⟨sa, sc, rfl⟩ := slr_form hsr
    clear hms hd hbq' hmr hkb hLb
    repeat' (first
    | (with_reducible refine Sy.seq ?_)
    | (with_reducible refine Sy.regionL ?_)
    | (with_reducible refine Sy.opsnil ?_)
    | (with_reducible refine Sy.go ?_)
    | (with_reducible refine Sy.nrm ?_)
    | ((with_reducible apply Sy.drawL (id := 5) 12 [(1, 7)] (fun hi h => h = q3)); (case hp => kernel_rfl); (case hN => exact rfl); intro base hbase hM; try simp only [List.forall_mem_cons, List.forall_mem_append, List.not_mem_nil, false_implies, implies_true, and_true] at hM)
    | ((with_reducible refine Sy.ld0 (t := 66) rfl rfl hbm rfl (by simp only [List.forall_mem_cons, List.not_mem_nil, false_implies, implies_true, and_true, ne_eq]; first | done | omega | (repeat (first | with_reducible assumption | (refine And.intro ?_ ?_)))) (ms_all ag66 sz66 hse (by omega)) ?_))
    | ((with_reducible apply Sy.appB (t := 36) (xt := 36)); exact (ap36_36 zr57 rfl); exact rfl; exact rfl; exact rfl; exact SrcY.row hasT (msgC_length _ _); exact msgC_oneS _ _ _ _; (· rw [msgC_length]); (· omega); exact pullT; exact msC_length _; exact msC_snoc out (m, _); intro q25)
    | ((with_reducible apply Sy.stN1 (t := 36)); exact rfl; exact rfl; exact sz36; exact accV_cells; exact accV_oneL; exact turnT; (· simp); exact set_b0)
    | ((with_reducible apply Sy.fa (t := 64) (i := 1)); exact rfl; exact rfl; exact fa64_1 _ _)
    | ((with_reducible apply Sy.ldN (t := 35)); exact rfl; exact rfl; exact hasT; (· first | exact ld_one ag35 rfl))
    | ((with_reducible apply Sy.assign); exact rfl; exact rfl)
    | ((with_reducible apply Sy.move); exact rfl; exact rfl)
    | ((with_reducible apply Sy.fa (t := 64) (i := 0)); exact rfl; exact rfl; exact fa64_0 _ _)
    | ((with_reducible apply Sy.ldN (t := 62)); exact rfl; exact rfl; exact hasT; (· first | exact ld_one ag62 rfl))
    | ((with_reducible apply Sy.lenS); exact rfl; exact Try.underlying62; exact rfl)
    | ((with_reducible apply Sy.bin (op := .lss) (t := 3)); exact rfl; exact rfl; exact rfl; exact b_lss)
    | ((with_reducible apply Sy.bin (op := .lss) (t := 3)); exact rfl; exact rfl; exact rfl; exact bz_lss)
    | ((with_reducible apply Sy.fa (t := 38) (i := 0)); exact rfl; exact rfl; exact fa38_0 _ _)
    | ((with_reducible apply Sy.ldN (t := 36)); exact rfl; exact rfl; exact hasT; (· first | exact ld_one ag36 rfl))
    | ((with_reducible apply Sy.ia (t := 62)); exact rfl; exact rfl; exact rfl; exact (ia_sl Try.underlying62 sz66 (by omega)))
    | ((with_reducible apply Sy.ldN (t := 66)); exact rfl; exact rfl; exact hasT; (· first | exact ld_all ag66 (by first | exact sz66 | (simp [sz66, *]; done)) | exact ld_agg ag66 sz66 (by first | (simp; done) | (simp; omega)) (by first | with_reducible exact cut_kids | rfl | (simp [List.drop_append, List.take_append, List.getElem?_append, lay, hC_length, ints_length, ints_drop, ints_take, ints_append, List.drop_of_length_le, List.take_of_length_le, List.map_append, List.set_append, Value.cells]; done))))
    | ((with_reducible apply Sy.bin (op := .add) (t := 3)); exact rfl; exact rfl; exact rfl; exact (b_add (by omega)))
    | ((with_reducible apply Sy.bin (op := .add) (t := 3)); exact rfl; exact rfl; exact rfl; exact (bz_add (by omega) (by omega)))
    | ((with_reducible apply Sy.ldN (t := 38)); exact rfl; exact rfl; exact hasT; (· first | exact ld_all ag38 (by first | exact sz38 | (simp [sz38, *]; done)) | exact ld_agg ag38 sz38 (by first | (simp; done) | (simp; omega)) (by first | with_reducible exact cut_kids | rfl | (simp [List.drop_append, List.take_append, List.getElem?_append, lay, hC_length, ints_length, ints_drop, ints_take, ints_append, List.drop_of_length_le, List.take_of_length_le, List.map_append, List.set_append, Value.cells]; done))))
    | ((with_reducible apply Sy.dgo); (· first | exact wantY_none); (· intro hcls; cases hcls); exact rfl; exact rfl)
    | ((with_reducible apply Sy.dwr); (case hw => first | exact wantY_none); (case hc => intro hcls; cases hcls); (case h1 => exact rfl); (case hk => exact .consN (b := q3) hasT .nil); (case hS => intro h hh; subst hh; exact ⟨_, List.mem_singleton.2 rfl⟩))
    | ((with_reducible apply Sy.dand); (case hk => exact .consN (b := q3) hasT .nil))
    | ((with_reducible apply Sy.callN (k := 42)); exact rfl; exact rfl; exact en42; exact rfl; (intro H' hp; exact k_lMessage m sa sc H' hmo (hsr.of hp) (by omega)); rintro ⟨b, c⟩ -)
    | ((with_reducible apply Sy.dnew (o := ⟨some 24, .buildSlice 36 _ _, _, _, _, _⟩)); (· first | exact wantY_none); exact rfl; exact rfl; exact rfl; exact rfl; exact rfl; (· exact (nba1 Try.underlying36 sz57 zr57 rfl (by decide) rfl (by first | (simp; done)))); intro q24 hq24)
    | ((with_reducible apply Sy.dnew (o := ⟨some 24, .buildSlice 36 _ _, _, _, _, _⟩)); (· first | exact wantY_none); exact rfl; exact rfl; exact rfl; exact rfl; exact rfl; (· exact (newY_bs Try.underlying36 sz57 zr57 rfl (by decide) rfl (by first | rfl | (simp [List.drop_append, List.take_append, List.getElem?_append, lay, hC_length, ints_length, ints_drop, ints_take, ints_append, List.drop_of_length_le, List.take_of_length_le, List.map_append, List.set_append, Value.cells]; done)))); intro q24 hq24)
    | (with_reducible refine Sy.skip ?_)
    | (with_reducible refine Sy.block ?_)
    | (with_reducible refine Sy.inrm ?_)
    | (with_reducible refine Sy.dend ?_)
    | ((with_reducible apply Sy.dgo); (· first | exact wantY_none); (· intro hcls; cases hcls); exact rfl; exact rfl)
    | ((with_reducible apply Sy.dld); (· first | exact wantY_none); exact rfl; (· first | omega); exact rfl)
    | ((with_reducible apply Sy.ite); (case hx => exact rfl); all_goals (intro hc; try (exfalso; omega))))
    dsimp only
    have e1 : ∀ s : Mel, (out ++ [s]).length = out.length + 1 := fun s => by simp
    refine Sy.rnrm (i + 1, out ++ [(m, .slice (some ⟨b, 0, none⟩) m.d.length c)], q25, (b, .cells (ints .u8 m.d) 5 true) :: L) ⟨by omega, ?_, fun e he => ?_⟩ (by dsimp only; omega) ⟨rfl, rfl, rfl, rfl, trivial⟩ (fun H1 h => ?_)
    · dsimp only
      rw [List.map_append, hk, List.take_add_one, hkx]; rfl
    · rcases List.mem_append.1 he with he | he
      · exact ⟨(hL e he).1, (hL e he).2.1.mono kn_cons, (hL e he).2.2⟩
      · rw [List.mem_singleton] at he; subst he; exact ⟨hmo, SlQ.here, hml⟩
    · dsimp only
      rw [e1]
      exact (h.less (.cons_cons _ (.cons _ (.refl _)))).perm (List.perm_middle (l₁ := [_, _])).symm
  · obtain rfl : i = ms.length := by omega
    repeat' (first
    | (with_reducible refine Sy.seq ?_)
    | (with_reducible refine Sy.regionL ?_)
    | (with_reducible refine Sy.opsnil ?_)
    | (with_reducible refine Sy.go ?_)
    | (with_reducible refine Sy.nrm ?_)
    | ((with_reducible apply Sy.fa (t := 64) (i := 1)); exact rfl; exact rfl; exact fa64_1 _ _)
    | ((with_reducible apply Sy.ldN (t := 35)); exact rfl; exact rfl; exact hasT; (· first | exact ld_one ag35 rfl))
    | ((with_reducible apply Sy.stNa (t := 38)); exact rfl; exact rfl; exact sz38; (· first | exact rfl | (simp; done)); (· first | exact rfl | (simp [oneL_append, oneL_cons, oneL_nil, hC_one, oneL_ints]; done)); exact turnT; (· first | (simp; done)); (· first | exact lay_all (by first | (simp; done)) | exact rfl))
    | ((with_reducible apply Sy.move); exact rfl; exact rfl)
    | ((with_reducible apply Sy.fa (t := 64) (i := 0)); exact rfl; exact rfl; exact fa64_0 _ _)
    | ((with_reducible apply Sy.ldN (t := 62)); exact rfl; exact rfl; exact hasT; (· first | exact ld_one ag62 rfl))
    | ((with_reducible apply Sy.lenS); exact rfl; exact Try.underlying62; exact rfl)
    | ((with_reducible apply Sy.bin (op := .lss) (t := 3)); exact rfl; exact rfl; exact rfl; exact b_lss)
    | ((with_reducible apply Sy.bin (op := .lss) (t := 3)); exact rfl; exact rfl; exact rfl; exact bz_lss)
    | ((with_reducible apply Sy.fa (t := 38) (i := 0)); exact rfl; exact rfl; exact fa38_0 _ _)
    | ((with_reducible apply Sy.ldN (t := 36)); exact rfl; exact rfl; exact hasT; (· first | exact ld_one ag36 rfl))
    | ((with_reducible apply Sy.ldN (t := 66)); exact rfl; exact rfl; exact hasT; (· first | exact ld_all ag66 (by first | exact sz66)))
    | ((with_reducible apply Sy.ldN (t := 38)); exact rfl; exact rfl; exact hasT; (· first | exact ld_all ag38 (by first | exact sz38)))
    | (with_reducible refine Sy.exit ?_)
    | (with_reducible refine Sy.ret ?_)
    | (with_reducible refine Sy.aex ?_)
    | ((with_reducible apply Sy.iex); exact rfl)
    | (with_reducible refine Sy.rex ?_)
    | ((with_reducible apply Sy.ite); (case hx => exact rfl); all_goals (intro hc; try (exfalso; omega))))
    exact .fin [.agg ⟨[accV 9 (msC out) out.length bo2, accV 1 (bsC ob) ob.length bo]⟩] (.inr rfl) ⟨⟨_, _, _, rfl, (by repeat (first | exact Has.here | apply Has.there | apply Has.app)), load_all ag38 sz38 rfl⟩, trivial⟩ fun H' hp => ⟨((out, bo2, L), (ob, bo, Lb)), ⟨by rw [hk]; exact List.take_of_length_le (by simp), hL, hkb, hLb⟩, rfl, hp.less (.cons _ (List.Sublist.append_left (List.Sublist.append_left (List.Sublist.append_left (List.sublist_append_left _ _) _) _) _))⟩
/-- The law's block, whole. -/
theorem k_lBlkQ (x : Kel) (H : AHeap) (h : KelQ (knH H) 66 x) (hn1 : x.ms.length ≤ 100) (hn2 : x.bs.length ≤ 100) (hd : ∀ e ∈ x.ms, e.1.d.length ≤ 1000) :
    CallR Try.prog noPrims 29 [.agg ⟨[x.mv, x.bv]⟩] H (fun u H' => ∃ i : Kel × Hm, (i.1.p = x.p ∧ KelQ (knL i.2) 57 i.1 ∧ oneL i.1.c = true) ∧ u = .agg ⟨i.1.c⟩ ∧ Hp H 0 0 H' [] i.2) := by
  have hbx := h.2.2
  refine (k_lBlk x H h hn1 hn2 hd).mono fun u H' ⟨⟨⟨om, bm, Lm⟩, ⟨ob, bb, Lb⟩⟩, ⟨h1, h2, h3, h4⟩, h5, h6⟩ => ⟨(⟨om, accV 9 (msC om) om.length bm, ob, accV 1 (bsC ob) ob.length bb⟩, _), ⟨?_, ⟨⟨RwQ.acc fun h0 => ?_, fun e he => ⟨(h2 e he).1, (h2 e he).2.1.mono fun b cs T w hh => ?_, (h2 e he).2.2⟩⟩, ⟨RwQ.acc fun h0 => ?_, fun e he => ?_⟩⟩, ?_⟩, h5, h6⟩
  · simp only [Kel.p]
    dsimp only at h1 h3
    rw [h1, h3]
  · exact accM_hasT h0
  · exact Has.app (Has.front hh)
  · exact Has.app (Has.app (accM_hasT h0))
  · have hm : e.1 ∈ x.bs.map (·.1) := by
      dsimp only at h3
      rw [← h3]
      exact List.mem_map_of_mem he
    obtain ⟨y, hy, ey⟩ := List.mem_map.1 hm
    obtain ⟨k1, _, k3⟩ := hbx y hy
    rw [ey] at k1 k3
    exact ⟨k1, (h4 e he).mono fun b cs T w hh => Has.app (Has.app (Has.app hh)), k3⟩
  · simp only [Kel.c, oneL_cons, oneL_nil, accV_one]; rfl
set_option maxHeartbeats 2000000 in
theorem k_lBlocks (xs : List Kel) (v : Value) (H : AHeap) (h : KsQ (knH H) 66 64 v xs) (hn : xs.length ≤ 100) (hs : ∀ x ∈ xs, x.ms.length ≤ 100 ∧ x.bs.length ≤ 100 ∧ ∀ e ∈ x.ms, e.1.d.length ≤ 1000) :
    CallR Try.prog noPrims 11 [v] H (fun u H' => ∃ i : List Kel × Nat × Hm, (i.1.map Kel.p = xs.map Kel.p ∧ ∀ x ∈ i.1, KelQ (knL i.2.2) 57 x) ∧ u = accV 2 (ksC i.1) i.1.length i.2.1 ∧ Hp H 0 0 H' [] (accM 38 (ksC i.1) i.1.length i.2.1 ++ i.2.2)) := by
  obtain ⟨⟨a1, c1, rfl, h1⟩, hss⟩ := h
  refine CallR.sy (n := 20) Try.func11 rfl rfl rfl ?_
  repeat' (first
    | (with_reducible refine Sy.seq ?_)
    | (with_reducible refine Sy.regionL ?_)
    | (with_reducible refine Sy.opsnil ?_)
    | (with_reducible refine Sy.go ?_)
    | (with_reducible refine Sy.nrm ?_)
    | ((with_reducible apply Sy.assign); exact rfl; exact rfl)
    | (with_reducible refine Sy.block ?_))
  refine Sy.loop (ι := Nat × List Kel × Nat × Hm) (fun i => xs.length - i.1) (fun i => [(0, .slice a1 xs.length c1), (3, accV 2 (ksC i.2.1) i.2.1.length i.2.2.1), (4, .int .i64 (i.1 : Nat))]) (fun _ => []) (fun i => accM 38 (ksC i.2.1) i.2.1.length i.2.2.1 ++ i.2.2.2) (fun i => i.1 ≤ xs.length ∧ i.2.1.map Kel.p = (xs.map Kel.p).take i.1 ∧ ∀ x ∈ i.2.1, KelQ (knL i.2.2.2) 57 x) (0, [], 0, []) ⟨Nat.zero_le _, rfl, by simp⟩ ⟨rfl, rfl, rfl, trivial⟩ (fun H h => h) ?_
  rintro ⟨i, out, bo, L⟩ ⟨hi, hk, hL⟩
  dsimp only at hi hk hL ⊢
  have hol : out.length = i := by have := congrArg List.length hk; simp at this; omega
  by_cases hlt : i < xs.length
  · obtain ⟨x, hxe⟩ : ∃ x, xs[i]? = some x := ⟨xs[i], List.getElem?_eq_getElem hlt⟩
    rcases h1 with h1 | ⟨b1, w1, rfl, hb1⟩
    · omega
    have hxm := List.mem_of_getElem? hxe
    have hxq := hss x hxm
    obtain ⟨hs1, hs2, hs3⟩ := hs x hxm
    have hkx : (xs.map Kel.p)[i]? = some x.p := by rw [List.getElem?_map, hxe]; rfl
    repeat' (first
    | (with_reducible refine Sy.seq ?_)
    | (with_reducible refine Sy.regionL ?_)
    | (with_reducible refine Sy.opsnil ?_)
    | (with_reducible refine Sy.go ?_)
    | (with_reducible refine Sy.nrm ?_)
    | ((with_reducible refine Sy.ld0 (t := 64) rfl rfl hb1 rfl (by simp only [List.forall_mem_cons, List.not_mem_nil, false_implies, implies_true, and_true, ne_eq]; first | done | omega | (repeat (first | with_reducible assumption | (refine And.intro ?_ ?_)))) (ks_all ag64 sz64 hxe (by omega)) ?_))
    | ((with_reducible apply Sy.appB (t := 30) (xt := 30)); exact (ap30_30 zr38 rfl); exact rfl; exact rfl; exact rfl; exact SrcY.row hasT rfl; exact hy3; exact rfl; (· omega); exact pullT; exact ksC_length _; exact ksC_snoc out y; intro q18)
    | ((with_reducible apply Sy.assign); exact rfl; exact rfl)
    | ((with_reducible apply Sy.move); exact rfl; exact rfl)
    | ((with_reducible apply Sy.lenS); exact rfl; exact Try.underlying22; exact rfl)
    | ((with_reducible apply Sy.bin (op := .lss) (t := 3)); exact rfl; exact rfl; exact rfl; exact b_lss)
    | ((with_reducible apply Sy.bin (op := .lss) (t := 3)); exact rfl; exact rfl; exact rfl; exact bz_lss)
    | ((with_reducible apply Sy.ia (t := 22)); exact rfl; exact rfl; exact rfl; exact (ia_sl Try.underlying22 sz64 (by omega)))
    | ((with_reducible apply Sy.bin (op := .add) (t := 3)); exact rfl; exact rfl; exact rfl; exact (b_add (by omega)))
    | ((with_reducible apply Sy.bin (op := .add) (t := 3)); exact rfl; exact rfl; exact rfl; exact (bz_add (by omega) (by omega)))
    | ((with_reducible apply Sy.callN (k := 29)); exact rfl; exact rfl; exact en29; exact rfl; (intro H' hp; exact k_lBlkQ x H' (hxq.mono (kn_of hp)) hs1 hs2 hs3); rintro ⟨y, Ly⟩ ⟨hy1, hy2, hy3⟩)
    | ((with_reducible apply Sy.newY (o := ⟨some 17, .buildSlice 30 _ _, _, _, _, _⟩)); exact rfl; exact rfl; (· exact (nba1 Try.underlying30 sz38 zr38 rfl (by decide) rfl (by first | exact rfl))); intro q17)
    | ((with_reducible apply Sy.newY (o := ⟨some 17, .buildSlice 30 _ _, _, _, _, _⟩)); exact rfl; exact rfl; (· exact (newY_bs Try.underlying30 sz38 zr38 rfl (by decide) rfl (by first | rfl | (simp [List.drop_append, List.take_append, List.getElem?_append, lay, hC_length, ints_length, ints_drop, ints_take, ints_append, List.drop_of_length_le, List.take_of_length_le, List.map_append, List.set_append, Value.cells]; done)))); intro q17)
    | (with_reducible refine Sy.skip ?_)
    | (with_reducible refine Sy.block ?_)
    | (with_reducible refine Sy.inrm ?_)
    | ((with_reducible apply Sy.ite); (case hx => exact rfl); all_goals (intro hc; try (exfalso; omega))))
    dsimp only at hy1 hy2 hy3 ⊢
    have e1 : ∀ s : Kel, (out ++ [s]).length = out.length + 1 := fun s => by simp
    refine Sy.rnrm (i + 1, out ++ [y], q18, Ly ++ L) ⟨by omega, ?_, fun e he => ?_⟩ (by dsimp only; omega) ⟨rfl, by rw [e1]; rfl, rfl, trivial⟩ (fun H1 h => ?_)
    · dsimp only
      rw [List.map_append, hk, List.take_add_one, hkx, ← hy1]; rfl
    · rcases List.mem_append.1 he with he | he
      · exact (hL e he).mono kn_app
      · rw [List.mem_singleton] at he; subst he; exact hy2.mono kn_front
    · dsimp only
      rw [e1]
      exact h.less (List.Sublist.append_left (.cons _ (.refl _)) _)
  · obtain rfl : i = xs.length := by omega
    repeat' (first
    | (with_reducible refine Sy.seq ?_)
    | (with_reducible refine Sy.regionL ?_)
    | (with_reducible refine Sy.opsnil ?_)
    | (with_reducible refine Sy.go ?_)
    | (with_reducible refine Sy.nrm ?_)
    | ((with_reducible apply Sy.assign); exact rfl; exact rfl)
    | ((with_reducible apply Sy.move); exact rfl; exact rfl)
    | ((with_reducible apply Sy.lenS); exact rfl; exact Try.underlying22; exact rfl)
    | ((with_reducible apply Sy.bin (op := .lss) (t := 3)); exact rfl; exact rfl; exact rfl; exact b_lss)
    | ((with_reducible apply Sy.bin (op := .lss) (t := 3)); exact rfl; exact rfl; exact rfl; exact bz_lss)
    | (with_reducible refine Sy.exit ?_)
    | (with_reducible refine Sy.ret ?_)
    | (with_reducible refine Sy.aex ?_)
    | ((with_reducible apply Sy.iex); exact rfl)
    | (with_reducible refine Sy.rex ?_)
    | ((with_reducible apply Sy.ite); (case hx => exact rfl); all_goals (intro hc; try (exfalso; omega))))
    exact .fin [_] (.inr rfl) ⟨rfl, trivial⟩ fun H' hp => ⟨(out, bo, L), ⟨by rw [hk]; exact List.take_of_length_le (by simp), hL⟩, rfl, hp⟩
end Go.Proofs.Ytcaafoibabijgaa
