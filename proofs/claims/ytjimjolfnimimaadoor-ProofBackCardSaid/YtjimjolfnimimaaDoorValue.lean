/- A value by the kernel. -/
import Derived.Test.YtjimjolfnimimaaDoorWalkA
import Derived.Test.YtjimjolfnimimaaDoorWalkC
set_option linter.unusedSimpArgs false
set_option linter.unusedVariables false
/- SHA-256 so that the kernel may evaluate it: numbers are brought to their values as they come. -/
namespace Go.Proofs.YtjimjolfnimimaaDoor
open Go Go.Am
set_option maxRecDepth 100000
set_option linter.unusedVariables false

def force {α : Type} (n : Nat) (k : Nat → α) : α := match n with
  | 0 => k 0
  | m + 1 => k (Nat.succ m)
theorem force_eq {α : Type} (n : Nat) (k : Nat → α) : force n k = k n := by cases n <;> rfl
def forceL {α : Type} : List Nat → (List Nat → α) → α
  | [], k => k []
  | x :: xs, k => force x fun y => forceL xs fun ys => k (y :: ys)
theorem forceL_eq {α : Type} : ∀ (l : List Nat) (k : List Nat → α), forceL l k = k l
  | [], k => rfl
  | x :: xs, k => by rw [forceL, force_eq, forceL_eq xs]
def forceS {α : Type} (s : S8) (k : S8 → α) : α := match s with
  | ⟨a, b, c, d, e, f, g, h⟩ => force a fun a => force b fun b => force c fun c => force d fun d => force e fun e => force f fun f => force g fun g => force h fun h => k ⟨a, b, c, d, e, f, g, h⟩
theorem forceS_eq {α : Type} (s : S8) (k : S8 → α) : forceS s k = k s := by
  cases s; simp only [forceS, force_eq]

def rotF (x n m : Nat) : Nat := Nat.lor (Nat.shiftRight x n) (Nat.mod (Nat.shiftLeft x m) 4294967296)
def t1F (k x e f g h : Nat) : Nat :=
  Nat.mod (Nat.add (Nat.mod (Nat.add (Nat.mod (Nat.add (Nat.mod (Nat.add h (Nat.xor (Nat.xor (rotF e 6 26) (rotF e 11 21)) (rotF e 25 7))) 4294967296) (Nat.xor (Nat.land e f) (Nat.land (Nat.xor 4294967295 e) g))) 4294967296) k) 4294967296) x) 4294967296
def t2F (a b c : Nat) : Nat := Nat.mod (Nat.add (Nat.xor (Nat.xor (rotF a 2 30) (rotF a 13 19)) (rotF a 22 10)) (Nat.xor (Nat.xor (Nat.land a b) (Nat.land a c)) (Nat.land b c))) 4294967296
def wF (w0 w1 w9 w14 : Nat) : Nat := Nat.mod (Nat.add (Nat.mod (Nat.add (Nat.mod (Nat.add w0 (Nat.xor (Nat.xor (rotF w1 7 25) (rotF w1 18 14)) (Nat.shiftRight w1 3))) 4294967296) w9) 4294967296) (Nat.xor (Nat.xor (rotF w14 17 15) (rotF w14 19 13)) (Nat.shiftRight w14 10))) 4294967296
theorem op_mod (a b : Nat) : Nat.mod a b = a % b := rfl
theorem op_add (a b : Nat) : Nat.add a b = a + b := rfl
theorem op_xor (a b : Nat) : Nat.xor a b = a ^^^ b := rfl
theorem op_lor (a b : Nat) : Nat.lor a b = a ||| b := rfl
theorem op_shr (a b : Nat) : Nat.shiftRight a b = a >>> b := rfl
theorem op_shl (a b : Nat) : Nat.shiftLeft a b = a <<< b := rfl
theorem t1F_eq (k x : Nat) (s : S8) : t1F k x s.e s.f s.g s.h = rt1 k x s := rfl
theorem t2F_eq (s : S8) : t2F s.a s.b s.c = rt2 s := rfl
def goF : List Nat → (w0 w1 w2 w3 w4 w5 w6 w7 w8 w9 w10 w11 w12 w13 w14 w15 a b c d e f g h : Nat) → S8
  | [], _, _, _, _, _, _, _, _, _, _, _, _, _, _, _, _, a, b, c, d, e, f, g, h => ⟨a, b, c, d, e, f, g, h⟩
  | k :: ks, w0, w1, w2, w3, w4, w5, w6, w7, w8, w9, w10, w11, w12, w13, w14, w15, a, b, c, d, e, f, g, h =>
    force (t1F k w0 e f g h) fun t => force (Nat.mod (Nat.add t (t2F a b c)) 4294967296) fun x => force (Nat.mod (Nat.add d t) 4294967296) fun z => force (wF w0 w1 w9 w14) fun y =>
      goF ks w1 w2 w3 w4 w5 w6 w7 w8 w9 w10 w11 w12 w13 w14 w15 y x a b c z e f g

theorem sched_at {g : Nat → Nat} {j : Nat} : ∀ n, (sched g (j + 1 + n)).getD j 0 = (sched g (j + 1)).getD j 0
  | 0 => rfl
  | n + 1 => by
    rw [show j + 1 + (n + 1) = (j + 1 + n) + 1 by omega, sched]
    have : j + 1 + n ≠ j := by omega
    simp only [List.getD, List.getElem?_set, if_neg this]
    have := sched_at (g := g) (j := j) n
    simpa [List.getD] using this
theorem sched_val {g : Nat → Nat} {j : Nat} (hj : j < 64) : (sched g 64).getD j 0 = if j < 16 then wordAt g j else nextW (sched g j) j := by
  have h := sched_at (g := g) (j := j) (63 - j)
  rw [show j + 1 + (63 - j) = 64 by omega] at h
  rw [h, sched]
  simp [List.getD, hj]
theorem sched_low {g : Nat → Nat} {i j : Nat} (hj : j < i) (hi : i ≤ 64) : (sched g i).getD j 0 = (sched g 64).getD j 0 := by
  have h1 := sched_at (g := g) (j := j) (63 - j)
  have h2 := sched_at (g := g) (j := j) (i - (j + 1))
  rw [show j + 1 + (63 - j) = 64 by omega] at h1
  rw [show j + 1 + (i - (j + 1)) = i by omega] at h2
  rw [h1, h2]
theorem wF_next {g : Nat → Nat} {i : Nat} (hi : i + 16 < 64) : wF ((sched g 64).getD i 0) ((sched g 64).getD (i + 1) 0) ((sched g 64).getD (i + 9) 0) ((sched g 64).getD (i + 14) 0) = (sched g 64).getD (i + 16) 0 := by
  rw [sched_val hi, if_neg (by omega), nextW, show i + 16 - 16 = i by omega, show i + 16 - 15 = i + 1 by omega, show i + 16 - 7 = i + 9 by omega, show i + 16 - 2 = i + 14 by omega,
    sched_low (i := i + 16) (j := i) (by omega) (by omega), sched_low (i := i + 16) (j := i + 1) (by omega) (by omega), sched_low (i := i + 16) (j := i + 9) (by omega) (by omega), sched_low (i := i + 16) (j := i + 14) (by omega) (by omega)]
  simp only [wF, rotF, op_mod, op_add, op_xor, op_lor, op_shr, op_shl, rotr, M32, Nat.reduceSub]

theorem goF_step (k : Nat) (ks : List Nat) (w0 w1 w2 w3 w4 w5 w6 w7 w8 w9 w10 w11 w12 w13 w14 w15 : Nat) (s : S8) : goF (k :: ks) w0 w1 w2 w3 w4 w5 w6 w7 w8 w9 w10 w11 w12 w13 w14 w15 s.a s.b s.c s.d s.e s.f s.g s.h = goF ks w1 w2 w3 w4 w5 w6 w7 w8 w9 w10 w11 w12 w13 w14 w15 (wF w0 w1 w9 w14) (rnd k w0 s).a (rnd k w0 s).b (rnd k w0 s).c (rnd k w0 s).d (rnd k w0 s).e (rnd k w0 s).f (rnd k w0 s).g (rnd k w0 s).h := by
  rw [goF, force_eq, force_eq, force_eq, force_eq, t1F_eq, t2F_eq]
  simp only [rnd, op_mod, op_add, M32]
theorem goF_eq {K V : List Nat} {N : Nat} {s : S8} (hN : K.length = N) (hV : ∀ i, i + 16 < N → wF (V.getD i 0) (V.getD (i + 1) 0) (V.getD (i + 9) 0) (V.getD (i + 14) 0) = V.getD (i + 16) 0) : ∀ (n i : Nat), i + n = N → ∀ (w0 w1 w2 w3 w4 w5 w6 w7 w8 w9 w10 w11 w12 w13 w14 w15 : Nat), (∀ t, i + t < N → t < 16 → [w0, w1, w2, w3, w4, w5, w6, w7, w8, w9, w10, w11, w12, w13, w14, w15].getD t 0 = V.getD (i + t) 0) →
    goF (K.drop i) w0 w1 w2 w3 w4 w5 w6 w7 w8 w9 w10 w11 w12 w13 w14 w15 (rndN K V s i).a (rndN K V s i).b (rndN K V s i).c (rndN K V s i).d (rndN K V s i).e (rndN K V s i).f (rndN K V s i).g (rndN K V s i).h = rndN K V s N
  | 0, i, hi, w0, w1, w2, w3, w4, w5, w6, w7, w8, w9, w10, w11, w12, w13, w14, w15, hw => by
    obtain rfl : i = N := by omega
    rw [List.drop_of_length_le (by omega), goF]
  | n + 1, i, hi, w0, w1, w2, w3, w4, w5, w6, w7, w8, w9, w10, w11, w12, w13, w14, w15, hw => by
    have hlt : i < K.length := by omega
    have e0 : w0 = V.getD i 0 := hw 0 (by omega) (by omega)
    have ek : K[i] = K.getD i 0 := by simp [List.getD, List.getElem?_eq_getElem hlt]
    rw [List.drop_eq_getElem_cons hlt, goF_step, ek, e0]
    refine goF_eq hN hV n (i + 1) (by omega) w1 w2 w3 w4 w5 w6 w7 w8 w9 w10 w11 w12 w13 w14 w15 (wF (V.getD i 0) w1 w9 w14) ?_
    intro t h1 h2
    by_cases h3 : t = 15
    · subst h3
      have e1 : w1 = V.getD (i + 1) 0 := hw 1 (by omega) (by omega)
      have e9 : w9 = V.getD (i + 9) 0 := hw 9 (by omega) (by omega)
      have e14 : w14 = V.getD (i + 14) 0 := hw 14 (by omega) (by omega)
      rw [e1, e9, e14, hV i (by omega), show i + 1 + 15 = i + 16 by omega]
      rfl
    · have h4 := hw (t + 1) (by omega) (by omega)
      rw [show i + 1 + t = i + (t + 1) by omega, ← h4]
      have h5 : t < 15 := by omega
      match t, h5 with
      | 0, _ | 1, _ | 2, _ | 3, _ | 4, _ | 5, _ | 6, _ | 7, _ | 8, _ | 9, _ | 10, _ | 11, _ | 12, _ | 13, _ | 14, _ => rfl

/-- Words out of bytes, four by four. -/
def toW : List Nat → List Nat
  | a :: b :: c :: d :: r => Nat.lor (Nat.lor (Nat.lor (Nat.mod (Nat.shiftLeft a 24) 4294967296) (Nat.mod (Nat.shiftLeft b 16) 4294967296)) (Nat.mod (Nat.shiftLeft c 8) 4294967296)) d :: toW r
  | _ => []
theorem toW_at : ∀ (i : Nat) (p : List Nat), 4 * (i + 1) ≤ p.length → (toW p).getD i 0 = wordAt (fun j => p.getD j 0) i
  | 0, a :: b :: c :: d :: r, _ => rfl
  | i + 1, a :: b :: c :: d :: r, h => by
    have ih := toW_at i r (by simp only [List.length_cons] at h; omega)
    rw [toW, List.getD_cons_succ, ih]
    unfold wordAt
    have e : ∀ k, (a :: b :: c :: d :: r).getD (4 * (i + 1) + k) 0 = r.getD (4 * i + k) 0 := fun k => by rw [show 4 * (i + 1) + k = 4 * i + k + 1 + 1 + 1 + 1 by omega]; rfl
    have e0 := e 0
    simp only [Nat.add_zero] at e0
    simp only [e, e0]
  | _, [], h => by simp at h
  | _, [_], h => by simp at h; omega
  | _, [_, _], h => by simp at h; omega
  | _, [_, _, _], h => by simp at h; omega

def blockL {α : Type} (ws : List Nat) (s : S8) (k : List Nat → S8 → α) : α := match ws with
  | w0 :: w1 :: w2 :: w3 :: w4 :: w5 :: w6 :: w7 :: w8 :: w9 :: w10 :: w11 :: w12 :: w13 :: w14 :: w15 :: r => forceS (addS s (goF sK w0 w1 w2 w3 w4 w5 w6 w7 w8 w9 w10 w11 w12 w13 w14 w15 s.a s.b s.c s.d s.e s.f s.g s.h)) fun t => k r t
  | _ => k [] s
theorem cons16 (l : List Nat) (h : 16 ≤ l.length) : ∃ (w0 w1 w2 w3 w4 w5 w6 w7 w8 w9 w10 w11 w12 w13 w14 w15 : Nat) (r : List Nat), l = w0 :: w1 :: w2 :: w3 :: w4 :: w5 :: w6 :: w7 :: w8 :: w9 :: w10 :: w11 :: w12 :: w13 :: w14 :: w15 :: r := by
  match l, h with
  | w0 :: w1 :: w2 :: w3 :: w4 :: w5 :: w6 :: w7 :: w8 :: w9 :: w10 :: w11 :: w12 :: w13 :: w14 :: w15 :: r, _ => exact ⟨w0, w1, w2, w3, w4, w5, w6, w7, w8, w9, w10, w11, w12, w13, w14, w15, r, rfl⟩
theorem rndN_zero {K V : List Nat} {s : S8} : rndN K V s 0 = s := rfl
theorem blockL_eq {α : Type} {ws : List Nat} {s : S8} {g : Nat → Nat} {k : List Nat → S8 → α} (hl : 16 ≤ ws.length) (hg : ∀ t, t < 16 → ws.getD t 0 = wordAt g t) : blockL ws s k = k (ws.drop 16) (blockS g s) := by
  obtain ⟨w0, w1, w2, w3, w4, w5, w6, w7, w8, w9, w10, w11, w12, w13, w14, w15, r, rfl⟩ := cons16 ws hl
  rw [blockL, forceS_eq]
  have h := goF_eq (K := sK) (V := sched g 64) (N := 64) (s := s) sK_len (fun i hi => wF_next hi) 64 0 (Nat.zero_add _) w0 w1 w2 w3 w4 w5 w6 w7 w8 w9 w10 w11 w12 w13 w14 w15 (by
    intro t h1 h2
    rw [Nat.zero_add, sched_val (by omega), if_pos h2, ← hg t h2]
    clear h1
    match t, h2 with
    | 0, _ | 1, _ | 2, _ | 3, _ | 4, _ | 5, _ | 6, _ | 7, _ | 8, _ | 9, _ | 10, _ | 11, _ | 12, _ | 13, _ | 14, _ | 15, _ => rfl
    | n + 16, h => exact absurd h (by omega))
  rw [List.drop_zero] at h
  rw [rndN_zero] at h
  rw [blockS, ← h]
  rfl
def outF (s : S8) : List Nat := match s.l with
  | l => (List.range 32).map fun i => Nat.mod (Nat.shiftRight (l.getD (i / 4) 0) (24 - 8 * (i % 4))) 256
theorem outN_map (l : List Nat) : ∀ n, n ≤ 32 → outN l n = ((List.range n).map fun i => (l.getD (i / 4) 0 >>> (24 - 8 * (i % 4))) % 256) ++ List.replicate (32 - n) 0
  | 0, _ => by simp [outN]
  | n + 1, h => by
    rw [outN, outN_map l n (by omega), List.range_succ, List.map_append, show 32 - n = (32 - (n + 1)) + 1 by omega, List.replicate_succ, List.set_append, if_neg (by simp)]
    simp
theorem outF_eq (s : S8) : outN s.l 32 = outF s := by
  rw [outN_map _ 32 (Nat.le_refl _)]
  simp only [Nat.sub_self, List.replicate_zero, List.append_nil, outF, op_mod, op_shr]
/-- SHA-256 of two padded blocks. -/
def shaF (p : List Nat) : List Nat := blockL (toW p) s0S fun r s => blockL r s fun _ t => outF t
theorem toW_length : ∀ (n : Nat) (p : List Nat), p.length = 4 * n → (toW p).length = n
  | 0, p, h => by
    have : p = [] := List.length_eq_zero_iff.1 (by simpa using h)
    rw [this]; rfl
  | n + 1, a :: b :: c :: d :: r, h => by rw [toW, List.length_cons, toW_length n r (by simp only [List.length_cons] at h; omega)]
  | n + 1, [], h => by simp at h
  | n + 1, [_], h => by simp at h; omega
  | n + 1, [_, _], h => by simp at h; omega
  | n + 1, [_, _, _], h => by simp at h; omega
theorem sha_l (l : List Nat) : (sha l).l = outN (blocksN (padN l) ((padN l).length / 64)).l 32 := by simp only [sha, outH]
theorem blocks_two (p : List Nat) : blocksN p 2 = blockS (fun j => p.getD (64 * 1 + j) 0) (blockS (fun j => p.getD (64 * 0 + j) 0) s0S) := by simp only [blocksN]
theorem shaF_eq0 {p : List Nat} (h : p.length = 128) : outN (blocksN p 2).l 32 = shaF p := by
  have hw := toW_length 32 p h
  rw [blocks_two, outF_eq, shaF]
  generalize s0S = s0
  rw [blockL_eq (g := fun j => p.getD (64 * 0 + j) 0) (by omega), blockL_eq (g := fun j => p.getD (64 * 1 + j) 0) (by simp; omega)]
  · intro t ht
    have := toW_at (16 + t) p (by omega)
    rw [show ((toW p).drop 16).getD t 0 = (toW p).getD (16 + t) 0 by simp [List.getD, List.getElem?_drop], this]
    unfold wordAt
    simp only [show ∀ c, 64 * 1 + (4 * t + c) = 4 * (16 + t) + c from fun c => by omega, show 64 * 1 + 4 * t = 4 * (16 + t) by omega]
  · intro t ht
    have := toW_at t p (by omega)
    rw [this]
    unfold wordAt
    simp only [Nat.mul_zero, Nat.zero_add]
theorem shaF_eq {l : List Nat} (h : (padN l).length = 128) : (sha l).l = shaF (padN l) := by
  rw [sha_l, ← shaF_eq0 h, h]

def midB : List Nat := [0, 0, 0, 0, 0, 0, 0, 32]
def endB : List Nat := [128, 0, 0, 0, 0, 0, 0, 0, 0, 0, 0, 0, 0, 0, 0, 0, 0, 0, 0, 0, 0, 0, 0, 0, 0, 0, 0, 0, 0, 0, 0, 0, 0, 0, 0, 0, 0, 0, 0, 0, 0, 2, 168]
def msgF (tag a b : List Nat) : List Nat := tag ++ (a ++ (midB ++ (b ++ endB)))
theorem pad_two (tag : List Nat) (ht : tag.length = 4) (a b : Hsh) : padN (frameN tag [a.l, b.l]) = msgF (4 :: (tag ++ midB)) a.l b.l := by
  have e32 : be64 32 = midB := by decide
  have hf : frameN tag [a.l, b.l] = (4 :: tag) ++ (midB ++ a.l ++ (midB ++ b.l)) := by
    rw [frameN_eq, ht]; simp [partN, a.len, b.len, e32]
  have hlen : (frameN tag [a.l, b.l]).length = 85 := by rw [hf]; simp [ht, a.len, b.len, midB]
  have e680 : be64 680 = [0, 0, 0, 0, 0, 0, 2, 168] := by decide
  rw [padN, hlen, hf]
  simp only [show (64 - (85 + 9) % 64) % 64 = 34 from rfl, show (8 * 85) % 18446744073709551616 = 680 from rfl, e680, msgF]
  simp [endB, List.replicate]
theorem msgF_length {tag a b : List Nat} (ht : tag.length = 13) (ha : a.length = 32) (hb : b.length = 32) : (msgF tag a b).length = 128 := by simp [msgF, ht, ha, hb, midB, endB]

def pairT : List Nat := [4, 112, 97, 105, 114, 0, 0, 0, 0, 0, 0, 0, 32]
def leafT : List Nat := [4, 108, 101, 97, 102, 0, 0, 0, 0, 0, 0, 0, 32]
theorem pair_eq (a b : Hsh) : (sha (frameN (bytesOf pairB) [a.l, b.l])).l = shaF (msgF pairT a.l b.l) := by
  have e : bytesOf pairB = [112, 97, 105, 114] := by decide
  rw [e]
  have h := pad_two [112, 97, 105, 114] rfl a b
  have h' : padN (frameN [112, 97, 105, 114] [a.l, b.l]) = msgF pairT a.l b.l := h
  rw [shaF_eq (by rw [h']; exact msgF_length rfl a.len b.len), h']
theorem leaf_eq (a b : Hsh) : (sha (frameN (bytesOf leafB) [a.l, b.l])).l = shaF (msgF leafT a.l b.l) := by
  have e : bytesOf leafB = [108, 101, 97, 102] := by decide
  rw [e]
  have h := pad_two [108, 101, 97, 102] rfl a b
  have h' : padN (frameN [108, 101, 97, 102] [a.l, b.l]) = msgF leafT a.l b.l := h
  rw [shaF_eq (by rw [h']; exact msgF_length rfl a.len b.len), h']
end Go.Proofs.YtjimjolfnimimaaDoor

/- What stands above one leaf, level by level. -/
namespace Go.Proofs.YtjimjolfnimimaaDoor
open Go Go.Am
set_option maxRecDepth 100000

def zL : List Nat := List.replicate 32 0
def nzF (l : List Nat) : Bool := l.any fun x => !(Nat.beq x 0)
def upF (b : Bool) (l : List Nat) : List Nat := match nzF l with
  | false => zL
  | true => match b with
    | false => shaF (msgF pairT l zL)
    | true => shaF (msgF pairT zL l)
def runF : List Bool → List Nat → List Nat
  | [], l => l
  | b :: bs, l => forceL (upF b l) fun r => runF bs r
theorem run_leaf : shaF (msgF leafT h1.l h2.l) = [230, 229, 92, 170, 123, 30, 238, 46, 54, 112, 202, 237, 174, 145, 20, 36, 240, 231, 216, 209, 220, 222, 27, 30, 46, 86, 205, 164, 113, 153, 172, 249] := by kernel_rfl
theorem run_1 : runF (List.replicate 31 false) [230, 229, 92, 170, 123, 30, 238, 46, 54, 112, 202, 237, 174, 145, 20, 36, 240, 231, 216, 209, 220, 222, 27, 30, 46, 86, 205, 164, 113, 153, 172, 249] = [57, 41, 26, 137, 42, 67, 120, 58, 221, 229, 189, 188, 94, 44, 90, 129, 211, 215, 217, 219, 109, 214, 212, 14, 131, 2, 41, 186, 0, 126, 3, 226] := by kernel_rfl
theorem run_2 : runF (List.replicate 31 false) [57, 41, 26, 137, 42, 67, 120, 58, 221, 229, 189, 188, 94, 44, 90, 129, 211, 215, 217, 219, 109, 214, 212, 14, 131, 2, 41, 186, 0, 126, 3, 226] = [102, 178, 227, 34, 225, 100, 201, 112, 164, 142, 180, 183, 131, 58, 165, 200, 4, 38, 205, 89, 64, 208, 60, 58, 102, 117, 148, 113, 200, 221, 151, 235] := by kernel_rfl
theorem run_3 : runF (List.replicate 31 false) [102, 178, 227, 34, 225, 100, 201, 112, 164, 142, 180, 183, 131, 58, 165, 200, 4, 38, 205, 89, 64, 208, 60, 58, 102, 117, 148, 113, 200, 221, 151, 235] = [198, 47, 116, 25, 63, 158, 239, 31, 62, 159, 75, 249, 164, 115, 224, 83, 250, 163, 149, 25, 17, 151, 79, 6, 13, 2, 146, 192, 174, 43, 116, 114] := by kernel_rfl
theorem run_4 : runF (List.replicate 31 false) [198, 47, 116, 25, 63, 158, 239, 31, 62, 159, 75, 249, 164, 115, 224, 83, 250, 163, 149, 25, 17, 151, 79, 6, 13, 2, 146, 192, 174, 43, 116, 114] = [241, 200, 91, 162, 37, 28, 47, 242, 37, 254, 28, 25, 158, 31, 46, 184, 34, 217, 197, 59, 118, 92, 199, 66, 242, 220, 26, 11, 215, 227, 119, 33] := by kernel_rfl
theorem run_5 : runF (List.replicate 31 false) [241, 200, 91, 162, 37, 28, 47, 242, 37, 254, 28, 25, 158, 31, 46, 184, 34, 217, 197, 59, 118, 92, 199, 66, 242, 220, 26, 11, 215, 227, 119, 33] = [136, 63, 125, 252, 138, 252, 57, 178, 37, 91, 90, 252, 94, 224, 106, 152, 211, 161, 203, 43, 13, 107, 177, 105, 11, 148, 235, 55, 255, 239, 23, 78] := by kernel_rfl
theorem run_6 : runF (List.replicate 31 false) [136, 63, 125, 252, 138, 252, 57, 178, 37, 91, 90, 252, 94, 224, 106, 152, 211, 161, 203, 43, 13, 107, 177, 105, 11, 148, 235, 55, 255, 239, 23, 78] = [94, 64, 200, 13, 72, 240, 45, 209, 97, 136, 168, 242, 170, 59, 100, 188, 254, 251, 105, 76, 70, 132, 73, 249, 6, 45, 247, 38, 166, 44, 241, 66] := by kernel_rfl
theorem run_7 : runF (List.replicate 31 false) [94, 64, 200, 13, 72, 240, 45, 209, 97, 136, 168, 242, 170, 59, 100, 188, 254, 251, 105, 76, 70, 132, 73, 249, 6, 45, 247, 38, 166, 44, 241, 66] = [61, 154, 16, 240, 87, 95, 45, 161, 216, 252, 108, 80, 229, 55, 218, 101, 208, 89, 106, 170, 15, 131, 203, 254, 115, 42, 58, 177, 26, 40, 128, 198] := by kernel_rfl
theorem run_8 : runF (List.replicate 31 false) [61, 154, 16, 240, 87, 95, 45, 161, 216, 252, 108, 80, 229, 55, 218, 101, 208, 89, 106, 170, 15, 131, 203, 254, 115, 42, 58, 177, 26, 40, 128, 198] = [195, 162, 239, 69, 61, 199, 128, 190, 186, 187, 167, 145, 173, 142, 105, 248, 18, 191, 132, 236, 140, 124, 145, 58, 149, 188, 188, 20, 62, 188, 68, 157] := by kernel_rfl
theorem run_9 : runF (true :: List.replicate 7 false) [195, 162, 239, 69, 61, 199, 128, 190, 186, 187, 167, 145, 173, 142, 105, 248, 18, 191, 132, 236, 140, 124, 145, 58, 149, 188, 188, 20, 62, 188, 68, 157] = [20, 73, 153, 86, 233, 54, 200, 240, 135, 61, 7, 183, 141, 95, 132, 96, 207, 134, 57, 108, 234, 115, 154, 208, 32, 229, 153, 198, 182, 24, 59, 102] := by kernel_rfl

theorem runF_snoc (b : Bool) : ∀ (xs : List Bool) (l : List Nat), runF (xs ++ [b]) l = upF b (runF xs l)
  | [], l => by simp only [List.nil_append, runF, forceL_eq]
  | x :: xs, l => by simp only [List.cons_append, runF, forceL_eq, runF_snoc b xs]
theorem runF_append (ys : List Bool) : ∀ (xs : List Bool) (l : List Nat), runF (xs ++ ys) l = runF ys (runF xs l)
  | [], l => rfl
  | x :: xs, l => by simp only [List.cons_append, runF, forceL_eq, runF_append ys xs]
theorem nzF_zero {h : Hsh} (e : nzF h.l = false) : h = zeroH := by
  refine Hsh.ext' (List.eq_replicate_iff.2 ⟨h.len, fun x hx => ?_⟩)
  have := List.any_eq_false.1 e x hx
  simp only [Bool.not_eq_true, Bool.not_eq_false'] at this
  exact Nat.eq_of_beq_eq_true this
theorem nzF_ne {h : Hsh} (e : nzF h.l = true) : h ≠ zeroH := by
  rintro rfl
  have : nzF zeroH.l = false := by decide
  rw [this] at e; cases e
def upH (b : Bool) (h : Hsh) : Hsh := match b with
  | false => aboveH h zeroH
  | true => aboveH zeroH h
theorem upF_eq (b : Bool) (h : Hsh) : (upH b h).l = upF b h.l := by
  unfold upF
  cases e : nzF h.l with
  | false =>
    obtain rfl := nzF_zero e
    have h0 : aboveH zeroH zeroH = zeroH := by unfold aboveH; rw [if_pos ⟨rfl, rfl⟩]
    cases b
    · show (aboveH zeroH zeroH).l = zL; rw [h0]; rfl
    · show (aboveH zeroH zeroH).l = zL; rw [h0]; rfl
  | true =>
    have hn := nzF_ne e
    cases b
    · show (aboveH h zeroH).l = shaF (msgF pairT h.l zL)
      rw [aboveH, if_neg (fun c => hn c.1), pair_eq]; rfl
    · show (aboveH zeroH h).l = shaF (msgF pairT zL h.l)
      rw [aboveH, if_neg (fun c => hn c.2), pair_eq]; rfl
theorem mk_hash (l r : Tree) : (Tree.mk l r).hash = aboveH l.hash r.hash := by
  by_cases h : l = .nil ∧ r = .nil
  · obtain ⟨rfl, rfl⟩ := h
    show zeroH = aboveH zeroH zeroH
    rw [aboveH, if_pos ⟨rfl, rfl⟩]
  · rw [Tree.mk_node h]; rfl
theorem hash_run {k v : Hsh} (hv : v ≠ zeroH) : ∀ n, n ≤ 256 → (tput k v n .nil).hash.l = runF ((List.range n).map fun i => decide (bitOf k (255 - i) ≠ 0)) (leafH k v).l
  | 0, _ => by rw [tput, if_neg hv]; rfl
  | n + 1, hn => by
    have ih := hash_run (k := k) hv n (by omega)
    rw [List.range_succ, List.map_append, List.map_cons, List.map_nil, runF_snoc, ← ih, ← upF_eq, tput, show 256 - (n + 1) = 255 - n by omega]
    by_cases hb : bitOf k (255 - n) = 0
    · rw [if_pos hb, mk_hash]; simp only [hb, ne_eq, not_true_eq_false, decide_false]; rfl
    · rw [if_neg hb, mk_hash]; simp only [hb, ne_eq, not_false_eq_true, decide_true]; rfl
def path1 : List Bool := (List.replicate 31 false) ++ (List.replicate 31 false) ++ (List.replicate 31 false) ++ (List.replicate 31 false) ++ (List.replicate 31 false) ++ (List.replicate 31 false) ++ (List.replicate 31 false) ++ (List.replicate 31 false) ++ (true :: List.replicate 7 false)
theorem path_eq : ((List.range 256).map fun i => decide (bitOf h1 (255 - i) ≠ 0)) = path1 := by kernel_rfl
theorem knows_val : (tput h1 h2 256 .nil).hash ≠ zeroH := by
  refine nzF_ne ?_
  have hl : (leafH h1 h2).l = shaF (msgF leafT h1.l h2.l) := by rw [leafH, if_neg h2_ne, leaf_eq]
  rw [hash_run h2_ne 256 (Nat.le_refl _), path_eq, hl, run_leaf, path1]
  rw [runF_append, runF_append, runF_append, runF_append, runF_append, runF_append, runF_append, runF_append, run_1, run_2, run_3, run_4, run_5, run_6, run_7, run_8, run_9]
  decide
end Go.Proofs.YtjimjolfnimimaaDoor
