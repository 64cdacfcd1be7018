/- Walks: the program's digests. -/
import Derived.Test.YtcaafoibabijgaaFacts
set_option linter.unusedSimpArgs false
set_option linter.unusedVariables false
/- smt.bit, digest.turn, digest.eight. -/
namespace Go.Proofs.Ytcaafoibabijgaa
open Go Go.Am
set_option maxRecDepth 100000
attribute [local irreducible] Sy
set_option linter.unusedVariables false

def rotr (x n : Nat) : Nat := x >>> n ||| (x <<< (32 - n)) % 4294967296
end Go.Proofs.Ytcaafoibabijgaa

/- digest.block: SHA-256's block. -/
namespace Go.Proofs.Ytcaafoibabijgaa
open Go Go.Am
set_option maxRecDepth 100000
attribute [local irreducible] Sy
set_option linter.unusedVariables false

def M32 : Nat := 4294967296
def wordAt (g : Nat → Nat) (i : Nat) : Nat :=
  ((((g (4 * i)) <<< 24) % M32 ||| ((g (4 * i + 1)) <<< 16) % M32) ||| ((g (4 * i + 2)) <<< 8) % M32) ||| g (4 * i + 3)
def nextW (w : List Nat) (i : Nat) : Nat :=
  (((w.getD (i - 16) 0 + ((rotr (w.getD (i - 15) 0) 7 ^^^ rotr (w.getD (i - 15) 0) 18) ^^^ (w.getD (i - 15) 0) >>> 3)) % M32 + w.getD (i - 7) 0) % M32 + ((rotr (w.getD (i - 2) 0) 17 ^^^ rotr (w.getD (i - 2) 0) 19) ^^^ (w.getD (i - 2) 0) >>> 10)) % M32
def sched (g : Nat → Nat) : Nat → List Nat
  | 0 => List.replicate 64 0
  | i + 1 => (sched g i).set i (if i < 16 then wordAt g i else nextW (sched g i) i)
@[simp] theorem sched_length (g : Nat → Nat) : ∀ i, (sched g i).length = 64
  | 0 => by simp [sched]
  | i + 1 => by simp [sched, sched_length g i]
theorem wordAt_lt {g : Nat → Nat} (h : ∀ i, g i < 256) (i : Nat) : wordAt g i < 4294967296 := by
  have h3 : g (4 * i + 3) < 4294967296 := Nat.lt_trans (h _) (by decide)
  exact w_lt_or (w_lt_or (w_lt_or (w_lt_mod _) (w_lt_mod _)) (w_lt_mod _)) h3
structure S8 where
  a : Nat
  b : Nat
  c : Nat
  d : Nat
  e : Nat
  f : Nat
  g : Nat
  h : Nat
def S8.l (s : S8) : List Nat := [s.a, s.b, s.c, s.d, s.e, s.f, s.g, s.h]
def S8.ok (s : S8) : Prop := s.a < 4294967296 ∧ s.b < 4294967296 ∧ s.c < 4294967296 ∧ s.d < 4294967296 ∧ s.e < 4294967296 ∧ s.f < 4294967296 ∧ s.g < 4294967296 ∧ s.h < 4294967296
/-- The constants of the rounds. -/
def sK : List Nat := [1116352408, 1899447441, 3049323471, 3921009573, 961987163, 1508970993, 2453635748, 2870763221, 3624381080, 310598401, 607225278, 1426881987, 1925078388, 2162078206, 2614888103, 3248222580, 3835390401, 4022224774, 264347078, 604807628, 770255983, 1249150122, 1555081692, 1996064986, 2554220882, 2821834349, 2952996808, 3210313671, 3336571891, 3584528711, 113926993, 338241895, 666307205, 773529912, 1294757372, 1396182291, 1695183700, 1986661051, 2177026350, 2456956037, 2730485921, 2820302411, 3259730800, 3345764771, 3516065817, 3600352804, 4094571909, 275423344, 430227734, 506948616, 659060556, 883997877, 958139571, 1322822218, 1537002063, 1747873779, 1955562222, 2024104815, 2227730452, 2361852424, 2428436474, 2756734187, 3204031479, 3329325298]
/-- One block more. -/
def addS (s t : S8) : S8 := ⟨(s.a + t.a) % M32, (s.b + t.b) % M32, (s.c + t.c) % M32, (s.d + t.d) % M32, (s.e + t.e) % M32, (s.f + t.f) % M32, (s.g + t.g) % M32, (s.h + t.h) % M32⟩
/-- Rows added, the first i places. -/
def addN (a b : List Nat) : Nat → List Nat
  | 0 => a
  | i + 1 => (addN a b i).set i (((addN a b i).getD i 0 + b.getD i 0) % M32)
@[simp] theorem addN_length (a b : List Nat) : ∀ i, (addN a b i).length = a.length
  | 0 => rfl
  | i + 1 => by simp [addN, addN_length a b i]
theorem addN_all (s t : S8) : addN s.l t.l 8 = (addS s t).l := rfl
end Go.Proofs.Ytcaafoibabijgaa

namespace Go.Proofs.Ytcaafoibabijgaa
open Go Go.Am
set_option maxRecDepth 100000
attribute [local irreducible] Sy
set_option linter.unusedVariables false

end Go.Proofs.Ytcaafoibabijgaa

/- digest.eight, digest.Sum: SHA-256. -/
namespace Go.Proofs.Ytcaafoibabijgaa
open Go Go.Am
set_option maxRecDepth 100000
set_option linter.unusedVariables false

def beN (n : Nat) : Nat → List Nat
  | 0 => List.replicate 8 0
  | i + 1 => (beN n i).set i ((n >>> (56 - 8 * i)) % 256)
@[simp] theorem beN_length (n : Nat) : ∀ i, (beN n i).length = 8
  | 0 => rfl
  | i + 1 => by simp [beN, beN_length n i]
def be64 (n : Nat) : List Nat := beN n 8
@[simp] theorem be64_length (n : Nat) : (be64 n).length = 8 := beN_length n 8
theorem beN_lt (n : Nat) : ∀ i, ∀ x ∈ beN n i, x < 256
  | 0, x, h => by rw [List.eq_of_mem_replicate h]; decide
  | i + 1, x, h => by
    rcases List.mem_or_eq_of_mem_set h with h | h
    · exact beN_lt n i x h
    · rw [h]; exact Nat.mod_lt _ (by decide)

/-- The state after k blocks of a row. -/
def s0S : S8 := ⟨1779033703, 3144134277, 1013904242, 2773480762, 1359893119, 2600822924, 528734635, 1541459225⟩
/-- What SHA-256 lays behind a row, up to whole blocks. -/
def padN (l : List Nat) : List Nat := l ++ [128] ++ List.replicate ((64 - (l.length + 9) % 64) % 64) 0 ++ be64 ((8 * l.length) % 18446744073709551616)
/-- A state's bytes. -/
def outN (s : List Nat) : Nat → List Nat
  | 0 => List.replicate 32 0
  | i + 1 => (outN s i).set i ((s.getD (i / 4) 0 >>> (24 - 8 * (i % 4))) % 256)
@[simp] theorem outN_length (s : List Nat) : ∀ i, (outN s i).length = 32
  | 0 => rfl
  | i + 1 => by simp [outN, outN_length s i]
theorem outN_lt (s : List Nat) : ∀ i, ∀ x ∈ outN s i, x < 256
  | 0, x, h => by rw [List.eq_of_mem_replicate h]; decide
  | i + 1, x, h => by
    rcases List.mem_or_eq_of_mem_set h with h | h
    · exact outN_lt s i x h
    · rw [h]; exact Nat.mod_lt _ (by decide)
end Go.Proofs.Ytcaafoibabijgaa

/- digest.Sum. -/
namespace Go.Proofs.Ytcaafoibabijgaa
open Go Go.Am
set_option maxRecDepth 100000
set_option linter.unusedVariables false

end Go.Proofs.Ytcaafoibabijgaa

/- digest.Frame, Tagged, Pair. -/
namespace Go.Proofs.Ytcaafoibabijgaa
open Go Go.Am
set_option maxRecDepth 100000
set_option linter.unusedVariables false

def bytesOf (s : ByteArray) : List Nat := s.data.toList.map UInt8.toNat
theorem _root_.Go.Am.SlR.two {H : AHeap} {sz m : Nat} {x : Value} {l : List Value} (h : SlR H sz x m l) : (x = .slice none 0 0 ∧ m = 0 ∧ l = []) ∨ ∃ (b o c : Nat), x = .slice (some ⟨b, o, none⟩) m c := by
  cases h with
  | nil => exact .inl ⟨rfl, rfl, rfl⟩
  | emp => exact .inr ⟨_, _, _, rfl⟩
  | mk h1 h2 h3 => exact .inr ⟨_, _, _, rfl⟩

theorem _root_.Go.Am.SlR.of {H0 H : AHeap} {lo hi : Nat} {Mn : Hm} {sz m : Nat} {x : Value} {l : List Value} (h : SlR H0 sz x m l) (hp : Hp H0 lo hi H [] Mn) : SlR H sz x m l := by
  cases h with
  | nil => exact .nil
  | emp => exact .emp
  | mk h1 h2 h3 => exact .mk (hp.get0 h1 rfl (by simp)) h2 h3

end Go.Proofs.Ytcaafoibabijgaa

/- digest.Tagged, digest.Pair, smt.none, smt.Leaf, smt.Above. -/
namespace Go.Proofs.Ytcaafoibabijgaa
open Go Go.Am
set_option maxRecDepth 100000
set_option linter.unusedVariables false

/-- The two tables of the program. -/
structure Gl (H : AHeap) : Prop where
  f : ∃ T, H.get 0 = .cells (ints .u32 s0S.l) T false
  k : ∃ T, H.get 1 = .cells (ints .u32 sK) T false
theorem Gl.of {H0 H : AHeap} {lo hi : Nat} {Mo Mn : Hm} (g : Gl H0) (hp : Hp H0 lo hi H Mo Mn) (hm : ∀ p ∈ Mo, p.1 ≠ 0 ∧ p.1 ≠ 1) : Gl H := by
  obtain ⟨⟨T, h⟩, ⟨T', h'⟩⟩ := g
  exact ⟨⟨T, hp.get0 h rfl fun p q => (hm p q).1⟩, ⟨T', hp.get0 h' rfl fun p q => (hm p q).2⟩⟩

end Go.Proofs.Ytcaafoibabijgaa
