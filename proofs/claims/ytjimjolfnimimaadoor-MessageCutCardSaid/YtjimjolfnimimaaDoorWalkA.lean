/- Walks: the program's digests. -/
import Derived.Test.YtjimjolfnimimaaDoorFacts
set_option linter.unusedSimpArgs false
set_option linter.unusedVariables false
/- smt.bit, digest.turn, digest.eight. -/
namespace Go.Proofs.YtjimjolfnimimaaDoor
open Go Go.Am
set_option maxRecDepth 100000
attribute [local irreducible] Sy
set_option linter.unusedVariables false

theorem shr_lt {x k m : Nat} (h : x < m) : x >>> k < m := Nat.lt_of_le_of_lt (Nat.shiftRight_le _ _) h

def rotr (x n : Nat) : Nat := x >>> n ||| (x <<< (32 - n)) % 4294967296
theorem c_turn (x n : Nat) (hx : x < 4294967296) (hn : n ≤ 32) (H : AHeap) :
    CallR Tryd.prog noPrims 133 [.int .u32 x, .int .i64 n] H (fun v H' => v = .int .u32 ((rotr x n : Nat) : Int) ∧ Hp H 0 0 H' [] []) := by
  have h1 : x >>> n < 4294967296 := shr_lt hx
  refine CallR.sy (n := 13) Tryd.func133 rfl rfl rfl ?_
  repeat' (first
    | (with_reducible refine Sy.seq ?_)
    | (with_reducible refine Sy.regionL ?_)
    | (with_reducible refine Sy.opsnil ?_)
    | (with_reducible refine Sy.go ?_)
    | (with_reducible refine Sy.nrm ?_)
    | ((with_reducible apply Sy.assign); exact rfl; exact rfl)
    | ((with_reducible apply Sy.move); exact rfl; exact rfl)
    | ((with_reducible apply Sy.bin (op := .shr) (t := 189)); exact rfl; exact rfl; exact rfl; exact (b_shr32 (by omega)))
    | ((with_reducible apply Sy.bin (op := .sub) (t := 3)); exact rfl; exact rfl; exact rfl; exact (b_sub (by omega) (by omega)))
    | ((with_reducible apply Sy.bin (op := .sub) (t := 3)); exact rfl; exact rfl; exact rfl; exact (bz_sub (by omega) (by omega)))
    | ((with_reducible apply Sy.bin (op := .shl) (t := 189)); exact rfl; exact rfl; exact rfl; exact (u32_shl (by omega)))
    | ((with_reducible apply Sy.bin (op := .or) (t := 189)); exact rfl; exact rfl; exact rfl; (· exact (u32_or (by first | with_reducible assumption | (with_reducible exact w_lt_mod _)) (by first | with_reducible assumption | (with_reducible exact w_lt_mod _)))))
    | (with_reducible refine Sy.ret ?_)
    | ((with_reducible apply Sy.drawL (id := 1) 9 [] (fun hi h => h < hi)); (case hp => kernel_rfl); (case hN => exact rfl); intro base hbase hM; try simp only [List.forall_mem_cons, List.forall_mem_append, List.not_mem_nil, false_implies, implies_true, and_true] at hM)
    | (with_reducible refine Sy.dend ?_)
    | ((with_reducible apply Sy.dgo); (· first | exact wantY_none); (· intro hcls; cases hcls); exact rfl; exact rfl))
  exact .fin [_] (.inr rfl) ⟨rfl, trivial⟩ fun H' hp => ⟨rfl, hp.less (List.nil_sublist _)⟩
end Go.Proofs.YtjimjolfnimimaaDoor

/- digest.block: SHA-256's block. -/
namespace Go.Proofs.YtjimjolfnimimaaDoor
open Go Go.Am
set_option maxRecDepth 100000
attribute [local irreducible] Sy
set_option linter.unusedVariables false

theorem rotr_lt {x n : Nat} (h : x < 4294967296) : rotr x n < 4294967296 := by
  have h1 : x >>> n < 2 ^ 32 := Nat.lt_of_le_of_lt (Nat.shiftRight_le _ _) h
  have h2 : (x <<< (32 - n)) % 4294967296 < 2 ^ 32 := Nat.mod_lt _ (by decide)
  exact Nat.or_lt_two_pow h1 h2

def M32 : Nat := 4294967296
def wordAt (g : Nat → Nat) (i : Nat) : Nat :=
  ((((g (4 * i)) <<< 24) % M32 ||| ((g (4 * i + 1)) <<< 16) % M32) ||| ((g (4 * i + 2)) <<< 8) % M32) ||| g (4 * i + 3)
def nextW (w : List Nat) (i : Nat) : Nat :=
  (((w.getD (i - 16) 0 + ((rotr (w.getD (i - 15) 0) 7 ^^^ rotr (w.getD (i - 15) 0) 18) ^^^ (w.getD (i - 15) 0) >>> 3)) % M32 + w.getD (i - 7) 0) % M32 + ((rotr (w.getD (i - 2) 0) 17 ^^^ rotr (w.getD (i - 2) 0) 19) ^^^ (w.getD (i - 2) 0) >>> 10)) % M32
def sched (g : Nat → Nat) : Nat → List Nat
  | 0 => List.replicate 64 0
  | i + 1 => (sched g i).set i (if i < 16 then wordAt g i else nextW (sched g i) i)
theorem sched_lo {g : Nat → Nat} {i : Nat} (h : i < 16) : sched g (i + 1) = (sched g i).set i (wordAt g i) := by simp [sched, h]
theorem sched_hi {g : Nat → Nat} {i : Nat} (h : ¬ i < 16) : sched g (i + 1) = (sched g i).set i (nextW (sched g i) i) := by simp [sched, h]

@[simp] theorem sched_length (g : Nat → Nat) : ∀ i, (sched g i).length = 64
  | 0 => by simp [sched]
  | i + 1 => by simp [sched, sched_length g i]
theorem wordAt_lt {g : Nat → Nat} (h : ∀ i, g i < 256) (i : Nat) : wordAt g i < 4294967296 := by
  have h3 : g (4 * i + 3) < 4294967296 := Nat.lt_trans (h _) (by decide)
  exact w_lt_or (w_lt_or (w_lt_or (w_lt_mod _) (w_lt_mod _)) (w_lt_mod _)) h3
theorem sched_lt {g : Nat → Nat} (h : ∀ i, g i < 256) : ∀ i j, (sched g i).getD j 0 < 4294967296
  | 0, j => by
    simp only [sched, List.getD]
    rcases Nat.lt_or_ge j 64 with h1 | h1
    · rw [List.getElem?_replicate, if_pos h1]; decide
    · rw [List.getElem?_eq_none (by simpa using h1)]; decide
  | i + 1, j => by
    simp only [sched, List.getD, List.getElem?_set]
    split
    · split
      · simp only [Option.getD_some]
        split
        · exact wordAt_lt h i
        · exact w_lt_mod _
      · decide
    · exact sched_lt h i j

structure S8 where
  a : Nat
  b : Nat
  c : Nat
  d : Nat
  e : Nat
  f : Nat
  g : Nat
  h : Nat
def S8.l (s : S8) : List Nat := [s.a, s.b, s.c, s.d, s.e, s.f, s.g, s.h]
def rt1 (k x : Nat) (s : S8) : Nat :=
  ((((s.h + ((rotr s.e 6 ^^^ rotr s.e 11) ^^^ rotr s.e 25)) % M32 + ((s.e &&& s.f) ^^^ ((4294967295 ^^^ s.e) &&& s.g))) % M32 + k) % M32 + x) % M32
def rt2 (s : S8) : Nat := (((rotr s.a 2 ^^^ rotr s.a 13) ^^^ rotr s.a 22) + (((s.a &&& s.b) ^^^ (s.a &&& s.c)) ^^^ (s.b &&& s.c))) % M32
def rnd (k x : Nat) (s : S8) : S8 := ⟨(rt1 k x s + rt2 s) % M32, s.a, s.b, s.c, (s.d + rt1 k x s) % M32, s.e, s.f, s.g⟩
def rndN (ks ws : List Nat) (s : S8) : Nat → S8
  | 0 => s
  | i + 1 => rnd (ks.getD i 0) (ws.getD i 0) (rndN ks ws s i)
def S8.ok (s : S8) : Prop := s.a < 4294967296 ∧ s.b < 4294967296 ∧ s.c < 4294967296 ∧ s.d < 4294967296 ∧ s.e < 4294967296 ∧ s.f < 4294967296 ∧ s.g < 4294967296 ∧ s.h < 4294967296
theorem rnd_ok {k x : Nat} {s : S8} (h : s.ok) : (rnd k x s).ok := ⟨w_lt_mod _, h.1, h.2.1, h.2.2.1, w_lt_mod _, h.2.2.2.2.1, h.2.2.2.2.2.1, h.2.2.2.2.2.2.1⟩
theorem rndN_ok {ks ws : List Nat} {s : S8} (h : s.ok) : ∀ i, (rndN ks ws s i).ok
  | 0 => h
  | i + 1 => rnd_ok (rndN_ok h i)

/-- The constants of the rounds. -/
def sK : List Nat := [1116352408, 1899447441, 3049323471, 3921009573, 961987163, 1508970993, 2453635748, 2870763221, 3624381080, 310598401, 607225278, 1426881987, 1925078388, 2162078206, 2614888103, 3248222580, 3835390401, 4022224774, 264347078, 604807628, 770255983, 1249150122, 1555081692, 1996064986, 2554220882, 2821834349, 2952996808, 3210313671, 3336571891, 3584528711, 113926993, 338241895, 666307205, 773529912, 1294757372, 1396182291, 1695183700, 1986661051, 2177026350, 2456956037, 2730485921, 2820302411, 3259730800, 3345764771, 3516065817, 3600352804, 4094571909, 275423344, 430227734, 506948616, 659060556, 883997877, 958139571, 1322822218, 1537002063, 1747873779, 1955562222, 2024104815, 2227730452, 2361852424, 2428436474, 2756734187, 3204031479, 3329325298]
theorem sK_len : sK.length = 64 := rfl
theorem sK_lt (j : Nat) : sK.getD j 0 < 4294967296 := by
  rcases Nat.lt_or_ge j 64 with h | h
  · have : ∀ j : Fin 64, sK.getD j.1 0 < 4294967296 := by decide
    exact this ⟨j, h⟩
  · simp only [List.getD]
    rw [List.getElem?_eq_none (by simpa [sK_len] using h)]; decide

/-- One block more. -/
def addS (s t : S8) : S8 := ⟨(s.a + t.a) % M32, (s.b + t.b) % M32, (s.c + t.c) % M32, (s.d + t.d) % M32, (s.e + t.e) % M32, (s.f + t.f) % M32, (s.g + t.g) % M32, (s.h + t.h) % M32⟩
def blockS (g : Nat → Nat) (s : S8) : S8 := addS s (rndN sK (sched g 64) s 64)
theorem blockS_ok (g : Nat → Nat) (s : S8) : (blockS g s).ok := ⟨w_lt_mod _, w_lt_mod _, w_lt_mod _, w_lt_mod _, w_lt_mod _, w_lt_mod _, w_lt_mod _, w_lt_mod _⟩
/-- Rows added, the first i places. -/
def addN (a b : List Nat) : Nat → List Nat
  | 0 => a
  | i + 1 => (addN a b i).set i (((addN a b i).getD i 0 + b.getD i 0) % M32)
@[simp] theorem addN_length (a b : List Nat) : ∀ i, (addN a b i).length = a.length
  | 0 => rfl
  | i + 1 => by simp [addN, addN_length a b i]
theorem addN_all (s t : S8) : addN s.l t.l 8 = (addS s t).l := rfl
end Go.Proofs.YtjimjolfnimimaaDoor

namespace Go.Proofs.YtjimjolfnimimaaDoor
open Go Go.Am
set_option maxRecDepth 100000
attribute [local irreducible] Sy
set_option linter.unusedVariables false

set_option maxHeartbeats 8000000 in
theorem c_block (hs hb ob n cp : Nat) (hn : 64 ≤ n) (lb : List Nat) (Tb : TypeId) (wb : Bool) (H : AHeap) (s : S8) (hok : s.ok) (Tk Ts : TypeId) (hgk : H.get 1 = .cells (ints .u32 sK) Tk false) (hgs : H.get hs = .cells (ints .u32 s.l) Ts true)
    (hgb : H.get hb = .cells (ints .u8 lb) Tb wb) (hlb : ob + 64 ≤ lb.length) (h256 : ∀ i, lb.getD i 0 < 256) :
    CallR Tryd.prog noPrims 122 [.pointer (some ⟨hs, 0, none⟩), .slice (some ⟨hb, ob, none⟩) n cp] H
      (fun v H' => v = .tuple #[] ∧ Hp H 0 0 H' [(hs, .cells (ints .u32 (blockS (fun j => lb.getD (ob + j) 0) s).l) Ts true)] []) := by
  generalize hg : (fun j => lb.getD (ob + j) 0) = g
  have h256' : ∀ i, g i < 256 := fun i => by subst hg; exact h256 _
  have hl8 : s.l.length = 8 := rfl
  refine CallR.sy (n := 218) Tryd.func122 rfl rfl rfl ?_
  repeat' (first
    | (with_reducible refine Sy.seq ?_)
    | (with_reducible refine Sy.regionL ?_)
    | (with_reducible refine Sy.opsnil ?_)
    | (with_reducible refine Sy.go ?_)
    | (with_reducible refine Sy.nrm ?_)
    | ((with_reducible apply Sy.move); exact rfl; exact rfl)
    | ((with_reducible apply Sy.newY (o := ⟨some 4, .alloc 195, _, _, _, _⟩)); exact rfl; exact rfl; exact nwz195; intro q4)
    | (with_reducible refine Sy.label ?_)
    | (with_reducible refine Sy.block ?_)
    | (with_reducible refine Sy.scope ?_))
  refine Sy.loop (ι := Nat) (fun i => 64 - i) (fun i => [(0, .pointer (some ⟨hs, 0, none⟩)), (1, .slice (some ⟨hb, ob, none⟩) n cp), (4, .pointer (some ⟨q4, 0, none⟩)), (22, .int .i64 (i : Nat))]) (fun _ => []) (fun i => [(q4, .cells (ints .u32 (sched g i)) 195 true)]) (fun i => i ≤ 64) 0 (by omega) ⟨rfl, rfl, rfl, rfl, trivial⟩ (fun H h => h) ?_
  intro i hi
  have e0 : lb.getD (ob + 4 * i) 0 < 256 := h256 _
  have e1 : lb.getD (ob + (4 * i + 1)) 0 < 256 := h256 _
  have e2 : lb.getD (ob + (4 * i + 2)) 0 < 256 := h256 _
  have e3 : lb.getD (ob + (4 * i + 3)) 0 < 256 := h256 _
  have hlen : (sched g i).length = 64 := sched_length g i
  have f15 := sched_lt h256' i (i - 15)
  have f2 := sched_lt h256' i (i - 2)
  have f16 := sched_lt h256' i (i - 16)
  have f7 := sched_lt h256' i (i - 7)
  have r1 := rotr_lt (n := 7) f15
  have r2 := rotr_lt (n := 18) f15
  have r3 := rotr_lt (n := 17) f2
  have r4 := rotr_lt (n := 19) f2
  repeat' (first
    | (with_reducible refine Sy.seq ?_)
    | (with_reducible refine Sy.regionL ?_)
    | (with_reducible refine Sy.opsnil ?_)
    | (with_reducible refine Sy.go ?_)
    | (with_reducible refine Sy.nrm ?_)
    | ((with_reducible apply Sy.move); exact rfl; exact rfl)
    | ((with_reducible apply Sy.bin (op := .lss) (t := 3)); exact rfl; exact rfl; exact rfl; exact b_lss)
    | ((with_reducible apply Sy.bin (op := .lss) (t := 3)); exact rfl; exact rfl; exact rfl; exact bz_lss)
    | ((with_reducible apply Sy.assign); exact rfl; exact rfl)
    | ((with_reducible apply Sy.bin (op := .mul) (t := 3)); exact rfl; exact rfl; exact rfl; exact (b_mul (by omega)))
    | ((with_reducible apply Sy.ia (t := 25)); exact rfl; exact rfl; exact rfl; exact (ia_sl10 Tryd.underlying25 sz5 (by omega)))
    | ((with_reducible apply Sy.ia (t := 25)); exact rfl; exact rfl; exact rfl; exact (ia_sl1 Tryd.underlying25 sz5 (by omega)))
    | ((with_reducible apply Sy.ldN (t := 5)); exact rfl; exact rfl; exact hasT; (· first | ((with_reducible refine ld_int ag5 ?_); first | omega)))
    | ((with_reducible apply Sy.ld0 (t := 5)); exact rfl; exact rfl; (· with_reducible assumption); exact rfl; exact notM; (· first | ((with_reducible refine ld_int ag5 ?_); first | omega)))
    | ((with_reducible apply Sy.conv (D := 0) (T := .bool)); exact rfl; exact Tryd.underlying5; exact Tryd.underlying189; exact rfl; exact (wrap_u32x (by omega)))
    | ((with_reducible apply Sy.conv (D := 0) (T := .bool)); exact rfl; exact Tryd.underlying5; exact Tryd.underlying189; exact rfl; exact wrap_u32 _)
    | ((with_reducible apply Sy.bin (op := .shl) (t := 189)); exact rfl; exact rfl; exact rfl; exact (u32_shl (by omega)))
    | ((with_reducible apply Sy.bin (op := .add) (t := 3)); exact rfl; exact rfl; exact rfl; exact (b_add (by omega)))
    | ((with_reducible apply Sy.bin (op := .add) (t := 3)); exact rfl; exact rfl; exact rfl; exact (bz_add (by omega) (by omega)))
    | ((with_reducible apply Sy.bin (op := .or) (t := 189)); exact rfl; exact rfl; exact rfl; (· exact (u32_or (by first | (with_reducible exact w_lt_mod _) | omega | (simp (maxDischargeDepth := 14) only [w_lt_mod, w_lt_and, w_lt_or, w_lt_xor, w_lt_shr, w_lt_not, Nat.reduceLT, *]; done)) (by first | (with_reducible exact w_lt_mod _) | omega | (simp (maxDischargeDepth := 14) only [w_lt_mod, w_lt_and, w_lt_or, w_lt_xor, w_lt_shr, w_lt_not, Nat.reduceLT, *]; done)))))
    | ((with_reducible apply Sy.ia (t := 195)); exact rfl; exact rfl; exact rfl; exact (ia_ar10 Tryd.underlying195 sz189 (by omega)))
    | ((with_reducible apply Sy.ia (t := 195)); exact rfl; exact rfl; exact rfl; exact (ia_ar1 Tryd.underlying195 sz189 (by omega)))
    | ((with_reducible apply Sy.stN1 (t := 189)); exact rfl; exact rfl; exact sz189; (· first | exact rfl | exact accV_cells); (· first | exact rfl | exact accV_oneL); exact turnT; (· first | (simp; omega)); (· first | with_reducible exact ints_set _ _ _ _))
    | ((with_reducible apply Sy.bin (op := .sub) (t := 3)); exact rfl; exact rfl; exact rfl; exact (b_sub (by omega) (by omega)))
    | ((with_reducible apply Sy.bin (op := .sub) (t := 3)); exact rfl; exact rfl; exact rfl; exact (bz_sub (by omega) (by omega)))
    | ((with_reducible apply Sy.ldN (t := 189)); exact rfl; exact rfl; exact hasT; (· first | ((with_reducible refine ld_int ag189 ?_); first | omega)))
    | ((with_reducible apply Sy.ld0 (t := 189)); exact rfl; exact rfl; (· with_reducible assumption); exact rfl; exact notM; (· first | ((with_reducible refine ld_int ag189 ?_); first | omega)))
    | ((with_reducible apply Sy.bin (op := .xor) (t := 189)); exact rfl; exact rfl; exact rfl; (· exact (u32_xor (by first | with_reducible assumption | omega | (simp (maxDischargeDepth := 14) only [w_lt_mod, w_lt_and, w_lt_or, w_lt_xor, w_lt_shr, w_lt_not, Nat.reduceLT, *]; done)) (by first | with_reducible assumption | omega | (simp (maxDischargeDepth := 14) only [w_lt_mod, w_lt_and, w_lt_or, w_lt_xor, w_lt_shr, w_lt_not, Nat.reduceLT, *]; done)))))
    | ((with_reducible apply Sy.bin (op := .shr) (t := 189)); exact rfl; exact rfl; exact rfl; exact (b_shr32 (by omega)))
    | ((with_reducible apply Sy.bin (op := .add) (t := 189)); exact rfl; exact rfl; exact rfl; exact u32_add)
    | ((with_reducible apply Sy.nilC); exact rfl; exact rfl; exact rfl)
    | ((with_reducible apply Sy.ia (t := 191)); exact rfl; exact rfl; exact rfl; exact (ia_ar10 Tryd.underlying191 sz189 (by omega)))
    | ((with_reducible apply Sy.ia (t := 191)); exact rfl; exact rfl; exact rfl; exact (ia_ar1 Tryd.underlying191 sz189 (by omega)))
    | ((with_reducible apply Sy.ldN (t := 195)); exact rfl; exact rfl; exact hasT; (· first | exact ld_all ag195 (by first | (simp [sz195, *]; done))))
    | ((with_reducible apply Sy.ld0 (t := 195)); exact rfl; exact rfl; (· with_reducible assumption); exact rfl; exact notM; (· first | exact ld_all ag195 (by first | exact sz195 | (simp [sz195, *]; done)) | exact ld_agg ag195 sz195 (by first | (simp; done) | (simp; omega)) (by first | with_reducible exact cut_kids | rfl | (simp [List.drop_append, List.take_append, List.getElem?_append, lay, hC_length, ints_length, ints_drop, ints_take, ints_append, List.drop_of_length_le, List.take_of_length_le, List.map_append, List.set_append, Value.cells]; done))))
    | ((with_reducible apply Sy.dcall0 (k := 133)); (first | exact wantY_none); exact rfl; (intro h hh; first | exact hh | (subst hh; omega)); exact rfl; exact rfl; exact rfl; exact en133; exact rfl; (intro H' hp; exact c_turn _ _ (by with_reducible assumption) (by omega) H'))
    | (with_reducible refine Sy.skip ?_)
    | (with_reducible refine Sy.exit ?_)
    | (with_reducible refine Sy.block ?_)
    | (with_reducible refine Sy.aex ?_)
    | (with_reducible refine Sy.inrm ?_)
    | ((with_reducible apply Sy.iex); exact rfl)
    | (with_reducible refine Sy.rex ?_)
    | ((with_reducible apply Sy.drawL (id := 5) 36 [] (fun hi h => h < hi)); (case hp => kernel_rfl); (case hN => exact rfl); intro base hbase hM; try simp only [List.forall_mem_cons, List.forall_mem_append, List.not_mem_nil, false_implies, implies_true, and_true] at hM)
    | ((with_reducible apply Sy.drawL (id := 6) 10 [] (fun hi h => h < hi)); (case hp => kernel_rfl); (case hN => exact rfl); intro base hbase hM; try simp only [List.forall_mem_cons, List.forall_mem_append, List.not_mem_nil, false_implies, implies_true, and_true] at hM)
    | ((with_reducible apply Sy.drawL (id := 7) 30 [(4, 6), (17, 6), (4, 8), (17, 8), (4, 20), (17, 20), (4, 22), (17, 22)] (fun hi h => h < hi)); (case hp => kernel_rfl); (case hN => exact rfl); intro base hbase hM; try simp only [List.forall_mem_cons, List.forall_mem_append, List.not_mem_nil, false_implies, implies_true, and_true] at hM)
    | ((with_reducible apply Sy.drawL (id := 9) 40 [] (fun hi h => h < hi)); (case hp => kernel_rfl); (case hN => exact rfl); intro base hbase hM; try simp only [List.forall_mem_cons, List.forall_mem_append, List.not_mem_nil, false_implies, implies_true, and_true] at hM)
    | ((with_reducible apply Sy.drawL (id := 20) 10 [] (fun hi h => h < hi)); (case hp => kernel_rfl); (case hN => exact rfl); intro base hbase hM; try simp only [List.forall_mem_cons, List.forall_mem_append, List.not_mem_nil, false_implies, implies_true, and_true] at hM)
    | (with_reducible refine Sy.dend ?_)
    | ((with_reducible apply Sy.dgo); (· first | exact wantY_none); (· intro hcls; cases hcls); exact rfl; exact rfl)
    | ((with_reducible apply Sy.dld); (· first | exact wantY_none); exact rfl; (· first | omega | exact rfl); exact rfl)
    | ((with_reducible apply Sy.ite); (case hx => exact rfl); all_goals (intro hc; try (exfalso; omega))))
  · refine Sy.rnrm (i + 1) (by omega) (by omega) ⟨rfl, rfl, rfl, rfl, trivial⟩ (fun H h => ?_)
    rw [sched_lo (by assumption)]; subst hg; exact h
  · refine Sy.rnrm (i + 1) (by omega) (by omega) ⟨rfl, rfl, rfl, rfl, trivial⟩ (fun H h => ?_)
    rw [sched_hi (by assumption)]; exact h
  · obtain rfl : i = 64 := by omega
    have hw : ∀ i, (sched g 64).getD i 0 < 4294967296 := sched_lt h256' 64
    have hwl : (sched g 64).length = 64 := sched_length g 64
    obtain ⟨oa, ob', oc, od, oe, of', og, oh⟩ := hok
    refine Sy.loop (ι := Nat) (fun i => 64 - i) (fun i => [(0, .pointer (some ⟨hs, 0, none⟩)), (132, .agg ⟨ints .u32 (sched g 64)⟩), (133, .int .i64 (i : Nat)), (8, .int .u32 ((rndN sK (sched g 64) s i).a : Nat)), (9, .int .u32 ((rndN sK (sched g 64) s i).b : Nat)), (10, .int .u32 ((rndN sK (sched g 64) s i).c : Nat)), (11, .int .u32 ((rndN sK (sched g 64) s i).d : Nat)),
      (12, .int .u32 ((rndN sK (sched g 64) s i).e : Nat)), (13, .int .u32 ((rndN sK (sched g 64) s i).f : Nat)), (14, .int .u32 ((rndN sK (sched g 64) s i).g : Nat)), (15, .int .u32 ((rndN sK (sched g 64) s i).h : Nat))]) (fun _ => []) (fun i => []) (fun i => i ≤ 64) 0 (by omega) ⟨rfl, rfl, rfl, rfl, rfl, rfl, rfl, rfl, rfl, rfl, rfl, trivial⟩ (fun H h => h.less (List.nil_sublist _)) ?_
    intro i hi
    obtain ⟨va, vb, vc, vd, ve, vf, vg, vh⟩ := rndN_ok (ks := sK) (ws := sched g 64) (s := s) ⟨oa, ob', oc, od, oe, of', og, oh⟩ i
    have hw1 := hw i
    have hk1 := sK_lt i
    have hk2 : sK.length = 64 := rfl
    generalize hR : rndN sK (sched g 64) s i = R at *
    have x1 := rotr_lt (n := 6) ve
    have x2 := rotr_lt (n := 11) ve
    have x3 := rotr_lt (n := 25) ve
    have x4 := rotr_lt (n := 2) va
    have x5 := rotr_lt (n := 13) va
    have x6 := rotr_lt (n := 22) va
    have h1n : 1 < H.next := get_live_lt (by rw [hgk]; rfl)
    repeat' (first
    | (with_reducible refine Sy.seq ?_)
    | (with_reducible refine Sy.regionL ?_)
    | (with_reducible refine Sy.opsnil ?_)
    | (with_reducible refine Sy.go ?_)
    | (with_reducible refine Sy.nrm ?_)
    | ((with_reducible apply Sy.move); exact rfl; exact rfl)
    | ((with_reducible apply Sy.bin (op := .lss) (t := 3)); exact rfl; exact rfl; exact rfl; exact b_lss)
    | ((with_reducible apply Sy.bin (op := .lss) (t := 3)); exact rfl; exact rfl; exact rfl; exact bz_lss)
    | ((with_reducible apply Sy.assign); exact rfl; exact rfl)
    | ((with_reducible apply Sy.ia (t := 25)); exact rfl; exact rfl; exact rfl; exact (ia_sl10 Tryd.underlying25 sz5 (by omega)))
    | ((with_reducible apply Sy.ia (t := 25)); exact rfl; exact rfl; exact rfl; exact (ia_sl1 Tryd.underlying25 sz5 (by omega)))
    | ((with_reducible apply Sy.ld0 (t := 5)); exact rfl; exact rfl; (· with_reducible assumption); exact rfl; exact notM; (· first | ((with_reducible refine ld_int ag5 ?_); first | omega)))
    | ((with_reducible apply Sy.bin (op := .add) (t := 3)); exact rfl; exact rfl; exact rfl; exact (b_add (by omega)))
    | ((with_reducible apply Sy.bin (op := .add) (t := 3)); exact rfl; exact rfl; exact rfl; exact (bz_add (by omega) (by omega)))
    | ((with_reducible apply Sy.ia (t := 195)); exact rfl; exact rfl; exact rfl; exact (ia_ar10 Tryd.underlying195 sz189 (by omega)))
    | ((with_reducible apply Sy.ia (t := 195)); exact rfl; exact rfl; exact rfl; exact (ia_ar1 Tryd.underlying195 sz189 (by omega)))
    | ((with_reducible apply Sy.ld0 (t := 189)); exact rfl; exact rfl; (· with_reducible assumption); exact rfl; exact notM; (· first | ((with_reducible refine ld_int ag189 ?_); first | omega)))
    | ((with_reducible apply Sy.bin (op := .xor) (t := 189)); exact rfl; exact rfl; exact rfl; (· exact (u32_xor (by first | with_reducible assumption | (simp (maxDischargeDepth := 14) only [w_lt_mod, w_lt_and, w_lt_or, w_lt_xor, w_lt_shr, w_lt_not, Nat.reduceLT, *]; done)) (by first | with_reducible assumption | (simp (maxDischargeDepth := 14) only [w_lt_mod, w_lt_and, w_lt_or, w_lt_xor, w_lt_shr, w_lt_not, Nat.reduceLT, *]; done)))))
    | ((with_reducible apply Sy.bin (op := .add) (t := 189)); exact rfl; exact rfl; exact rfl; exact u32_add)
    | ((with_reducible apply Sy.ia (t := 191)); exact rfl; exact rfl; exact rfl; exact (ia_ar10 Tryd.underlying191 sz189 (by omega)))
    | ((with_reducible apply Sy.ia (t := 191)); exact rfl; exact rfl; exact rfl; exact (ia_ar1 Tryd.underlying191 sz189 (by omega)))
    | ((with_reducible apply Sy.ld0 (t := 195)); exact rfl; exact rfl; (· with_reducible assumption); exact rfl; exact notM; (· first | exact ld_all ag195 (by first | exact sz195 | (simp [sz195, *]; done)) | exact ld_agg ag195 sz195 (by first | (simp; done) | (simp; omega)) (by first | with_reducible exact cut_kids | rfl | (simp [List.drop_append, List.take_append, List.getElem?_append, lay, hC_length, ints_length, ints_drop, ints_take, ints_append, List.drop_of_length_le, List.take_of_length_le, List.map_append, List.set_append, Value.cells]; done))))
    | ((with_reducible apply Sy.ix (t := 195)); exact rfl; exact rfl; exact rfl; (· exact (ix_ints Tryd.underlying195 sz189 ag189 (by omega) (by first | omega))))
    | ((with_reducible apply Sy.bin (op := .and) (t := 189)); exact rfl; exact rfl; exact rfl; (· exact (u32_and (by first | with_reducible assumption | (simp (maxDischargeDepth := 14) only [w_lt_mod, w_lt_and, w_lt_or, w_lt_xor, w_lt_shr, w_lt_not, Nat.reduceLT, *]; done)) (by first | with_reducible assumption | (simp (maxDischargeDepth := 14) only [w_lt_mod, w_lt_and, w_lt_or, w_lt_xor, w_lt_shr, w_lt_not, Nat.reduceLT, *]; done)))))
    | ((with_reducible apply Sy.un (op := .xor)); exact rfl; exact rfl; (· exact (w_not (by first | with_reducible assumption))))
    | ((with_reducible apply Sy.build (t := 190)); exact rfl; exact rfl; (· exact (bv_one [_, _, _, _, _, _, _, _] Tryd.underlying190 sz189 zr190 rfl rfl rfl (by simp only [List.forall_mem_cons, List.not_mem_nil, false_implies, implies_true, and_true]; exact ⟨rfl, rfl, rfl, rfl, rfl, rfl, rfl, rfl⟩))))
    | ((with_reducible apply Sy.ix (t := 190)); exact rfl; exact rfl; exact rfl; (· exact (ix_ints Tryd.underlying190 sz189 ag189 (by omega) (by first | omega))))
    | ((with_reducible apply Sy.call0 (k := 133)); exact rfl; exact rfl; exact en133; exact rfl; (intro H' hp; exact c_turn _ _ (by with_reducible assumption) (by omega) H'))
    | ((with_reducible apply Sy.dcall0 (k := 133)); (first | exact wantY_none); exact rfl; (intro h hh; first | exact hh | (subst hh; omega)); exact rfl; exact rfl; exact rfl; exact en133; exact rfl; (intro H' hp; exact c_turn _ _ (by with_reducible assumption) (by omega) H'))
    | (with_reducible refine Sy.skip ?_)
    | (with_reducible refine Sy.exit ?_)
    | (with_reducible refine Sy.block ?_)
    | (with_reducible refine Sy.aex ?_)
    | (with_reducible refine Sy.inrm ?_)
    | ((with_reducible apply Sy.iex); exact rfl)
    | (with_reducible refine Sy.rex ?_)
    | ((with_reducible apply Sy.drawL (id := 13) 26 [(21, 2), (21, 4), (21, 7)] (fun hi h => h < hi)); (case hp => kernel_rfl); (case hN => exact rfl); intro base hbase hM; try simp only [List.forall_mem_cons, List.forall_mem_append, List.not_mem_nil, false_implies, implies_true, and_true] at hM)
    | (with_reducible refine Sy.dend ?_)
    | ((with_reducible apply Sy.dgo); (· first | exact wantY_none); (· intro hcls; cases hcls); exact rfl; exact rfl)
    | ((with_reducible apply Sy.dld); (· first | exact wantY_none); exact rfl; (· first | omega | exact rfl); exact rfl)
    | ((with_reducible apply Sy.ite); (case hx => exact rfl); all_goals (intro hc; try (exfalso; omega))))
    · have hs1 : rndN sK (sched g 64) s (i + 1) = rnd (sK.getD i 0) ((sched g 64).getD i 0) R := by rw [← hR]; rfl
      refine Sy.rnrm (i + 1) (by omega) (by omega) ?_ (fun H h => h)
      simp only [hs1]
      exact ⟨rfl, rfl, rfl, rfl, rfl, rfl, rfl, rfl, rfl, rfl, rfl, trivial⟩
    · obtain rfl : i = 64 := by omega
      have hRl : R.l.length = 8 := rfl
      have h0n : hs < H.next := get_live_lt (by rw [hgs]; rfl)
      refine Sy.loop (ι := Nat) (fun i => 8 - i) (fun i => [(0, .pointer (some ⟨hs, 0, none⟩)), (203, .agg ⟨ints .u32 R.l⟩), (204, .int .i64 (i : Nat))]) (fun i => [(hs, .cells (ints .u32 (addN s.l R.l i)) Ts true)]) (fun i => []) (fun i => i ≤ 8) 0 (by omega) ⟨rfl, rfl, rfl, trivial⟩ (fun H h => h.adopt hgs rfl (by simp)) ?_
      intro i hi
      have hl2 : (addN s.l R.l i).length = 8 := by simp; rfl
      repeat' (first
    | (with_reducible refine Sy.seq ?_)
    | (with_reducible refine Sy.regionL ?_)
    | (with_reducible refine Sy.opsnil ?_)
    | (with_reducible refine Sy.go ?_)
    | (with_reducible refine Sy.nrm ?_)
    | ((with_reducible apply Sy.move); exact rfl; exact rfl)
    | ((with_reducible apply Sy.bin (op := .lss) (t := 3)); exact rfl; exact rfl; exact rfl; exact b_lss)
    | ((with_reducible apply Sy.bin (op := .lss) (t := 3)); exact rfl; exact rfl; exact rfl; exact bz_lss)
    | ((with_reducible apply Sy.assign); exact rfl; exact rfl)
    | ((with_reducible apply Sy.ia (t := 25)); exact rfl; exact rfl; exact rfl; exact (ia_sl10 Tryd.underlying25 sz5 (by omega)))
    | ((with_reducible apply Sy.ia (t := 25)); exact rfl; exact rfl; exact rfl; exact (ia_sl1 Tryd.underlying25 sz5 (by omega)))
    | ((with_reducible apply Sy.ldO (t := 5)); exact rfl; exact rfl; exact hasT; (· first | ((with_reducible refine ld_int ag5 ?_); first | omega)))
    | ((with_reducible apply Sy.bin (op := .add) (t := 3)); exact rfl; exact rfl; exact rfl; exact (b_add (by omega)))
    | ((with_reducible apply Sy.bin (op := .add) (t := 3)); exact rfl; exact rfl; exact rfl; exact (bz_add (by omega) (by omega)))
    | ((with_reducible apply Sy.ia (t := 195)); exact rfl; exact rfl; exact rfl; exact (ia_ar10 Tryd.underlying195 sz189 (by omega)))
    | ((with_reducible apply Sy.ia (t := 195)); exact rfl; exact rfl; exact rfl; exact (ia_ar1 Tryd.underlying195 sz189 (by omega)))
    | ((with_reducible apply Sy.stO1 (t := 189)); exact rfl; exact rfl; exact sz189; (· first | exact rfl | exact accV_cells); (· first | exact rfl | exact accV_oneL); exact turnT; (· first | (simp; omega)); (· first | with_reducible exact ints_set _ _ _ _))
    | ((with_reducible apply Sy.ldO (t := 189)); exact rfl; exact rfl; exact hasT; (· first | ((with_reducible refine ld_int ag189 ?_); first | omega)))
    | ((with_reducible apply Sy.bin (op := .add) (t := 189)); exact rfl; exact rfl; exact rfl; exact u32_add)
    | ((with_reducible apply Sy.nilC); exact rfl; exact rfl; exact rfl)
    | ((with_reducible apply Sy.ia (t := 191)); exact rfl; exact rfl; exact rfl; exact (ia_ar10 Tryd.underlying191 sz189 (by omega)))
    | ((with_reducible apply Sy.ia (t := 191)); exact rfl; exact rfl; exact rfl; exact (ia_ar1 Tryd.underlying191 sz189 (by omega)))
    | ((with_reducible apply Sy.ldO (t := 195)); exact rfl; exact rfl; exact hasT; (· first | exact ld_all ag195 (by first | exact sz195 | (simp [sz195, *]; done)) | exact ld_agg ag195 sz195 (by first | (simp; done) | (simp; omega)) (by first | with_reducible exact cut_kids | rfl | (simp [List.drop_append, List.take_append, List.getElem?_append, lay, hC_length, ints_length, ints_drop, ints_take, ints_append, List.drop_of_length_le, List.take_of_length_le, List.map_append, List.set_append, Value.cells]; done))))
    | ((with_reducible apply Sy.ix (t := 195)); exact rfl; exact rfl; exact rfl; (· exact (ix_ints Tryd.underlying195 sz189 ag189 (by omega) (by first | omega))))
    | ((with_reducible apply Sy.ix (t := 190)); exact rfl; exact rfl; exact rfl; (· exact (ix_ints Tryd.underlying190 sz189 ag189 (by omega) (by first | omega))))
    | (with_reducible refine Sy.skip ?_)
    | (with_reducible refine Sy.exit ?_)
    | (with_reducible refine Sy.block ?_)
    | (with_reducible refine Sy.aex ?_)
    | (with_reducible refine Sy.inrm ?_)
    | ((with_reducible apply Sy.iex); exact rfl)
    | (with_reducible refine Sy.snrm ?_)
    | (with_reducible refine Sy.rex ?_)
    | ((with_reducible apply Sy.drawL (id := 5) 36 [] (fun hi h => h < hi)); (case hp => kernel_rfl); (case hN => exact rfl); intro base hbase hM; try simp only [List.forall_mem_cons, List.forall_mem_append, List.not_mem_nil, false_implies, implies_true, and_true] at hM)
    | ((with_reducible apply Sy.drawL (id := 6) 10 [] (fun hi h => h < hi)); (case hp => kernel_rfl); (case hN => exact rfl); intro base hbase hM; try simp only [List.forall_mem_cons, List.forall_mem_append, List.not_mem_nil, false_implies, implies_true, and_true] at hM)
    | ((with_reducible apply Sy.drawL (id := 9) 40 [] (fun hi h => h < hi)); (case hp => kernel_rfl); (case hN => exact rfl); intro base hbase hM; try simp only [List.forall_mem_cons, List.forall_mem_append, List.not_mem_nil, false_implies, implies_true, and_true] at hM)
    | ((with_reducible apply Sy.drawL (id := 20) 10 [] (fun hi h => h < hi)); (case hp => kernel_rfl); (case hN => exact rfl); intro base hbase hM; try simp only [List.forall_mem_cons, List.forall_mem_append, List.not_mem_nil, false_implies, implies_true, and_true] at hM)
    | (with_reducible refine Sy.dend ?_)
    | ((with_reducible apply Sy.dgo); (· first | exact wantY_none); (· intro hcls; cases hcls); exact rfl; exact rfl)
    | ((with_reducible apply Sy.ite); (case hx => exact rfl); all_goals (intro hc; try (exfalso; omega))))
      · refine Sy.rnrm (i + 1) (by omega) (by omega) ⟨rfl, rfl, rfl, trivial⟩ (fun H h => h)
      · obtain rfl : i = 8 := by omega
        refine .fin [] (.inl rfl) trivial fun H' hp => ⟨rfl, ?_⟩
        rw [addN_all, ← hR] at hp
        exact hp
end Go.Proofs.YtjimjolfnimimaaDoor

/- digest.eight, digest.Sum: SHA-256. -/
namespace Go.Proofs.YtjimjolfnimimaaDoor
open Go Go.Am
set_option maxRecDepth 100000
set_option linter.unusedVariables false

def beN (n : Nat) : Nat → List Nat
  | 0 => List.replicate 8 0
  | i + 1 => (beN n i).set i ((n >>> (56 - 8 * i)) % 256)
@[simp] theorem beN_length (n : Nat) : ∀ i, (beN n i).length = 8
  | 0 => rfl
  | i + 1 => by simp [beN, beN_length n i]
def be64 (n : Nat) : List Nat := beN n 8
@[simp] theorem be64_length (n : Nat) : (be64 n).length = 8 := beN_length n 8
theorem beN_lt (n : Nat) : ∀ i, ∀ x ∈ beN n i, x < 256
  | 0, x, h => by rw [List.eq_of_mem_replicate h]; decide
  | i + 1, x, h => by
    rcases List.mem_or_eq_of_mem_set h with h | h
    · exact beN_lt n i x h
    · rw [h]; exact Nat.mod_lt _ (by decide)

theorem c_eight (n : Nat) (hn : n < 18446744073709551616) (H : AHeap) :
    CallR Tryd.prog noPrims 123 [.int .u64 n] H (fun v H' => ∃ b : Nat, True ∧ v = .slice (some ⟨b, 0, none⟩) 8 8 ∧ Hp H 0 0 H' [] [(b, .cells (ints .u8 (be64 n)) 5 true)]) := by
  refine CallR.sy (n := 22) Tryd.func123 rfl rfl rfl ?_
  repeat' (first
    | (with_reducible refine Sy.seq ?_)
    | (with_reducible refine Sy.regionL ?_)
    | (with_reducible refine Sy.opsnil ?_)
    | (with_reducible refine Sy.go ?_)
    | (with_reducible refine Sy.nrm ?_)
    | ((with_reducible apply Sy.assign); exact rfl; exact rfl)
    | ((with_reducible apply Sy.move); exact rfl; exact rfl)
    | ((with_reducible apply Sy.lenS); exact rfl; exact Tryd.underlying25; exact rfl)
    | ((with_reducible apply Sy.newY (o := ⟨some 5, .makeSlice 25 _ _, _, _, _, _⟩)); exact rfl; exact rfl; exact (newY_mkI Tryd.underlying25 sz5 bs5 zr5 rfl rfl (by decide) (by omega)); intro q5)
    | ((with_reducible apply Sy.newY (o := ⟨some 5, .makeSlice 25 _ _, _, _, _, _⟩)); exact rfl; exact rfl; exact (newY_mk1 Tryd.underlying25 sz5 bs5 zr5 rfl rfl (by decide) (by omega) (by decide) (by rfl)); intro q5)
    | (with_reducible refine Sy.block ?_))
  refine Sy.loop (ι := Nat) (fun i => 8 - i) (fun i => [(0, .int .u64 n), (3, .slice (some ⟨q5, 0, none⟩) 8 8), (7, .int .i64 (8 : Nat)), (8, .int .i64 (i : Nat))]) (fun _ => []) (fun i => [(q5, .cells (ints .u8 (beN n i)) 5 true)]) (fun i => i ≤ 8) 0 (by omega) ⟨rfl, rfl, rfl, rfl, trivial⟩ (fun H h => h) ?_
  intro i hi
  have hl : (beN n i).length = 8 := beN_length n i
  repeat' (first
    | (with_reducible refine Sy.seq ?_)
    | (with_reducible refine Sy.regionL ?_)
    | (with_reducible refine Sy.opsnil ?_)
    | (with_reducible refine Sy.go ?_)
    | (with_reducible refine Sy.nrm ?_)
    | ((with_reducible apply Sy.assign); exact rfl; exact rfl)
    | ((with_reducible apply Sy.move); exact rfl; exact rfl)
    | ((with_reducible apply Sy.bin (op := .lss) (t := 3)); exact rfl; exact rfl; exact rfl; exact b_lss)
    | ((with_reducible apply Sy.bin (op := .lss) (t := 3)); exact rfl; exact rfl; exact rfl; exact bz_lss)
    | ((with_reducible apply Sy.bin (op := .mul) (t := 3)); exact rfl; exact rfl; exact rfl; exact (b_mul (by omega)))
    | ((with_reducible apply Sy.bin (op := .sub) (t := 3)); exact rfl; exact rfl; exact rfl; exact (b_sub (by omega) (by omega)))
    | ((with_reducible apply Sy.bin (op := .sub) (t := 3)); exact rfl; exact rfl; exact rfl; exact (bz_sub (by omega) (by omega)))
    | ((with_reducible apply Sy.bin (op := .shr) (t := 22)); exact rfl; exact rfl; exact rfl; exact (b_shr64 (by omega)))
    | ((with_reducible apply Sy.conv (D := 0) (T := .bool)); exact rfl; exact Tryd.underlying22; exact Tryd.underlying5; exact rfl; exact (wrap_u8x (by omega)))
    | ((with_reducible apply Sy.conv (D := 0) (T := .bool)); exact rfl; exact Tryd.underlying22; exact Tryd.underlying5; exact rfl; exact wrap_u8 _)
    | ((with_reducible apply Sy.ia (t := 25)); exact rfl; exact rfl; exact rfl; exact (ia_sl10 Tryd.underlying25 sz5 (by omega)))
    | ((with_reducible apply Sy.ia (t := 25)); exact rfl; exact rfl; exact rfl; exact (ia_sl1 Tryd.underlying25 sz5 (by omega)))
    | ((with_reducible apply Sy.stN1 (t := 5)); exact rfl; exact rfl; exact sz5; (· first | exact rfl | exact accV_cells); (· first | exact rfl | exact accV_oneL); exact turnT; (· first | (simp; omega)); (· first | with_reducible exact ints_set _ _ _ _))
    | ((with_reducible apply Sy.bin (op := .add) (t := 3)); exact rfl; exact rfl; exact rfl; exact (b_add (by omega)))
    | ((with_reducible apply Sy.bin (op := .add) (t := 3)); exact rfl; exact rfl; exact rfl; exact (bz_add (by omega) (by omega)))
    | (with_reducible refine Sy.skip ?_)
    | (with_reducible refine Sy.exit ?_)
    | (with_reducible refine Sy.ret ?_)
    | (with_reducible refine Sy.block ?_)
    | (with_reducible refine Sy.aex ?_)
    | (with_reducible refine Sy.inrm ?_)
    | ((with_reducible apply Sy.iex); exact rfl)
    | (with_reducible refine Sy.rex ?_)
    | ((with_reducible apply Sy.ite); (case hx => exact rfl); all_goals (intro hc; try (exfalso; omega))))
  · exact Sy.rnrm (i + 1) (by omega) (by omega) ⟨rfl, rfl, rfl, rfl, trivial⟩ (fun H h => h)
  · obtain rfl : i = 8 := by omega
    exact .fin [_] (.inr rfl) ⟨rfl, trivial⟩ fun H' hp => ⟨q5, trivial, rfl, hp⟩

/-- The state after k blocks of a row. -/
def s0S : S8 := ⟨1779033703, 3144134277, 1013904242, 2773480762, 1359893119, 2600822924, 528734635, 1541459225⟩
def blocksN (l : List Nat) : Nat → S8
  | 0 => s0S
  | k + 1 => blockS (fun j => l.getD (64 * k + j) 0) (blocksN l k)
theorem blocksN_ok (l : List Nat) : ∀ k, (blocksN l k).ok
  | 0 => by unfold blocksN s0S S8.ok; decide
  | k + 1 => blockS_ok _ _
/-- What SHA-256 lays behind a row, up to whole blocks. -/
def padN (l : List Nat) : List Nat := l ++ [128] ++ List.replicate ((64 - (l.length + 9) % 64) % 64) 0 ++ be64 ((8 * l.length) % 18446744073709551616)
/-- A state's bytes. -/
def outN (s : List Nat) : Nat → List Nat
  | 0 => List.replicate 32 0
  | i + 1 => (outN s i).set i ((s.getD (i / 4) 0 >>> (24 - 8 * (i % 4))) % 256)
@[simp] theorem outN_length (s : List Nat) : ∀ i, (outN s i).length = 32
  | 0 => rfl
  | i + 1 => by simp [outN, outN_length s i]
theorem outN_lt (s : List Nat) : ∀ i, ∀ x ∈ outN s i, x < 256
  | 0, x, h => by rw [List.eq_of_mem_replicate h]; decide
  | i + 1, x, h => by
    rcases List.mem_or_eq_of_mem_set h with h | h
    · exact outN_lt s i x h
    · rw [h]; exact Nat.mod_lt _ (by decide)
def outH (s : S8) : Hsh := ⟨outN s.l 32, outN_length _ _, outN_lt _ _⟩
/-- SHA-256. -/
def sha (l : List Nat) : Hsh := outH (blocksN (padN l) ((padN l).length / 64))
end Go.Proofs.YtjimjolfnimimaaDoor

/- digest.Sum. -/
namespace Go.Proofs.YtjimjolfnimimaaDoor
open Go Go.Am
set_option maxRecDepth 100000
set_option linter.unusedVariables false

theorem getD_drop (l : List Nat) (o j : Nat) : (l.drop o).getD j 0 = l.getD (o + j) 0 := by simp [List.getD]
theorem lt_getD {l : List Nat} {m : Nat} (hm : 0 < m) (h : ∀ x ∈ l, x < m) (i : Nat) : l.getD i 0 < m := by
  by_cases hi : i < l.length
  · simp only [List.getD, List.getElem?_eq_getElem hi, Option.getD_some]; exact h _ (List.getElem_mem hi)
  · simp only [List.getD, List.getElem?_eq_none (show l.length ≤ i by omega), Option.getD_none]; exact hm

theorem sched_congr {g g' : Nat → Nat} (h : ∀ j, j < 64 → g j = g' j) : ∀ i, sched g i = sched g' i
  | 0 => rfl
  | i + 1 => by
    simp only [sched, sched_congr h i]
    by_cases hi : i < 16
    · simp only [hi, if_true, wordAt, h (4 * i) (by omega), h (4 * i + 1) (by omega), h (4 * i + 2) (by omega), h (4 * i + 3) (by omega)]
    · simp only [hi, if_false]
theorem blockS_congr {g g' : Nat → Nat} (h : ∀ j, j < 64 → g j = g' j) (s : S8) : blockS g s = blockS g' s := by simp only [blockS, sched_congr h]
theorem blocksN_congr {a b : List Nat} : ∀ k, (∀ j, j < 64 * k → a.getD j 0 = b.getD j 0) → blocksN a k = blocksN b k
  | 0, _ => rfl
  | k + 1, h => by
    simp only [blocksN]
    rw [blocksN_congr k (fun j hj => h j (by omega))]
    exact blockS_congr (fun j hj => h (64 * k + j) (by omega)) _

theorem getD_app_left {a b : List Nat} {j : Nat} (h : j < a.length) : (a ++ b).getD j 0 = a.getD j 0 := by simp only [List.getD, List.getElem?_append_left h]
theorem getD_app_right {a b : List Nat} {j : Nat} : (a ++ b).getD (a.length + j) 0 = b.getD j 0 := by simp only [List.getD]; rw [List.getElem?_append_right (by omega)]; congr 2; omega
theorem getD_take {a : List Nat} {j n : Nat} (h : j < n) : (a.take n).getD j 0 = a.getD j 0 := by simp only [List.getD, List.getElem?_take, h, if_true]

/-- What lies behind the whole blocks. -/
def tailN (r B : List Nat) (z : Nat) : List Nat := r ++ [128] ++ List.replicate z 0 ++ B
theorem tail_lay {r B : List Nat} {o' : Nat} (h1 : r.length + 1 ≤ o') (h2 : o' + 8 ≤ 128) (hB : B.length = 8) :
    layN ((r ++ List.replicate (128 - r.length) 0).set r.length 128) o' B = tailN r B (o' - r.length - 1) ++ List.replicate (128 - o' - 8) 0 := by
  have e1 : List.replicate (128 - r.length) (0 : Nat) = 0 :: List.replicate (127 - r.length) 0 := by
    rw [show 128 - r.length = (127 - r.length) + 1 by omega]; rfl
  rw [e1, List.set_append_right _ _ (Nat.le_refl _), Nat.sub_self, List.set_cons_zero]
  simp only [layN, tailN, hB]
  have e2 : List.take o' (r ++ 128 :: List.replicate (127 - r.length) 0) = r ++ 128 :: List.replicate (o' - r.length - 1) 0 := by
    rw [List.take_append, List.take_of_length_le (by omega), show o' - r.length = (o' - r.length - 1) + 1 by omega, List.take_succ_cons, List.take_replicate]
    congr 2
    rw [show (o' - r.length - 1 + 1 - 1) = o' - r.length - 1 by omega, Nat.min_eq_left (by omega)]
  have e3 : List.drop (o' + 8) (r ++ 128 :: List.replicate (127 - r.length) 0) = List.replicate (128 - o' - 8) 0 := by
    rw [List.drop_append, List.drop_of_length_le (by omega), show o' + 8 - r.length = (o' + 8 - r.length - 1) + 1 by omega, List.drop_succ_cons, List.drop_replicate, List.nil_append]
    congr 1; omega
  rw [e2, e3]
  simp [List.append_assoc]
theorem tailN_length (r B : List Nat) (z : Nat) : (tailN r B z).length = r.length + 1 + z + B.length := by simp [tailN]; omega
theorem tailN_lt {r B : List Nat} {z : Nat} (h1 : ∀ x ∈ r, x < 256) (h2 : ∀ x ∈ B, x < 256) : ∀ x ∈ tailN r B z, x < 256 := by
  intro x hx
  simp only [tailN, List.mem_append, List.mem_singleton] at hx
  rcases hx with ((hx | rfl) | hx) | hx
  · exact h1 x hx
  · decide
  · rw [List.eq_of_mem_replicate hx]; decide
  · exact h2 x hx
theorem padN_tail {l : List Nat} {k m : Nat} (h : l.length = 64 * k + m) (hm : m < 64) :
    padN l = l.take (64 * k) ++ tailN (l.drop (64 * k)) (be64 ((8 * l.length) % 18446744073709551616)) (if m < 56 then 55 - m else 119 - m) := by
  have e : (64 - (l.length + 9) % 64) % 64 = if m < 56 then 55 - m else 119 - m := by
    rw [h]; split <;> omega
  simp only [padN, e, tailN, ← List.append_assoc, List.take_append_drop]
theorem sha_tail {l : List Nat} {k m : Nat} (h : l.length = 64 * k + m) (hm : m < 64) :
    sha l = outH (let T := tailN (l.drop (64 * k)) (be64 ((8 * l.length) % 18446744073709551616)) (if m < 56 then 55 - m else 119 - m)
      if m < 56 then blockS (fun j => T.getD j 0) (blocksN l k) else blockS (fun j => T.getD (64 + j) 0) (blockS (fun j => T.getD j 0) (blocksN l k))) := by
  have hp := padN_tail h hm
  generalize hT : tailN (l.drop (64 * k)) (be64 ((8 * l.length) % 18446744073709551616)) (if m < 56 then 55 - m else 119 - m) = T at hp ⊢
  have ht : (l.take (64 * k)).length = 64 * k := by simp; omega
  have hTl : T.length = if m < 56 then 64 else 128 := by
    rw [← hT, tailN_length]; simp [h]; split <;> omega
  have hlen : (padN l).length / 64 = if m < 56 then k + 1 else k + 2 := by
    rw [hp]; simp only [List.length_append, ht, hTl]; split <;> omega
  have hg : ∀ j, (padN l).getD (64 * k + j) 0 = T.getD j 0 := fun j => by
    have := getD_app_right (a := l.take (64 * k)) (b := T) (j := j)
    rw [ht] at this; rw [hp]; exact this
  have hb : blocksN (padN l) k = blocksN l k := blocksN_congr k fun j hj => by
    rw [hp, getD_app_left (by omega), getD_take hj]
  unfold sha
  rw [hlen]
  congr 1
  by_cases h56 : m < 56
  · simp only [h56, if_true, blocksN, hb, hg]
  · simp only [h56, if_false, blocksN, hb, hg, show ∀ j, 64 * (k + 1) + j = 64 * k + (64 + j) from fun j => by omega]

theorem hC_out (s : S8) : hC (outH s) = ints .u8 (outN s.l 32) := by unfold hC outH; with_reducible rfl
theorem S8_lt {s : S8} (h : s.ok) : ∀ x ∈ s.l, x < 4294967296 := by
  obtain ⟨a, b, c, d, e, f, g, hh⟩ := h
  simp only [S8.l, List.forall_mem_cons, List.not_mem_nil, false_implies, implies_true, and_true]
  exact ⟨a, b, c, d, e, f, g, hh⟩
set_option maxHeartbeats 1000000 in
theorem c_Sum (b o n cp : Nat) (lb l : List Nat) (Tb : TypeId) (wb : Bool) (H : AHeap) (Tf Tk : TypeId) (hgf : H.get 0 = .cells (ints .u32 s0S.l) Tf false) (hgk : H.get 1 = .cells (ints .u32 sK) Tk false)
    (hgb : H.get b = .cells (ints .u8 lb) Tb wb) (hlb : o + n ≤ lb.length) (h256 : ∀ x ∈ lb, x < 256) (hn : n < 9223372036854775808) (hl : (lb.drop o).take n = l) :
    CallR Tryd.prog noPrims 100 [.slice (some ⟨b, o, none⟩) n cp] H (fun v H' => v = hV (sha l) ∧ Hp H 0 0 H' [] []) := by
  have h256' := lt_getD (by decide) h256
  refine CallR.sy (n := 56) Tryd.func100 rfl rfl rfl ?_
  repeat' (first
    | (with_reducible refine Sy.seq ?_)
    | (with_reducible refine Sy.regionL ?_)
    | (with_reducible refine Sy.opsnil ?_)
    | (with_reducible refine Sy.go ?_)
    | (with_reducible refine Sy.nrm ?_)
    | ((with_reducible apply Sy.ld0 (t := 190)); exact rfl; exact rfl; (· with_reducible assumption); exact rfl; exact notM; (· first | exact ld_all ag190 (by first | exact sz190)))
    | ((with_reducible apply Sy.stNa (t := 191)); exact rfl; exact rfl; exact sz191; (· first | exact rfl | (simp; done)); (· first | exact oneL_ints _ _ | exact rfl); exact turnT; (· first | (simp; done)); (· first | exact lay_all (by first | exact rfl) | exact rfl))
    | ((with_reducible apply Sy.move); exact rfl; exact rfl)
    | ((with_reducible apply Sy.assign); exact rfl; exact rfl)
    | ((with_reducible apply Sy.ld0 (t := 189)); exact rfl; exact rfl; (· with_reducible assumption); exact rfl; exact notM; (· first | ((with_reducible refine ld_hash ag189 ?_); omega) | ((with_reducible refine ld_int ag189 ?_); first | omega | (simp; done) | (simp; omega)) | exact ld_one ag189 rfl | with_reducible assumption | exact ld_one ag189 (by with_reducible assumption) | exact ld_one ag189 (by simp [List.drop_append, List.take_append, List.getElem?_append, lay, hC_length, ints_length, ints_drop, ints_take, ints_append, List.drop_of_length_le, List.take_of_length_le, List.map_append, List.set_append, Value.cells]; done)))
    | ((with_reducible apply Sy.ld0 (t := 44)); exact rfl; exact rfl; (· with_reducible assumption); exact rfl; exact notM; (· first | exact ld_hV ag44 sz44 | exact ld_agg (cs' := hC _) ag44 sz44 (by simp; done) (by first | rfl | exact cut_here (by simp; done) | exact cut_all (by simp; done) | (simp [List.drop_append, List.take_append, List.getElem?_append, lay, hC_length, ints_length, ints_drop, ints_take, ints_append, List.drop_of_length_le, List.take_of_length_le, List.map_append, List.set_append, Value.cells]; done))))
    | ((with_reducible apply Sy.stNa (t := 44)); exact rfl; exact rfl; exact sz44; (· first | exact rfl | (simp; done)); (· first | exact oneL_ints _ _ | exact rfl); exact turnT; (· first | (simp; done)); (· first | exact lay_all (by first | exact rfl) | exact rfl))
    | ((with_reducible apply Sy.newY (o := ⟨some 2, .alloc 44, _, _, _, _⟩)); exact rfl; exact rfl; exact nwz44; intro q2)
    | ((with_reducible apply Sy.newY (o := ⟨some 3, .alloc 191, _, _, _, _⟩)); exact rfl; exact rfl; exact nwz191; intro q3)
    | ((with_reducible apply Sy.newY (o := ⟨some 5, .alloc 193, _, _, _, _⟩)); exact rfl; exact rfl; exact nwz193; intro q5)
    | (with_reducible refine Sy.block ?_))
  refine Sy.loop (ι := Nat × Nat × Nat × Nat) (fun i => i.2.2.1) (fun i => [(0, .slice (some ⟨b, o, none⟩) n cp), (2, .pointer (some ⟨q2, 0, none⟩)), (3, .pointer (some ⟨q3, 0, none⟩)), (4, .slice (some ⟨b, i.2.1, none⟩) i.2.2.1 i.2.2.2)]) (fun _ => [])
    (fun i => [(q3, .cells (ints .u32 (blocksN (lb.drop o) i.1).l) 191 true), (q2, .cells (hC zeroH) 44 true)]) (fun i => i.2.1 = o + 64 * i.1 ∧ i.2.2.1 + 64 * i.1 = n) (0, o, n, cp) ⟨rfl, by simp⟩ ⟨rfl, rfl, rfl, rfl, trivial⟩ (fun H h => h) ?_
  rintro ⟨k, oo, m, c⟩ ⟨h1, h2⟩
  dsimp only at h1 h2 ⊢
  have hok := blocksN_ok (lb.drop o) k
  have hbl : (blocksN (lb.drop o) k).l.length = 8 := rfl
  repeat' (first
    | (with_reducible refine Sy.seq ?_)
    | (with_reducible refine Sy.regionL ?_)
    | (with_reducible refine Sy.opsnil ?_)
    | (with_reducible refine Sy.go ?_)
    | (with_reducible refine Sy.nrm ?_)
    | ((with_reducible apply Sy.move); exact rfl; exact rfl)
    | ((with_reducible apply Sy.assign); exact rfl; exact rfl)
    | ((with_reducible apply Sy.lenS); exact rfl; exact Tryd.underlying25; exact rfl)
    | ((with_reducible apply Sy.bin (op := .geq) (t := 3)); exact rfl; exact rfl; exact rfl; exact b_geq)
    | ((with_reducible apply Sy.bin (op := .geq) (t := 3)); exact rfl; exact rfl; exact rfl; exact bz_geq)
    | ((with_reducible apply Sy.sl (t := 25)); exact rfl; exact rfl; exact rfl; exact rfl; exact rfl; exact (sl_from Tryd.underlying25 sz5 (by omega)))
    | ((with_reducible apply Sy.sl (t := 193)); exact rfl; exact rfl; exact rfl; exact rfl; exact rfl; exact sl_ar Tryd.underlying193 sz5)
    | ((with_reducible apply Sy.cpI (t := 25)); exact Tryd.underlying25; exact sz5; exact rfl; exact rfl; exact rfl; (· first | exact SrcY.of0i (by with_reducible assumption) (by simp only [List.forall_mem_cons, List.not_mem_nil, false_implies, implies_true, and_true, ne_eq]; first | done | omega) (by first | omega)); exact turnT; (· first | (simp; omega)))
    | ((with_reducible apply Sy.ia (t := 193)); exact rfl; exact rfl; exact rfl; exact (ia_ar10 Tryd.underlying193 sz5 (by omega)))
    | ((with_reducible apply Sy.ia (t := 193)); exact rfl; exact rfl; exact rfl; exact (ia_ar1 Tryd.underlying193 sz5 (by omega)))
    | ((with_reducible apply Sy.sl (t := 193)); exact rfl; exact rfl; exact rfl; exact rfl; exact rfl; exact (sl_arf Tryd.underlying193 sz5 (by omega)))
    | ((with_reducible apply Sy.ia (t := 191)); exact rfl; exact rfl; exact rfl; exact (ia_ar10 Tryd.underlying191 sz189 (by omega)))
    | ((with_reducible apply Sy.ia (t := 191)); exact rfl; exact rfl; exact rfl; exact (ia_ar1 Tryd.underlying191 sz189 (by omega)))
    | ((with_reducible apply Sy.ia (t := 44)); exact rfl; exact rfl; exact rfl; exact (ia_ar10 Tryd.underlying44 sz5 (by omega)))
    | ((with_reducible apply Sy.ia (t := 44)); exact rfl; exact rfl; exact rfl; exact (ia_ar1 Tryd.underlying44 sz5 (by omega)))
    | ((with_reducible apply Sy.call1 (k := 122)); exact rfl; exact rfl; exact en122; exact rfl; (intro H' hp; exact c_block q3 b oo m c (by omega) lb _ _ H' _ hok _ _ (hp.get0 hgk rfl (by simp)) (hp.getN .here) (hp.get0 hgb rfl (by simp)) (by omega) h256'); exact turnT)
    | ((with_reducible apply Sy.newY (o := ⟨some 2, .alloc 44, _, _, _, _⟩)); exact rfl; exact rfl; exact nwz44; intro q2)
    | ((with_reducible apply Sy.newY (o := ⟨some 3, .alloc 191, _, _, _, _⟩)); exact rfl; exact rfl; exact nwz191; intro q3)
    | ((with_reducible apply Sy.newY (o := ⟨some 5, .alloc 193, _, _, _, _⟩)); exact rfl; exact rfl; exact nwz193; intro q5)
    | (with_reducible refine Sy.skip ?_)
    | (with_reducible refine Sy.exit ?_)
    | (with_reducible refine Sy.block ?_)
    | (with_reducible refine Sy.aex ?_)
    | (with_reducible refine Sy.inrm ?_)
    | ((with_reducible apply Sy.iex); exact rfl)
    | (with_reducible refine Sy.rex ?_)
    | ((with_reducible apply Sy.ite); (case hx => exact rfl); all_goals (intro hc; try (exfalso; omega))))
  · have hb1 : blocksN (lb.drop o) (k + 1) = blockS (fun j => lb.getD (oo + j) 0) (blocksN (lb.drop o) k) := by
      simp only [blocksN, getD_drop, h1, Nat.add_assoc]
    refine Sy.rnrm (k + 1, oo + 64, m - 64, _) ⟨by simp only; omega, by simp only; omega⟩ (by simp only; omega) ⟨rfl, rfl, rfl, rfl, trivial⟩ (fun H h => ?_)
    simp only [hb1]; exact h
  have hm : min m 128 = m := by omega
  generalize hr : (lb.drop oo).take m = r
  have hrl : r.length = m := by rw [← hr]; simp; omega
  have e1 : layN (List.replicate 128 0) 0 (List.take m r) = r ++ List.replicate (128 - m) 0 := by
    rw [List.take_of_length_le (by omega)]; simp only [layN, List.take_zero, List.nil_append, hrl, Nat.zero_add, List.drop_replicate]
  rw [hm, e1]
  have e2 : (8 * n) % 18446744073709551616 < 18446744073709551616 := Nat.mod_lt _ (by decide)
  repeat' (first
    | (with_reducible refine Sy.seq ?_)
    | (with_reducible refine Sy.regionL ?_)
    | (with_reducible refine Sy.opsnil ?_)
    | (with_reducible refine Sy.go ?_)
    | (with_reducible refine Sy.nrm ?_)
    | ((with_reducible apply Sy.move); exact rfl; exact rfl)
    | ((with_reducible apply Sy.assign); exact rfl; exact rfl)
    | ((with_reducible apply Sy.lenS); exact rfl; exact Tryd.underlying25; exact rfl)
    | ((with_reducible apply Sy.bin (op := .geq) (t := 3)); exact rfl; exact rfl; exact rfl; exact b_geq)
    | ((with_reducible apply Sy.bin (op := .geq) (t := 3)); exact rfl; exact rfl; exact rfl; exact bz_geq)
    | ((with_reducible apply Sy.sl (t := 25)); exact rfl; exact rfl; exact rfl; exact rfl; exact rfl; exact (sl_from Tryd.underlying25 sz5 (by omega)))
    | ((with_reducible apply Sy.sl (t := 193)); exact rfl; exact rfl; exact rfl; exact rfl; exact rfl; exact sl_ar Tryd.underlying193 sz5)
    | ((with_reducible apply Sy.cpI (t := 25)); exact Tryd.underlying25; exact sz5; exact rfl; exact rfl; exact rfl; (· first | exact SrcY.ofNi' (by repeat (first | exact Has.here)) (by first | (simp; done))); exact turnT; (· first | (simp; omega)))
    | ((with_reducible apply Sy.stN1 (t := 5)); exact rfl; exact rfl; exact sz5; (· first | exact rfl | exact accV_cells); (· first | exact rfl | exact accV_oneL); exact turnT; (· first | (simp; omega)); (· first | with_reducible exact ints_set _ _ _ _))
    | ((with_reducible apply Sy.bin (op := .sub) (t := 3)); exact rfl; exact rfl; exact rfl; exact (b_sub (by omega) (by omega)))
    | ((with_reducible apply Sy.bin (op := .sub) (t := 3)); exact rfl; exact rfl; exact rfl; exact (bz_sub (by omega) (by omega)))
    | ((with_reducible apply Sy.sl (t := 193)); exact rfl; exact rfl; exact rfl; exact rfl; exact rfl; exact (sl_arf Tryd.underlying193 sz5 (by omega)))
    | ((with_reducible apply Sy.conv (D := 0) (T := .bool)); exact rfl; exact Tryd.underlying3; exact Tryd.underlying22; exact rfl; exact (wrap_u64x (by omega)))
    | ((with_reducible apply Sy.conv (D := 0) (T := .bool)); exact rfl; exact Tryd.underlying3; exact Tryd.underlying22; exact rfl; exact wrap_u64 _)
    | ((with_reducible apply Sy.bin (op := .mul) (t := 22)); exact rfl; exact rfl; exact rfl; exact (u64_mulx (by omega)))
    | ((with_reducible apply Sy.bin (op := .mul) (t := 22)); exact rfl; exact rfl; exact rfl; exact u64_mul)
    | ((with_reducible apply Sy.bin (op := .mul) (t := 3)); exact rfl; exact rfl; exact rfl; exact (b_mul (by omega)))
    | ((with_reducible apply Sy.conv (D := 0) (T := .bool)); exact rfl; exact Tryd.underlying189; exact Tryd.underlying5; exact rfl; exact (wrap_u8x (by omega)))
    | ((with_reducible apply Sy.conv (D := 0) (T := .bool)); exact rfl; exact Tryd.underlying189; exact Tryd.underlying5; exact rfl; exact wrap_u8 _)
    | ((with_reducible apply Sy.dcall (k := 123)); (first | exact wantY_none); exact rfl; (intro h hh; first | exact hh | (subst hh; omega)); exact rfl; exact rfl; exact rfl; exact en123; exact rfl; (intro H' hp; exact c_eight _ (by omega) H'); rintro hq32 -)
    | (with_reducible refine Sy.skip ?_)
    | ((with_reducible apply Sy.drawL (id := 11) 9 [] (fun hi h => h < hi)); (case hp => kernel_rfl); (case hN => exact rfl); intro base hbase hM; try simp only [List.forall_mem_cons, List.forall_mem_append, List.not_mem_nil, false_implies, implies_true, and_true] at hM)
    | (with_reducible refine Sy.dend ?_)
    | ((with_reducible apply Sy.dgo); (· first | exact wantY_none); (· intro hcls; cases hcls); exact rfl; exact rfl)
    | ((with_reducible apply Sy.ite); (case hx => exact rfl); all_goals (intro hc; try (exfalso; omega))))
  all_goals
    have hN : (be64 ((8 * n) % 18446744073709551616)).length = 8 := be64_length _
    have hTl := @tail_lay r (be64 ((8 * n) % 18446744073709551616))
    have hr256 : ∀ x ∈ r, x < 256 := fun x hx => h256 x (by rw [← hr] at hx; exact List.mem_of_mem_drop (List.mem_of_mem_take hx))
    have hll : l.length = 64 * k + m := by rw [← hl]; simp; omega
    have hsh := sha_tail hll (by omega)
    have hld : l.drop (64 * k) = r := by rw [← hl, ← hr, h1, List.drop_take, List.drop_drop]; congr 1; omega
    have hln : 8 * l.length = 8 * n := by omega
    have hbk : blocksN l k = blocksN (lb.drop o) k := blocksN_congr k fun j hj => by rw [← hl, getD_take (by omega)]
    rw [hld, hln, hbk] at hsh
  · have e3 := hTl (o' := 0 + (128 - 8) * 1) (by omega) (by omega) hN
    rw [hrl] at e3
    rw [show List.take (min 8 (128 - (128 - 8))) (be64 (8 * n % 18446744073709551616)) = be64 (8 * n % 18446744073709551616) from List.take_of_length_le (by rw [hN]; decide), e3]
    have hLl : ∀ x ∈ tailN r (be64 (8 * n % 18446744073709551616)) (0 + (128 - 8) * 1 - m - 1) ++ List.replicate (128 - (0 + (128 - 8) * 1) - 8) 0, x < 256 := by
      intro x hx
      rcases List.mem_append.1 hx with hx | hx
      · exact tailN_lt hr256 (beN_lt _ 8) x hx
      · rw [List.eq_of_mem_replicate hx]; decide
    have hLn : (tailN r (be64 (8 * n % 18446744073709551616)) (0 + (128 - 8) * 1 - m - 1) ++ List.replicate (128 - (0 + (128 - 8) * 1) - 8) 0).length = 128 := by
      simp [tailN_length, hN]; omega
    repeat' (first
    | (with_reducible refine Sy.seq ?_)
    | (with_reducible refine Sy.regionL ?_)
    | (with_reducible refine Sy.opsnil ?_)
    | (with_reducible refine Sy.go ?_)
    | (with_reducible refine Sy.nrm ?_)
    | ((with_reducible apply Sy.move); exact rfl; exact rfl)
    | ((with_reducible apply Sy.sl (t := 25)); exact rfl; exact rfl; exact rfl; exact rfl; exact rfl; exact (sl_from Tryd.underlying25 sz5 (by omega)))
    | ((with_reducible apply Sy.sl (t := 193)); exact rfl; exact rfl; exact rfl; exact rfl; exact rfl; exact sl_ar Tryd.underlying193 sz5)
    | ((with_reducible apply Sy.sl (t := 193)); exact rfl; exact rfl; exact rfl; exact rfl; exact rfl; exact (sl_arf Tryd.underlying193 sz5 (by omega)))
    | ((with_reducible apply Sy.bin (op := .gtr) (t := 3)); exact rfl; exact rfl; exact rfl; exact b_gtr)
    | ((with_reducible apply Sy.bin (op := .gtr) (t := 3)); exact rfl; exact rfl; exact rfl; exact bz_gtr)
    | ((with_reducible apply Sy.call1 (k := 122)); exact rfl; exact rfl; exact en122; exact rfl; (intro H' hp; exact c_block q3 q5 _ _ _ (by omega) _ _ _ H' _ hok _ _ (hp.get0 hgk rfl (by simp)) (hp.getN (by repeat (first | exact Has.here | apply Has.there | apply Has.app))) (hp.getN (by repeat (first | exact Has.here | apply Has.there | apply Has.app))) (by rw [hLn]; decide) (lt_getD (by decide) hLl)); exact turnT)
    | ((with_reducible apply Sy.call1 (k := 122)); exact rfl; exact rfl; exact en122; exact rfl; (intro H' hp; exact c_block q3 q5 _ _ _ (by omega) _ _ _ H' _ (blockS_ok _ _) _ _ (hp.get0 hgk rfl (by simp)) (hp.getN (by repeat (first | exact Has.here | apply Has.there | apply Has.app))) (hp.getN (by repeat (first | exact Has.here | apply Has.there | apply Has.app))) (by rw [hLn]; decide) (lt_getD (by decide) hLl)); exact turnT)
    | (with_reducible refine Sy.block ?_)
    | ((with_reducible apply Sy.yes); exact rfl))
    generalize hL : tailN r (be64 (8 * n % 18446744073709551616)) (0 + (128 - 8) * 1 - m - 1) ++ List.replicate (128 - (0 + (128 - 8) * 1) - 8) 0 = L at *
    have hsh2 : sha l = outH (blockS (fun j => L.getD (0 + 64 * 1 + j) 0) (blockS (fun j => L.getD (0 + j) 0) (blocksN (lb.drop o) k))) := by
      have h56 : ¬ m < 56 := by omega
      rw [hsh]
      simp only [h56, if_false, ← hL, Nat.sub_self, List.replicate_zero, List.append_nil, Nat.zero_add, Nat.mul_one]
      rw [show 128 - 8 - m - 1 = 119 - m by omega]
    replace hsh := hsh2
    clear hsh2
    have hSok := blockS_ok (fun j => L.getD (0 + 64 * 1 + j) 0) (blockS (fun j => L.getD (0 + j) 0) (blocksN (lb.drop o) k))
    generalize hS : blockS (fun j => L.getD (0 + 64 * 1 + j) 0) (blockS (fun j => L.getD (0 + j) 0) (blocksN (lb.drop o) k)) = S at *
    have hS256 := S8_lt hSok
    have hSl : S.l.length = 8 := rfl
    refine Sy.loop (ι := Nat) (fun i => 32 - i) (fun i => [(2, .pointer (some ⟨q2, 0, none⟩)), (3, .pointer (some ⟨q3, 0, none⟩)), (39, .int .i64 (i : Nat))]) (fun _ => []) (fun i => [(q3, .cells (ints .u32 S.l) 191 true), (q2, .cells (ints .u8 (outN S.l i)) 44 true)]) (fun i => i ≤ 32) 0 (by omega) ⟨rfl, rfl, rfl, trivial⟩ (fun H h => h.less (List.Sublist.cons _ (List.Sublist.cons _ (List.Sublist.refl _)))) ?_
    intro i hi
    have hol : (outN S.l i).length = 32 := outN_length _ _
    have hSo := lt_getD (l := S.l) (m := 4294967296) (by decide) hS256 (i / 4)
    repeat' (first
    | (with_reducible refine Sy.seq ?_)
    | (with_reducible refine Sy.regionL ?_)
    | (with_reducible refine Sy.opsnil ?_)
    | (with_reducible refine Sy.go ?_)
    | (with_reducible refine Sy.nrm ?_)
    | ((with_reducible apply Sy.ldN (t := 190)); exact rfl; exact rfl; exact hasT; (· first | exact ld_all ag190 (by first | exact sz190 | (simp [sz190, *]; done)) | exact ld_agg ag190 sz190 (by first | (simp; done) | (simp; omega)) (by first | with_reducible exact cut_kids | rfl | (simp [List.drop_append, List.take_append, List.getElem?_append, lay, hC_length, ints_length, ints_drop, ints_take, ints_append, List.drop_of_length_le, List.take_of_length_le, List.map_append, List.set_append, Value.cells]; done))))
    | ((with_reducible apply Sy.move); exact rfl; exact rfl)
    | ((with_reducible apply Sy.assign); exact rfl; exact rfl)
    | ((with_reducible apply Sy.ia (t := 193)); exact rfl; exact rfl; exact rfl; exact (ia_ar10 Tryd.underlying193 sz5 (by omega)))
    | ((with_reducible apply Sy.ia (t := 193)); exact rfl; exact rfl; exact rfl; exact (ia_ar1 Tryd.underlying193 sz5 (by omega)))
    | ((with_reducible apply Sy.stN1 (t := 5)); exact rfl; exact rfl; exact sz5; (· first | exact rfl | exact accV_cells); (· first | exact rfl | exact accV_oneL); exact turnT; (· first | (simp; omega)); (· first | with_reducible exact ints_set _ _ _ _))
    | ((with_reducible apply Sy.bin (op := .sub) (t := 3)); exact rfl; exact rfl; exact rfl; exact (b_sub (by omega) (by omega)))
    | ((with_reducible apply Sy.bin (op := .sub) (t := 3)); exact rfl; exact rfl; exact rfl; exact (bz_sub (by omega) (by omega)))
    | ((with_reducible apply Sy.conv (D := 0) (T := .bool)); exact rfl; exact Tryd.underlying3; exact Tryd.underlying22; exact rfl; exact (wrap_u64x (by omega)))
    | ((with_reducible apply Sy.conv (D := 0) (T := .bool)); exact rfl; exact Tryd.underlying3; exact Tryd.underlying22; exact rfl; exact wrap_u64 _)
    | ((with_reducible apply Sy.bin (op := .mul) (t := 22)); exact rfl; exact rfl; exact rfl; exact (u64_mulx (by omega)))
    | ((with_reducible apply Sy.bin (op := .mul) (t := 22)); exact rfl; exact rfl; exact rfl; exact u64_mul)
    | ((with_reducible apply Sy.bin (op := .lss) (t := 3)); exact rfl; exact rfl; exact rfl; exact b_lss)
    | ((with_reducible apply Sy.bin (op := .lss) (t := 3)); exact rfl; exact rfl; exact rfl; exact bz_lss)
    | ((with_reducible apply Sy.bin (op := .quo) (t := 3)); exact rfl; exact rfl; exact rfl; exact (b_quo (by omega) (by omega)))
    | ((with_reducible apply Sy.ia (t := 191)); exact rfl; exact rfl; exact rfl; exact (ia_ar10 Tryd.underlying191 sz189 (by omega)))
    | ((with_reducible apply Sy.ia (t := 191)); exact rfl; exact rfl; exact rfl; exact (ia_ar1 Tryd.underlying191 sz189 (by omega)))
    | ((with_reducible apply Sy.ldN (t := 189)); exact rfl; exact rfl; exact hasT; (· first | ((with_reducible refine ld_int ag189 ?_); first | omega)))
    | ((with_reducible apply Sy.bin (op := .rem) (t := 3)); exact rfl; exact rfl; exact rfl; exact (b_rem (by omega)))
    | ((with_reducible apply Sy.bin (op := .mul) (t := 3)); exact rfl; exact rfl; exact rfl; exact (b_mul (by omega)))
    | ((with_reducible apply Sy.bin (op := .shr) (t := 189)); exact rfl; exact rfl; exact rfl; exact (b_shr32 (by omega)))
    | ((with_reducible apply Sy.conv (D := 0) (T := .bool)); exact rfl; exact Tryd.underlying189; exact Tryd.underlying5; exact rfl; exact (wrap_u8x (by omega)))
    | ((with_reducible apply Sy.conv (D := 0) (T := .bool)); exact rfl; exact Tryd.underlying189; exact Tryd.underlying5; exact rfl; exact wrap_u8 _)
    | ((with_reducible apply Sy.ia (t := 44)); exact rfl; exact rfl; exact rfl; exact (ia_ar10 Tryd.underlying44 sz5 (by omega)))
    | ((with_reducible apply Sy.ia (t := 44)); exact rfl; exact rfl; exact rfl; exact (ia_ar1 Tryd.underlying44 sz5 (by omega)))
    | ((with_reducible apply Sy.bin (op := .add) (t := 3)); exact rfl; exact rfl; exact rfl; exact (b_add (by omega)))
    | ((with_reducible apply Sy.bin (op := .add) (t := 3)); exact rfl; exact rfl; exact rfl; exact (bz_add (by omega) (by omega)))
    | ((with_reducible apply Sy.ldN (t := 44)); exact rfl; exact rfl; exact hasT; (· first | exact ld_hV ag44 sz44 | exact ld_agg (cs' := hC _) ag44 sz44 (by simp; done) (by first | rfl | exact cut_here (by simp; done) | exact cut_all (by simp; done) | (simp [List.drop_append, List.take_append, List.getElem?_append, lay, hC_length, ints_length, ints_drop, ints_take, ints_append, List.drop_of_length_le, List.take_of_length_le, List.map_append, List.set_append, Value.cells]; done))))
    | (with_reducible refine Sy.skip ?_)
    | (with_reducible refine Sy.exit ?_)
    | (with_reducible refine Sy.block ?_)
    | (with_reducible refine Sy.aex ?_)
    | (with_reducible refine Sy.inrm ?_)
    | ((with_reducible apply Sy.iex); exact rfl)
    | (with_reducible refine Sy.rex ?_)
    | ((with_reducible apply Sy.ite); (case hx => exact rfl); all_goals (intro hc; try (exfalso; omega))))
    · exact Sy.rnrm (i + 1) (by omega) (by omega) ⟨rfl, rfl, rfl, trivial⟩ (fun H h => h)
    · obtain rfl : i = 32 := by omega
      rw [← hC_out]
      repeat' (first
    | (with_reducible refine Sy.opsnil ?_)
    | (with_reducible refine Sy.go ?_)
    | (with_reducible refine Sy.nrm ?_)
    | ((with_reducible apply Sy.ldN (t := 190)); exact rfl; exact rfl; exact hasT; (· first | exact ld_all ag190 (by first | exact sz190 | (simp [sz190, *]; done)) | exact ld_agg ag190 sz190 (by first | (simp; done) | (simp; omega)) (by first | with_reducible exact cut_kids | rfl | (simp [List.drop_append, List.take_append, List.getElem?_append, lay, hC_length, ints_length, ints_drop, ints_take, ints_append, List.drop_of_length_le, List.take_of_length_le, List.map_append, List.set_append, Value.cells]; done))))
    | ((with_reducible apply Sy.stNa (t := 191)); exact rfl; exact rfl; exact sz191; (· first | exact hC_length _ | (simp; done)); (· first | exact hC_one _); exact turnT; (· first | (simp; done)); (· first | exact lay_all (by first | (simp; done))))
    | ((with_reducible apply Sy.ldN (t := 189)); exact rfl; exact rfl; exact hasT; (· first | ((with_reducible refine ld_hash ag189 ?_); omega) | ((with_reducible refine ld_int ag189 ?_); first | omega | (simp; done) | (simp; omega)) | exact ld_one ag189 rfl | with_reducible assumption | exact ld_one ag189 (by with_reducible assumption) | exact ld_one ag189 (by simp [List.drop_append, List.take_append, List.getElem?_append, lay, hC_length, ints_length, ints_drop, ints_take, ints_append, List.drop_of_length_le, List.take_of_length_le, List.map_append, List.set_append, Value.cells]; done)))
    | ((with_reducible apply Sy.ldN (t := 44)); exact rfl; exact rfl; exact hasT; (· first | exact ld_hV ag44 sz44))
    | ((with_reducible apply Sy.stNa (t := 44)); exact rfl; exact rfl; exact sz44; (· first | exact hC_length _ | (simp; done)); (· first | exact hC_one _); exact turnT; (· first | (simp; done)); (· first | exact lay_all (by first | (simp; done))))
    | (with_reducible refine Sy.ret ?_))
      rw [hsh]
      exact .fin [hV (outH S)] (.inr rfl) ⟨⟨q2, 0, _, rfl, (by repeat (first | exact Has.here | apply Has.there | apply Has.app)), ld_hV ag44 sz44⟩, trivial⟩ fun H1 hp => ⟨rfl, hp.less (List.nil_sublist _)⟩
  · have e3 := hTl (o' := 0 + (64 - 8) * 1) (by omega) (by omega) hN
    rw [hrl] at e3
    rw [show List.take (min 8 (128 - (64 - 8))) (be64 (8 * n % 18446744073709551616)) = be64 (8 * n % 18446744073709551616) from List.take_of_length_le (by rw [hN]; decide), e3]
    have hLl : ∀ x ∈ tailN r (be64 (8 * n % 18446744073709551616)) (0 + (64 - 8) * 1 - m - 1) ++ List.replicate (128 - (0 + (64 - 8) * 1) - 8) 0, x < 256 := by
      intro x hx
      rcases List.mem_append.1 hx with hx | hx
      · exact tailN_lt hr256 (beN_lt _ 8) x hx
      · rw [List.eq_of_mem_replicate hx]; decide
    have hLn : (tailN r (be64 (8 * n % 18446744073709551616)) (0 + (64 - 8) * 1 - m - 1) ++ List.replicate (128 - (0 + (64 - 8) * 1) - 8) 0).length = 128 := by
      simp [tailN_length, hN]; omega
    repeat' (first
    | (with_reducible refine Sy.seq ?_)
    | (with_reducible refine Sy.regionL ?_)
    | (with_reducible refine Sy.opsnil ?_)
    | (with_reducible refine Sy.go ?_)
    | (with_reducible refine Sy.nrm ?_)
    | ((with_reducible apply Sy.move); exact rfl; exact rfl)
    | ((with_reducible apply Sy.bin (op := .gtr) (t := 3)); exact rfl; exact rfl; exact rfl; exact b_gtr)
    | ((with_reducible apply Sy.bin (op := .gtr) (t := 3)); exact rfl; exact rfl; exact rfl; exact bz_gtr)
    | ((with_reducible apply Sy.call1 (k := 122)); exact rfl; exact rfl; exact en122; exact rfl; (intro H' hp; exact c_block q3 q5 _ _ _ (by omega) _ _ _ H' _ hok _ _ (hp.get0 hgk rfl (by simp)) (hp.getN (by repeat (first | exact Has.here | apply Has.there | apply Has.app))) (hp.getN (by repeat (first | exact Has.here | apply Has.there | apply Has.app))) (by rw [hLn]; decide) (lt_getD (by decide) hLl)); exact turnT)
    | ((with_reducible apply Sy.call1 (k := 122)); exact rfl; exact rfl; exact en122; exact rfl; (intro H' hp; exact c_block q3 q5 _ _ _ (by omega) _ _ _ H' _ (blockS_ok _ _) _ _ (hp.get0 hgk rfl (by simp)) (hp.getN (by repeat (first | exact Has.here | apply Has.there | apply Has.app))) (hp.getN (by repeat (first | exact Has.here | apply Has.there | apply Has.app))) (by rw [hLn]; decide) (lt_getD (by decide) hLl)); exact turnT)
    | (with_reducible refine Sy.skip ?_)
    | (with_reducible refine Sy.block ?_)
    | ((with_reducible apply Sy.no); exact rfl))
    generalize hL : tailN r (be64 (8 * n % 18446744073709551616)) (0 + (64 - 8) * 1 - m - 1) ++ List.replicate (128 - (0 + (64 - 8) * 1) - 8) 0 = L at *
    have hsh2 : sha l = outH (blockS (fun j => L.getD (0 + j) 0) (blocksN (lb.drop o) k)) := by
      have h56 : m < 56 := by omega
      rw [hsh]
      simp only [h56, if_true]
      refine congrArg outH (blockS_congr (fun j hj => ?_) _)
      rw [← hL, Nat.zero_add, getD_app_left (by rw [tailN_length, hrl, hN]; omega), show 0 + (64 - 8) * 1 - m - 1 = 55 - m by omega, Nat.zero_add]
    replace hsh := hsh2
    clear hsh2
    have hSok := blockS_ok (fun j => L.getD (0 + j) 0) (blocksN (lb.drop o) k)
    generalize hS : blockS (fun j => L.getD (0 + j) 0) (blocksN (lb.drop o) k) = S at *
    have hS256 := S8_lt hSok
    have hSl : S.l.length = 8 := rfl
    refine Sy.loop (ι := Nat) (fun i => 32 - i) (fun i => [(2, .pointer (some ⟨q2, 0, none⟩)), (3, .pointer (some ⟨q3, 0, none⟩)), (39, .int .i64 (i : Nat))]) (fun _ => []) (fun i => [(q3, .cells (ints .u32 S.l) 191 true), (q2, .cells (ints .u8 (outN S.l i)) 44 true)]) (fun i => i ≤ 32) 0 (by omega) ⟨rfl, rfl, rfl, trivial⟩ (fun H h => h.less (List.Sublist.cons _ (List.Sublist.cons _ (List.Sublist.refl _)))) ?_
    intro i hi
    have hol : (outN S.l i).length = 32 := outN_length _ _
    have hSo := lt_getD (l := S.l) (m := 4294967296) (by decide) hS256 (i / 4)
    repeat' (first
    | (with_reducible refine Sy.seq ?_)
    | (with_reducible refine Sy.regionL ?_)
    | (with_reducible refine Sy.opsnil ?_)
    | (with_reducible refine Sy.go ?_)
    | (with_reducible refine Sy.nrm ?_)
    | ((with_reducible apply Sy.ldN (t := 190)); exact rfl; exact rfl; exact hasT; (· first | exact ld_all ag190 (by first | exact sz190 | (simp [sz190, *]; done)) | exact ld_agg ag190 sz190 (by first | (simp; done) | (simp; omega)) (by first | with_reducible exact cut_kids | rfl | (simp [List.drop_append, List.take_append, List.getElem?_append, lay, hC_length, ints_length, ints_drop, ints_take, ints_append, List.drop_of_length_le, List.take_of_length_le, List.map_append, List.set_append, Value.cells]; done))))
    | ((with_reducible apply Sy.move); exact rfl; exact rfl)
    | ((with_reducible apply Sy.assign); exact rfl; exact rfl)
    | ((with_reducible apply Sy.ia (t := 193)); exact rfl; exact rfl; exact rfl; exact (ia_ar10 Tryd.underlying193 sz5 (by omega)))
    | ((with_reducible apply Sy.ia (t := 193)); exact rfl; exact rfl; exact rfl; exact (ia_ar1 Tryd.underlying193 sz5 (by omega)))
    | ((with_reducible apply Sy.stN1 (t := 5)); exact rfl; exact rfl; exact sz5; (· first | exact rfl | exact accV_cells); (· first | exact rfl | exact accV_oneL); exact turnT; (· first | (simp; omega)); (· first | with_reducible exact ints_set _ _ _ _))
    | ((with_reducible apply Sy.bin (op := .sub) (t := 3)); exact rfl; exact rfl; exact rfl; exact (b_sub (by omega) (by omega)))
    | ((with_reducible apply Sy.bin (op := .sub) (t := 3)); exact rfl; exact rfl; exact rfl; exact (bz_sub (by omega) (by omega)))
    | ((with_reducible apply Sy.conv (D := 0) (T := .bool)); exact rfl; exact Tryd.underlying3; exact Tryd.underlying22; exact rfl; exact (wrap_u64x (by omega)))
    | ((with_reducible apply Sy.conv (D := 0) (T := .bool)); exact rfl; exact Tryd.underlying3; exact Tryd.underlying22; exact rfl; exact wrap_u64 _)
    | ((with_reducible apply Sy.bin (op := .mul) (t := 22)); exact rfl; exact rfl; exact rfl; exact (u64_mulx (by omega)))
    | ((with_reducible apply Sy.bin (op := .mul) (t := 22)); exact rfl; exact rfl; exact rfl; exact u64_mul)
    | ((with_reducible apply Sy.bin (op := .lss) (t := 3)); exact rfl; exact rfl; exact rfl; exact b_lss)
    | ((with_reducible apply Sy.bin (op := .lss) (t := 3)); exact rfl; exact rfl; exact rfl; exact bz_lss)
    | ((with_reducible apply Sy.bin (op := .quo) (t := 3)); exact rfl; exact rfl; exact rfl; exact (b_quo (by omega) (by omega)))
    | ((with_reducible apply Sy.ia (t := 191)); exact rfl; exact rfl; exact rfl; exact (ia_ar10 Tryd.underlying191 sz189 (by omega)))
    | ((with_reducible apply Sy.ia (t := 191)); exact rfl; exact rfl; exact rfl; exact (ia_ar1 Tryd.underlying191 sz189 (by omega)))
    | ((with_reducible apply Sy.ldN (t := 189)); exact rfl; exact rfl; exact hasT; (· first | ((with_reducible refine ld_int ag189 ?_); first | omega)))
    | ((with_reducible apply Sy.bin (op := .rem) (t := 3)); exact rfl; exact rfl; exact rfl; exact (b_rem (by omega)))
    | ((with_reducible apply Sy.bin (op := .mul) (t := 3)); exact rfl; exact rfl; exact rfl; exact (b_mul (by omega)))
    | ((with_reducible apply Sy.bin (op := .shr) (t := 189)); exact rfl; exact rfl; exact rfl; exact (b_shr32 (by omega)))
    | ((with_reducible apply Sy.conv (D := 0) (T := .bool)); exact rfl; exact Tryd.underlying189; exact Tryd.underlying5; exact rfl; exact (wrap_u8x (by omega)))
    | ((with_reducible apply Sy.conv (D := 0) (T := .bool)); exact rfl; exact Tryd.underlying189; exact Tryd.underlying5; exact rfl; exact wrap_u8 _)
    | ((with_reducible apply Sy.ia (t := 44)); exact rfl; exact rfl; exact rfl; exact (ia_ar10 Tryd.underlying44 sz5 (by omega)))
    | ((with_reducible apply Sy.ia (t := 44)); exact rfl; exact rfl; exact rfl; exact (ia_ar1 Tryd.underlying44 sz5 (by omega)))
    | ((with_reducible apply Sy.bin (op := .add) (t := 3)); exact rfl; exact rfl; exact rfl; exact (b_add (by omega)))
    | ((with_reducible apply Sy.bin (op := .add) (t := 3)); exact rfl; exact rfl; exact rfl; exact (bz_add (by omega) (by omega)))
    | ((with_reducible apply Sy.ldN (t := 44)); exact rfl; exact rfl; exact hasT; (· first | exact ld_hV ag44 sz44 | exact ld_agg (cs' := hC _) ag44 sz44 (by simp; done) (by first | rfl | exact cut_here (by simp; done) | exact cut_all (by simp; done) | (simp [List.drop_append, List.take_append, List.getElem?_append, lay, hC_length, ints_length, ints_drop, ints_take, ints_append, List.drop_of_length_le, List.take_of_length_le, List.map_append, List.set_append, Value.cells]; done))))
    | (with_reducible refine Sy.skip ?_)
    | (with_reducible refine Sy.exit ?_)
    | (with_reducible refine Sy.block ?_)
    | (with_reducible refine Sy.aex ?_)
    | (with_reducible refine Sy.inrm ?_)
    | ((with_reducible apply Sy.iex); exact rfl)
    | (with_reducible refine Sy.rex ?_)
    | ((with_reducible apply Sy.ite); (case hx => exact rfl); all_goals (intro hc; try (exfalso; omega))))
    · exact Sy.rnrm (i + 1) (by omega) (by omega) ⟨rfl, rfl, rfl, trivial⟩ (fun H h => h)
    · obtain rfl : i = 32 := by omega
      rw [← hC_out]
      repeat' (first
    | (with_reducible refine Sy.opsnil ?_)
    | (with_reducible refine Sy.go ?_)
    | (with_reducible refine Sy.nrm ?_)
    | ((with_reducible apply Sy.ldN (t := 190)); exact rfl; exact rfl; exact hasT; (· first | exact ld_all ag190 (by first | exact sz190 | (simp [sz190, *]; done)) | exact ld_agg ag190 sz190 (by first | (simp; done) | (simp; omega)) (by first | with_reducible exact cut_kids | rfl | (simp [List.drop_append, List.take_append, List.getElem?_append, lay, hC_length, ints_length, ints_drop, ints_take, ints_append, List.drop_of_length_le, List.take_of_length_le, List.map_append, List.set_append, Value.cells]; done))))
    | ((with_reducible apply Sy.stNa (t := 191)); exact rfl; exact rfl; exact sz191; (· first | exact hC_length _ | (simp; done)); (· first | exact hC_one _); exact turnT; (· first | (simp; done)); (· first | exact lay_all (by first | (simp; done))))
    | ((with_reducible apply Sy.ldN (t := 189)); exact rfl; exact rfl; exact hasT; (· first | ((with_reducible refine ld_hash ag189 ?_); omega) | ((with_reducible refine ld_int ag189 ?_); first | omega | (simp; done) | (simp; omega)) | exact ld_one ag189 rfl | with_reducible assumption | exact ld_one ag189 (by with_reducible assumption) | exact ld_one ag189 (by simp [List.drop_append, List.take_append, List.getElem?_append, lay, hC_length, ints_length, ints_drop, ints_take, ints_append, List.drop_of_length_le, List.take_of_length_le, List.map_append, List.set_append, Value.cells]; done)))
    | ((with_reducible apply Sy.ldN (t := 44)); exact rfl; exact rfl; exact hasT; (· first | exact ld_hV ag44 sz44))
    | ((with_reducible apply Sy.stNa (t := 44)); exact rfl; exact rfl; exact sz44; (· first | exact hC_length _ | (simp; done)); (· first | exact hC_one _); exact turnT; (· first | (simp; done)); (· first | exact lay_all (by first | (simp; done))))
    | (with_reducible refine Sy.ret ?_))
      rw [hsh]
      exact .fin [hV (outH S)] (.inr rfl) ⟨⟨q2, 0, _, rfl, (by repeat (first | exact Has.here | apply Has.there | apply Has.app)), ld_hV ag44 sz44⟩, trivial⟩ fun H1 hp => ⟨rfl, hp.less (List.nil_sublist _)⟩
end Go.Proofs.YtjimjolfnimimaaDoor

/- digest.Frame, Tagged, Pair. -/
namespace Go.Proofs.YtjimjolfnimimaaDoor
open Go Go.Am
set_option maxRecDepth 100000
set_option linter.unusedVariables false

def bytesOf (s : ByteArray) : List Nat := s.data.toList.map UInt8.toNat
theorem bytesOf_length (s : ByteArray) : (bytesOf s).length = s.size := by simp [bytesOf]
theorem bytesOf_lt (s : ByteArray) : ∀ x ∈ bytesOf s, x < 256 := by
  intro x hx
  simp only [bytesOf, List.mem_map] at hx
  obtain ⟨c, _, rfl⟩ := hx
  exact c.toNat_lt
/-- A part, its length ahead. -/
def partN (p : List Nat) : List Nat := be64 p.length ++ p
def frameN (tag : List Nat) : List (List Nat) → List Nat
  | [] => tag.length :: tag
  | ps => (tag.length :: tag) ++ (ps.map partN).flatten
theorem frameN_eq (tag : List Nat) (ps : List (List Nat)) : frameN tag ps = (tag.length :: tag) ++ (ps.map partN).flatten := by cases ps <;> simp [frameN]
theorem frameN_snoc (tag : List Nat) (ps : List (List Nat)) (p : List Nat) : frameN tag (ps ++ [p]) = (frameN tag ps ++ be64 p.length) ++ p := by simp [frameN_eq, partN, List.append_assoc]
theorem frameN_lt {tag : List Nat} {ps : List (List Nat)} (h0 : tag.length < 256) (h1 : ∀ x ∈ tag, x < 256) (h2 : ∀ p ∈ ps, ∀ x ∈ p, x < 256) : ∀ x ∈ frameN tag ps, x < 256 := by
  intro x hx
  rw [frameN_eq] at hx
  simp only [List.mem_append, List.mem_cons, List.mem_flatten, List.mem_map] at hx
  rcases hx with (rfl | hx) | ⟨l, ⟨p, hp, rfl⟩, hx⟩
  · exact h0
  · exact h1 x hx
  · simp only [partN, List.mem_append] at hx
    rcases hx with hx | hx
    · exact beN_lt _ _ x hx
    · exact h2 p hp x hx

theorem _root_.Go.Am.SlR.two {H : AHeap} {sz m : Nat} {x : Value} {l : List Value} (h : SlR H sz x m l) : (x = .slice none 0 0 ∧ m = 0 ∧ l = []) ∨ ∃ (b o c : Nat), x = .slice (some ⟨b, o, none⟩) m c := by
  cases h with
  | nil => exact .inl ⟨rfl, rfl, rfl⟩
  | emp => exact .inr ⟨_, _, _, rfl⟩
  | mk h1 h2 h3 => exact .inr ⟨_, _, _, rfl⟩

theorem _root_.Go.Am.SlR.of {H0 H : AHeap} {lo hi : Nat} {Mn : Hm} {sz m : Nat} {x : Value} {l : List Value} (h : SlR H0 sz x m l) (hp : Hp H0 lo hi H [] Mn) : SlR H sz x m l := by
  cases h with
  | nil => exact .nil
  | emp => exact .emp
  | mk h1 h2 h3 => exact .mk (hp.get0 h1 rfl (by simp)) h2 h3

theorem c_Frame (s : ByteArray) (hs0 : 0 < s.size) (hs : s.size ≤ 255) (pb np cp : Nat) (pc : List Value) (Tp : TypeId) (w : Bool) (H : AHeap) (hgp : H.get pb = .cells pc Tp w) (ps : List (List Nat)) (hps : ps.length = np) (hn2 : np < 1000000)
    (hrd : ∀ (i : Nat) (p : List Nat), ps[i]? = some p → ∃ x, pc[i]? = some x ∧ SlR H 1 x p.length (ints .u8 p)) (hbd : ∀ i, (frameN (bytesOf s) (ps.take i)).length < 1000000000) (hbp : ∀ p ∈ ps, p.length < 1000000000) :
    CallR Tryd.prog noPrims 101 [.string s, .slice (some ⟨pb, 0, none⟩) np cp] H (fun v H' => ∃ b : Nat, True ∧ v = .slice (some ⟨b, 0, none⟩) (frameN (bytesOf s) ps).length ((frameN (bytesOf s) ps).length + 2 + 1) ∧ Hp H 0 0 H' [] [(b, .cells (ints .u8 (frameN (bytesOf s) ps)) 5 true)]) := by
  have hmin : min s.size 255 = s.size := by omega
  have hex : s.extract 0 s.size = s := by simp
  refine CallR.sy (n := 35) Tryd.func101 rfl rfl rfl ?_
  have hbs := bytesOf_length s
  have hlt0 : s.size % 256 = s.size := Nat.mod_eq_of_lt (by omega)
  have hb0 := hbd 0
  simp only [List.take_zero, frameN, List.length_cons] at hb0
  repeat' (first
    | (with_reducible refine Sy.seq ?_)
    | (with_reducible refine Sy.regionL ?_)
    | (with_reducible refine Sy.opsnil ?_)
    | (with_reducible refine Sy.go ?_)
    | (with_reducible refine Sy.nrm ?_)
    | ((with_reducible apply Sy.assign); exact rfl; exact rfl)
    | ((with_reducible apply Sy.move); exact rfl; exact rfl)
    | ((with_reducible apply Sy.lenStr); exact rfl; exact Tryd.underlying9; exact rfl)
    | ((with_reducible apply Sy.minI); exact rfl; exact rfl; exact rfl)
    | ((with_reducible apply Sy.sl (t := 9)); exact rfl; exact rfl; exact rfl; exact rfl; exact rfl; exact (sl_str_to Tryd.underlying9 (by omega)))
    | ((with_reducible apply Sy.conv (D := 0) (T := .bool)); exact rfl; exact Tryd.underlying3; exact Tryd.underlying5; exact rfl; exact (wrap_u8x (by omega)))
    | ((with_reducible apply Sy.conv (D := 0) (T := .bool)); exact rfl; exact Tryd.underlying3; exact Tryd.underlying5; exact rfl; exact wrap_u8 _)
    | ((with_reducible apply Sy.conv (D := 0) (T := .bool)); exact rfl; exact Tryd.underlying3; exact Tryd.underlying22; exact rfl; exact (wrap_u64x (by omega)))
    | ((with_reducible apply Sy.conv (D := 0) (T := .bool)); exact rfl; exact Tryd.underlying3; exact Tryd.underlying22; exact rfl; exact wrap_u64 _)
    | ((with_reducible apply Sy.newY (o := ⟨some 16, .buildSlice 25 _ _, _, _, _, _⟩)); exact rfl; exact rfl; exact (nbsI [_] Tryd.underlying25 sz5 zr5 rfl (by decide) rfl rfl); intro q16)
    | ((with_reducible apply Sy.newY (o := ⟨some 16, .buildSlice 25 _ _, _, _, _, _⟩)); exact rfl; exact rfl; exact (nbs1 Tryd.underlying25 sz5 zr5 rfl (by decide) rfl rfl); intro q16)
    | ((with_reducible apply Sy.newY (o := ⟨some 16, .buildSlice 25 _ _, _, _, _, _⟩)); exact rfl; exact rfl; (· exact (newY_bs Tryd.underlying25 sz5 zr5 rfl (by decide) rfl (by first | rfl | (simp [List.drop_append, List.take_append, List.getElem?_append, lay, hC_length, ints_length, ints_drop, ints_take, ints_append, List.drop_of_length_le, List.take_of_length_le, List.map_append, List.set_append, Value.cells]; done)))); intro q16))
  rw [hmin, hex, hlt0]
  repeat' (first
    | (with_reducible refine Sy.seq ?_)
    | (with_reducible refine Sy.regionL ?_)
    | (with_reducible refine Sy.opsnil ?_)
    | (with_reducible refine Sy.go ?_)
    | (with_reducible refine Sy.nrm ?_)
    | ((with_reducible apply Sy.assign); exact rfl; exact rfl)
    | ((with_reducible apply Sy.move); exact rfl; exact rfl)
    | ((with_reducible apply Sy.appFN (t := 25) (xt := 9)); exact ap25_9 zr5 rfl; exact rfl; exact rfl; exact rfl; (· first | exact SrcY.stri rfl); (· first | exact oneL_ints _ _); (· first | omega | (simp; done)); (· first | omega | (simp; done)); exact hasT; (· first | omega | (simp; done)); (· first | exact cut_ints' (by first | (simp; done))); (· first | exact ints_append _ _ _); intro q18)
    | ((with_reducible apply Sy.lenS); exact rfl; exact Tryd.underlying113; exact rfl)
    | ((with_reducible apply Sy.lenS); exact rfl; exact Tryd.underlying25; exact rfl)
    | ((with_reducible apply Sy.appFN (t := 25) (xt := 25)); exact ap25_25 zr5 rfl; exact rfl; exact rfl; exact rfl; (· first | exact SrcY.stri rfl); (· first | exact oneL_ints _ _); (· first | omega | (simp; done)); (· first | omega | (simp; done)); exact hasT; (· first | omega | (simp; done)); (· first | exact cut_ints' (by first | (simp; done))); (· first | exact ints_append _ _ _); intro q30)
    | ((with_reducible apply Sy.appFN (t := 25) (xt := 25)); exact ap25_25 zr5 rfl; exact rfl; exact rfl; exact rfl; (· first | exact SrcY.stri rfl); (· first | exact oneL_ints _ _); (· first | omega | (simp; done)); (· first | omega | (simp; done)); exact hasT; (· first | omega | (simp; done)); (· first | exact cut_ints' (by first | (simp; done))); (· first | exact ints_append _ _ _); intro q32)
    | (with_reducible refine Sy.block ?_))
  refine Sy.loop (ι := Nat × Nat) (fun i => np - i.1) (fun i => [(5, .slice (some ⟨i.2, 0, none⟩) (frameN (bytesOf s) (ps.take i.1)).length ((frameN (bytesOf s) (ps.take i.1)).length + 2 + 1)), (19, .slice (some ⟨pb, 0, none⟩) np cp), (20, .int .i64 (np : Nat)), (21, .int .i64 (i.1 : Nat))]) (fun _ => [])
    (fun i => [(i.2, .cells (ints .u8 (frameN (bytesOf s) (ps.take i.1))) 5 true)]) (fun i => i.1 ≤ np) (0, q18) (Nat.zero_le _) ?_ ?_ ?_
  · refine ⟨?_, rfl, rfl, rfl, trivial⟩
    simp only [List.take_zero, frameN, List.length_cons, hbs]
    rw [Nat.add_comm s.size 1]; rfl
  · intro H h
    have h2 := h.less (List.Sublist.cons_cons _ (List.nil_sublist _))
    simp only [List.take_zero, frameN, hbs]
    exact h2
  rintro ⟨i, b⟩ hi
  dsimp only at hi ⊢
  by_cases hlt : i < np
  · obtain ⟨p, hp⟩ : ∃ p, ps[i]? = some p := ⟨ps[i], List.getElem?_eq_getElem (by omega)⟩
    obtain ⟨x, hx, hr⟩ := hrd i p hp
    have hr2 := hr
    have hplt := hbp p (List.mem_of_getElem? hp)
    have htk : ps.take (i + 1) = ps.take i ++ [p] := by rw [List.take_add_one, hp]; rfl
    have hb1 := hbd (i + 1)
    rw [htk, frameN_snoc] at hb1
    simp only [List.length_append, be64_length] at hb1
    generalize hacc : frameN (bytesOf s) (ps.take i) = acc at *
    have hdone : frameN (bytesOf s) (ps.take (i + 1)) = (acc ++ be64 p.length) ++ p := by rw [htk, frameN_snoc, hacc]
    rcases hr.two with ⟨rfl, hz, hz2⟩ | ⟨b2, o2, c2, rfl⟩
    · obtain rfl : p = [] := List.length_eq_zero_iff.1 hz
      simp only [List.length_nil] at hplt hb1 hdone hr2
      repeat' (first
    | (with_reducible refine Sy.seq ?_)
    | (with_reducible refine Sy.regionL ?_)
    | (with_reducible refine Sy.opsnil ?_)
    | (with_reducible refine Sy.go ?_)
    | (with_reducible refine Sy.nrm ?_)
    | ((with_reducible apply Sy.assign); exact rfl; exact rfl)
    | ((with_reducible apply Sy.move); exact rfl; exact rfl)
    | ((with_reducible apply Sy.conv (D := 0) (T := .bool)); exact rfl; exact Tryd.underlying3; exact Tryd.underlying5; exact rfl; exact (wrap_u8x (by omega)))
    | ((with_reducible apply Sy.conv (D := 0) (T := .bool)); exact rfl; exact Tryd.underlying3; exact Tryd.underlying5; exact rfl; exact wrap_u8 _)
    | ((with_reducible apply Sy.appQ (t := 25) (xt := 9)); exact ap25_9 zr5 rfl; exact rfl; exact rfl; exact rfl; (· first | exact SrcY.ofR (by with_reducible assumption) rfl | exact SrcY.ofNi' (by repeat (first | exact Has.here)) (by first | (simp; done))); (· first | exact oneL_ints _ _); (· first | omega | (simp; done)); (· first | omega | (simp; done)); (· repeat (first | exact Drop.here | apply Drop.there)); (· first | omega | (simp; done)); (· first | exact ints_append _ _ _); intro q18)
    | ((with_reducible apply Sy.lenS); exact rfl; exact Tryd.underlying113; exact rfl)
    | ((with_reducible apply Sy.bin (op := .lss) (t := 3)); exact rfl; exact rfl; exact rfl; exact b_lss)
    | ((with_reducible apply Sy.bin (op := .lss) (t := 3)); exact rfl; exact rfl; exact rfl; exact bz_lss)
    | ((with_reducible apply Sy.ia (t := 113)); exact rfl; exact rfl; exact rfl; exact (ia_sl10 Tryd.underlying113 sz25 (by omega)))
    | ((with_reducible apply Sy.ia (t := 113)); exact rfl; exact rfl; exact rfl; exact (ia_sl1 Tryd.underlying113 sz25 (by omega)))
    | ((with_reducible apply Sy.ld0 (t := 25)); exact rfl; exact rfl; (· with_reducible assumption); exact rfl; exact notM; (· first | exact ld_one ag25 (by with_reducible assumption)))
    | ((with_reducible apply Sy.lenS); exact rfl; exact Tryd.underlying25; exact rfl)
    | ((with_reducible apply Sy.conv (D := 0) (T := .bool)); exact rfl; exact Tryd.underlying3; exact Tryd.underlying22; exact rfl; exact (wrap_u64x (by omega)))
    | ((with_reducible apply Sy.conv (D := 0) (T := .bool)); exact rfl; exact Tryd.underlying3; exact Tryd.underlying22; exact rfl; exact wrap_u64 _)
    | ((with_reducible apply Sy.appQ (t := 25) (xt := 25)); exact ap25_25 zr5 rfl; exact rfl; exact rfl; exact rfl; (· first | exact SrcY.ofR (by with_reducible assumption) rfl | exact SrcY.ofNi' (by repeat (first | exact Has.here)) (by first | (simp; done))); (· first | exact oneL_ints _ _); (· first | omega | (simp; done)); (· first | omega | (simp; done)); (· repeat (first | exact Drop.here | apply Drop.there)); (· first | omega | (simp; done)); (· first | exact ints_append _ _ _); intro q30)
    | ((with_reducible apply Sy.appQ (t := 25) (xt := 25)); exact ap25_25 zr5 rfl; exact rfl; exact rfl; exact rfl; (· first | exact SrcY.ofR (by with_reducible assumption) rfl | exact SrcY.ofNi' (by repeat (first | exact Has.here)) (by first | (simp; done))); (· first | exact oneL_ints _ _); (· first | omega | (simp; done)); (· first | omega | (simp; done)); (· repeat (first | exact Drop.here | apply Drop.there)); (· first | omega | (simp; done)); (· first | exact ints_append _ _ _); intro q32)
    | ((with_reducible apply Sy.bin (op := .add) (t := 3)); exact rfl; exact rfl; exact rfl; exact (b_add (by omega)))
    | ((with_reducible apply Sy.bin (op := .add) (t := 3)); exact rfl; exact rfl; exact rfl; exact (bz_add (by omega) (by omega)))
    | ((with_reducible apply Sy.callN (k := 123)); exact rfl; exact rfl; exact en123; exact rfl; (intro H' hp; exact c_eight _ (by omega) H'); rintro hq29 -)
    | (with_reducible refine Sy.skip ?_)
    | (with_reducible refine Sy.block ?_)
    | (with_reducible refine Sy.inrm ?_)
    | ((with_reducible apply Sy.ite); (case hx => exact rfl); all_goals (intro hc; try (exfalso; omega))))
      refine Sy.rnrm (i + 1, q30) (by simp only; omega) (by simp only; omega) ?_ ?_
      · simp only [hdone, List.length_append, be64_length, List.length_nil]; exact ⟨rfl, rfl, rfl, rfl, trivial⟩
      · intro H h; simp only [hdone]; exact h.less (List.Sublist.cons_cons _ (List.nil_sublist _))
    · repeat' (first
    | (with_reducible refine Sy.seq ?_)
    | (with_reducible refine Sy.regionL ?_)
    | (with_reducible refine Sy.opsnil ?_)
    | (with_reducible refine Sy.go ?_)
    | (with_reducible refine Sy.nrm ?_)
    | ((with_reducible apply Sy.assign); exact rfl; exact rfl)
    | ((with_reducible apply Sy.move); exact rfl; exact rfl)
    | ((with_reducible apply Sy.conv (D := 0) (T := .bool)); exact rfl; exact Tryd.underlying3; exact Tryd.underlying5; exact rfl; exact (wrap_u8x (by omega)))
    | ((with_reducible apply Sy.conv (D := 0) (T := .bool)); exact rfl; exact Tryd.underlying3; exact Tryd.underlying5; exact rfl; exact wrap_u8 _)
    | ((with_reducible apply Sy.appQ (t := 25) (xt := 9)); exact ap25_9 zr5 rfl; exact rfl; exact rfl; exact rfl; (· first | exact SrcY.ofR (by with_reducible assumption) rfl | exact SrcY.ofNi' (by repeat (first | exact Has.here)) (by first | (simp; done))); (· first | exact oneL_ints _ _); (· first | omega | (simp; done)); (· first | omega | (simp; done)); (· repeat (first | exact Drop.here | apply Drop.there)); (· first | omega | (simp; done)); (· first | exact ints_append _ _ _); intro q18)
    | ((with_reducible apply Sy.lenS); exact rfl; exact Tryd.underlying113; exact rfl)
    | ((with_reducible apply Sy.bin (op := .lss) (t := 3)); exact rfl; exact rfl; exact rfl; exact b_lss)
    | ((with_reducible apply Sy.bin (op := .lss) (t := 3)); exact rfl; exact rfl; exact rfl; exact bz_lss)
    | ((with_reducible apply Sy.ia (t := 113)); exact rfl; exact rfl; exact rfl; exact (ia_sl10 Tryd.underlying113 sz25 (by omega)))
    | ((with_reducible apply Sy.ia (t := 113)); exact rfl; exact rfl; exact rfl; exact (ia_sl1 Tryd.underlying113 sz25 (by omega)))
    | ((with_reducible apply Sy.ld0 (t := 25)); exact rfl; exact rfl; (· with_reducible assumption); exact rfl; exact notM; (· first | exact ld_one ag25 (by with_reducible assumption)))
    | ((with_reducible apply Sy.lenS); exact rfl; exact Tryd.underlying25; exact rfl)
    | ((with_reducible apply Sy.conv (D := 0) (T := .bool)); exact rfl; exact Tryd.underlying3; exact Tryd.underlying22; exact rfl; exact (wrap_u64x (by omega)))
    | ((with_reducible apply Sy.conv (D := 0) (T := .bool)); exact rfl; exact Tryd.underlying3; exact Tryd.underlying22; exact rfl; exact wrap_u64 _)
    | ((with_reducible apply Sy.appQ (t := 25) (xt := 25)); exact ap25_25 zr5 rfl; exact rfl; exact rfl; exact rfl; (· first | exact SrcY.ofR (by with_reducible assumption) rfl | exact SrcY.ofNi' (by repeat (first | exact Has.here)) (by first | (simp; done))); (· first | exact oneL_ints _ _); (· first | omega | (simp; done)); (· first | omega | (simp; done)); (· repeat (first | exact Drop.here | apply Drop.there)); (· first | omega | (simp; done)); (· first | exact ints_append _ _ _); intro q30)
    | ((with_reducible apply Sy.appQ (t := 25) (xt := 25)); exact ap25_25 zr5 rfl; exact rfl; exact rfl; exact rfl; (· first | exact SrcY.ofR (by with_reducible assumption) rfl | exact SrcY.ofNi' (by repeat (first | exact Has.here)) (by first | (simp; done))); (· first | exact oneL_ints _ _); (· first | omega | (simp; done)); (· first | omega | (simp; done)); (· repeat (first | exact Drop.here | apply Drop.there)); (· first | omega | (simp; done)); (· first | exact ints_append _ _ _); intro q32)
    | ((with_reducible apply Sy.bin (op := .add) (t := 3)); exact rfl; exact rfl; exact rfl; exact (b_add (by omega)))
    | ((with_reducible apply Sy.bin (op := .add) (t := 3)); exact rfl; exact rfl; exact rfl; exact (bz_add (by omega) (by omega)))
    | ((with_reducible apply Sy.callN (k := 123)); exact rfl; exact rfl; exact en123; exact rfl; (intro H' hp; exact c_eight _ (by omega) H'); rintro hq29 -)
    | (with_reducible refine Sy.skip ?_)
    | (with_reducible refine Sy.block ?_)
    | (with_reducible refine Sy.inrm ?_)
    | ((with_reducible apply Sy.ite); (case hx => exact rfl); all_goals (intro hc; try (exfalso; omega))))
      refine Sy.rnrm (i + 1, q30) (by simp only; omega) (by simp only; omega) ?_ ?_
      · simp only [hdone, List.length_append, be64_length, List.length_nil]; exact ⟨rfl, rfl, rfl, rfl, trivial⟩
      · intro H h; simp only [hdone]; exact h.less (List.Sublist.cons_cons _ (List.nil_sublist _))
  · obtain rfl : i = np := by omega
    rw [List.take_of_length_le (by omega)]
    repeat' (first
    | (with_reducible refine Sy.seq ?_)
    | (with_reducible refine Sy.regionL ?_)
    | (with_reducible refine Sy.opsnil ?_)
    | (with_reducible refine Sy.go ?_)
    | (with_reducible refine Sy.nrm ?_)
    | ((with_reducible apply Sy.assign); exact rfl; exact rfl)
    | ((with_reducible apply Sy.move); exact rfl; exact rfl)
    | ((with_reducible apply Sy.bin (op := .lss) (t := 3)); exact rfl; exact rfl; exact rfl; exact b_lss)
    | ((with_reducible apply Sy.bin (op := .lss) (t := 3)); exact rfl; exact rfl; exact rfl; exact bz_lss)
    | (with_reducible refine Sy.exit ?_)
    | (with_reducible refine Sy.ret ?_)
    | (with_reducible refine Sy.aex ?_)
    | ((with_reducible apply Sy.iex); exact rfl)
    | (with_reducible refine Sy.rex ?_)
    | ((with_reducible apply Sy.ite); (case hx => exact rfl); all_goals (intro hc; try (exfalso; omega))))
    exact .fin [_] (.inr rfl) ⟨rfl, trivial⟩ fun H' hp => ⟨b, trivial, rfl, hp⟩
end Go.Proofs.YtjimjolfnimimaaDoor

/- digest.Tagged, digest.Pair, smt.none, smt.Leaf, smt.Above. -/
namespace Go.Proofs.YtjimjolfnimimaaDoor
open Go Go.Am
set_option maxRecDepth 100000
set_option linter.unusedVariables false

/-- The two tables of the program. -/
structure Gl (H : AHeap) : Prop where
  f : ∃ T, H.get 0 = .cells (ints .u32 s0S.l) T false
  k : ∃ T, H.get 1 = .cells (ints .u32 sK) T false
theorem Gl.of {H0 H : AHeap} {lo hi : Nat} {Mo Mn : Hm} (g : Gl H0) (hp : Hp H0 lo hi H Mo Mn) (hm : ∀ p ∈ Mo, p.1 ≠ 0 ∧ p.1 ≠ 1) : Gl H := by
  obtain ⟨⟨T, h⟩, ⟨T', h'⟩⟩ := g
  exact ⟨⟨T, hp.get0 h rfl fun p q => (hm p q).1⟩, ⟨T', hp.get0 h' rfl fun p q => (hm p q).2⟩⟩

theorem k_Sum {H : AHeap} (g : Gl H) {b o n cp : Nat} {lb : List Nat} {Tb : TypeId} {wb : Bool} (hgb : H.get b = .cells (ints .u8 lb) Tb wb) (hlb : o + n ≤ lb.length) (h256 : ∀ x ∈ lb, x < 256) (hn : n < 9223372036854775808) :
    CallR Tryd.prog noPrims 100 [.slice (some ⟨b, o, none⟩) n cp] H (fun v H' => v = hV (sha ((lb.drop o).take n)) ∧ Hp H 0 0 H' [] []) := by
  obtain ⟨⟨T, h⟩, ⟨T', h'⟩⟩ := g
  exact c_Sum b o n cp lb _ Tb wb H T T' h h' hgb hlb h256 hn rfl

theorem c_Tagged (s : ByteArray) (hs0 : 0 < s.size) (hs : s.size ≤ 255) (pb np cp : Nat) (pc : List Value) (Tp : TypeId) (w : Bool) (H : AHeap) (g : Gl H) (hgp : H.get pb = .cells pc Tp w) (ps : List (List Nat)) (hps : ps.length = np) (hn2 : np < 1000000)
    (hrd : ∀ (i : Nat) (p : List Nat), ps[i]? = some p → ∃ x, pc[i]? = some x ∧ SlR H 1 x p.length (ints .u8 p)) (hbd : ∀ i, (frameN (bytesOf s) (ps.take i)).length < 1000000000) (hbp : ∀ p ∈ ps, p.length < 1000000000) (h256 : ∀ p ∈ ps, ∀ x ∈ p, x < 256) :
    CallR Tryd.prog noPrims 56 [.string s, .slice (some ⟨pb, 0, none⟩) np cp] H (fun v H' => v = hV (sha (frameN (bytesOf s) ps)) ∧ Hp H 0 0 H' [] []) := by
  have hfl : (frameN (bytesOf s) ps).length < 1000000000 := by have := hbd ps.length; rwa [List.take_of_length_le (Nat.le_refl _)] at this
  have hf256 := frameN_lt (tag := bytesOf s) (ps := ps) (by rw [bytesOf_length]; omega) (bytesOf_lt s) h256
  have hpb : pb < H.next := get_live_lt (by rw [hgp]; rfl)
  refine CallR.sy (n := 9) Tryd.func56 rfl rfl rfl ?_
  repeat' (first
    | (with_reducible refine Sy.seq ?_)
    | (with_reducible refine Sy.regionL ?_)
    | (with_reducible refine Sy.opsnil ?_)
    | (with_reducible refine Sy.go ?_)
    | (with_reducible refine Sy.nrm ?_)
    | ((with_reducible apply Sy.move); exact rfl; exact rfl)
    | ((with_reducible apply Sy.stNa (t := 44)); exact rfl; exact rfl; exact sz44; (· first | exact hC_length _ | (simp; done)); (· first | exact hC_one _); exact turnT; (· first | (simp; done)); (· first | exact lay_all (by first | (simp; done))))
    | ((with_reducible apply Sy.callN (k := 101)); exact rfl; exact rfl; exact en101; exact rfl; (intro H' hp; exact c_Frame s hs0 hs pb np cp pc Tp w H' (hp.get0 hgp rfl (by simp)) ps hps hn2 (fun i p h => by obtain ⟨x, h1, h2⟩ := hrd i p h; exact ⟨x, h1, h2.of hp⟩) hbd hbp); rintro q7 -)
    | ((with_reducible apply Sy.call0 (k := 100)); exact rfl; exact rfl; exact en100; exact rfl; (intro H' hp; exact k_Sum (g.of hp (by simp)) (hp.getN (by repeat (first | exact Has.here | apply Has.there | apply Has.app))) (by simp) hf256 (by omega)))
    | ((with_reducible apply Sy.newY (o := ⟨some 4, .alloc 44, _, _, _, _⟩)); exact rfl; exact rfl; exact nwz44; intro q4)
    | (with_reducible refine Sy.ret ?_))
  rw [List.drop_zero, List.take_of_length_le (Nat.le_refl _)]
  repeat' (first
      | (with_reducible refine Sy.seq ?_)
      | (with_reducible refine Sy.regionL ?_)
      | (with_reducible refine Sy.opsnil ?_)
      | (with_reducible refine Sy.go ?_)
      | (with_reducible refine Sy.nrm ?_)
      | ((with_reducible apply Sy.move); exact rfl; exact rfl)
      | ((with_reducible apply Sy.stNa (t := 44)); exact rfl; exact rfl; exact sz44; (· first | exact hC_length _ | exact rfl | (simp; done) | (simp; omega)); (· first | exact hC_one _ | exact oneL_ints _ _ | exact rfl | (simp [oneL_append, oneL_cons, oneL_nil, hC_one, oneL_ints]; done)); exact turnT; (· first | (simp; done) | omega | (simp; omega)); (· first | with_reducible exact set191 | exact lay_all (by first | (simp; done) | exact rfl) | exact lay_here (by first | (simp; done) | exact rfl) | exact rfl | (simp [List.drop_append, List.take_append, List.getElem?_append, lay, hC_length, ints_length, ints_drop, ints_take, ints_append, List.drop_of_length_le, List.take_of_length_le, List.map_append, List.set_append, Value.cells]; done)))
      | ((with_reducible apply Sy.stOa (t := 44)); exact rfl; exact rfl; exact sz44; (· first | exact hC_length _ | exact rfl | (simp; done) | (simp; omega)); (· first | exact hC_one _ | exact oneL_ints _ _ | exact rfl | (simp [oneL_append, oneL_cons, oneL_nil, hC_one, oneL_ints]; done)); exact turnT; (· first | (simp; done) | omega | (simp; omega)); (· first | with_reducible exact set191 | exact lay_all (by first | (simp; done) | exact rfl) | exact lay_here (by first | (simp; done) | exact rfl) | exact rfl | (simp [List.drop_append, List.take_append, List.getElem?_append, lay, hC_length, ints_length, ints_drop, ints_take, ints_append, List.drop_of_length_le, List.take_of_length_le, List.map_append, List.set_append, Value.cells]; done)))
      | ((with_reducible apply Sy.st0a (t := 44)); exact rfl; exact rfl; exact sz44; (· first | exact hC_length _ | exact rfl | (simp; done) | (simp; omega)); (· first | exact hC_one _ | exact oneL_ints _ _ | exact rfl | (simp [oneL_append, oneL_cons, oneL_nil, hC_one, oneL_ints]; done)); (· with_reducible assumption); exact notM; (· first | (simp; done) | omega | (simp; omega)); (· first | with_reducible exact set191 | exact lay_all (by first | (simp; done) | exact rfl) | exact lay_here (by first | (simp; done) | exact rfl) | exact rfl | (simp [List.drop_append, List.take_append, List.getElem?_append, lay, hC_length, ints_length, ints_drop, ints_take, ints_append, List.drop_of_length_le, List.take_of_length_le, List.map_append, List.set_append, Value.cells]; done)))
      | ((with_reducible apply Sy.newY (o := ⟨some 4, .alloc 44, _, _, _, _⟩)); exact rfl; exact rfl; exact nwz44; intro q4)
      | (with_reducible refine Sy.skip ?_)
      | (with_reducible refine Sy.exit ?_)
      | (with_reducible refine Sy.ret ?_)
      | (with_reducible refine Sy.label ?_)
      | (with_reducible refine Sy.block ?_)
      | (with_reducible refine Sy.scope ?_)
      | (with_reducible refine Sy.aex ?_)
      | (with_reducible refine Sy.aret ?_)
      | (with_reducible refine Sy.inrm ?_)
      | (with_reducible refine Sy.iret ?_)
      | ((with_reducible apply Sy.iex); exact rfl)
      | ((with_reducible apply Sy.iex2); exact rfl)
      | (with_reducible refine Sy.snrm ?_)
      | (with_reducible refine Sy.sret ?_)
      | (with_reducible refine Sy.sex ?_)
      | (with_reducible refine Sy.rex ?_)
      | (with_reducible refine Sy.rret ?_)
      | ((with_reducible apply Sy.yes); exact rfl)
      | ((with_reducible apply Sy.no); exact rfl)
      | ((with_reducible apply Sy.ite); (case hx => exact rfl); all_goals (intro hc; try (exfalso; omega)))
      | ((with_reducible apply Sy.iteB); (case hx => exact rfl); all_goals intro hc))
  exact .fin [hV (sha (frameN (bytesOf s) ps))] (.inr rfl) ⟨⟨q4, 0, _, rfl, (by repeat (first | exact Has.here | apply Has.there | apply Has.app)), ld_hV ag44 sz44⟩, trivial⟩ fun H1 hp => ⟨rfl, hp.less (List.nil_sublist _)⟩

end Go.Proofs.YtjimjolfnimimaaDoor
