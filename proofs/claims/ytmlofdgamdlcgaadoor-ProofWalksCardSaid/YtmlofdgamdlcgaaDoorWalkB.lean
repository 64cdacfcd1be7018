/- Walks: the references' digests. -/
import Derived.Test.YtmlofdgamdlcgaaDoorWalkA
set_option linter.unusedSimpArgs false
set_option linter.unusedVariables false
/- The reference's turn and eight. -/
namespace Go.Proofs.YtmlofdgamdlcgaaDoor
open Go Go.Am
set_option maxRecDepth 100000
set_option linter.unusedVariables false

theorem rotr_add {x n : Nat} (hx : x < 4294967296) (h0 : 0 < n) (hn : n < 32) : (x >>> n + (x <<< (32 - n)) % 4294967296) % 4294967296 = rotr x n := by
  have e1 : (x <<< (32 - n)) % 4294967296 = 2 ^ (32 - n) * (x % 2 ^ n) := by
    rw [Nat.shiftLeft_eq, Nat.mul_comm, show (4294967296 : Nat) = 2 ^ (32 - n) * 2 ^ n by rw [← Nat.pow_add, show 32 - n + n = 32 by omega], Nat.mul_mod_mul_left]
  have h2 : x >>> n < 2 ^ (32 - n) := by
    rw [Nat.shiftRight_eq_div_pow, Nat.div_lt_iff_lt_mul (Nat.two_pow_pos n), ← Nat.pow_add, show 32 - n + n = 32 by omega]
    exact hx
  have h3 : rotr x n = x >>> n + (x <<< (32 - n)) % 4294967296 := by
    rw [rotr, e1, Nat.or_comm, or_eq_add h2, Nat.add_comm]
  have h4 : rotr x n < 4294967296 := rotr_lt hx
  rw [← h3, Nat.mod_eq_of_lt h4]

theorem c_rturn (x n : Nat) (hx : x < 4294967296) (h0 : 0 < n) (hn : n < 32) (H : AHeap) :
    CallR Tryd.prog noPrims 61 [.int .u32 x, .int .u64 n] H (fun v H' => v = .int .u32 ((rotr x n : Nat) : Int) ∧ Hp H 0 0 H' [] []) := by
  refine CallR.sy (n := 13) Tryd.func61 rfl rfl rfl ?_
  repeat' (first
    | (with_reducible refine Sy.seq ?_)
    | (with_reducible refine Sy.regionL ?_)
    | (with_reducible refine Sy.opsnil ?_)
    | (with_reducible refine Sy.go ?_)
    | (with_reducible refine Sy.nrm ?_)
    | ((with_reducible apply Sy.assign); (case hd => exact rfl); (case hx => exact rfl))
    | ((with_reducible apply Sy.move); (case hd => exact rfl); (case hx => exact rfl))
    | ((with_reducible apply Sy.bin (op := .shr) (t := 95)); (case hd => exact rfl); (case hx => exact rfl); (case hy => exact rfl); (case hv => exact (b_shr32 (by omega))))
    | ((with_reducible apply Sy.bin (op := .sub) (t := 89)); (case hd => exact rfl); (case hx => exact rfl); (case hy => exact rfl); (case hv => exact (u64_subx (by omega) (by omega))))
    | ((with_reducible apply Sy.bin (op := .shl) (t := 95)); (case hd => exact rfl); (case hx => exact rfl); (case hy => exact rfl); (case hv => exact (u32_shl (by omega))))
    | ((with_reducible apply Sy.bin (op := .add) (t := 95)); (case hd => exact rfl); (case hx => exact rfl); (case hy => exact rfl); (case hv => exact u32_add))
    | (with_reducible refine Sy.ret ?_))
  exact .fin [_] (.inr rfl) ⟨rfl, trivial⟩ fun H' hp => ⟨by rw [← rotr_add hx h0 hn]; rfl, hp.less (List.nil_sublist _)⟩

theorem be64_eq {n : Nat} (hn : n < 18446744073709551616) : be64 n = [n >>> 56, n >>> 48 % 256, n >>> 40 % 256, n >>> 32 % 256, n >>> 24 % 256, n >>> 16 % 256, n >>> 8 % 256, n % 256] := by
  have h : n >>> 56 < 256 := by omega
  have e : be64 n = [n >>> 56 % 256, n >>> 48 % 256, n >>> 40 % 256, n >>> 32 % 256, n >>> 24 % 256, n >>> 16 % 256, n >>> 8 % 256, n >>> 0 % 256] := rfl
  rw [e, Nat.mod_eq_of_lt h, Nat.shiftRight_zero]
theorem c_reight (n : Nat) (hn : n < 18446744073709551616) (H : AHeap) :
    CallR Tryd.prog noPrims 57 [.int .u64 n] H (fun v H' => ∃ b : Nat, True ∧ v = .slice (some ⟨b, 0, none⟩) 8 8 ∧ Hp H 0 0 H' [] [(b, .cells (ints .u8 (be64 n)) 5 true)]) := by
  refine CallR.sy (n := 27) Tryd.func57 rfl rfl rfl ?_
  repeat' (first
    | (with_reducible refine Sy.seq ?_)
    | (with_reducible refine Sy.regionL ?_)
    | (with_reducible refine Sy.opsnil ?_)
    | (with_reducible refine Sy.go ?_)
    | (with_reducible refine Sy.nrm ?_)
    | ((with_reducible apply Sy.assign); (case hd => exact rfl); (case hx => exact rfl))
    | ((with_reducible apply Sy.move); (case hd => exact rfl); (case hx => exact rfl))
    | ((with_reducible apply Sy.bin (op := .shr) (t := 101)); (case hd => exact rfl); (case hx => exact rfl); (case hy => exact rfl); (case hv => exact (b_shr64 (by omega))))
    | ((with_reducible apply Sy.conv (D := 0) (T := .bool)); (case hd => exact rfl); (case hs => exact Tryd.underlying101); (case hu => exact Tryd.underlying5); (case hx => exact rfl); (case hz => exact (wrap_u8x (by omega))))
    | ((with_reducible apply Sy.conv (D := 0) (T := .bool)); (case hd => exact rfl); (case hs => exact Tryd.underlying101); (case hu => exact Tryd.underlying5); (case hx => exact rfl); (case hz => exact (wrap_u8 _)))
    | ((with_reducible apply Sy.newY (o := ⟨some 26, .buildSlice 86 _ _, _, _, _, _⟩)); (case ho => exact rfl); (case hd => exact rfl); (case hc => exact (nbsI [_, _, _, _, _, _, _, _] Tryd.underlying86 sz5 zr5 rfl (by decide) rfl rfl)); intro q26)
    | (with_reducible refine Sy.ret ?_))
  exact .fin [_] (.inr rfl) ⟨rfl, trivial⟩ fun H' hp => ⟨q26, trivial, rfl, by rw [be64_eq hn]; exact hp⟩
end Go.Proofs.YtmlofdgamdlcgaaDoor

/- The reference's block. -/
namespace Go.Proofs.YtmlofdgamdlcgaaDoor
open Go Go.Am
set_option maxRecDepth 100000
set_option linter.unusedVariables false

theorem word_add {a b c d : Nat} (ha : a < 256) (hb : b < 256) (hc : c < 256) (hd : d < 256) :
    (((a * 16777216 % 4294967296 + b * 65536 % 4294967296) % 4294967296 + c * 256 % 4294967296) % 4294967296 + d) % 4294967296 =
      (((a <<< 24) % M32 ||| (b <<< 16) % M32) ||| (c <<< 8) % M32) ||| d := by
  have e1 : (a <<< 24) % M32 = 2 ^ 24 * a := by rw [Nat.shiftLeft_eq, M32]; omega
  have e2 : (b <<< 16) % M32 = 2 ^ 16 * b := by rw [Nat.shiftLeft_eq, M32]; omega
  have e3 : (c <<< 8) % M32 = 2 ^ 8 * c := by rw [Nat.shiftLeft_eq, M32]; omega
  rw [e1, e2, e3, or_eq_add (show 2 ^ 16 * b < 2 ^ 24 by omega), show 2 ^ 24 * a + 2 ^ 16 * b = 2 ^ 16 * (2 ^ 8 * a + b) by omega, or_eq_add (show 2 ^ 8 * c < 2 ^ 16 by omega),
    show 2 ^ 16 * (2 ^ 8 * a + b) + 2 ^ 8 * c = 2 ^ 8 * (2 ^ 16 * a + 2 ^ 8 * b + c) by omega, or_eq_add (show d < 2 ^ 8 by omega)]
  omega
theorem not_sub {x : Nat} (h : x < 4294967296) : 4294967295 - x = 4294967295 ^^^ x := by
  have h1 : (BitVec.allOnes 32 ^^^ BitVec.ofNat 32 x).toNat = (~~~ BitVec.ofNat 32 x).toNat := by rw [BitVec.allOnes_xor]
  rw [BitVec.toNat_xor, BitVec.toNat_not, BitVec.toNat_allOnes, BitVec.toNat_ofNat, Nat.mod_eq_of_lt (show x < 2 ^ 32 from h)] at h1
  exact h1.symm

set_option maxHeartbeats 8000000 in
theorem c_rblock (hb ob n cp hk : Nat) (hn : 64 ≤ n) (lb : List Nat) (Tb Tk : TypeId) (wb wk : Bool) (H : AHeap) (s : S8) (hok : s.ok) (hgk : H.get hk = .cells (ints .u32 sK) Tk wk)
    (hgb : H.get hb = .cells (ints .u8 lb) Tb wb) (hlb : ob + 64 ≤ lb.length) (h256 : ∀ i, lb.getD i 0 < 256) :
    CallR Tryd.prog noPrims 60 [.agg ⟨ints .u32 s.l⟩, .slice (some ⟨hb, ob, none⟩) n cp, .pointer (some ⟨hk, 0, none⟩)] H
      (fun v H' => v = .agg ⟨ints .u32 (blockS (fun j => lb.getD (ob + j) 0) s).l⟩ ∧ Hp H 0 0 H' [] []) := by
  generalize hg : (fun j => lb.getD (ob + j) 0) = g
  have h256' : ∀ i, g i < 256 := fun i => by subst hg; exact h256 _
  have hl8 : s.l.length = 8 := rfl
  refine CallR.sy (n := 217) Tryd.func60 rfl rfl rfl ?_
  repeat' (first
    | (with_reducible refine Sy.seq ?_)
    | (with_reducible refine Sy.regionL ?_)
    | (with_reducible refine Sy.opsnil ?_)
    | (with_reducible refine Sy.go ?_)
    | (with_reducible refine Sy.nrm ?_)
    | ((with_reducible apply Sy.assign); (case hd => exact rfl); (case hx => exact rfl))
    | ((with_reducible apply Sy.newY (o := ⟨some 3, .box 96 _, _, _, _, _⟩)); (case ho => exact rfl); (case hd => exact rfl); (case hc => exact (nbA rfl)); intro q3)
    | ((with_reducible apply Sy.newY (o := ⟨some 6, .alloc 96, _, _, _, _⟩)); (case ho => exact rfl); (case hd => exact rfl); (case hc => exact (nwz96)); intro q6)
    | ((with_reducible apply Sy.newY (o := ⟨some 7, .alloc 102, _, _, _, _⟩)); (case ho => exact rfl); (case hd => exact rfl); (case hc => exact (nwz102)); intro q7)
    | (with_reducible refine Sy.block ?_))
  refine Sy.loop (ι := Nat) (fun i => 16 - i) (fun i => [(1, .slice (some ⟨hb, ob, none⟩) n cp), (2, .pointer (some ⟨hk, 0, none⟩)), (3, .pointer (some ⟨q3, 0, none⟩)), (6, .pointer (some ⟨q6, 0, none⟩)), (7, .pointer (some ⟨q7, 0, none⟩)), (8, .int .i64 (i : Nat))]) (fun _ => [])
    (fun i => [(q7, .cells (ints .u32 (sched g i)) 102 true), (q6, .cells (ints .u32 (List.replicate 8 0)) 96 true), (q3, .cells (ints .u32 s.l) 96 true)]) (fun i => i ≤ 16) 0 (by omega) ⟨rfl, rfl, rfl, rfl, rfl, rfl, trivial⟩ (fun H h => h) ?_
  intro i hi
  have e0 : lb.getD (ob + 4 * i) 0 < 256 := h256 _
  have e1 : lb.getD (ob + (4 * i + 1)) 0 < 256 := h256 _
  have e2 : lb.getD (ob + (4 * i + 2)) 0 < 256 := h256 _
  have e3 : lb.getD (ob + (4 * i + 3)) 0 < 256 := h256 _
  have hlen : (sched g i).length = 64 := sched_length g i
  repeat' (first
    | (with_reducible refine Sy.seq ?_)
    | (with_reducible refine Sy.regionL ?_)
    | (with_reducible refine Sy.opsnil ?_)
    | (with_reducible refine Sy.go ?_)
    | (with_reducible refine Sy.nrm ?_)
    | ((with_reducible apply Sy.assign); (case hd => exact rfl); (case hx => exact rfl))
    | ((with_reducible apply Sy.move); (case hd => exact rfl); (case hx => exact rfl))
    | ((with_reducible apply Sy.bin (op := .lss) (t := 3)); (case hd => exact rfl); (case hx => exact rfl); (case hy => exact rfl); (case hv => exact b_lss))
    | ((with_reducible apply Sy.bin (op := .mul) (t := 3)); (case hd => exact rfl); (case hx => exact rfl); (case hy => exact rfl); (case hv => exact (b_mul (by omega))))
    | ((with_reducible apply Sy.ia (t := 86)); (case hd => exact rfl); (case hx => exact rfl); (case hy => exact rfl); (case hv => exact (ia_sl1 Tryd.underlying86 sz5 (by omega))))
    | ((with_reducible apply Sy.ld0 (t := 5)); (case hd => exact rfl); (case hx => exact rfl); (case hm => with_reducible assumption); (case hl => exact rfl); (case hn => simp only [List.forall_mem_cons, List.not_mem_nil, false_implies, implies_true, and_true, ne_eq]; first | done); (case hv => first | ((with_reducible refine ld_int ag5 ?_); first | omega)))
    | ((with_reducible apply Sy.conv (D := 0) (T := .bool)); (case hd => exact rfl); (case hs => exact Tryd.underlying5); (case hu => exact Tryd.underlying95); (case hx => exact rfl); (case hz => exact (wrap_u32x (by omega))))
    | ((with_reducible apply Sy.bin (op := .mul) (t := 95)); (case hd => exact rfl); (case hx => exact rfl); (case hy => exact rfl); (case hv => exact u32_mul))
    | ((with_reducible apply Sy.bin (op := .add) (t := 3)); (case hd => exact rfl); (case hx => exact rfl); (case hy => exact rfl); (case hv => exact (b_add (by omega))))
    | ((with_reducible apply Sy.bin (op := .add) (t := 95)); (case hd => exact rfl); (case hx => exact rfl); (case hy => exact rfl); (case hv => exact u32_add))
    | ((with_reducible apply Sy.ia (t := 102)); (case hd => exact rfl); (case hx => exact rfl); (case hy => exact rfl); (case hv => exact (ia_ar10 Tryd.underlying102 sz95 (by omega))))
    | ((with_reducible apply Sy.stN1 (t := 95)); (case hx => exact rfl); (case hy => exact rfl); (case hs => exact sz95); (case hl => exact rfl); (case h1 => exact rfl); (case hm => repeat (first | exact Turn.here)); (case hle => first | (simp; omega)); (case hc => first | with_reducible exact ints_set _ _ _ _))
    | (with_reducible refine Sy.skip ?_)
    | (with_reducible refine Sy.exit ?_)
    | (with_reducible refine Sy.block ?_)
    | (with_reducible refine Sy.aex ?_)
    | (with_reducible refine Sy.inrm ?_)
    | ((with_reducible apply Sy.iex); (case hi' => exact rfl))
    | (with_reducible refine Sy.rex ?_)
    | ((with_reducible apply Sy.drawL (id := 5) 36 [] (fun hi h => h < hi)); (case hp => kernel_rfl); (case hN => exact rfl); intro base hbase hM; try simp only [List.forall_mem_cons, List.forall_mem_append, List.not_mem_nil, false_implies, implies_true, and_true] at hM)
    | (with_reducible refine Sy.dend ?_)
    | ((with_reducible apply Sy.dgo); (case hw => first | exact wantY_none); (case hc => intro hcls; cases hcls); (case h1 => exact rfl); (case h2 => exact rfl))
    | ((with_reducible apply Sy.ite); (case hx => exact rfl); all_goals (intro hc; try (exfalso; omega))))
  · have hwd := word_add e0 e1 e2 e3
    refine Sy.rnrm (i + 1) (by omega) (by omega) ⟨rfl, rfl, rfl, rfl, rfl, rfl, trivial⟩ (fun H h => ?_)
    rw [sched_lo (by assumption)]; subst hg; unfold wordAt; rw [← hwd]; exact h
  · obtain rfl : i = 16 := by omega
    refine Sy.loop (ι := Nat) (fun i => 64 - i) (fun i => [(1, .slice (some ⟨hb, ob, none⟩) n cp), (2, .pointer (some ⟨hk, 0, none⟩)), (3, .pointer (some ⟨q3, 0, none⟩)), (6, .pointer (some ⟨q6, 0, none⟩)), (7, .pointer (some ⟨q7, 0, none⟩)), (9, .int .i64 (i : Nat))]) (fun _ => [])
      (fun i => [(q7, .cells (ints .u32 (sched g i)) 102 true), (q6, .cells (ints .u32 (List.replicate 8 0)) 96 true), (q3, .cells (ints .u32 s.l) 96 true)]) (fun i => 16 ≤ i ∧ i ≤ 64) 16 (by omega) ⟨rfl, rfl, rfl, rfl, rfl, rfl, trivial⟩ (fun H h => h) ?_
    intro i hi
    obtain ⟨hi1, hi2⟩ := hi
    have hlen : (sched g i).length = 64 := sched_length g i
    have f15 := sched_lt h256' i (i - 15)
    have f2 := sched_lt h256' i (i - 2)
    have f16 := sched_lt h256' i (i - 16)
    have f7 := sched_lt h256' i (i - 7)
    have r1 := rotr_lt (n := 7) f15
    have r2 := rotr_lt (n := 18) f15
    have r3 := rotr_lt (n := 17) f2
    have r4 := rotr_lt (n := 19) f2
    repeat' (first
    | (with_reducible refine Sy.seq ?_)
    | (with_reducible refine Sy.regionL ?_)
    | (with_reducible refine Sy.opsnil ?_)
    | (with_reducible refine Sy.go ?_)
    | (with_reducible refine Sy.nrm ?_)
    | ((with_reducible apply Sy.assign); (case hd => exact rfl); (case hx => exact rfl))
    | ((with_reducible apply Sy.move); (case hd => exact rfl); (case hx => exact rfl))
    | ((with_reducible apply Sy.bin (op := .lss) (t := 3)); (case hd => exact rfl); (case hx => exact rfl); (case hy => exact rfl); (case hv => exact b_lss))
    | ((with_reducible apply Sy.bin (op := .add) (t := 3)); (case hd => exact rfl); (case hx => exact rfl); (case hy => exact rfl); (case hv => exact (b_add (by omega))))
    | ((with_reducible apply Sy.bin (op := .add) (t := 95)); (case hd => exact rfl); (case hx => exact rfl); (case hy => exact rfl); (case hv => exact u32_add))
    | ((with_reducible apply Sy.ia (t := 102)); (case hd => exact rfl); (case hx => exact rfl); (case hy => exact rfl); (case hv => exact (ia_ar10 Tryd.underlying102 sz95 (by omega))))
    | ((with_reducible apply Sy.stN1 (t := 95)); (case hx => exact rfl); (case hy => exact rfl); (case hs => exact sz95); (case hl => exact rfl); (case h1 => exact rfl); (case hm => repeat (first | exact Turn.here)); (case hle => first | (simp; omega)); (case hc => first | with_reducible exact ints_set _ _ _ _))
    | ((with_reducible apply Sy.bin (op := .sub) (t := 3)); (case hd => exact rfl); (case hx => exact rfl); (case hy => exact rfl); (case hv => exact (b_sub (by omega) (by omega))))
    | ((with_reducible apply Sy.ldN (t := 95)); (case hd => exact rfl); (case hx => exact rfl); (case hm => repeat (first | exact Has.here | apply Has.there)); (case hv => first | ((with_reducible refine ld_int ag95 ?_); first | omega)))
    | ((with_reducible apply Sy.bin (op := .xor) (t := 95)); (case hd => exact rfl); (case hx => exact rfl); (case hy => exact rfl); (case hv => exact (u32_xor (by first | with_reducible assumption | (simp (maxDischargeDepth := 14) only [w_lt_mod, w_lt_and, w_lt_or, w_lt_xor, w_lt_shr, w_lt_not, Nat.reduceLT, *]; done)) (by first | with_reducible assumption | omega))))
    | ((with_reducible apply Sy.bin (op := .shr) (t := 95)); (case hd => exact rfl); (case hx => exact rfl); (case hy => exact rfl); (case hv => exact (b_shr32 (by omega))))
    | ((with_reducible apply Sy.ia (t := 96)); (case hd => exact rfl); (case hx => exact rfl); (case hy => exact rfl); (case hv => exact (ia_ar10 Tryd.underlying96 sz95 (by omega))))
    | ((with_reducible apply Sy.dcall0 (k := 61)); (case hw => first | exact wantY_none); (case h1 => exact rfl); (case hS => intro h hh; exact hh); (case hi1 => exact rfl); (case hd => exact rfl); (case hf => exact rfl); (case hen => exact en61); (case hx => exact rfl); (case hc => intro H' hp; exact c_rturn _ _ (by with_reducible assumption) (by decide) (by decide) H'))
    | (with_reducible refine Sy.skip ?_)
    | (with_reducible refine Sy.exit ?_)
    | (with_reducible refine Sy.block ?_)
    | (with_reducible refine Sy.aex ?_)
    | (with_reducible refine Sy.inrm ?_)
    | ((with_reducible apply Sy.iex); (case hi' => exact rfl))
    | (with_reducible refine Sy.rex ?_)
    | ((with_reducible apply Sy.drawL (id := 11) 30 [(4, 6), (17, 6), (4, 8), (17, 8), (4, 20), (17, 20), (4, 22), (17, 22)] (fun hi h => h < hi)); (case hp => kernel_rfl); (case hN => exact rfl); intro base hbase hM; try simp only [List.forall_mem_cons, List.forall_mem_append, List.not_mem_nil, false_implies, implies_true, and_true] at hM)
    | (with_reducible refine Sy.dend ?_)
    | ((with_reducible apply Sy.dgo); (case hw => first | exact wantY_none); (case hc => intro hcls; cases hcls); (case h1 => exact rfl); (case h2 => exact rfl))
    | ((with_reducible apply Sy.dld); (case hw => first | exact wantY_none); (case hx => exact rfl); (case hb => omega); (case h2 => exact rfl))
    | ((with_reducible apply Sy.ite); (case hx => exact rfl); all_goals (intro hc; try (exfalso; omega))))
    · refine Sy.rnrm (i + 1) (by omega) (by omega) ⟨rfl, rfl, rfl, rfl, rfl, rfl, trivial⟩ (fun H h => ?_)
      rw [sched_hi (by omega)]; exact h
    · obtain rfl : i = 64 := by omega
      have hw : ∀ i, (sched g 64).getD i 0 < 4294967296 := sched_lt h256' 64
      have hwl : (sched g 64).length = 64 := sched_length g 64
      obtain ⟨oa, ob', oc, od, oe, of', og, oh⟩ := hok
      refine Sy.loop (ι := Nat) (fun i => 64 - i) (fun i => [(2, .pointer (some ⟨hk, 0, none⟩)), (3, .pointer (some ⟨q3, 0, none⟩)), (6, .pointer (some ⟨q6, 0, none⟩)), (7, .pointer (some ⟨q7, 0, none⟩)), (20, .int .i64 (i : Nat)), (12, .int .u32 ((rndN sK (sched g 64) s i).a : Nat)), (13, .int .u32 ((rndN sK (sched g 64) s i).b : Nat)), (14, .int .u32 ((rndN sK (sched g 64) s i).c : Nat)), (15, .int .u32 ((rndN sK (sched g 64) s i).d : Nat)),
        (16, .int .u32 ((rndN sK (sched g 64) s i).e : Nat)), (17, .int .u32 ((rndN sK (sched g 64) s i).f : Nat)), (18, .int .u32 ((rndN sK (sched g 64) s i).g : Nat)), (19, .int .u32 ((rndN sK (sched g 64) s i).h : Nat))]) (fun _ => []) (fun i => [(q7, .cells (ints .u32 (sched g 64)) 102 true), (q6, .cells (ints .u32 (List.replicate 8 0)) 96 true), (q3, .cells (ints .u32 s.l) 96 true)]) (fun i => i ≤ 64) 0 (by omega) ⟨rfl, rfl, rfl, rfl, rfl, rfl, rfl, rfl, rfl, rfl, rfl, rfl, rfl, trivial⟩ (fun H h => h) ?_
      intro i hi
      obtain ⟨va, vb, vc, vd, ve, vf, vg, vh⟩ := rndN_ok (ks := sK) (ws := sched g 64) (s := s) ⟨oa, ob', oc, od, oe, of', og, oh⟩ i
      have hw1 := hw i
      have hk1 := sK_lt i
      have hk2 : sK.length = 64 := rfl
      generalize hR : rndN sK (sched g 64) s i = R at *
      have x1 := rotr_lt (n := 6) ve
      have x2 := rotr_lt (n := 11) ve
      have x3 := rotr_lt (n := 25) ve
      have x4 := rotr_lt (n := 2) va
      have x5 := rotr_lt (n := 13) va
      have x6 := rotr_lt (n := 22) va
      have y1 : (4294967295 - R.e) &&& R.g < 4294967296 := w_lt_and (by omega)
      have hkn : hk < H.next := get_live_lt (by rw [hgk]; rfl)
      repeat' (first
    | (with_reducible refine Sy.seq ?_)
    | (with_reducible refine Sy.regionL ?_)
    | (with_reducible refine Sy.opsnil ?_)
    | (with_reducible refine Sy.go ?_)
    | (with_reducible refine Sy.nrm ?_)
    | ((with_reducible apply Sy.assign); (case hd => exact rfl); (case hx => exact rfl))
    | ((with_reducible apply Sy.move); (case hd => exact rfl); (case hx => exact rfl))
    | ((with_reducible apply Sy.bin (op := .lss) (t := 3)); (case hd => exact rfl); (case hx => exact rfl); (case hy => exact rfl); (case hv => exact b_lss))
    | ((with_reducible apply Sy.bin (op := .add) (t := 3)); (case hd => exact rfl); (case hx => exact rfl); (case hy => exact rfl); (case hv => exact (b_add (by omega))))
    | ((with_reducible apply Sy.bin (op := .add) (t := 95)); (case hd => exact rfl); (case hx => exact rfl); (case hy => exact rfl); (case hv => exact u32_add))
    | ((with_reducible apply Sy.ia (t := 102)); (case hd => exact rfl); (case hx => exact rfl); (case hy => exact rfl); (case hv => exact (ia_ar10 Tryd.underlying102 sz95 (by omega))))
    | ((with_reducible apply Sy.ldN (t := 95)); (case hd => exact rfl); (case hx => exact rfl); (case hm => repeat (first | exact Has.here | apply Has.there)); (case hv => first | ((with_reducible refine ld_int ag95 ?_); first | omega)))
    | ((with_reducible apply Sy.ld0 (t := 95)); (case hd => exact rfl); (case hx => exact rfl); (case hm => with_reducible assumption); (case hl => exact rfl); (case hn => simp only [List.forall_mem_cons, List.not_mem_nil, false_implies, implies_true, and_true, ne_eq]; first | done); (case hv => first | ((with_reducible refine ld_int ag95 ?_); first | omega)))
    | ((with_reducible apply Sy.bin (op := .xor) (t := 95)); (case hd => exact rfl); (case hx => exact rfl); (case hy => exact rfl); (case hv => exact (u32_xor (by first | with_reducible assumption | (simp (maxDischargeDepth := 14) only [w_lt_mod, w_lt_and, w_lt_or, w_lt_xor, w_lt_shr, w_lt_not, Nat.reduceLT, *]; done)) (by first | with_reducible assumption | (simp (maxDischargeDepth := 14) only [w_lt_mod, w_lt_and, w_lt_or, w_lt_xor, w_lt_shr, w_lt_not, Nat.reduceLT, *]; done)))))
    | ((with_reducible apply Sy.ia (t := 96)); (case hd => exact rfl); (case hx => exact rfl); (case hy => exact rfl); (case hv => exact (ia_ar10 Tryd.underlying96 sz95 (by omega))))
    | ((with_reducible apply Sy.bin (op := .and) (t := 95)); (case hd => exact rfl); (case hx => exact rfl); (case hy => exact rfl); (case hv => exact (u32_and (by first | with_reducible assumption | omega) (by first | with_reducible assumption))))
    | ((with_reducible apply Sy.bin (op := .sub) (t := 95)); (case hd => exact rfl); (case hx => exact rfl); (case hy => exact rfl); (case hv => exact (u32_subx (by omega) (by omega))))
    | ((with_reducible apply Sy.nilC); (case hd => exact rfl); (case hx => exact rfl); (case hv => exact rfl))
    | ((with_reducible apply Sy.build (t := 96)); (case hd => exact rfl); (case hx => exact rfl); (case hv => exact (bv_one [_, _, _, _, _, _, _, _] Tryd.underlying96 sz95 zr96 rfl rfl rfl (by simp only [List.forall_mem_cons, List.not_mem_nil, false_implies, implies_true, and_true]; exact ⟨rfl, rfl, rfl, rfl, rfl, rfl, rfl, rfl⟩))))
    | ((with_reducible apply Sy.stNa (t := 96)); (case hx => exact rfl); (case hy => exact rfl); (case hs => exact sz96); (case hl => first | exact rfl); (case h1 => first | exact rfl); (case hm => repeat (first | exact Turn.here | apply Turn.there)); (case hle => first | (simp; done)); (case hc => first | exact lay_all (by first | (simp; done))))
    | ((with_reducible apply Sy.call0 (k := 61)); (case hd => exact rfl); (case hf => exact rfl); (case hen => exact en61); (case hx => exact rfl); (case hc => intro H' hp; exact c_rturn _ _ (by with_reducible assumption) (by decide) (by decide) H'))
    | ((with_reducible apply Sy.dcall0 (k := 61)); (case hw => first | exact wantY_none); (case h1 => exact rfl); (case hS => intro h hh; exact hh); (case hi1 => exact rfl); (case hd => exact rfl); (case hf => exact rfl); (case hen => exact en61); (case hx => exact rfl); (case hc => intro H' hp; exact c_rturn _ _ (by with_reducible assumption) (by decide) (by decide) H'))
    | (with_reducible refine Sy.skip ?_)
    | (with_reducible refine Sy.exit ?_)
    | (with_reducible refine Sy.ret ?_)
    | (with_reducible refine Sy.block ?_)
    | (with_reducible refine Sy.aex ?_)
    | (with_reducible refine Sy.inrm ?_)
    | ((with_reducible apply Sy.iex); (case hi' => exact rfl))
    | (with_reducible refine Sy.rex ?_)
    | ((with_reducible apply Sy.drawL (id := 23) 30 [(23, 2), (27, 2), (23, 4), (27, 4), (23, 7), (27, 7)] (fun hi h => h < hi)); (case hp => kernel_rfl); (case hN => exact rfl); intro base hbase hM; try simp only [List.forall_mem_cons, List.forall_mem_append, List.not_mem_nil, false_implies, implies_true, and_true] at hM)
    | (with_reducible refine Sy.dend ?_)
    | ((with_reducible apply Sy.dgo); (case hw => first | exact wantY_none); (case hc => intro hcls; cases hcls); (case h1 => exact rfl); (case h2 => exact rfl))
    | ((with_reducible apply Sy.dld); (case hw => first | exact wantY_none); (case hx => exact rfl); (case hb => omega); (case h2 => exact rfl))
    | ((with_reducible apply Sy.ite); (case hx => exact rfl); all_goals (intro hc; try (exfalso; omega))))
      · have hs1 : rndN sK (sched g 64) s (i + 1) = rnd (sK.getD i 0) ((sched g 64).getD i 0) R := by rw [← hR]; rfl
        rw [not_sub ve]
        refine Sy.rnrm (i + 1) (by omega) (by omega) ?_ (fun H h => h)
        simp only [hs1]
        exact ⟨rfl, rfl, rfl, rfl, rfl, rfl, rfl, rfl, rfl, rfl, rfl, rfl, rfl, trivial⟩
      · obtain rfl : i = 64 := by omega
        have hB : blockS g s = addS s R := by rw [blockS, hR]
        rw [hB]
        refine .fin [.agg ⟨ints .u32 (addS s R).l⟩] (.inr rfl) ⟨⟨q6, 0, _, rfl, (by repeat (first | exact Has.here | apply Has.there | apply Has.app)), ?_⟩, trivial⟩ fun H1 hp => ⟨rfl, hp.less (List.nil_sublist _)⟩
        exact ld_all ag96 sz96
end Go.Proofs.YtmlofdgamdlcgaaDoor

/- The reference's pad, sum, Sum. -/
namespace Go.Proofs.YtmlofdgamdlcgaaDoor
open Go Go.Am
set_option maxRecDepth 100000
set_option linter.unusedVariables false

theorem pad_eq {l B : List Nat} {N z : Nat} (hB : B.length = 8) (hN : N = l.length + 9 + z) : layN ((layN (List.replicate N 0) 0 l).set l.length 128) (N - 8) B = l ++ [128] ++ List.replicate z 0 ++ B := by
  have e1 : layN (List.replicate N 0) 0 l = l ++ 0 :: List.replicate (z + 8) 0 := by
    simp only [layN, List.take_zero, List.nil_append, Nat.zero_add, List.drop_replicate]
    rw [show N - l.length = (z + 8) + 1 by omega]; rfl
  rw [e1, List.set_append_right _ _ (Nat.le_refl _), Nat.sub_self, List.set_cons_zero]
  have e2 : List.take (N - 8) (l ++ 128 :: List.replicate (z + 8) 0) = l ++ 128 :: List.replicate z 0 := by
    rw [List.take_append, List.take_of_length_le (by omega), show N - 8 - l.length = z + 1 by omega, List.take_succ_cons, List.take_replicate, Nat.min_eq_left (by omega)]
  have e3 : List.drop (N - 8 + 8) (l ++ 128 :: List.replicate (z + 8) 0) = [] := by
    rw [List.drop_of_length_le (by simp; omega)]
  simp only [layN, hB, e2, e3]
  simp

set_option maxHeartbeats 2000000 in
theorem c_pad (b o n cp : Nat) (lb l : List Nat) (Tb : TypeId) (wb : Bool) (H : AHeap) (hgb : H.get b = .cells (ints .u8 lb) Tb wb) (hlb : o + n ≤ lb.length) (hn : n < 1000000000000) (hl : (lb.drop o).take n = l) :
    CallR Tryd.prog noPrims 59 [.slice (some ⟨b, o, none⟩) n cp] H (fun v H' => ∃ q : Nat, True ∧ v = .slice (some ⟨q, 0, none⟩) (padN l).length (padN l).length ∧ Hp H 0 0 H' [] [(q, .cells (ints .u8 (padN l)) 5 true)]) := by
  have hll : l.length = n := by rw [← hl]; simp; omega
  refine CallR.sy (n := 34) Tryd.func59 rfl rfl rfl ?_
  repeat' (first
    | (with_reducible refine Sy.seq ?_)
    | (with_reducible refine Sy.regionL ?_)
    | (with_reducible refine Sy.opsnil ?_)
    | (with_reducible refine Sy.go ?_)
    | (with_reducible refine Sy.nrm ?_)
    | ((with_reducible apply Sy.assign); (case hd => exact rfl); (case hx => exact rfl))
    | ((with_reducible apply Sy.move); (case hd => exact rfl); (case hx => exact rfl))
    | ((with_reducible apply Sy.lenS); (case hd => exact rfl); (case ht => exact Tryd.underlying86); (case hx => exact rfl))
    | ((with_reducible apply Sy.bin (op := .add) (t := 3)); (case hd => exact rfl); (case hx => exact rfl); (case hy => exact rfl); (case hv => exact (b_add (by omega))))
    | ((with_reducible apply Sy.bin (op := .rem) (t := 3)); (case hd => exact rfl); (case hx => exact rfl); (case hy => exact rfl); (case hv => exact (b_rem (by omega))))
    | ((with_reducible apply Sy.bin (op := .sub) (t := 3)); (case hd => exact rfl); (case hx => exact rfl); (case hy => exact rfl); (case hv => exact (b_sub (by omega) (by omega))))
    | ((with_reducible apply Sy.cpI (t := 86)); (case ht => exact Tryd.underlying86); (case hsz => exact sz5); (case hd => exact rfl); (case hx => exact rfl); (case hy => exact rfl); (case hs => first | exact SrcY.of0i (by with_reducible assumption) (by simp only [List.forall_mem_cons, List.not_mem_nil, false_implies, implies_true, and_true, ne_eq]; first | done) (by first | omega)); (case hm => repeat (first | exact Turn.here)); (case hl => first | (simp; omega)))
    | ((with_reducible apply Sy.ia (t := 86)); (case hd => exact rfl); (case hx => exact rfl); (case hy => exact rfl); (case hv => exact (ia_sl10 Tryd.underlying86 sz5 (by omega))))
    | ((with_reducible apply Sy.newY (o := ⟨some 15, .makeSlice 86 _ _, _, _, _, _⟩)); (case ho => exact rfl); (case hd => exact rfl); (case hc => exact (newY_mkI Tryd.underlying86 sz5 bs5 zr5 rfl rfl (by decide) (by omega))); intro q15))
  generalize hz : (64 - (n + 9) % 64) % 64 = z
  rw [hl, List.take_of_length_le (by omega)]
  have hx : (layN (List.replicate (n + 9 + z) 0) 0 l).length = n + 9 + z := by rw [layN_len]; simp; omega
  generalize hL : layN (List.replicate (n + 9 + z) 0) 0 l = L at hx ⊢
  repeat' (first
    | (with_reducible refine Sy.seq ?_)
    | (with_reducible refine Sy.regionL ?_)
    | (with_reducible refine Sy.opsnil ?_)
    | (with_reducible refine Sy.go ?_)
    | (with_reducible refine Sy.nrm ?_)
    | ((with_reducible apply Sy.assign); (case hd => exact rfl); (case hx => exact rfl))
    | ((with_reducible apply Sy.move); (case hd => exact rfl); (case hx => exact rfl))
    | ((with_reducible apply Sy.lenS); (case hd => exact rfl); (case ht => exact Tryd.underlying86); (case hx => exact rfl))
    | ((with_reducible apply Sy.bin (op := .sub) (t := 3)); (case hd => exact rfl); (case hx => exact rfl); (case hy => exact rfl); (case hv => exact (b_sub (by omega) (by omega))))
    | ((with_reducible apply Sy.cpI (t := 86)); (case ht => exact Tryd.underlying86); (case hsz => exact sz5); (case hd => exact rfl); (case hx => exact rfl); (case hy => exact rfl); (case hs => first | exact SrcY.ofNi' (by repeat (first | exact Has.here)) (by first | (simp; done))); (case hm => repeat (first | exact Turn.here | apply Turn.there)); (case hl => first | (simp; omega)))
    | ((with_reducible apply Sy.stN1 (t := 5)); (case hx => exact rfl); (case hy => exact rfl); (case hs => exact sz5); (case hl => exact rfl); (case h1 => exact rfl); (case hm => repeat (first | exact Turn.here)); (case hle => first | (simp; omega)); (case hc => first | with_reducible exact ints_set _ _ _ _))
    | ((with_reducible apply Sy.sl (t := 86)); (case hd => exact rfl); (case hx => exact rfl); (case hl => exact rfl); (case hu => exact rfl); (case hm => exact rfl); (case hv => exact (sl_from Tryd.underlying86 sz5 (by omega))))
    | ((with_reducible apply Sy.conv (D := 0) (T := .bool)); (case hd => exact rfl); (case hs => exact Tryd.underlying3); (case hu => exact Tryd.underlying101); (case hx => exact rfl); (case hz => exact (wrap_u64x (by omega))))
    | ((with_reducible apply Sy.bin (op := .mul) (t := 101)); (case hd => exact rfl); (case hx => exact rfl); (case hy => exact rfl); (case hv => exact (u64_mulx (by omega))))
    | ((with_reducible apply Sy.dcall (k := 57)); (case hw => first | exact wantY_none); (case h1 => exact rfl); (case hS => intro h hh; exact hh); (case hi1 => exact rfl); (case hd => exact rfl); (case hf => exact rfl); (case hen => exact en57); (case hx => exact rfl); (case hc => intro H' hp; exact c_reight _ (by omega) H'); rintro hq31 -)
    | (with_reducible refine Sy.ret ?_)
    | ((with_reducible apply Sy.drawL (id := 6) 10 [] (fun hi h => h < hi)); (case hp => kernel_rfl); (case hN => exact rfl); intro base hbase hM; try simp only [List.forall_mem_cons, List.forall_mem_append, List.not_mem_nil, false_implies, implies_true, and_true] at hM)
    | (with_reducible refine Sy.dend ?_)
    | ((with_reducible apply Sy.dgo); (case hw => first | exact wantY_none); (case hc => intro hcls; cases hcls); (case h1 => exact rfl); (case h2 => exact rfl)))
  have hb8 : (be64 (8 * n)).length = 8 := be64_length _
  have e : layN (L.set n 128) (0 + (n + 9 + z - 8) * 1) (List.take (min 8 (n + 9 + z - (n + 9 + z - 8))) (be64 (8 * n))) = padN l := by
    have := pad_eq (l := l) (B := be64 (8 * n)) (N := n + 9 + z) (z := z) hb8 (by omega)
    rw [hll, hL] at this
    rw [List.take_of_length_le (by omega), Nat.zero_add, Nat.mul_one, this]
    simp only [padN, hll, hz]
    rw [Nat.mod_eq_of_lt (show 8 * n < 18446744073709551616 by omega)]
  have hpl : n + 9 + z = (padN l).length := by simp [padN, hll, hz]; omega
  rw [e, hpl]
  exact .fin [_] (.inr rfl) ⟨rfl, trivial⟩ fun H' hp => ⟨q15, trivial, rfl, hp.less (by simp)⟩
end Go.Proofs.YtmlofdgamdlcgaaDoor

/- The reference's sum, Sum. -/
namespace Go.Proofs.YtmlofdgamdlcgaaDoor
open Go Go.Am
set_option maxRecDepth 100000
set_option linter.unusedVariables false

@[simp] theorem S8l_length (s : S8) : s.l.length = 8 := rfl
theorem padN_mod (l : List Nat) : (padN l).length % 64 = 0 := by simp [padN]; omega
theorem padN_lt {l : List Nat} (h : ∀ x ∈ l, x < 256) : ∀ x ∈ padN l, x < 256 := by
  intro x hx
  simp only [padN, List.mem_append, List.mem_singleton] at hx
  rcases hx with ((hx | rfl) | hx) | hx
  · exact h x hx
  · decide
  · rw [List.eq_of_mem_replicate hx]; decide
  · exact beN_lt _ _ x hx
theorem padN_small {l : List Nat} : (padN l).length ≤ l.length + 73 := by simp [padN]; omega

set_option maxHeartbeats 2000000 in
theorem c_rsum (b o n cp : Nat) (lb l : List Nat) (Tb : TypeId) (wb : Bool) (H : AHeap) (hgb : H.get b = .cells (ints .u8 lb) Tb wb) (hlb : o + n ≤ lb.length) (h256 : ∀ x ∈ lb, x < 256) (hn : n < 1000000000000) (hl : (lb.drop o).take n = l) :
    CallR Tryd.prog noPrims 56 [.slice (some ⟨b, o, none⟩) n cp, .agg ⟨ints .u32 s0S.l⟩, .agg ⟨ints .u32 sK⟩] H (fun v H' => v = hV (sha l) ∧ Hp H 0 0 H' [] []) := by
  have hll : l.length = n := by rw [← hl]; simp; omega
  have hl256 : ∀ x ∈ l, x < 256 := fun x hx => h256 x (by rw [← hl] at hx; exact List.mem_of_mem_drop (List.mem_of_mem_take hx))
  have hp256 := lt_getD (by decide) (padN_lt hl256)
  have hpm := padN_mod l
  have hps := padN_small (l := l)
  refine CallR.sy (n := 44) Tryd.func56 rfl rfl rfl ?_
  repeat' (first
    | (with_reducible refine Sy.seq ?_)
    | (with_reducible refine Sy.regionL ?_)
    | (with_reducible refine Sy.opsnil ?_)
    | (with_reducible refine Sy.go ?_)
    | (with_reducible refine Sy.nrm ?_)
    | ((with_reducible apply Sy.move); (case hd => exact rfl); (case hx => exact rfl))
    | ((with_reducible apply Sy.assign); (case hd => exact rfl); (case hx => exact rfl))
    | ((with_reducible apply Sy.callN (k := 59)); (case hd => exact rfl); (case hf => exact rfl); (case hen => exact en59); (case hx => exact rfl); (case hc => intro H' hp; exact c_pad b o n cp lb l Tb wb H' (hp.get0 hgb rfl (by simp)) hlb hn hl); rintro q12 -)
    | ((with_reducible apply Sy.newY (o := ⟨some 4, .box 96 _, _, _, _, _⟩)); (case ho => exact rfl); (case hd => exact rfl); (case hc => exact (nbA rfl)); intro q4)
    | ((with_reducible apply Sy.newY (o := ⟨some 5, .box 102 _, _, _, _, _⟩)); (case ho => exact rfl); (case hd => exact rfl); (case hc => exact (nbA rfl)); intro q5)
    | ((with_reducible apply Sy.newY (o := ⟨some 6, .alloc 23, _, _, _, _⟩)); (case ho => exact rfl); (case hd => exact rfl); (case hc => exact (nwz23)); intro q6)
    | (with_reducible refine Sy.block ?_))
  generalize hN : (padN l).length = N at *
  refine Sy.loop (ι := Nat) (fun i => N - 64 * i) (fun i => [(4, .pointer (some ⟨q4, 0, none⟩)), (5, .pointer (some ⟨q5, 0, none⟩)), (6, .pointer (some ⟨q6, 0, none⟩)), (7, .slice (some ⟨q12, 0, none⟩) N N), (8, .int .i64 ((64 * i : Nat) : Int))]) (fun _ => [])
    (fun i => [(q12, .cells (ints .u8 (padN l)) 5 true), (q6, .cells (hC zeroH) 23 true), (q5, .cells (ints .u32 sK) 102 true), (q4, .cells (ints .u32 (blocksN (padN l) i).l) 96 true)]) (fun i => 64 * i ≤ N) 0 (by omega) ⟨rfl, rfl, rfl, rfl, rfl, trivial⟩ (fun H h => h) ?_
  intro i hi
  have hok := blocksN_ok (padN l) i
  have hbl : (blocksN (padN l) i).l.length = 8 := rfl
  repeat' (first
    | (with_reducible refine Sy.seq ?_)
    | (with_reducible refine Sy.regionL ?_)
    | (with_reducible refine Sy.opsnil ?_)
    | (with_reducible refine Sy.go ?_)
    | (with_reducible refine Sy.nrm ?_)
    | ((with_reducible apply Sy.move); (case hd => exact rfl); (case hx => exact rfl))
    | ((with_reducible apply Sy.assign); (case hd => exact rfl); (case hx => exact rfl))
    | ((with_reducible apply Sy.lenS); (case hd => exact rfl); (case ht => exact Tryd.underlying86); (case hx => exact rfl))
    | ((with_reducible apply Sy.bin (op := .lss) (t := 3)); (case hd => exact rfl); (case hx => exact rfl); (case hy => exact rfl); (case hv => exact b_lss))
    | ((with_reducible apply Sy.ldN (t := 96)); (case hd => exact rfl); (case hx => exact rfl); (case hm => repeat (first | exact Has.here | apply Has.there)); (case hv => first | exact ld_all ag96 (by first | exact sz96)))
    | ((with_reducible apply Sy.bin (op := .add) (t := 3)); (case hd => exact rfl); (case hx => exact rfl); (case hy => exact rfl); (case hv => exact (b_add (by omega))))
    | ((with_reducible apply Sy.sl (t := 86)); (case hd => exact rfl); (case hx => exact rfl); (case hl => exact rfl); (case hu => exact rfl); (case hm => exact rfl); (case hv => exact (sl_mid Tryd.underlying86 sz5 (by omega) (by omega))))
    | ((with_reducible apply Sy.stNa (t := 96)); (case hx => exact rfl); (case hy => exact rfl); (case hs => exact sz96); (case hl => first | exact rfl); (case h1 => first | exact oneL_ints _ _); (case hm => repeat (first | exact Turn.here | apply Turn.there)); (case hle => first | (simp; done)); (case hc => first | exact lay_all (by first | (simp; done))))
    | ((with_reducible apply Sy.dcall0 (k := 60)); (case hw => first | exact wantY_none); (case h1 => exact rfl); (case hS => intro h hh; exact hh); (case hi1 => exact rfl); (case hd => exact rfl); (case hf => exact rfl); (case hen => exact en60); (case hx => exact rfl); (case hc => intro H' hp; exact c_rblock q12 _ _ _ q5 (by omega) (padN l) _ _ _ _ H' _ hok (hp.getN (by repeat (first | exact Has.here | apply Has.there | apply Has.app))) (hp.getN (by repeat (first | exact Has.here | apply Has.there | apply Has.app))) (by omega) hp256))
    | ((with_reducible apply Sy.newY (o := ⟨some 9, .alloc 23, _, _, _, _⟩)); (case ho => exact rfl); (case hd => exact rfl); (case hc => exact (nwz23)); intro q9)
    | (with_reducible refine Sy.skip ?_)
    | (with_reducible refine Sy.exit ?_)
    | (with_reducible refine Sy.block ?_)
    | (with_reducible refine Sy.aex ?_)
    | (with_reducible refine Sy.inrm ?_)
    | ((with_reducible apply Sy.iex); (case hi' => exact rfl))
    | (with_reducible refine Sy.rex ?_)
    | ((with_reducible apply Sy.drawL (id := 5) 8 [] (fun hi h => h < hi)); (case hp => kernel_rfl); (case hN => exact rfl); intro base hbase hM; try simp only [List.forall_mem_cons, List.forall_mem_append, List.not_mem_nil, false_implies, implies_true, and_true] at hM)
    | (with_reducible refine Sy.dend ?_)
    | ((with_reducible apply Sy.dgo); (case hw => first | exact wantY_none); (case hc => intro hcls; cases hcls); (case h1 => exact rfl); (case h2 => exact rfl))
    | ((with_reducible apply Sy.ite); (case hx => exact rfl); all_goals (intro hc; try (exfalso; omega))))
  · have hb1 : blocksN (padN l) (i + 1) = blockS (fun j => (padN l).getD (0 + 64 * i * 1 + j) 0) (blocksN (padN l) i) := by simp only [blocksN, Nat.zero_add, Nat.mul_one]
    refine Sy.rnrm (i + 1) (by omega) (by omega) ⟨rfl, rfl, rfl, rfl, rfl, trivial⟩ (fun H h => ?_)
    simp only [hb1]; exact h
  · have hi64 : i = (padN l).length / 64 := by omega
    have hsh : sha l = outH (blocksN (padN l) i) := by rw [sha, hi64]
    rw [hsh]
    have hSl : (blocksN (padN l) i).l.length = 8 := rfl
    have hS256 := S8_lt hok
    clear hbl
    generalize hS : blocksN (padN l) i = S at *
    refine Sy.loop (ι := Nat) (fun i => 32 - i) (fun i => [(4, .pointer (some ⟨q4, 0, none⟩)), (6, .pointer (some ⟨q6, 0, none⟩)), (9, .pointer (some ⟨q9, 0, none⟩)), (10, .int .i64 (i : Nat))]) (fun _ => []) (fun i => [(q9, .cells (ints .u8 (outN S.l i)) 23 true), (q12, .cells (ints .u8 (padN l)) 5 true), (q6, .cells (hC zeroH) 23 true), (q5, .cells (ints .u32 sK) 102 true), (q4, .cells (ints .u32 S.l) 96 true)]) (fun i => i ≤ 32) 0 (by omega) ⟨rfl, rfl, rfl, rfl, trivial⟩ (fun H h => h) ?_
    intro i hi
    have hol : (outN S.l i).length = 32 := outN_length _ _
    have hSo := lt_getD (l := S.l) (m := 4294967296) (by decide) hS256 (i / 4)
    repeat' (first
    | (with_reducible refine Sy.seq ?_)
    | (with_reducible refine Sy.regionL ?_)
    | (with_reducible refine Sy.opsnil ?_)
    | (with_reducible refine Sy.go ?_)
    | (with_reducible refine Sy.nrm ?_)
    | ((with_reducible apply Sy.move); (case hd => exact rfl); (case hx => exact rfl))
    | ((with_reducible apply Sy.assign); (case hd => exact rfl); (case hx => exact rfl))
    | ((with_reducible apply Sy.bin (op := .lss) (t := 3)); (case hd => exact rfl); (case hx => exact rfl); (case hy => exact rfl); (case hv => exact b_lss))
    | ((with_reducible apply Sy.bin (op := .add) (t := 3)); (case hd => exact rfl); (case hx => exact rfl); (case hy => exact rfl); (case hv => exact (b_add (by omega))))
    | ((with_reducible apply Sy.bin (op := .quo) (t := 3)); (case hd => exact rfl); (case hx => exact rfl); (case hy => exact rfl); (case hv => exact (b_quo (by omega) (by omega))))
    | ((with_reducible apply Sy.ia (t := 96)); (case hd => exact rfl); (case hx => exact rfl); (case hy => exact rfl); (case hv => exact (ia_ar10 Tryd.underlying96 sz95 (by omega))))
    | ((with_reducible apply Sy.ldN (t := 95)); (case hd => exact rfl); (case hx => exact rfl); (case hm => repeat (first | exact Has.here | apply Has.there)); (case hv => first | ((with_reducible refine ld_int ag95 ?_); first | omega)))
    | ((with_reducible apply Sy.bin (op := .rem) (t := 3)); (case hd => exact rfl); (case hx => exact rfl); (case hy => exact rfl); (case hv => exact (b_rem (by omega))))
    | ((with_reducible apply Sy.bin (op := .mul) (t := 3)); (case hd => exact rfl); (case hx => exact rfl); (case hy => exact rfl); (case hv => exact (b_mul (by omega))))
    | ((with_reducible apply Sy.bin (op := .sub) (t := 3)); (case hd => exact rfl); (case hx => exact rfl); (case hy => exact rfl); (case hv => exact (b_sub (by omega) (by omega))))
    | ((with_reducible apply Sy.conv (D := 0) (T := .bool)); (case hd => exact rfl); (case hs => exact Tryd.underlying3); (case hu => exact Tryd.underlying89); (case hx => exact rfl); (case hz => exact (wrap_u64x (by omega))))
    | ((with_reducible apply Sy.bin (op := .shr) (t := 95)); (case hd => exact rfl); (case hx => exact rfl); (case hy => exact rfl); (case hv => exact (b_shr32 (by omega))))
    | ((with_reducible apply Sy.conv (D := 0) (T := .bool)); (case hd => exact rfl); (case hs => exact Tryd.underlying95); (case hu => exact Tryd.underlying5); (case hx => exact rfl); (case hz => exact (wrap_u8 _)))
    | ((with_reducible apply Sy.ia (t := 23)); (case hd => exact rfl); (case hx => exact rfl); (case hy => exact rfl); (case hv => exact (ia_ar10 Tryd.underlying23 sz5 (by omega))))
    | ((with_reducible apply Sy.stN1 (t := 5)); (case hx => exact rfl); (case hy => exact rfl); (case hs => exact sz5); (case hl => exact rfl); (case h1 => exact rfl); (case hm => repeat (first | exact Turn.here)); (case hle => first | (simp; omega)); (case hc => first | with_reducible exact ints_set _ _ _ _))
    | (with_reducible refine Sy.skip ?_)
    | (with_reducible refine Sy.exit ?_)
    | (with_reducible refine Sy.block ?_)
    | (with_reducible refine Sy.aex ?_)
    | (with_reducible refine Sy.inrm ?_)
    | ((with_reducible apply Sy.iex); (case hi' => exact rfl))
    | (with_reducible refine Sy.rex ?_)
    | ((with_reducible apply Sy.ite); (case hx => exact rfl); all_goals (intro hc; try (exfalso; omega))))
    · exact Sy.rnrm (i + 1) (by omega) (by omega) ⟨rfl, rfl, rfl, rfl, trivial⟩ (fun H h => h)
    · obtain rfl : i = 32 := by omega
      rw [← hC_out]
      repeat' (first
    | (with_reducible refine Sy.opsnil ?_)
    | (with_reducible refine Sy.go ?_)
    | (with_reducible refine Sy.nrm ?_)
    | ((with_reducible apply Sy.ldN (t := 23)); (case hd => exact rfl); (case hx => exact rfl); (case hm => repeat (first | exact Has.here)); (case hv => first | exact ld_hV ag23 sz23))
    | ((with_reducible apply Sy.stNa (t := 23)); (case hx => exact rfl); (case hy => exact rfl); (case hs => exact sz23); (case hl => first | exact hC_length _); (case h1 => first | exact hC_one _); (case hm => repeat (first | exact Turn.here | apply Turn.there)); (case hle => first | (simp; done)); (case hc => first | exact lay_all (by first | (simp; done))))
    | (with_reducible refine Sy.ret ?_))
      exact .fin [hV (outH S)] (.inr rfl) ⟨⟨q6, 0, _, rfl, (by repeat (first | exact Has.here | apply Has.there | apply Has.app)), ld_hV ag23 sz23⟩, trivial⟩ fun H1 hp => ⟨rfl, hp.less (List.nil_sublist _)⟩

theorem c_table (H : AHeap) : CallR Tryd.prog noPrims 55 [] H (fun v H' => v = .tuple ⟨[.agg ⟨ints .u32 s0S.l⟩, .agg ⟨ints .u32 sK⟩]⟩ ∧ Hp H 0 0 H' [] []) := by
  refine CallR.sy (n := 4) Tryd.func55 rfl rfl rfl ?_
  repeat' (first
    | (with_reducible refine Sy.seq ?_)
    | (with_reducible refine Sy.regionL ?_)
    | (with_reducible refine Sy.opsnil ?_)
    | (with_reducible refine Sy.go ?_)
    | (with_reducible refine Sy.nrm ?_)
    | ((with_reducible apply Sy.build (t := 96)); (case hd => exact rfl); (case hx => exact rfl); (case hv => exact (bv_one [_, _, _, _, _, _, _, _] Tryd.underlying96 sz95 zr96 rfl rfl rfl (by simp only [List.forall_mem_cons, List.not_mem_nil, false_implies, implies_true, and_true]; exact ⟨rfl, rfl, rfl, rfl, rfl, rfl, rfl, rfl⟩))))
    | ((with_reducible apply Sy.build (t := 102)); (case hd => exact rfl); (case hx => exact rfl); (case hv => exact (bv_one [_, _, _, _, _, _, _, _, _, _, _, _, _, _, _, _, _, _, _, _, _, _, _, _, _, _, _, _, _, _, _, _, _, _, _, _, _, _, _, _, _, _, _, _, _, _, _, _, _, _, _, _, _, _, _, _, _, _, _, _, _, _, _, _] Tryd.underlying102 sz95 zr102 rfl rfl rfl (by simp only [List.forall_mem_cons, List.not_mem_nil, false_implies, implies_true, and_true]; exact ⟨rfl, rfl, rfl, rfl, rfl, rfl, rfl, rfl, rfl, rfl, rfl, rfl, rfl, rfl, rfl, rfl, rfl, rfl, rfl, rfl, rfl, rfl, rfl, rfl, rfl, rfl, rfl, rfl, rfl, rfl, rfl, rfl, rfl, rfl, rfl, rfl, rfl, rfl, rfl, rfl, rfl, rfl, rfl, rfl, rfl, rfl, rfl, rfl, rfl, rfl, rfl, rfl, rfl, rfl, rfl, rfl, rfl, rfl, rfl, rfl, rfl, rfl, rfl, rfl⟩))))
    | ((with_reducible apply Sy.stNa (t := 96)); (case hx => exact rfl); (case hy => exact rfl); (case hs => exact sz96); (case hl => first | exact rfl); (case h1 => first | exact rfl); (case hm => repeat (first | exact Turn.here | apply Turn.there)); (case hle => first | (simp; done)); (case hc => first | exact lay_all (by first | (simp; done))))
    | ((with_reducible apply Sy.stNa (t := 102)); (case hx => exact rfl); (case hy => exact rfl); (case hs => exact sz102); (case hl => first | exact rfl); (case h1 => first | exact rfl); (case hm => repeat (first | exact Turn.here)); (case hle => first | (simp; done)); (case hc => first | exact lay_all (by first | (simp; done))))
    | ((with_reducible apply Sy.newY (o := ⟨some 0, .alloc 96, _, _, _, _⟩)); (case ho => exact rfl); (case hd => exact rfl); (case hc => exact (nwz96)); intro q0)
    | ((with_reducible apply Sy.newY (o := ⟨some 1, .alloc 102, _, _, _, _⟩)); (case ho => exact rfl); (case hd => exact rfl); (case hc => exact (nwz102)); intro q1)
    | (with_reducible refine Sy.ret ?_))
  exact .fin [.agg ⟨ints .u32 s0S.l⟩, .agg ⟨ints .u32 sK⟩] (.inr rfl) ⟨⟨q0, 0, _, rfl, (by repeat (first | exact Has.here | apply Has.there | apply Has.app)), ld_all ag96 sz96⟩, ⟨q1, 0, _, rfl, (by repeat (first | exact Has.here | apply Has.there | apply Has.app)), ld_all ag102 sz102⟩, trivial⟩ fun H1 hp => ⟨rfl, hp.less (List.nil_sublist _)⟩

theorem c_rSum (b o n cp : Nat) (lb l : List Nat) (Tb : TypeId) (wb : Bool) (H : AHeap) (hgb : H.get b = .cells (ints .u8 lb) Tb wb) (hlb : o + n ≤ lb.length) (h256 : ∀ x ∈ lb, x < 256) (hn : n < 1000000000000) (hl : (lb.drop o).take n = l) :
    CallR Tryd.prog noPrims 51 [.slice (some ⟨b, o, none⟩) n cp] H (fun v H' => v = hV (sha l) ∧ Hp H 0 0 H' [] []) := by
  refine CallR.sy (n := 13) Tryd.func51 rfl rfl rfl ?_
  repeat' (first
    | (with_reducible refine Sy.seq ?_)
    | (with_reducible refine Sy.regionL ?_)
    | (with_reducible refine Sy.opsnil ?_)
    | (with_reducible refine Sy.go ?_)
    | (with_reducible refine Sy.nrm ?_)
    | ((with_reducible apply Sy.move); (case hd => exact rfl); (case hx => exact rfl))
    | ((with_reducible apply Sy.ext); (case hd => exact rfl); (case hx => exact rfl); (case hv => exact rfl))
    | ((with_reducible apply Sy.stNa (t := 96)); (case hx => exact rfl); (case hy => exact rfl); (case hs => exact sz96); (case hl => first | exact rfl); (case h1 => first | exact oneL_ints _ _); (case hm => repeat (first | exact Turn.here | apply Turn.there)); (case hle => first | (simp; done)); (case hc => first | exact lay_all (by first | (simp; done))))
    | ((with_reducible apply Sy.stNa (t := 102)); (case hx => exact rfl); (case hy => exact rfl); (case hs => exact sz102); (case hl => first | exact rfl); (case h1 => first | exact oneL_ints _ _); (case hm => repeat (first | exact Turn.here)); (case hle => first | (simp; done)); (case hc => first | exact lay_all (by first | exact rfl)))
    | ((with_reducible apply Sy.ldN (t := 96)); (case hd => exact rfl); (case hx => exact rfl); (case hm => repeat (first | exact Has.here | apply Has.there)); (case hv => first | exact ld_all ag96 (by first | exact sz96)))
    | ((with_reducible apply Sy.ldN (t := 102)); (case hd => exact rfl); (case hx => exact rfl); (case hm => repeat (first | exact Has.here)); (case hv => first | exact ld_all ag102 (by first | exact sz102)))
    | ((with_reducible apply Sy.stNa (t := 23)); (case hx => exact rfl); (case hy => exact rfl); (case hs => exact sz23); (case hl => first | exact hC_length _); (case h1 => first | exact hC_one _); (case hm => repeat (first | exact Turn.here | apply Turn.there)); (case hle => first | (simp; done)); (case hc => first | exact lay_all (by first | (simp; done))))
    | ((with_reducible apply Sy.call0 (k := 55)); (case hd => exact rfl); (case hf => exact rfl); (case hen => exact en55); (case hx => exact rfl); (case hc => intro H' hp; exact c_table H'))
    | ((with_reducible apply Sy.call0 (k := 56)); (case hd => exact rfl); (case hf => exact rfl); (case hen => exact en56); (case hx => exact rfl); (case hc => intro H' hp; exact c_rsum b o n cp lb l Tb wb H' (hp.get0 hgb rfl (by simp)) hlb h256 hn hl))
    | ((with_reducible apply Sy.newY (o := ⟨some 2, .alloc 23, _, _, _, _⟩)); (case ho => exact rfl); (case hd => exact rfl); (case hc => exact (nwz23)); intro q2)
    | ((with_reducible apply Sy.newY (o := ⟨some 3, .alloc 96, _, _, _, _⟩)); (case ho => exact rfl); (case hd => exact rfl); (case hc => exact (nwz96)); intro q3)
    | ((with_reducible apply Sy.newY (o := ⟨some 4, .alloc 102, _, _, _, _⟩)); (case ho => exact rfl); (case hd => exact rfl); (case hc => exact (nwz102)); intro q4)
    | (with_reducible refine Sy.ret ?_))
  exact .fin [hV (sha l)] (.inr rfl) ⟨⟨q2, 0, _, rfl, (by repeat (first | exact Has.here | apply Has.there | apply Has.app)), ld_hV ag23 sz23⟩, trivial⟩ fun H1 hp => ⟨rfl, hp.less (List.nil_sublist _)⟩
end Go.Proofs.YtmlofdgamdlcgaaDoor

/- The reference's Frame, Tagged, Pair, Leaf, Above. -/
namespace Go.Proofs.YtmlofdgamdlcgaaDoor
open Go Go.Am
set_option maxRecDepth 100000
set_option linter.unusedVariables false

theorem c_rFrame (s : ByteArray) (hs0 : 0 < s.size) (hs : s.size ≤ 255) (pb np cp : Nat) (pc : List Value) (Tp : TypeId) (w : Bool) (H : AHeap) (hgp : H.get pb = .cells pc Tp w) (ps : List (List Nat)) (hps : ps.length = np) (hn2 : np < 1000000)
    (hrd : ∀ (i : Nat) (p : List Nat), ps[i]? = some p → ∃ x, pc[i]? = some x ∧ SlR H 1 x p.length (ints .u8 p)) (hbd : ∀ i, (frameN (bytesOf s) (ps.take i)).length < 1000000000) (hbp : ∀ p ∈ ps, p.length < 1000000000) :
    CallR Tryd.prog noPrims 52 [.string s, .slice (some ⟨pb, 0, none⟩) np cp] H (fun v H' => ∃ b : Nat, True ∧ v = .slice (some ⟨b, 0, none⟩) (frameN (bytesOf s) ps).length ((frameN (bytesOf s) ps).length + 2 + 1) ∧ Hp H 0 0 H' [] [(b, .cells (ints .u8 (frameN (bytesOf s) ps)) 5 true)]) := by
  have hbs := bytesOf_length s
  have hlt0 : s.size % 256 = s.size := Nat.mod_eq_of_lt (by omega)
  have hb0 := hbd 0
  simp only [List.take_zero, frameN, List.length_cons] at hb0
  refine CallR.sy (n := 42) Tryd.func52 rfl rfl rfl ?_
  repeat' (first
    | (with_reducible refine Sy.seq ?_)
    | (with_reducible refine Sy.regionL ?_)
    | (with_reducible refine Sy.opsnil ?_)
    | (with_reducible refine Sy.go ?_)
    | (with_reducible refine Sy.nrm ?_)
    | ((with_reducible apply Sy.assign); (case hd => exact rfl); (case hx => exact rfl))
    | ((with_reducible apply Sy.move); (case hd => exact rfl); (case hx => exact rfl))
    | ((with_reducible apply Sy.lenStr); (case hd => exact rfl); (case ht => exact Tryd.underlying9); (case hx => exact rfl))
    | ((with_reducible apply Sy.bin (op := .gtr) (t := 3)); (case hd => exact rfl); (case hx => exact rfl); (case hy => exact rfl); (case hv => exact b_gtr))
    | ((with_reducible apply Sy.conv (D := 0) (T := .bool)); (case hd => exact rfl); (case hs => exact Tryd.underlying3); (case hu => exact Tryd.underlying5); (case hx => exact rfl); (case hz => exact (wrap_u8x (by omega))))
    | ((with_reducible apply Sy.appQ (t := 86) (xt := 86)); (case A => exact (ap86_86 zr5 rfl)); (case hd => exact rfl); (case hx => exact rfl); (case hy => exact rfl); (case hs => first | exact SrcY.ofNi' (by repeat (first | exact Has.here)) (by first | (simp; done))); (case h1 => first | exact oneL_ints _ _); (case hc => first | (simp; done)); (case hb => first | omega); (case hm => repeat (first | exact Drop.here | apply Drop.there)); (case hl => first | (simp; done)); (case hj => first | exact ints_append _ _ _); intro q18)
    | ((with_reducible apply Sy.appQ (t := 86) (xt := 9)); (case A => exact (ap86_9 zr5 rfl)); (case hd => exact rfl); (case hx => exact rfl); (case hy => exact rfl); (case hs => first | exact SrcY.stri rfl); (case h1 => first | exact oneL_ints _ _); (case hc => first | (simp; done)); (case hb => first | omega); (case hm => repeat (first | exact Drop.here)); (case hl => first | (simp; done)); (case hj => first | exact ints_append _ _ _); intro q20)
    | ((with_reducible apply Sy.newY (o := ⟨some 12, .makeSlice 86 _ _, _, _, _, _⟩)); (case ho => exact rfl); (case hd => exact rfl); (case hc => exact (newY_mkI2 Tryd.underlying86 sz5 bs5 zr5 rfl rfl (by omega) (by decide) (by omega))); intro q12)
    | ((with_reducible apply Sy.newY (o := ⟨some 17, .buildSlice 86 _ _, _, _, _, _⟩)); (case ho => exact rfl); (case hd => exact rfl); (case hc => exact (nbsI [_] Tryd.underlying86 sz5 zr5 rfl (by decide) rfl rfl)); intro q17)
    | (with_reducible refine Sy.skip ?_)
    | (with_reducible refine Sy.block ?_)
    | ((with_reducible apply Sy.ite); (case hx => exact rfl); all_goals (intro hc; try (exfalso; omega))))
  refine Sy.loop (ι := Nat × Nat) (fun i => np - i.1) (fun i => [(1, .slice (some ⟨pb, 0, none⟩) np cp), (5, .slice (some ⟨i.2, 0, none⟩) (frameN (bytesOf s) (ps.take i.1)).length ((frameN (bytesOf s) (ps.take i.1)).length + 2 + 1)), (6, .int .i64 (i.1 : Nat))]) (fun _ => [])
    (fun i => [(i.2, .cells (ints .u8 (frameN (bytesOf s) (ps.take i.1))) 5 true)]) (fun i => i.1 ≤ np) (0, q20) (Nat.zero_le _) ?_ ?_ ?_
  · refine ⟨rfl, ?_, rfl, trivial⟩
    simp only [List.take_zero, frameN, List.length_cons, hbs]
    rw [Nat.add_comm s.size 1, ← Nat.zero_add 1]; rfl
  · intro H h
    have h2 := h.less (List.Sublist.cons_cons _ (List.nil_sublist _))
    simp only [List.take_zero, frameN, hbs]
    exact h2
  rintro ⟨i, b⟩ hi
  dsimp only at hi ⊢
  by_cases hlt : i < np
  · obtain ⟨p, hp⟩ : ∃ p, ps[i]? = some p := ⟨ps[i], List.getElem?_eq_getElem (by omega)⟩
    obtain ⟨x, hx, hr⟩ := hrd i p hp
    have hr2 := hr
    have hplt := hbp p (List.mem_of_getElem? hp)
    have htk : ps.take (i + 1) = ps.take i ++ [p] := by rw [List.take_add_one, hp]; rfl
    have hb1 := hbd (i + 1)
    rw [htk, frameN_snoc] at hb1
    simp only [List.length_append, be64_length] at hb1
    generalize hacc : frameN (bytesOf s) (ps.take i) = acc at *
    have hdone : frameN (bytesOf s) (ps.take (i + 1)) = (acc ++ be64 p.length) ++ p := by rw [htk, frameN_snoc, hacc]
    rcases hr.two with ⟨rfl, hz, hz2⟩ | ⟨b2, o2, c2, cs2, T2, w2, rfl, hg2, hl2, ht2⟩
    · obtain rfl : p = [] := List.length_eq_zero_iff.1 hz
      simp only [List.length_nil] at hplt hb1 hdone hr2
      repeat' (first
    | (with_reducible refine Sy.seq ?_)
    | (with_reducible refine Sy.regionL ?_)
    | (with_reducible refine Sy.opsnil ?_)
    | (with_reducible refine Sy.go ?_)
    | (with_reducible refine Sy.nrm ?_)
    | ((with_reducible apply Sy.assign); (case hd => exact rfl); (case hx => exact rfl))
    | ((with_reducible apply Sy.move); (case hd => exact rfl); (case hx => exact rfl))
    | ((with_reducible apply Sy.appQ (t := 86) (xt := 86)); (case A => exact (ap86_86 zr5 rfl)); (case hd => exact rfl); (case hx => exact rfl); (case hy => exact rfl); (case hs => first | exact SrcY.ofR (by with_reducible assumption) rfl | exact SrcY.ofNi' (by repeat (first | exact Has.here)) (by first | (simp; done))); (case h1 => first | exact oneL_ints _ _); (case hc => first | (simp; done)); (case hb => first | omega); (case hm => repeat (first | exact Drop.here | apply Drop.there)); (case hl => first | (simp; done)); (case hj => first | exact ints_append _ _ _); intro q18)
    | ((with_reducible apply Sy.lenS); (case hd => exact rfl); (case ht => exact Tryd.underlying88); (case hx => exact rfl))
    | ((with_reducible apply Sy.bin (op := .lss) (t := 3)); (case hd => exact rfl); (case hx => exact rfl); (case hy => exact rfl); (case hv => exact b_lss))
    | ((with_reducible apply Sy.ia (t := 88)); (case hd => exact rfl); (case hx => exact rfl); (case hy => exact rfl); (case hv => exact (ia_sl10 Tryd.underlying88 sz86 (by omega))))
    | ((with_reducible apply Sy.ld0 (t := 86)); (case hd => exact rfl); (case hx => exact rfl); (case hm => with_reducible assumption); (case hl => exact rfl); (case hn => simp only [List.forall_mem_cons, List.not_mem_nil, false_implies, implies_true, and_true, ne_eq]; first | done); (case hv => first | exact ld_one ag86 (by with_reducible assumption)))
    | ((with_reducible apply Sy.lenS); (case hd => exact rfl); (case ht => exact Tryd.underlying86); (case hx => exact rfl))
    | ((with_reducible apply Sy.conv (D := 0) (T := .bool)); (case hd => exact rfl); (case hs => exact Tryd.underlying3); (case hu => exact Tryd.underlying101); (case hx => exact rfl); (case hz => exact (wrap_u64x (by omega))))
    | ((with_reducible apply Sy.bin (op := .add) (t := 3)); (case hd => exact rfl); (case hx => exact rfl); (case hy => exact rfl); (case hv => exact (b_add (by omega))))
    | ((with_reducible apply Sy.callN (k := 57)); (case hd => exact rfl); (case hf => exact rfl); (case hen => exact en57); (case hx => exact rfl); (case hc => intro H' hp; exact c_reight _ (by omega) H'); rintro hq34 -)
    | ((with_reducible apply Sy.drawL (id := 8) 15 [(12, 7), (12, 8)] (fun hi h => h = pb)); (case hp => kernel_rfl); (case hN => exact rfl); intro base hbase hM)
    | ((with_reducible apply Sy.dld); (case hw => first | exact wantY_none); (case hx => exact rfl); (case hb => exact rfl); (case h2 => exact rfl))
    | ((with_reducible apply Sy.dwr (SK := [(pb, .cells pc Tp w)])); (case hw => first | exact wantY_none); (case hc => intro hcls; cases hcls); (case h1 => exact rfl); (case hS => intro h hh; subst hh; exact ⟨_, List.mem_singleton.2 rfl⟩); (case hk => exact .cons0 hgp rfl (by simp) .nil))
    | ((with_reducible apply Sy.dand); (case hk => exact .cons0 hgp rfl (by simp) .nil))
    | (with_reducible refine Sy.skip ?_)
    | (with_reducible refine Sy.block ?_)
    | (with_reducible refine Sy.inrm ?_)
    | (with_reducible refine Sy.dend ?_)
    | ((with_reducible apply Sy.ite); (case hx => exact rfl); all_goals (intro hc; try (exfalso; omega))))
      refine Sy.rnrm (i + 1, q18) (by omega) (by omega) ?_ ?_
      · simp only [hdone, List.length_append, be64_length, List.length_nil]; exact ⟨rfl, rfl, rfl, trivial⟩
      · intro H h; simp only [hdone]; exact h.less (List.Sublist.cons_cons _ (List.nil_sublist _))
    · repeat' (first
    | (with_reducible refine Sy.seq ?_)
    | (with_reducible refine Sy.regionL ?_)
    | (with_reducible refine Sy.opsnil ?_)
    | (with_reducible refine Sy.go ?_)
    | (with_reducible refine Sy.nrm ?_)
    | ((with_reducible apply Sy.assign); (case hd => exact rfl); (case hx => exact rfl))
    | ((with_reducible apply Sy.move); (case hd => exact rfl); (case hx => exact rfl))
    | ((with_reducible apply Sy.appQ (t := 86) (xt := 86)); (case A => exact (ap86_86 zr5 rfl)); (case hd => exact rfl); (case hx => exact rfl); (case hy => exact rfl); (case hs => first | exact SrcY.ofR (by with_reducible assumption) rfl | exact SrcY.ofNi' (by repeat (first | exact Has.here)) (by first | (simp; done))); (case h1 => first | exact oneL_ints _ _); (case hc => first | (simp; done)); (case hb => first | omega); (case hm => repeat (first | exact Drop.here | apply Drop.there)); (case hl => first | (simp; done)); (case hj => first | exact ints_append _ _ _); intro q18)
    | ((with_reducible apply Sy.lenS); (case hd => exact rfl); (case ht => exact Tryd.underlying88); (case hx => exact rfl))
    | ((with_reducible apply Sy.bin (op := .lss) (t := 3)); (case hd => exact rfl); (case hx => exact rfl); (case hy => exact rfl); (case hv => exact b_lss))
    | ((with_reducible apply Sy.ia (t := 88)); (case hd => exact rfl); (case hx => exact rfl); (case hy => exact rfl); (case hv => exact (ia_sl10 Tryd.underlying88 sz86 (by omega))))
    | ((with_reducible apply Sy.ld0 (t := 86)); (case hd => exact rfl); (case hx => exact rfl); (case hm => with_reducible assumption); (case hl => exact rfl); (case hn => simp only [List.forall_mem_cons, List.not_mem_nil, false_implies, implies_true, and_true, ne_eq]; first | done); (case hv => first | exact ld_one ag86 (by with_reducible assumption)))
    | ((with_reducible apply Sy.lenS); (case hd => exact rfl); (case ht => exact Tryd.underlying86); (case hx => exact rfl))
    | ((with_reducible apply Sy.conv (D := 0) (T := .bool)); (case hd => exact rfl); (case hs => exact Tryd.underlying3); (case hu => exact Tryd.underlying101); (case hx => exact rfl); (case hz => exact (wrap_u64x (by omega))))
    | ((with_reducible apply Sy.bin (op := .add) (t := 3)); (case hd => exact rfl); (case hx => exact rfl); (case hy => exact rfl); (case hv => exact (b_add (by omega))))
    | ((with_reducible apply Sy.callN (k := 57)); (case hd => exact rfl); (case hf => exact rfl); (case hen => exact en57); (case hx => exact rfl); (case hc => intro H' hp; exact c_reight _ (by omega) H'); rintro hq34 -)
    | ((with_reducible apply Sy.drawL (id := 8) 15 [(12, 7), (12, 8)] (fun hi h => h = pb)); (case hp => kernel_rfl); (case hN => exact rfl); intro base hbase hM)
    | ((with_reducible apply Sy.dld); (case hw => first | exact wantY_none); (case hx => exact rfl); (case hb => exact rfl); (case h2 => exact rfl))
    | ((with_reducible apply Sy.dwr (SK := [(pb, .cells pc Tp w)])); (case hw => first | exact wantY_none); (case hc => intro hcls; cases hcls); (case h1 => exact rfl); (case hS => intro h hh; subst hh; exact ⟨_, List.mem_singleton.2 rfl⟩); (case hk => exact .cons0 hgp rfl (by simp) .nil))
    | ((with_reducible apply Sy.dand); (case hk => exact .cons0 hgp rfl (by simp) .nil))
    | (with_reducible refine Sy.skip ?_)
    | (with_reducible refine Sy.block ?_)
    | (with_reducible refine Sy.inrm ?_)
    | (with_reducible refine Sy.dend ?_)
    | ((with_reducible apply Sy.ite); (case hx => exact rfl); all_goals (intro hc; try (exfalso; omega))))
      refine Sy.rnrm (i + 1, q18) (by omega) (by omega) ?_ ?_
      · simp only [hdone, List.length_append, be64_length, List.length_nil]; exact ⟨rfl, rfl, rfl, trivial⟩
      · intro H h; simp only [hdone]; exact h.less (List.Sublist.cons_cons _ (List.nil_sublist _))
  · obtain rfl : i = np := by omega
    rw [List.take_of_length_le (by omega)]
    repeat' (first
    | (with_reducible refine Sy.seq ?_)
    | (with_reducible refine Sy.regionL ?_)
    | (with_reducible refine Sy.opsnil ?_)
    | (with_reducible refine Sy.go ?_)
    | (with_reducible refine Sy.nrm ?_)
    | ((with_reducible apply Sy.assign); (case hd => exact rfl); (case hx => exact rfl))
    | ((with_reducible apply Sy.move); (case hd => exact rfl); (case hx => exact rfl))
    | ((with_reducible apply Sy.lenS); (case hd => exact rfl); (case ht => exact Tryd.underlying88); (case hx => exact rfl))
    | ((with_reducible apply Sy.bin (op := .lss) (t := 3)); (case hd => exact rfl); (case hx => exact rfl); (case hy => exact rfl); (case hv => exact b_lss))
    | (with_reducible refine Sy.exit ?_)
    | (with_reducible refine Sy.ret ?_)
    | (with_reducible refine Sy.aex ?_)
    | ((with_reducible apply Sy.iex); (case hi' => exact rfl))
    | (with_reducible refine Sy.rex ?_)
    | ((with_reducible apply Sy.ite); (case hx => exact rfl); all_goals (intro hc; try (exfalso; omega))))
    exact .fin [_] (.inr rfl) ⟨rfl, trivial⟩ fun H' hp => ⟨b, trivial, rfl, hp⟩

theorem k_rSum {H : AHeap} {b o n cp : Nat} {lb : List Nat} {Tb : TypeId} {wb : Bool} (hgb : H.get b = .cells (ints .u8 lb) Tb wb) (hlb : o + n ≤ lb.length) (h256 : ∀ x ∈ lb, x < 256) (hn : n < 1000000000000) :
    CallR Tryd.prog noPrims 51 [.slice (some ⟨b, o, none⟩) n cp] H (fun v H' => v = hV (sha ((lb.drop o).take n)) ∧ Hp H 0 0 H' [] []) := c_rSum b o n cp lb _ Tb wb H hgb hlb h256 hn rfl

theorem c_rTagged (s : ByteArray) (hs0 : 0 < s.size) (hs : s.size ≤ 255) (pb np cp : Nat) (pc : List Value) (Tp : TypeId) (w : Bool) (H : AHeap) (hgp : H.get pb = .cells pc Tp w) (ps : List (List Nat)) (hps : ps.length = np) (hn2 : np < 1000000)
    (hrd : ∀ (i : Nat) (p : List Nat), ps[i]? = some p → ∃ x, pc[i]? = some x ∧ SlR H 1 x p.length (ints .u8 p)) (hbd : ∀ i, (frameN (bytesOf s) (ps.take i)).length < 1000000000) (hbp : ∀ p ∈ ps, p.length < 1000000000) (h256 : ∀ p ∈ ps, ∀ x ∈ p, x < 256) :
    CallR Tryd.prog noPrims 45 [.string s, .slice (some ⟨pb, 0, none⟩) np cp] H (fun v H' => v = hV (sha (frameN (bytesOf s) ps)) ∧ Hp H 0 0 H' [] []) := by
  have hfl : (frameN (bytesOf s) ps).length < 1000000000 := by have := hbd ps.length; rwa [List.take_of_length_le (Nat.le_refl _)] at this
  have hf256 := frameN_lt (tag := bytesOf s) (ps := ps) (by rw [bytesOf_length]; omega) (bytesOf_lt s) h256
  refine CallR.sy (n := 9) Tryd.func45 rfl rfl rfl ?_
  repeat' (first
    | (with_reducible refine Sy.seq ?_)
    | (with_reducible refine Sy.regionL ?_)
    | (with_reducible refine Sy.opsnil ?_)
    | (with_reducible refine Sy.go ?_)
    | (with_reducible refine Sy.nrm ?_)
    | ((with_reducible apply Sy.move); (case hd => exact rfl); (case hx => exact rfl))
    | ((with_reducible apply Sy.stNa (t := 23)); (case hx => exact rfl); (case hy => exact rfl); (case hs => exact sz23); (case hl => first | exact hC_length _); (case h1 => first | exact hC_one _); (case hm => repeat (first | exact Turn.here | apply Turn.there)); (case hle => first | (simp; done)); (case hc => first | exact lay_all (by first | (simp; done))))
    | ((with_reducible apply Sy.callN (k := 52)); (case hd => exact rfl); (case hf => exact rfl); (case hen => exact en52); (case hx => exact rfl); (case hc => intro H' hp; exact c_rFrame s hs0 hs pb np cp pc Tp w H' (hp.get0 hgp rfl (by simp)) ps hps hn2 (fun i p h => by obtain ⟨x, h1, h2⟩ := hrd i p h; exact ⟨x, h1, h2.of hp⟩) hbd hbp); rintro q7 -)
    | ((with_reducible apply Sy.call0 (k := 51)); (case hd => exact rfl); (case hf => exact rfl); (case hen => exact en51); (case hx => exact rfl); (case hc => intro H' hp; exact k_rSum (hp.getN (by repeat (first | exact Has.here | apply Has.there | apply Has.app))) (by simp) hf256 (by omega)))
    | ((with_reducible apply Sy.newY (o := ⟨some 4, .alloc 23, _, _, _, _⟩)); (case ho => exact rfl); (case hd => exact rfl); (case hc => exact (nwz23)); intro q4)
    | (with_reducible refine Sy.ret ?_))
  rw [List.drop_zero, List.take_of_length_le (Nat.le_refl _)]
  repeat' (first
    | (with_reducible refine Sy.seq ?_))
  exact .fin [hV (sha (frameN (bytesOf s) ps))] (.inr rfl) ⟨⟨q4, 0, _, rfl, (by repeat (first | exact Has.here | apply Has.there | apply Has.app)), ld_hV ag23 sz23⟩, trivial⟩ fun H1 hp => ⟨rfl, hp.less (List.nil_sublist _)⟩

theorem slr_ints {H : AHeap} {b c : Nat} {h : Hsh} {T : TypeId} {w : Bool} (hg : H.get b = .cells (ints .u8 h.l) T w) : SlR H 1 (.slice (some ⟨b, 0, none⟩) 32 c) h.l.length (ints .u8 h.l) := slr_hash hg

theorem c_rPair (a b : Hsh) (H : AHeap) : CallR Tryd.prog noPrims 46 [hV a, hV b] H (fun v H' => v = hV (sha (frameN (bytesOf pairB) [a.l, b.l])) ∧ Hp H 0 0 H' [] []) := by
  have ha := a.len
  have hb := b.len
  refine CallR.sy (n := 13) Tryd.func46 rfl rfl rfl ?_
  repeat' (first
    | (with_reducible refine Sy.seq ?_)
    | (with_reducible refine Sy.regionL ?_)
    | (with_reducible refine Sy.opsnil ?_)
    | (with_reducible refine Sy.go ?_)
    | (with_reducible refine Sy.nrm ?_)
    | ((with_reducible apply Sy.sl (t := 23)); (case hd => exact rfl); (case hx => exact rfl); (case hl => exact rfl); (case hu => exact rfl); (case hm => exact rfl); (case hv => exact (sl_ar Tryd.underlying23 sz5)))
    | ((with_reducible apply Sy.appFN (t := 86) (xt := 86)); (case A => exact (ap86_86 zr5 rfl)); (case hd => exact rfl); (case hx => exact rfl); (case hy => exact rfl); (case hs => first | exact SrcY.ofNh (by repeat (first | exact Has.here | apply Has.there))); (case h1 => first | exact oneL_ints _ _); (case hk => first | omega); (case hb => first | omega); (case hm => repeat (first | exact Has.here)); (case hl => first | omega); (case ho => first | exact rfl); (case hj => first | exact rfl); intro q7)
    | ((with_reducible apply Sy.stNa (t := 23)); (case hx => exact rfl); (case hy => exact rfl); (case hs => exact sz23); (case hl => first | exact hC_length _); (case h1 => first | exact hC_one _); (case hm => repeat (first | exact Turn.here | apply Turn.there)); (case hle => first | (simp; done)); (case hc => first | exact lay_all (by first | (simp; done))))
    | ((with_reducible apply Sy.dcall0 (k := 45)); (case hw => first | exact wantY_none); (case h1 => exact rfl); (case hS => intro h hh; exact hh); (case hi1 => exact rfl); (case hd => exact rfl); (case hf => exact rfl); (case hen => exact en45); (case hx => exact rfl); (case hc => intro H' hp; exact c_rTagged pairB (by decide) (by decide) _ 2 2 _ _ _ H' (hp.getN (by repeat (first | exact Has.here | apply Has.there | apply Has.app))) [a.l, b.l] rfl (by decide) (slr_two (slr_ints (hp.getN (by repeat (first | exact Has.here | apply Has.there | apply Has.app)))) (slr_ints (hp.getN (by repeat (first | exact Has.here | apply Has.there | apply Has.app))))) (frame2_lt a b (by decide)) (by simp [ha, hb]) (by simp; exact ⟨a.lt, b.lt⟩)))
    | ((with_reducible apply Sy.newY (o := ⟨some 2, .box 23 _, _, _, _, _⟩)); (case ho => exact rfl); (case hd => exact rfl); (case hc => exact (nbH rfl)); intro q2)
    | ((with_reducible apply Sy.newY (o := ⟨some 3, .box 23 _, _, _, _, _⟩)); (case ho => exact rfl); (case hd => exact rfl); (case hc => exact (nbH rfl)); intro q3)
    | ((with_reducible apply Sy.newY (o := ⟨some 4, .alloc 23, _, _, _, _⟩)); (case ho => exact rfl); (case hd => exact rfl); (case hc => exact (nwz23)); intro q4)
    | ((with_reducible apply Sy.dnew (o := ⟨some 5, .buildSlice 86 _ _, _, _, _, _⟩)); (case hw => first | exact wantY_none); (case ho => exact rfl); (case hd => exact rfl); (case hi1 => exact rfl); (case h1 => exact rfl); (case h2 => exact rfl); (case hc => exact (nbs0 Tryd.underlying86 sz5 zr5 rfl (by decide) rfl)); intro q5 hq5)
    | ((with_reducible apply Sy.dnew (o := ⟨some 8, .buildSlice 86 _ _, _, _, _, _⟩)); (case hw => first | exact wantY_none); (case ho => exact rfl); (case hd => exact rfl); (case hi1 => exact rfl); (case h1 => exact rfl); (case h2 => exact rfl); (case hc => exact (nbs0 Tryd.underlying86 sz5 zr5 rfl (by decide) rfl)); intro q8 hq8)
    | ((with_reducible apply Sy.dnew (o := ⟨some 11, .buildSlice 88 _ _, _, _, _, _⟩)); (case hw => first | exact wantY_none); (case ho => exact rfl); (case hd => exact rfl); (case hi1 => exact rfl); (case h1 => exact rfl); (case h2 => exact rfl); (case hc => exact (nbs2 Tryd.underlying88 sz86 zr86 rfl (by decide) rfl rfl rfl)); intro q11 hq11)
    | (with_reducible refine Sy.ret ?_)
    | ((with_reducible apply Sy.drawL (id := 1) 9 [] (fun hi h => h < hi)); (case hp => kernel_rfl); (case hN => exact rfl); intro base hbase hM; try simp only [List.forall_mem_cons, List.forall_mem_append, List.not_mem_nil, false_implies, implies_true, and_true] at hM)
    | (with_reducible refine Sy.dend ?_)
    | ((with_reducible apply Sy.dgo); (case hw => first | exact wantY_none); (case hc => intro hcls; cases hcls); (case h1 => exact rfl); (case h2 => exact rfl)))
  exact .fin [hV _] (.inr rfl) ⟨⟨q4, 0, _, rfl, (by repeat (first | exact Has.here | apply Has.there | apply Has.app)), ld_hV ag23 sz23⟩, trivial⟩ fun H1 hp => ⟨rfl, hp.less (List.nil_sublist _)⟩

theorem c_rLeaf (k v : Hsh) (H : AHeap) : CallR Tryd.prog noPrims 31 [hV k, hV v] H (fun u H' => u = hV (leafH k v) ∧ Hp H 0 0 H' [] []) := by
  have ha := k.len
  have hb := v.len
  refine CallR.sy (n := 17) Tryd.func31 rfl rfl rfl ?_
  repeat' (first
    | (with_reducible refine Sy.seq ?_)
    | (with_reducible refine Sy.regionL ?_)
    | (with_reducible refine Sy.opsnil ?_)
    | (with_reducible refine Sy.go ?_)
    | (with_reducible refine Sy.nrm ?_)
    | ((with_reducible apply Sy.ldN (t := 23)); (case hd => exact rfl); (case hx => exact rfl); (case hm => repeat (first | exact Has.here | apply Has.there)); (case hv => first | exact ld_hV ag23 sz23))
    | ((with_reducible apply Sy.build (t := 23)); (case hd => exact rfl); (case hx => exact rfl); (case hv => exact (bvz23)))
    | ((with_reducible apply Sy.bin (op := .eql) (t := 23)); (case hd => exact rfl); (case hx => exact rfl); (case hy => exact rfl); (case hv => exact (eq23)))
    | ((with_reducible apply Sy.stNa (t := 23)); (case hx => exact rfl); (case hy => exact rfl); (case hs => exact sz23); (case hl => first | exact hC_length _); (case h1 => first | exact hC_one _); (case hm => repeat (first | exact Turn.here | apply Turn.there)); (case hle => first | (simp; done)); (case hc => first | exact lay_all (by first | (simp; done))))
    | ((with_reducible apply Sy.sl (t := 23)); (case hd => exact rfl); (case hx => exact rfl); (case hl => exact rfl); (case hu => exact rfl); (case hm => exact rfl); (case hv => exact (sl_ar Tryd.underlying23 sz5)))
    | ((with_reducible apply Sy.appFN (t := 86) (xt := 86)); (case A => exact (ap86_86 zr5 rfl)); (case hd => exact rfl); (case hx => exact rfl); (case hy => exact rfl); (case hs => first | exact SrcY.ofNh (by repeat (first | exact Has.here | apply Has.there))); (case h1 => first | exact oneL_ints _ _); (case hk => first | omega); (case hb => first | omega); (case hm => repeat (first | exact Has.here)); (case hl => first | omega); (case ho => first | exact rfl); (case hj => first | exact rfl); intro q11)
    | ((with_reducible apply Sy.dcall0 (k := 45)); (case hw => first | exact wantY_none); (case h1 => exact rfl); (case hS => intro h hh; exact hh); (case hi1 => exact rfl); (case hd => exact rfl); (case hf => exact rfl); (case hen => exact en45); (case hx => exact rfl); (case hc => intro H' hp; exact c_rTagged leafB (by decide) (by decide) _ 2 2 _ _ _ H' (hp.getN (by repeat (first | exact Has.here | apply Has.there | apply Has.app))) [k.l, v.l] rfl (by decide) (slr_two (slr_ints (hp.getN (by repeat (first | exact Has.here | apply Has.there | apply Has.app)))) (slr_ints (hp.getN (by repeat (first | exact Has.here | apply Has.there | apply Has.app))))) (frame2_lt k v (by decide)) (by simp [ha, hb]) (by simp; exact ⟨k.lt, v.lt⟩)))
    | ((with_reducible apply Sy.newY (o := ⟨some 2, .box 23 _, _, _, _, _⟩)); (case ho => exact rfl); (case hd => exact rfl); (case hc => exact (nbH rfl)); intro q2)
    | ((with_reducible apply Sy.newY (o := ⟨some 3, .box 23 _, _, _, _, _⟩)); (case ho => exact rfl); (case hd => exact rfl); (case hc => exact (nbH rfl)); intro q3)
    | ((with_reducible apply Sy.newY (o := ⟨some 4, .alloc 23, _, _, _, _⟩)); (case ho => exact rfl); (case hd => exact rfl); (case hc => exact (nwz23)); intro q4)
    | ((with_reducible apply Sy.dnew (o := ⟨some 9, .buildSlice 86 _ _, _, _, _, _⟩)); (case hw => first | exact wantY_none); (case ho => exact rfl); (case hd => exact rfl); (case hi1 => exact rfl); (case h1 => exact rfl); (case h2 => exact rfl); (case hc => exact (nbs0 Tryd.underlying86 sz5 zr5 rfl (by decide) rfl)); intro q9 hq9)
    | ((with_reducible apply Sy.dnew (o := ⟨some 12, .buildSlice 86 _ _, _, _, _, _⟩)); (case hw => first | exact wantY_none); (case ho => exact rfl); (case hd => exact rfl); (case hi1 => exact rfl); (case h1 => exact rfl); (case h2 => exact rfl); (case hc => exact (nbs0 Tryd.underlying86 sz5 zr5 rfl (by decide) rfl)); intro q12 hq12)
    | ((with_reducible apply Sy.dnew (o := ⟨some 15, .buildSlice 88 _ _, _, _, _, _⟩)); (case hw => first | exact wantY_none); (case ho => exact rfl); (case hd => exact rfl); (case hi1 => exact rfl); (case h1 => exact rfl); (case h2 => exact rfl); (case hc => exact (nbs2 Tryd.underlying88 sz86 zr86 rfl (by decide) rfl rfl rfl)); intro q15 hq15)
    | (with_reducible refine Sy.skip ?_)
    | (with_reducible refine Sy.ret ?_)
    | (with_reducible refine Sy.aret ?_)
    | ((with_reducible apply Sy.drawL (id := 3) 9 [] (fun hi h => h < hi)); (case hp => kernel_rfl); (case hN => exact rfl); intro base hbase hM; try simp only [List.forall_mem_cons, List.forall_mem_append, List.not_mem_nil, false_implies, implies_true, and_true] at hM)
    | (with_reducible refine Sy.dend ?_)
    | ((with_reducible apply Sy.dgo); (case hw => first | exact wantY_none); (case hc => intro hcls; cases hcls); (case h1 => exact rfl); (case h2 => exact rfl))
    | ((with_reducible apply Sy.ite); (case hx => exact rfl); all_goals (intro hc; try (exfalso; omega))))
  · exact .fin [hV zeroH] (.inr rfl) ⟨⟨q4, 0, _, rfl, (by repeat (first | exact Has.here | apply Has.there | apply Has.app)), ld_hV ag23 sz23⟩, trivial⟩ fun H1 hp => ⟨by rw [leafH, if_pos (by assumption)]; rfl, hp.less (List.nil_sublist _)⟩
  · exact .fin [hV _] (.inr rfl) ⟨⟨q4, 0, _, rfl, (by repeat (first | exact Has.here | apply Has.there | apply Has.app)), ld_hV ag23 sz23⟩, trivial⟩ fun H1 hp => ⟨by rw [leafH, if_neg (by assumption)]; rfl, hp.less (List.nil_sublist _)⟩

theorem c_rAbove (a b : Hsh) (H : AHeap) : CallR Tryd.prog noPrims 33 [hV a, hV b] H (fun u H' => u = hV (aboveH a b) ∧ Hp H 0 0 H' [] []) := by
  refine CallR.sy (n := 17) Tryd.func33 rfl rfl rfl ?_
  repeat' (first
    | (with_reducible refine Sy.seq ?_)
    | (with_reducible refine Sy.regionL ?_)
    | (with_reducible refine Sy.opsnil ?_)
    | (with_reducible refine Sy.go ?_)
    | (with_reducible refine Sy.nrm ?_)
    | ((with_reducible apply Sy.ldN (t := 23)); (case hd => exact rfl); (case hx => exact rfl); (case hm => repeat (first | exact Has.here | apply Has.there)); (case hv => first | exact ld_hV ag23 sz23))
    | ((with_reducible apply Sy.build (t := 23)); (case hd => exact rfl); (case hx => exact rfl); (case hv => exact (bvz23)))
    | ((with_reducible apply Sy.bin (op := .eql) (t := 23)); (case hd => exact rfl); (case hx => exact rfl); (case hy => exact rfl); (case hv => exact (eq23)))
    | ((with_reducible apply Sy.move); (case hd => exact rfl); (case hx => exact rfl))
    | ((with_reducible apply Sy.pickT); (case hd => exact rfl); (case hx => exact rfl); (case hy => exact rfl))
    | ((with_reducible apply Sy.pickF); (case hd => exact rfl); (case hx => exact rfl); (case hy => exact rfl))
    | ((with_reducible apply Sy.stNa (t := 23)); (case hx => exact rfl); (case hy => exact rfl); (case hs => exact sz23); (case hl => first | exact hC_length _); (case h1 => first | exact hC_one _); (case hm => repeat (first | exact Turn.here)); (case hle => first | (simp; done)); (case hc => first | exact lay_all (by first | (simp; done))))
    | ((with_reducible apply Sy.call0 (k := 46)); (case hd => exact rfl); (case hf => exact rfl); (case hen => exact en46); (case hx => exact rfl); (case hc => intro H' hp; exact c_rPair a b H'))
    | ((with_reducible apply Sy.newY (o := ⟨some 2, .box 23 _, _, _, _, _⟩)); (case ho => exact rfl); (case hd => exact rfl); (case hc => exact (nbH rfl)); intro q2)
    | ((with_reducible apply Sy.newY (o := ⟨some 3, .box 23 _, _, _, _, _⟩)); (case ho => exact rfl); (case hd => exact rfl); (case hc => exact (nbH rfl)); intro q3)
    | ((with_reducible apply Sy.newY (o := ⟨some 4, .alloc 23, _, _, _, _⟩)); (case ho => exact rfl); (case hd => exact rfl); (case hc => exact (nwz23)); intro q4)
    | (with_reducible refine Sy.skip ?_)
    | (with_reducible refine Sy.ret ?_)
    | (with_reducible refine Sy.aret ?_)
    | ((with_reducible apply Sy.no); (case hx => exact rfl))
    | ((with_reducible apply Sy.goG); (case hj => exact rfl); (case ht => exact rfl); (case hb => exact rfl))
    | ((with_reducible apply Sy.noG); (case hj => exact rfl); (case ht => exact rfl); (case hb => exact rfl); (case hc => exact rfl); (case hd => exact rfl))
    | ((with_reducible apply Sy.caseG); (case hj => exact rfl); (case hx => exact rfl); all_goals (intro hc; try (exfalso; omega)))
    | ((with_reducible apply Sy.ite); (case hx => exact rfl); all_goals (intro hc; try (exfalso; omega))))
  · exact .fin [hV zeroH] (.inr rfl) ⟨⟨q4, 0, _, rfl, (by repeat (first | exact Has.here | apply Has.there | apply Has.app)), ld_hV ag23 sz23⟩, trivial⟩ fun H1 hp => ⟨by rw [aboveH, if_pos ⟨by assumption, by assumption⟩]; rfl, hp.less (List.nil_sublist _)⟩
  · exact .fin [hV _] (.inr rfl) ⟨⟨q4, 0, _, rfl, (by repeat (first | exact Has.here | apply Has.there | apply Has.app)), ld_hV ag23 sz23⟩, trivial⟩ fun H1 hp => ⟨by rw [aboveH, if_neg (fun h => absurd h.2 (by assumption))]; rfl, hp.less (List.nil_sublist _)⟩
  · exact .fin [hV _] (.inr rfl) ⟨⟨q4, 0, _, rfl, (by repeat (first | exact Has.here | apply Has.there | apply Has.app)), ld_hV ag23 sz23⟩, trivial⟩ fun H1 hp => ⟨by rw [aboveH, if_neg (fun h => absurd h.1 (by assumption))]; rfl, hp.less (List.nil_sublist _)⟩
end Go.Proofs.YtmlofdgamdlcgaaDoor
