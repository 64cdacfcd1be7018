/- Walks: the references' digests. -/
import Derived.Test.YtjimjolfnimimaaDoorWalkA
set_option linter.unusedSimpArgs false
set_option linter.unusedVariables false
/- The reference's turn and eight. -/
namespace Go.Proofs.YtjimjolfnimimaaDoor
open Go Go.Am
set_option maxRecDepth 100000
set_option linter.unusedVariables false

theorem rotr_add {x n : Nat} (hx : x < 4294967296) (h0 : 0 < n) (hn : n < 32) : (x >>> n + (x <<< (32 - n)) % 4294967296) % 4294967296 = rotr x n := by
  have e1 : (x <<< (32 - n)) % 4294967296 = 2 ^ (32 - n) * (x % 2 ^ n) := by
    rw [Nat.shiftLeft_eq, Nat.mul_comm, show (4294967296 : Nat) = 2 ^ (32 - n) * 2 ^ n by rw [← Nat.pow_add, show 32 - n + n = 32 by omega], Nat.mul_mod_mul_left]
  have h2 : x >>> n < 2 ^ (32 - n) := by
    rw [Nat.shiftRight_eq_div_pow, Nat.div_lt_iff_lt_mul (Nat.two_pow_pos n), ← Nat.pow_add, show 32 - n + n = 32 by omega]
    exact hx
  have h3 : rotr x n = x >>> n + (x <<< (32 - n)) % 4294967296 := by
    rw [rotr, e1, Nat.or_comm, or_eq_add h2, Nat.add_comm]
  have h4 : rotr x n < 4294967296 := rotr_lt hx
  rw [← h3, Nat.mod_eq_of_lt h4]

theorem c_rturn (x n : Nat) (hx : x < 4294967296) (h0 : 0 < n) (hn : n < 32) (H : AHeap) :
    CallR Tryd.prog noPrims 140 [.int .u32 x, .int .u64 n] H (fun v H' => v = .int .u32 ((rotr x n : Nat) : Int) ∧ Hp H 0 0 H' [] []) := by
  refine CallR.sy (n := 13) Tryd.func140 rfl rfl rfl ?_
  repeat' (first
    | (with_reducible refine Sy.seq ?_)
    | (with_reducible refine Sy.regionL ?_)
    | (with_reducible refine Sy.opsnil ?_)
    | (with_reducible refine Sy.go ?_)
    | (with_reducible refine Sy.nrm ?_)
    | ((with_reducible apply Sy.assign); exact rfl; exact rfl)
    | ((with_reducible apply Sy.move); exact rfl; exact rfl)
    | ((with_reducible apply Sy.bin (op := .shr) (t := 189)); exact rfl; exact rfl; exact rfl; exact (b_shr32 (by omega)))
    | ((with_reducible apply Sy.bin (op := .sub) (t := 171)); exact rfl; exact rfl; exact rfl; exact (u64_subx (by omega) (by omega)))
    | ((with_reducible apply Sy.bin (op := .shl) (t := 189)); exact rfl; exact rfl; exact rfl; exact (u32_shl (by omega)))
    | ((with_reducible apply Sy.bin (op := .add) (t := 189)); exact rfl; exact rfl; exact rfl; exact u32_add)
    | (with_reducible refine Sy.ret ?_))
  exact .fin [_] (.inr rfl) ⟨rfl, trivial⟩ fun H' hp => ⟨by rw [← rotr_add hx h0 hn]; rfl, hp.less (List.nil_sublist _)⟩

theorem be64_eq {n : Nat} (hn : n < 18446744073709551616) : be64 n = [n >>> 56, n >>> 48 % 256, n >>> 40 % 256, n >>> 32 % 256, n >>> 24 % 256, n >>> 16 % 256, n >>> 8 % 256, n % 256] := by
  have h : n >>> 56 < 256 := by omega
  have e : be64 n = [n >>> 56 % 256, n >>> 48 % 256, n >>> 40 % 256, n >>> 32 % 256, n >>> 24 % 256, n >>> 16 % 256, n >>> 8 % 256, n >>> 0 % 256] := rfl
  rw [e, Nat.mod_eq_of_lt h, Nat.shiftRight_zero]
theorem c_reight (n : Nat) (hn : n < 18446744073709551616) (H : AHeap) :
    CallR Tryd.prog noPrims 126 [.int .u64 n] H (fun v H' => ∃ b : Nat, True ∧ v = .slice (some ⟨b, 0, none⟩) 8 8 ∧ Hp H 0 0 H' [] [(b, .cells (ints .u8 (be64 n)) 5 true)]) := by
  refine CallR.sy (n := 27) Tryd.func126 rfl rfl rfl ?_
  repeat' (first
    | (with_reducible refine Sy.seq ?_)
    | (with_reducible refine Sy.regionL ?_)
    | (with_reducible refine Sy.opsnil ?_)
    | (with_reducible refine Sy.go ?_)
    | (with_reducible refine Sy.nrm ?_)
    | ((with_reducible apply Sy.assign); exact rfl; exact rfl)
    | ((with_reducible apply Sy.move); exact rfl; exact rfl)
    | ((with_reducible apply Sy.bin (op := .shr) (t := 22)); exact rfl; exact rfl; exact rfl; exact (b_shr64 (by omega)))
    | ((with_reducible apply Sy.conv (D := 0) (T := .bool)); exact rfl; exact Tryd.underlying22; exact Tryd.underlying5; exact rfl; exact (wrap_u8x (by omega)))
    | ((with_reducible apply Sy.conv (D := 0) (T := .bool)); exact rfl; exact Tryd.underlying22; exact Tryd.underlying5; exact rfl; exact wrap_u8 _)
    | ((with_reducible apply Sy.newY (o := ⟨some 26, .buildSlice 25 _ _, _, _, _, _⟩)); exact rfl; exact rfl; exact (nbsI [_, _, _, _, _, _, _, _] Tryd.underlying25 sz5 zr5 rfl (by decide) rfl rfl); intro q26)
    | ((with_reducible apply Sy.newY (o := ⟨some 26, .buildSlice 25 _ _, _, _, _, _⟩)); exact rfl; exact rfl; (· exact (nbsL [_, _, _, _, _, _, _, _] Tryd.underlying25 sz5 zr5 rfl (by decide) rfl rfl (by simp only [List.forall_mem_cons, List.not_mem_nil, false_implies, implies_true, and_true]; exact ⟨rfl, rfl, rfl, rfl, rfl, rfl, rfl, rfl⟩))); intro q26)
    | ((with_reducible apply Sy.newY (o := ⟨some 26, .buildSlice 25 _ _, _, _, _, _⟩)); exact rfl; exact rfl; (· exact (newY_bs Tryd.underlying25 sz5 zr5 rfl (by decide) rfl (by first | rfl | (simp [List.drop_append, List.take_append, List.getElem?_append, lay, hC_length, ints_length, ints_drop, ints_take, ints_append, List.drop_of_length_le, List.take_of_length_le, List.map_append, List.set_append, Value.cells]; done)))); intro q26)
    | (with_reducible refine Sy.ret ?_))
  exact .fin [_] (.inr rfl) ⟨rfl, trivial⟩ fun H' hp => ⟨q26, trivial, rfl, by rw [be64_eq hn]; exact hp⟩
end Go.Proofs.YtjimjolfnimimaaDoor

/- The reference's block. -/
namespace Go.Proofs.YtjimjolfnimimaaDoor
open Go Go.Am
set_option maxRecDepth 100000
set_option linter.unusedVariables false

theorem word_add {a b c d : Nat} (ha : a < 256) (hb : b < 256) (hc : c < 256) (hd : d < 256) :
    (((a * 16777216 % 4294967296 + b * 65536 % 4294967296) % 4294967296 + c * 256 % 4294967296) % 4294967296 + d) % 4294967296 =
      (((a <<< 24) % M32 ||| (b <<< 16) % M32) ||| (c <<< 8) % M32) ||| d := by
  have e1 : (a <<< 24) % M32 = 2 ^ 24 * a := by rw [Nat.shiftLeft_eq, M32]; omega
  have e2 : (b <<< 16) % M32 = 2 ^ 16 * b := by rw [Nat.shiftLeft_eq, M32]; omega
  have e3 : (c <<< 8) % M32 = 2 ^ 8 * c := by rw [Nat.shiftLeft_eq, M32]; omega
  rw [e1, e2, e3, or_eq_add (show 2 ^ 16 * b < 2 ^ 24 by omega), show 2 ^ 24 * a + 2 ^ 16 * b = 2 ^ 16 * (2 ^ 8 * a + b) by omega, or_eq_add (show 2 ^ 8 * c < 2 ^ 16 by omega),
    show 2 ^ 16 * (2 ^ 8 * a + b) + 2 ^ 8 * c = 2 ^ 8 * (2 ^ 16 * a + 2 ^ 8 * b + c) by omega, or_eq_add (show d < 2 ^ 8 by omega)]
  omega
theorem not_sub {x : Nat} (h : x < 4294967296) : 4294967295 - x = 4294967295 ^^^ x := by
  have h1 : (BitVec.allOnes 32 ^^^ BitVec.ofNat 32 x).toNat = (~~~ BitVec.ofNat 32 x).toNat := by rw [BitVec.allOnes_xor]
  rw [BitVec.toNat_xor, BitVec.toNat_not, BitVec.toNat_allOnes, BitVec.toNat_ofNat, Nat.mod_eq_of_lt (show x < 2 ^ 32 from h)] at h1
  exact h1.symm

set_option maxHeartbeats 8000000 in
theorem c_rblock (hb ob n cp hk : Nat) (hn : 64 ≤ n) (lb : List Nat) (Tb Tk : TypeId) (wb wk : Bool) (H : AHeap) (s : S8) (hok : s.ok) (hgk : H.get hk = .cells (ints .u32 sK) Tk wk)
    (hgb : H.get hb = .cells (ints .u8 lb) Tb wb) (hlb : ob + 64 ≤ lb.length) (h256 : ∀ i, lb.getD i 0 < 256) :
    CallR Tryd.prog noPrims 135 [.agg ⟨ints .u32 s.l⟩, .slice (some ⟨hb, ob, none⟩) n cp, .pointer (some ⟨hk, 0, none⟩)] H
      (fun v H' => v = .agg ⟨ints .u32 (blockS (fun j => lb.getD (ob + j) 0) s).l⟩ ∧ Hp H 0 0 H' [] []) := by
  generalize hg : (fun j => lb.getD (ob + j) 0) = g
  have h256' : ∀ i, g i < 256 := fun i => by subst hg; exact h256 _
  have hl8 : s.l.length = 8 := rfl
  refine CallR.sy (n := 217) Tryd.func135 rfl rfl rfl ?_
  repeat' (first
    | (with_reducible refine Sy.seq ?_)
    | (with_reducible refine Sy.regionL ?_)
    | (with_reducible refine Sy.opsnil ?_)
    | (with_reducible refine Sy.go ?_)
    | (with_reducible refine Sy.nrm ?_)
    | ((with_reducible apply Sy.assign); exact rfl; exact rfl)
    | ((with_reducible apply Sy.newY (o := ⟨some 3, .box 190 _, _, _, _, _⟩)); exact rfl; exact rfl; exact nbA rfl; intro q3)
    | ((with_reducible apply Sy.newY (o := ⟨some 6, .alloc 190, _, _, _, _⟩)); exact rfl; exact rfl; exact nwz190; intro q6)
    | ((with_reducible apply Sy.newY (o := ⟨some 7, .alloc 195, _, _, _, _⟩)); exact rfl; exact rfl; exact nwz195; intro q7)
    | (with_reducible refine Sy.block ?_))
  refine Sy.loop (ι := Nat) (fun i => 16 - i) (fun i => [(1, .slice (some ⟨hb, ob, none⟩) n cp), (2, .pointer (some ⟨hk, 0, none⟩)), (3, .pointer (some ⟨q3, 0, none⟩)), (6, .pointer (some ⟨q6, 0, none⟩)), (7, .pointer (some ⟨q7, 0, none⟩)), (8, .int .i64 (i : Nat))]) (fun _ => [])
    (fun i => [(q7, .cells (ints .u32 (sched g i)) 195 true), (q6, .cells (ints .u32 (List.replicate 8 0)) 190 true), (q3, .cells (ints .u32 s.l) 190 true)]) (fun i => i ≤ 16) 0 (by omega) ⟨rfl, rfl, rfl, rfl, rfl, rfl, trivial⟩ (fun H h => h) ?_
  intro i hi
  have e0 : lb.getD (ob + 4 * i) 0 < 256 := h256 _
  have e1 : lb.getD (ob + (4 * i + 1)) 0 < 256 := h256 _
  have e2 : lb.getD (ob + (4 * i + 2)) 0 < 256 := h256 _
  have e3 : lb.getD (ob + (4 * i + 3)) 0 < 256 := h256 _
  have hlen : (sched g i).length = 64 := sched_length g i
  repeat' (first
    | (with_reducible refine Sy.seq ?_)
    | (with_reducible refine Sy.regionL ?_)
    | (with_reducible refine Sy.opsnil ?_)
    | (with_reducible refine Sy.go ?_)
    | (with_reducible refine Sy.nrm ?_)
    | ((with_reducible apply Sy.assign); exact rfl; exact rfl)
    | ((with_reducible apply Sy.move); exact rfl; exact rfl)
    | ((with_reducible apply Sy.bin (op := .lss) (t := 3)); exact rfl; exact rfl; exact rfl; exact b_lss)
    | ((with_reducible apply Sy.bin (op := .lss) (t := 3)); exact rfl; exact rfl; exact rfl; exact bz_lss)
    | ((with_reducible apply Sy.bin (op := .mul) (t := 3)); exact rfl; exact rfl; exact rfl; exact (b_mul (by omega)))
    | ((with_reducible apply Sy.ia (t := 25)); exact rfl; exact rfl; exact rfl; exact (ia_sl10 Tryd.underlying25 sz5 (by omega)))
    | ((with_reducible apply Sy.ia (t := 25)); exact rfl; exact rfl; exact rfl; exact (ia_sl1 Tryd.underlying25 sz5 (by omega)))
    | ((with_reducible apply Sy.ld0 (t := 5)); exact rfl; exact rfl; (· with_reducible assumption); exact rfl; exact notM; (· first | ((with_reducible refine ld_int ag5 ?_); first | omega)))
    | ((with_reducible apply Sy.conv (D := 0) (T := .bool)); exact rfl; exact Tryd.underlying5; exact Tryd.underlying189; exact rfl; exact (wrap_u32x (by omega)))
    | ((with_reducible apply Sy.conv (D := 0) (T := .bool)); exact rfl; exact Tryd.underlying5; exact Tryd.underlying189; exact rfl; exact wrap_u32 _)
    | ((with_reducible apply Sy.bin (op := .mul) (t := 189)); exact rfl; exact rfl; exact rfl; exact u32_mul)
    | ((with_reducible apply Sy.bin (op := .add) (t := 3)); exact rfl; exact rfl; exact rfl; exact (b_add (by omega)))
    | ((with_reducible apply Sy.bin (op := .add) (t := 3)); exact rfl; exact rfl; exact rfl; exact (bz_add (by omega) (by omega)))
    | ((with_reducible apply Sy.bin (op := .add) (t := 189)); exact rfl; exact rfl; exact rfl; exact u32_add)
    | ((with_reducible apply Sy.ia (t := 195)); exact rfl; exact rfl; exact rfl; exact (ia_ar10 Tryd.underlying195 sz189 (by omega)))
    | ((with_reducible apply Sy.ia (t := 195)); exact rfl; exact rfl; exact rfl; exact (ia_ar1 Tryd.underlying195 sz189 (by omega)))
    | ((with_reducible apply Sy.stN1 (t := 189)); exact rfl; exact rfl; exact sz189; (· first | exact rfl | exact accV_cells); (· first | exact rfl | exact accV_oneL); exact turnT; (· first | (simp; omega)); (· first | with_reducible exact ints_set _ _ _ _))
    | ((with_reducible apply Sy.ld0 (t := 189)); exact rfl; exact rfl; (· with_reducible assumption); exact rfl; exact notM; (· first | ((with_reducible refine ld_int ag189 ?_); first | omega)))
    | ((with_reducible apply Sy.ia (t := 190)); exact rfl; exact rfl; exact rfl; exact (ia_ar10 Tryd.underlying190 sz189 (by omega)))
    | ((with_reducible apply Sy.ia (t := 190)); exact rfl; exact rfl; exact rfl; exact (ia_ar1 Tryd.underlying190 sz189 (by omega)))
    | (with_reducible refine Sy.skip ?_)
    | (with_reducible refine Sy.exit ?_)
    | (with_reducible refine Sy.block ?_)
    | (with_reducible refine Sy.aex ?_)
    | (with_reducible refine Sy.inrm ?_)
    | ((with_reducible apply Sy.iex); exact rfl)
    | (with_reducible refine Sy.rex ?_)
    | ((with_reducible apply Sy.drawL (id := 5) 36 [] (fun hi h => h < hi)); (case hp => kernel_rfl); (case hN => exact rfl); intro base hbase hM; try simp only [List.forall_mem_cons, List.forall_mem_append, List.not_mem_nil, false_implies, implies_true, and_true] at hM)
    | (with_reducible refine Sy.dend ?_)
    | ((with_reducible apply Sy.dgo); (· first | exact wantY_none); (· intro hcls; cases hcls); exact rfl; exact rfl)
    | ((with_reducible apply Sy.ite); (case hx => exact rfl); all_goals (intro hc; try (exfalso; omega))))
  · have hwd := word_add e0 e1 e2 e3
    refine Sy.rnrm (i + 1) (by omega) (by omega) ⟨rfl, rfl, rfl, rfl, rfl, rfl, trivial⟩ (fun H h => ?_)
    rw [sched_lo (by assumption)]; subst hg; unfold wordAt; rw [← hwd]; exact h
  · obtain rfl : i = 16 := by omega
    refine Sy.loop (ι := Nat) (fun i => 64 - i) (fun i => [(1, .slice (some ⟨hb, ob, none⟩) n cp), (2, .pointer (some ⟨hk, 0, none⟩)), (3, .pointer (some ⟨q3, 0, none⟩)), (6, .pointer (some ⟨q6, 0, none⟩)), (7, .pointer (some ⟨q7, 0, none⟩)), (9, .int .i64 (i : Nat))]) (fun _ => [])
      (fun i => [(q7, .cells (ints .u32 (sched g i)) 195 true), (q6, .cells (ints .u32 (List.replicate 8 0)) 190 true), (q3, .cells (ints .u32 s.l) 190 true)]) (fun i => 16 ≤ i ∧ i ≤ 64) 16 (by omega) ⟨rfl, rfl, rfl, rfl, rfl, rfl, trivial⟩ (fun H h => h) ?_
    intro i hi
    obtain ⟨hi1, hi2⟩ := hi
    have hlen : (sched g i).length = 64 := sched_length g i
    have f15 := sched_lt h256' i (i - 15)
    have f2 := sched_lt h256' i (i - 2)
    have f16 := sched_lt h256' i (i - 16)
    have f7 := sched_lt h256' i (i - 7)
    have r1 := rotr_lt (n := 7) f15
    have r2 := rotr_lt (n := 18) f15
    have r3 := rotr_lt (n := 17) f2
    have r4 := rotr_lt (n := 19) f2
    repeat' (first
    | (with_reducible refine Sy.seq ?_)
    | (with_reducible refine Sy.regionL ?_)
    | (with_reducible refine Sy.opsnil ?_)
    | (with_reducible refine Sy.go ?_)
    | (with_reducible refine Sy.nrm ?_)
    | ((with_reducible apply Sy.assign); exact rfl; exact rfl)
    | ((with_reducible apply Sy.move); exact rfl; exact rfl)
    | ((with_reducible apply Sy.bin (op := .lss) (t := 3)); exact rfl; exact rfl; exact rfl; exact b_lss)
    | ((with_reducible apply Sy.bin (op := .lss) (t := 3)); exact rfl; exact rfl; exact rfl; exact bz_lss)
    | ((with_reducible apply Sy.ia (t := 25)); exact rfl; exact rfl; exact rfl; exact (ia_sl10 Tryd.underlying25 sz5 (by omega)))
    | ((with_reducible apply Sy.ia (t := 25)); exact rfl; exact rfl; exact rfl; exact (ia_sl1 Tryd.underlying25 sz5 (by omega)))
    | ((with_reducible apply Sy.ldN (t := 5)); exact rfl; exact rfl; exact hasT; (· first | ((with_reducible refine ld_int ag5 ?_); first | omega)))
    | ((with_reducible apply Sy.bin (op := .add) (t := 3)); exact rfl; exact rfl; exact rfl; exact (b_add (by omega)))
    | ((with_reducible apply Sy.bin (op := .add) (t := 3)); exact rfl; exact rfl; exact rfl; exact (bz_add (by omega) (by omega)))
    | ((with_reducible apply Sy.bin (op := .add) (t := 189)); exact rfl; exact rfl; exact rfl; exact u32_add)
    | ((with_reducible apply Sy.ia (t := 195)); exact rfl; exact rfl; exact rfl; exact (ia_ar10 Tryd.underlying195 sz189 (by omega)))
    | ((with_reducible apply Sy.ia (t := 195)); exact rfl; exact rfl; exact rfl; exact (ia_ar1 Tryd.underlying195 sz189 (by omega)))
    | ((with_reducible apply Sy.stN1 (t := 189)); exact rfl; exact rfl; exact sz189; (· first | exact rfl | exact accV_cells); (· first | exact rfl | exact accV_oneL); exact turnT; (· first | (simp; omega)); (· first | with_reducible exact ints_set _ _ _ _))
    | ((with_reducible apply Sy.bin (op := .sub) (t := 3)); exact rfl; exact rfl; exact rfl; exact (b_sub (by omega) (by omega)))
    | ((with_reducible apply Sy.bin (op := .sub) (t := 3)); exact rfl; exact rfl; exact rfl; exact (bz_sub (by omega) (by omega)))
    | ((with_reducible apply Sy.ldN (t := 189)); exact rfl; exact rfl; exact hasT; (· first | ((with_reducible refine ld_int ag189 ?_); first | omega)))
    | ((with_reducible apply Sy.bin (op := .xor) (t := 189)); exact rfl; exact rfl; exact rfl; (· exact (u32_xor (by first | with_reducible assumption | omega | (simp (maxDischargeDepth := 14) only [w_lt_mod, w_lt_and, w_lt_or, w_lt_xor, w_lt_shr, w_lt_not, Nat.reduceLT, *]; done)) (by first | with_reducible assumption | omega | (simp (maxDischargeDepth := 14) only [w_lt_mod, w_lt_and, w_lt_or, w_lt_xor, w_lt_shr, w_lt_not, Nat.reduceLT, *]; done)))))
    | ((with_reducible apply Sy.bin (op := .shr) (t := 189)); exact rfl; exact rfl; exact rfl; exact (b_shr32 (by omega)))
    | ((with_reducible apply Sy.ia (t := 190)); exact rfl; exact rfl; exact rfl; exact (ia_ar10 Tryd.underlying190 sz189 (by omega)))
    | ((with_reducible apply Sy.ia (t := 190)); exact rfl; exact rfl; exact rfl; exact (ia_ar1 Tryd.underlying190 sz189 (by omega)))
    | ((with_reducible apply Sy.bin (op := .sub) (t := 189)); exact rfl; exact rfl; exact rfl; exact (u32_subx (by omega) (by omega)))
    | ((with_reducible apply Sy.dcall0 (k := 140)); (first | exact wantY_none); exact rfl; (intro h hh; first | exact hh | (subst hh; omega)); exact rfl; exact rfl; exact rfl; exact en140; exact rfl; (intro H' hp; exact c_rturn _ _ (by with_reducible assumption) (by decide) (by decide) H'))
    | (with_reducible refine Sy.skip ?_)
    | (with_reducible refine Sy.exit ?_)
    | (with_reducible refine Sy.block ?_)
    | (with_reducible refine Sy.aex ?_)
    | (with_reducible refine Sy.inrm ?_)
    | ((with_reducible apply Sy.iex); exact rfl)
    | (with_reducible refine Sy.rex ?_)
    | ((with_reducible apply Sy.drawL (id := 11) 30 [(4, 6), (17, 6), (4, 8), (17, 8), (4, 20), (17, 20), (4, 22), (17, 22)] (fun hi h => h < hi)); (case hp => kernel_rfl); (case hN => exact rfl); intro base hbase hM; try simp only [List.forall_mem_cons, List.forall_mem_append, List.not_mem_nil, false_implies, implies_true, and_true] at hM)
    | (with_reducible refine Sy.dend ?_)
    | ((with_reducible apply Sy.dgo); (· first | exact wantY_none); (· intro hcls; cases hcls); exact rfl; exact rfl)
    | ((with_reducible apply Sy.dld); (· first | exact wantY_none); exact rfl; (· first | omega | exact rfl); exact rfl)
    | ((with_reducible apply Sy.ite); (case hx => exact rfl); all_goals (intro hc; try (exfalso; omega))))
    · refine Sy.rnrm (i + 1) (by omega) (by omega) ⟨rfl, rfl, rfl, rfl, rfl, rfl, trivial⟩ (fun H h => ?_)
      rw [sched_hi (by omega)]; exact h
    · obtain rfl : i = 64 := by omega
      have hw : ∀ i, (sched g 64).getD i 0 < 4294967296 := sched_lt h256' 64
      have hwl : (sched g 64).length = 64 := sched_length g 64
      obtain ⟨oa, ob', oc, od, oe, of', og, oh⟩ := hok
      refine Sy.loop (ι := Nat) (fun i => 64 - i) (fun i => [(2, .pointer (some ⟨hk, 0, none⟩)), (3, .pointer (some ⟨q3, 0, none⟩)), (6, .pointer (some ⟨q6, 0, none⟩)), (7, .pointer (some ⟨q7, 0, none⟩)), (20, .int .i64 (i : Nat)), (12, .int .u32 ((rndN sK (sched g 64) s i).a : Nat)), (13, .int .u32 ((rndN sK (sched g 64) s i).b : Nat)), (14, .int .u32 ((rndN sK (sched g 64) s i).c : Nat)), (15, .int .u32 ((rndN sK (sched g 64) s i).d : Nat)),
        (16, .int .u32 ((rndN sK (sched g 64) s i).e : Nat)), (17, .int .u32 ((rndN sK (sched g 64) s i).f : Nat)), (18, .int .u32 ((rndN sK (sched g 64) s i).g : Nat)), (19, .int .u32 ((rndN sK (sched g 64) s i).h : Nat))]) (fun _ => []) (fun i => [(q7, .cells (ints .u32 (sched g 64)) 195 true), (q6, .cells (ints .u32 (List.replicate 8 0)) 190 true), (q3, .cells (ints .u32 s.l) 190 true)]) (fun i => i ≤ 64) 0 (by omega) ⟨rfl, rfl, rfl, rfl, rfl, rfl, rfl, rfl, rfl, rfl, rfl, rfl, rfl, trivial⟩ (fun H h => h) ?_
      intro i hi
      obtain ⟨va, vb, vc, vd, ve, vf, vg, vh⟩ := rndN_ok (ks := sK) (ws := sched g 64) (s := s) ⟨oa, ob', oc, od, oe, of', og, oh⟩ i
      have hw1 := hw i
      have hk1 := sK_lt i
      have hk2 : sK.length = 64 := rfl
      generalize hR : rndN sK (sched g 64) s i = R at *
      have x1 := rotr_lt (n := 6) ve
      have x2 := rotr_lt (n := 11) ve
      have x3 := rotr_lt (n := 25) ve
      have x4 := rotr_lt (n := 2) va
      have x5 := rotr_lt (n := 13) va
      have x6 := rotr_lt (n := 22) va
      have y1 : (4294967295 - R.e) &&& R.g < 4294967296 := w_lt_and (by omega)
      have hkn : hk < H.next := get_live_lt (by rw [hgk]; rfl)
      repeat' (first
    | (with_reducible refine Sy.seq ?_)
    | (with_reducible refine Sy.regionL ?_)
    | (with_reducible refine Sy.opsnil ?_)
    | (with_reducible refine Sy.go ?_)
    | (with_reducible refine Sy.nrm ?_)
    | ((with_reducible apply Sy.assign); exact rfl; exact rfl)
    | ((with_reducible apply Sy.move); exact rfl; exact rfl)
    | ((with_reducible apply Sy.bin (op := .lss) (t := 3)); exact rfl; exact rfl; exact rfl; exact b_lss)
    | ((with_reducible apply Sy.bin (op := .lss) (t := 3)); exact rfl; exact rfl; exact rfl; exact bz_lss)
    | ((with_reducible apply Sy.ia (t := 25)); exact rfl; exact rfl; exact rfl; exact (ia_sl10 Tryd.underlying25 sz5 (by omega)))
    | ((with_reducible apply Sy.ia (t := 25)); exact rfl; exact rfl; exact rfl; exact (ia_sl1 Tryd.underlying25 sz5 (by omega)))
    | ((with_reducible apply Sy.ldN (t := 5)); exact rfl; exact rfl; exact hasT; (· first | ((with_reducible refine ld_int ag5 ?_); first | omega)))
    | ((with_reducible apply Sy.ld0 (t := 5)); exact rfl; exact rfl; (· with_reducible assumption); exact rfl; exact notM; (· first | ((with_reducible refine ld_int ag5 ?_); first | omega)))
    | ((with_reducible apply Sy.bin (op := .add) (t := 3)); exact rfl; exact rfl; exact rfl; exact (b_add (by omega)))
    | ((with_reducible apply Sy.bin (op := .add) (t := 3)); exact rfl; exact rfl; exact rfl; exact (bz_add (by omega) (by omega)))
    | ((with_reducible apply Sy.bin (op := .add) (t := 189)); exact rfl; exact rfl; exact rfl; exact u32_add)
    | ((with_reducible apply Sy.ia (t := 195)); exact rfl; exact rfl; exact rfl; exact (ia_ar10 Tryd.underlying195 sz189 (by omega)))
    | ((with_reducible apply Sy.ia (t := 195)); exact rfl; exact rfl; exact rfl; exact (ia_ar1 Tryd.underlying195 sz189 (by omega)))
    | ((with_reducible apply Sy.bin (op := .sub) (t := 3)); exact rfl; exact rfl; exact rfl; exact (b_sub (by omega) (by omega)))
    | ((with_reducible apply Sy.bin (op := .sub) (t := 3)); exact rfl; exact rfl; exact rfl; exact (bz_sub (by omega) (by omega)))
    | ((with_reducible apply Sy.ldN (t := 189)); exact rfl; exact rfl; exact hasT; (· first | ((with_reducible refine ld_int ag189 ?_); first | omega)))
    | ((with_reducible apply Sy.ld0 (t := 189)); exact rfl; exact rfl; (· with_reducible assumption); exact rfl; exact notM; (· first | ((with_reducible refine ld_int ag189 ?_); first | omega)))
    | ((with_reducible apply Sy.bin (op := .xor) (t := 189)); exact rfl; exact rfl; exact rfl; (· exact (u32_xor (by first | with_reducible assumption | (simp (maxDischargeDepth := 14) only [w_lt_mod, w_lt_and, w_lt_or, w_lt_xor, w_lt_shr, w_lt_not, Nat.reduceLT, *]; done)) (by first | with_reducible assumption | (simp (maxDischargeDepth := 14) only [w_lt_mod, w_lt_and, w_lt_or, w_lt_xor, w_lt_shr, w_lt_not, Nat.reduceLT, *]; done)))))
    | ((with_reducible apply Sy.ia (t := 190)); exact rfl; exact rfl; exact rfl; exact (ia_ar10 Tryd.underlying190 sz189 (by omega)))
    | ((with_reducible apply Sy.ia (t := 190)); exact rfl; exact rfl; exact rfl; exact (ia_ar1 Tryd.underlying190 sz189 (by omega)))
    | ((with_reducible apply Sy.bin (op := .and) (t := 189)); exact rfl; exact rfl; exact rfl; (· exact (u32_and (by first | with_reducible assumption | omega) (by first | with_reducible assumption | omega))))
    | ((with_reducible apply Sy.bin (op := .sub) (t := 189)); exact rfl; exact rfl; exact rfl; exact (u32_subx (by omega) (by omega)))
    | ((with_reducible apply Sy.nilC); exact rfl; exact rfl; exact rfl)
    | ((with_reducible apply Sy.build (t := 190)); exact rfl; exact rfl; (· exact (bv_one [_, _, _, _, _, _, _, _] Tryd.underlying190 sz189 zr190 rfl rfl rfl (by simp only [List.forall_mem_cons, List.not_mem_nil, false_implies, implies_true, and_true]; exact ⟨rfl, rfl, rfl, rfl, rfl, rfl, rfl, rfl⟩))))
    | ((with_reducible apply Sy.stNa (t := 190)); exact rfl; exact rfl; exact sz190; (· first | exact rfl | (simp; done)); (· first | exact rfl); exact turnT; (· first | (simp; done)); (· first | exact lay_all (by first | (simp; done)) | exact rfl))
    | ((with_reducible apply Sy.call0 (k := 140)); exact rfl; exact rfl; exact en140; exact rfl; (intro H' hp; exact c_rturn _ _ (by with_reducible assumption) (by decide) (by decide) H'))
    | ((with_reducible apply Sy.dcall0 (k := 140)); (first | exact wantY_none); exact rfl; (intro h hh; first | exact hh | (subst hh; omega)); exact rfl; exact rfl; exact rfl; exact en140; exact rfl; (intro H' hp; exact c_rturn _ _ (by with_reducible assumption) (by decide) (by decide) H'))
    | (with_reducible refine Sy.skip ?_)
    | (with_reducible refine Sy.exit ?_)
    | (with_reducible refine Sy.ret ?_)
    | (with_reducible refine Sy.block ?_)
    | (with_reducible refine Sy.aex ?_)
    | (with_reducible refine Sy.inrm ?_)
    | ((with_reducible apply Sy.iex); exact rfl)
    | (with_reducible refine Sy.rex ?_)
    | ((with_reducible apply Sy.drawL (id := 23) 30 [(23, 2), (27, 2), (23, 4), (27, 4), (23, 7), (27, 7)] (fun hi h => h < hi)); (case hp => kernel_rfl); (case hN => exact rfl); intro base hbase hM; try simp only [List.forall_mem_cons, List.forall_mem_append, List.not_mem_nil, false_implies, implies_true, and_true] at hM)
    | (with_reducible refine Sy.dend ?_)
    | ((with_reducible apply Sy.dgo); (· first | exact wantY_none); (· intro hcls; cases hcls); exact rfl; exact rfl)
    | ((with_reducible apply Sy.dld); (· first | exact wantY_none); exact rfl; (· first | omega | exact rfl); exact rfl)
    | ((with_reducible apply Sy.ite); (case hx => exact rfl); all_goals (intro hc; try (exfalso; omega))))
      · have hs1 : rndN sK (sched g 64) s (i + 1) = rnd (sK.getD i 0) ((sched g 64).getD i 0) R := by rw [← hR]; rfl
        rw [not_sub ve]
        refine Sy.rnrm (i + 1) (by omega) (by omega) ?_ (fun H h => h)
        simp only [hs1]
        exact ⟨rfl, rfl, rfl, rfl, rfl, rfl, rfl, rfl, rfl, rfl, rfl, rfl, rfl, trivial⟩
      · obtain rfl : i = 64 := by omega
        have hB : blockS g s = addS s R := by rw [blockS, hR]
        rw [hB]
        refine .fin [.agg ⟨ints .u32 (addS s R).l⟩] (.inr rfl) ⟨⟨q6, 0, _, rfl, (by repeat (first | exact Has.here | apply Has.there | apply Has.app)), ?_⟩, trivial⟩ fun H1 hp => ⟨rfl, hp.less (List.nil_sublist _)⟩
        exact ld_all ag190 sz190
end Go.Proofs.YtjimjolfnimimaaDoor

/- The reference's pad, sum, Sum. -/
namespace Go.Proofs.YtjimjolfnimimaaDoor
open Go Go.Am
set_option maxRecDepth 100000
set_option linter.unusedVariables false

theorem pad_eq {l B : List Nat} {N z : Nat} (hB : B.length = 8) (hN : N = l.length + 9 + z) : layN ((layN (List.replicate N 0) 0 l).set l.length 128) (N - 8) B = l ++ [128] ++ List.replicate z 0 ++ B := by
  have e1 : layN (List.replicate N 0) 0 l = l ++ 0 :: List.replicate (z + 8) 0 := by
    simp only [layN, List.take_zero, List.nil_append, Nat.zero_add, List.drop_replicate]
    rw [show N - l.length = (z + 8) + 1 by omega]; rfl
  rw [e1, List.set_append_right _ _ (Nat.le_refl _), Nat.sub_self, List.set_cons_zero]
  have e2 : List.take (N - 8) (l ++ 128 :: List.replicate (z + 8) 0) = l ++ 128 :: List.replicate z 0 := by
    rw [List.take_append, List.take_of_length_le (by omega), show N - 8 - l.length = z + 1 by omega, List.take_succ_cons, List.take_replicate, Nat.min_eq_left (by omega)]
  have e3 : List.drop (N - 8 + 8) (l ++ 128 :: List.replicate (z + 8) 0) = [] := by
    rw [List.drop_of_length_le (by simp; omega)]
  simp only [layN, hB, e2, e3]
  simp

set_option maxHeartbeats 2000000 in
theorem c_pad (b o n cp : Nat) (lb l : List Nat) (Tb : TypeId) (wb : Bool) (H : AHeap) (hgb : H.get b = .cells (ints .u8 lb) Tb wb) (hlb : o + n ≤ lb.length) (hn : n < 1000000000000) (hl : (lb.drop o).take n = l) :
    CallR Tryd.prog noPrims 134 [.slice (some ⟨b, o, none⟩) n cp] H (fun v H' => ∃ q : Nat, True ∧ v = .slice (some ⟨q, 0, none⟩) (padN l).length (padN l).length ∧ Hp H 0 0 H' [] [(q, .cells (ints .u8 (padN l)) 5 true)]) := by
  have hll : l.length = n := by rw [← hl]; simp; omega
  refine CallR.sy (n := 34) Tryd.func134 rfl rfl rfl ?_
  repeat' (first
    | (with_reducible refine Sy.seq ?_)
    | (with_reducible refine Sy.regionL ?_)
    | (with_reducible refine Sy.opsnil ?_)
    | (with_reducible refine Sy.go ?_)
    | (with_reducible refine Sy.nrm ?_)
    | ((with_reducible apply Sy.assign); exact rfl; exact rfl)
    | ((with_reducible apply Sy.move); exact rfl; exact rfl)
    | ((with_reducible apply Sy.lenS); exact rfl; exact Tryd.underlying25; exact rfl)
    | ((with_reducible apply Sy.bin (op := .add) (t := 3)); exact rfl; exact rfl; exact rfl; exact (b_add (by omega)))
    | ((with_reducible apply Sy.bin (op := .add) (t := 3)); exact rfl; exact rfl; exact rfl; exact (bz_add (by omega) (by omega)))
    | ((with_reducible apply Sy.bin (op := .rem) (t := 3)); exact rfl; exact rfl; exact rfl; exact (b_rem (by omega)))
    | ((with_reducible apply Sy.bin (op := .sub) (t := 3)); exact rfl; exact rfl; exact rfl; exact (b_sub (by omega) (by omega)))
    | ((with_reducible apply Sy.bin (op := .sub) (t := 3)); exact rfl; exact rfl; exact rfl; exact (bz_sub (by omega) (by omega)))
    | ((with_reducible apply Sy.cpI (t := 25)); exact Tryd.underlying25; exact sz5; exact rfl; exact rfl; exact rfl; (· first | exact SrcY.of0i (by with_reducible assumption) (by simp only [List.forall_mem_cons, List.not_mem_nil, false_implies, implies_true, and_true, ne_eq]; first | done | omega) (by first | omega)); exact turnT; (· first | (simp; omega)))
    | ((with_reducible apply Sy.ia (t := 25)); exact rfl; exact rfl; exact rfl; exact (ia_sl10 Tryd.underlying25 sz5 (by omega)))
    | ((with_reducible apply Sy.ia (t := 25)); exact rfl; exact rfl; exact rfl; exact (ia_sl1 Tryd.underlying25 sz5 (by omega)))
    | ((with_reducible apply Sy.newY (o := ⟨some 15, .makeSlice 25 _ _, _, _, _, _⟩)); exact rfl; exact rfl; exact (newY_mkI Tryd.underlying25 sz5 bs5 zr5 rfl rfl (by decide) (by omega)); intro q15)
    | ((with_reducible apply Sy.newY (o := ⟨some 15, .makeSlice 25 _ _, _, _, _, _⟩)); exact rfl; exact rfl; exact (newY_mk1 Tryd.underlying25 sz5 bs5 zr5 rfl rfl (by decide) (by omega) (by decide) (by rfl)); intro q15))
  generalize hz : (64 - (n + 9) % 64) % 64 = z
  rw [hl, List.take_of_length_le (by omega)]
  have hx : (layN (List.replicate (n + 9 + z) 0) 0 l).length = n + 9 + z := by rw [layN_len]; simp; omega
  generalize hL : layN (List.replicate (n + 9 + z) 0) 0 l = L at hx ⊢
  repeat' (first
    | (with_reducible refine Sy.seq ?_)
    | (with_reducible refine Sy.regionL ?_)
    | (with_reducible refine Sy.opsnil ?_)
    | (with_reducible refine Sy.go ?_)
    | (with_reducible refine Sy.nrm ?_)
    | ((with_reducible apply Sy.assign); exact rfl; exact rfl)
    | ((with_reducible apply Sy.move); exact rfl; exact rfl)
    | ((with_reducible apply Sy.lenS); exact rfl; exact Tryd.underlying25; exact rfl)
    | ((with_reducible apply Sy.bin (op := .sub) (t := 3)); exact rfl; exact rfl; exact rfl; exact (b_sub (by omega) (by omega)))
    | ((with_reducible apply Sy.bin (op := .sub) (t := 3)); exact rfl; exact rfl; exact rfl; exact (bz_sub (by omega) (by omega)))
    | ((with_reducible apply Sy.cpI (t := 25)); exact Tryd.underlying25; exact sz5; exact rfl; exact rfl; exact rfl; (· first | exact SrcY.ofNi' (by repeat (first | exact Has.here)) (by first | (simp; done))); exact turnT; (· first | (simp; omega)))
    | ((with_reducible apply Sy.stN1 (t := 5)); exact rfl; exact rfl; exact sz5; (· first | exact rfl | exact accV_cells); (· first | exact rfl | exact accV_oneL); exact turnT; (· first | (simp; omega)); (· first | with_reducible exact ints_set _ _ _ _))
    | ((with_reducible apply Sy.sl (t := 25)); exact rfl; exact rfl; exact rfl; exact rfl; exact rfl; exact (sl_from Tryd.underlying25 sz5 (by omega)))
    | ((with_reducible apply Sy.conv (D := 0) (T := .bool)); exact rfl; exact Tryd.underlying3; exact Tryd.underlying22; exact rfl; exact (wrap_u64x (by omega)))
    | ((with_reducible apply Sy.conv (D := 0) (T := .bool)); exact rfl; exact Tryd.underlying3; exact Tryd.underlying22; exact rfl; exact wrap_u64 _)
    | ((with_reducible apply Sy.bin (op := .mul) (t := 22)); exact rfl; exact rfl; exact rfl; exact (u64_mulx (by omega)))
    | ((with_reducible apply Sy.bin (op := .mul) (t := 22)); exact rfl; exact rfl; exact rfl; exact u64_mul)
    | ((with_reducible apply Sy.dcall (k := 126)); (first | exact wantY_none); exact rfl; (intro h hh; first | exact hh | (subst hh; omega)); exact rfl; exact rfl; exact rfl; exact en126; exact rfl; (intro H' hp; exact c_reight _ (by omega) H'); rintro hq31 -)
    | (with_reducible refine Sy.ret ?_)
    | ((with_reducible apply Sy.drawL (id := 6) 10 [] (fun hi h => h < hi)); (case hp => kernel_rfl); (case hN => exact rfl); intro base hbase hM; try simp only [List.forall_mem_cons, List.forall_mem_append, List.not_mem_nil, false_implies, implies_true, and_true] at hM)
    | (with_reducible refine Sy.dend ?_)
    | ((with_reducible apply Sy.dgo); (· first | exact wantY_none); (· intro hcls; cases hcls); exact rfl; exact rfl))
  have hb8 : (be64 (8 * n)).length = 8 := be64_length _
  have e : layN (L.set n 128) (0 + (n + 9 + z - 8) * 1) (List.take (min 8 (n + 9 + z - (n + 9 + z - 8))) (be64 (8 * n))) = padN l := by
    have := pad_eq (l := l) (B := be64 (8 * n)) (N := n + 9 + z) (z := z) hb8 (by omega)
    rw [hll, hL] at this
    rw [List.take_of_length_le (by omega), Nat.zero_add, Nat.mul_one, this]
    simp only [padN, hll, hz]
    rw [Nat.mod_eq_of_lt (show 8 * n < 18446744073709551616 by omega)]
  have hpl : n + 9 + z = (padN l).length := by simp [padN, hll, hz]; omega
  rw [e, hpl]
  exact .fin [_] (.inr rfl) ⟨rfl, trivial⟩ fun H' hp => ⟨q15, trivial, rfl, hp.less (by simp)⟩
end Go.Proofs.YtjimjolfnimimaaDoor

/- The reference's sum, Sum. -/
namespace Go.Proofs.YtjimjolfnimimaaDoor
open Go Go.Am
set_option maxRecDepth 100000
set_option linter.unusedVariables false

@[simp] theorem S8l_length (s : S8) : s.l.length = 8 := rfl
theorem padN_mod (l : List Nat) : (padN l).length % 64 = 0 := by simp [padN]; omega
theorem padN_lt {l : List Nat} (h : ∀ x ∈ l, x < 256) : ∀ x ∈ padN l, x < 256 := by
  intro x hx
  simp only [padN, List.mem_append, List.mem_singleton] at hx
  rcases hx with ((hx | rfl) | hx) | hx
  · exact h x hx
  · decide
  · rw [List.eq_of_mem_replicate hx]; decide
  · exact beN_lt _ _ x hx
theorem padN_small {l : List Nat} : (padN l).length ≤ l.length + 73 := by simp [padN]; omega

set_option maxHeartbeats 2000000 in
theorem c_rsum (b o n cp : Nat) (lb l : List Nat) (Tb : TypeId) (wb : Bool) (H : AHeap) (hgb : H.get b = .cells (ints .u8 lb) Tb wb) (hlb : o + n ≤ lb.length) (h256 : ∀ x ∈ lb, x < 256) (hn : n < 1000000000000) (hl : (lb.drop o).take n = l) :
    CallR Tryd.prog noPrims 125 [.slice (some ⟨b, o, none⟩) n cp, .agg ⟨ints .u32 s0S.l⟩, .agg ⟨ints .u32 sK⟩] H (fun v H' => v = hV (sha l) ∧ Hp H 0 0 H' [] []) := by
  have hll : l.length = n := by rw [← hl]; simp; omega
  have hl256 : ∀ x ∈ l, x < 256 := fun x hx => h256 x (by rw [← hl] at hx; exact List.mem_of_mem_drop (List.mem_of_mem_take hx))
  have hp256 := lt_getD (by decide) (padN_lt hl256)
  have hpm := padN_mod l
  have hps := padN_small (l := l)
  refine CallR.sy (n := 44) Tryd.func125 rfl rfl rfl ?_
  repeat' (first
    | (with_reducible refine Sy.seq ?_)
    | (with_reducible refine Sy.regionL ?_)
    | (with_reducible refine Sy.opsnil ?_)
    | (with_reducible refine Sy.go ?_)
    | (with_reducible refine Sy.nrm ?_)
    | ((with_reducible apply Sy.move); exact rfl; exact rfl)
    | ((with_reducible apply Sy.assign); exact rfl; exact rfl)
    | ((with_reducible apply Sy.callN (k := 134)); exact rfl; exact rfl; exact en134; exact rfl; (intro H' hp; exact c_pad b o n cp lb l Tb wb H' (hp.get0 hgb rfl (by simp)) hlb hn hl); rintro q12 -)
    | ((with_reducible apply Sy.newY (o := ⟨some 4, .box 190 _, _, _, _, _⟩)); exact rfl; exact rfl; exact nbA rfl; intro q4)
    | ((with_reducible apply Sy.newY (o := ⟨some 5, .box 195 _, _, _, _, _⟩)); exact rfl; exact rfl; exact nbA rfl; intro q5)
    | ((with_reducible apply Sy.newY (o := ⟨some 6, .alloc 44, _, _, _, _⟩)); exact rfl; exact rfl; exact nwz44; intro q6)
    | ((with_reducible apply Sy.newY (o := ⟨some 9, .alloc 44, _, _, _, _⟩)); exact rfl; exact rfl; exact nwz44; intro q9)
    | (with_reducible refine Sy.block ?_))
  generalize hN : (padN l).length = N at *
  refine Sy.loop (ι := Nat) (fun i => N - 64 * i) (fun i => [(4, .pointer (some ⟨q4, 0, none⟩)), (5, .pointer (some ⟨q5, 0, none⟩)), (6, .pointer (some ⟨q6, 0, none⟩)), (7, .slice (some ⟨q12, 0, none⟩) N N), (8, .int .i64 ((64 * i : Nat) : Int))]) (fun _ => [])
    (fun i => [(q12, .cells (ints .u8 (padN l)) 5 true), (q6, .cells (hC zeroH) 44 true), (q5, .cells (ints .u32 sK) 195 true), (q4, .cells (ints .u32 (blocksN (padN l) i).l) 190 true)]) (fun i => 64 * i ≤ N) 0 (by omega) ⟨rfl, rfl, rfl, rfl, rfl, trivial⟩ (fun H h => h) ?_
  intro i hi
  have hok := blocksN_ok (padN l) i
  have hbl : (blocksN (padN l) i).l.length = 8 := rfl
  repeat' (first
    | (with_reducible refine Sy.seq ?_)
    | (with_reducible refine Sy.regionL ?_)
    | (with_reducible refine Sy.opsnil ?_)
    | (with_reducible refine Sy.go ?_)
    | (with_reducible refine Sy.nrm ?_)
    | ((with_reducible apply Sy.move); exact rfl; exact rfl)
    | ((with_reducible apply Sy.assign); exact rfl; exact rfl)
    | ((with_reducible apply Sy.lenS); exact rfl; exact Tryd.underlying25; exact rfl)
    | ((with_reducible apply Sy.bin (op := .lss) (t := 3)); exact rfl; exact rfl; exact rfl; exact b_lss)
    | ((with_reducible apply Sy.bin (op := .lss) (t := 3)); exact rfl; exact rfl; exact rfl; exact bz_lss)
    | ((with_reducible apply Sy.ldN (t := 190)); exact rfl; exact rfl; exact hasT; (· first | exact ld_all ag190 (by first | exact sz190)))
    | ((with_reducible apply Sy.bin (op := .add) (t := 3)); exact rfl; exact rfl; exact rfl; exact (b_add (by omega)))
    | ((with_reducible apply Sy.bin (op := .add) (t := 3)); exact rfl; exact rfl; exact rfl; exact (bz_add (by omega) (by omega)))
    | ((with_reducible apply Sy.sl (t := 25)); exact rfl; exact rfl; exact rfl; exact rfl; exact rfl; exact (sl_mid Tryd.underlying25 sz5 (by omega) (by omega)))
    | ((with_reducible apply Sy.stNa (t := 190)); exact rfl; exact rfl; exact sz190; (· first | exact rfl | (simp; done)); (· first | exact oneL_ints _ _ | exact rfl); exact turnT; (· first | (simp; done)); (· first | exact lay_all (by first | (simp; done)) | exact rfl))
    | ((with_reducible apply Sy.ldN (t := 189)); exact rfl; exact rfl; exact hasT; (· first | ((with_reducible refine ld_hash ag189 ?_); omega) | ((with_reducible refine ld_int ag189 ?_); first | omega | (simp; done) | (simp; omega)) | exact ld_one ag189 rfl | with_reducible assumption | exact ld_one ag189 (by with_reducible assumption) | exact ld_one ag189 (by simp [List.drop_append, List.take_append, List.getElem?_append, lay, hC_length, ints_length, ints_drop, ints_take, ints_append, List.drop_of_length_le, List.take_of_length_le, List.map_append, List.set_append, Value.cells]; done)))
    | ((with_reducible apply Sy.ldN (t := 44)); exact rfl; exact rfl; exact hasT; (· first | exact ld_hV ag44 sz44 | exact ld_agg (cs' := hC _) ag44 sz44 (by simp; done) (by first | rfl | exact cut_here (by simp; done) | exact cut_all (by simp; done) | (simp [List.drop_append, List.take_append, List.getElem?_append, lay, hC_length, ints_length, ints_drop, ints_take, ints_append, List.drop_of_length_le, List.take_of_length_le, List.map_append, List.set_append, Value.cells]; done))))
    | ((with_reducible apply Sy.stNa (t := 44)); exact rfl; exact rfl; exact sz44; (· first | exact rfl | (simp; done)); (· first | exact oneL_ints _ _ | exact rfl); exact turnT; (· first | (simp; done)); (· first | exact lay_all (by first | (simp; done)) | exact rfl))
    | ((with_reducible apply Sy.dcall0 (k := 135)); (first | exact wantY_none); exact rfl; (intro h hh; first | exact hh | (subst hh; omega)); exact rfl; exact rfl; exact rfl; exact en135; exact rfl; (intro H' hp; exact c_rblock q12 _ _ _ q5 (by omega) (padN l) _ _ _ _ H' _ hok (hp.getN (by repeat (first | exact Has.here | apply Has.there | apply Has.app))) (hp.getN (by repeat (first | exact Has.here | apply Has.there | apply Has.app))) (by omega) hp256))
    | ((with_reducible apply Sy.newY (o := ⟨some 6, .alloc 44, _, _, _, _⟩)); exact rfl; exact rfl; exact nwz44; intro q6)
    | ((with_reducible apply Sy.newY (o := ⟨some 9, .alloc 44, _, _, _, _⟩)); exact rfl; exact rfl; exact nwz44; intro q9)
    | (with_reducible refine Sy.skip ?_)
    | (with_reducible refine Sy.exit ?_)
    | (with_reducible refine Sy.block ?_)
    | (with_reducible refine Sy.aex ?_)
    | (with_reducible refine Sy.inrm ?_)
    | ((with_reducible apply Sy.iex); exact rfl)
    | (with_reducible refine Sy.rex ?_)
    | ((with_reducible apply Sy.drawL (id := 5) 8 [] (fun hi h => h < hi)); (case hp => kernel_rfl); (case hN => exact rfl); intro base hbase hM; try simp only [List.forall_mem_cons, List.forall_mem_append, List.not_mem_nil, false_implies, implies_true, and_true] at hM)
    | (with_reducible refine Sy.dend ?_)
    | ((with_reducible apply Sy.dgo); (· first | exact wantY_none); (· intro hcls; cases hcls); exact rfl; exact rfl)
    | ((with_reducible apply Sy.ite); (case hx => exact rfl); all_goals (intro hc; try (exfalso; omega))))
  · have hb1 : blocksN (padN l) (i + 1) = blockS (fun j => (padN l).getD (0 + 64 * i * 1 + j) 0) (blocksN (padN l) i) := by simp only [blocksN, Nat.zero_add, Nat.mul_one]
    refine Sy.rnrm (i + 1) (by omega) (by omega) ⟨rfl, rfl, rfl, rfl, rfl, trivial⟩ (fun H h => ?_)
    simp only [hb1]; exact h
  · have hi64 : i = (padN l).length / 64 := by omega
    have hsh : sha l = outH (blocksN (padN l) i) := by rw [sha, hi64]
    rw [hsh]
    have hSl : (blocksN (padN l) i).l.length = 8 := rfl
    have hS256 := S8_lt hok
    clear hbl
    generalize hS : blocksN (padN l) i = S at *
    refine Sy.loop (ι := Nat) (fun i => 32 - i) (fun i => [(4, .pointer (some ⟨q4, 0, none⟩)), (6, .pointer (some ⟨q6, 0, none⟩)), (9, .pointer (some ⟨q9, 0, none⟩)), (10, .int .i64 (i : Nat))]) (fun _ => []) (fun i => [(q9, .cells (ints .u8 (outN S.l i)) 44 true), (q12, .cells (ints .u8 (padN l)) 5 true), (q6, .cells (hC zeroH) 44 true), (q5, .cells (ints .u32 sK) 195 true), (q4, .cells (ints .u32 S.l) 190 true)]) (fun i => i ≤ 32) 0 (by omega) ⟨rfl, rfl, rfl, rfl, trivial⟩ (fun H h => h) ?_
    intro i hi
    have hol : (outN S.l i).length = 32 := outN_length _ _
    have hSo := lt_getD (l := S.l) (m := 4294967296) (by decide) hS256 (i / 4)
    repeat' (first
    | (with_reducible refine Sy.seq ?_)
    | (with_reducible refine Sy.regionL ?_)
    | (with_reducible refine Sy.opsnil ?_)
    | (with_reducible refine Sy.go ?_)
    | (with_reducible refine Sy.nrm ?_)
    | ((with_reducible apply Sy.move); exact rfl; exact rfl)
    | ((with_reducible apply Sy.assign); exact rfl; exact rfl)
    | ((with_reducible apply Sy.bin (op := .lss) (t := 3)); exact rfl; exact rfl; exact rfl; exact b_lss)
    | ((with_reducible apply Sy.bin (op := .lss) (t := 3)); exact rfl; exact rfl; exact rfl; exact bz_lss)
    | ((with_reducible apply Sy.ldN (t := 190)); exact rfl; exact rfl; exact hasT; (· first | exact ld_all ag190 (by first | exact sz190 | (simp [sz190, *]; done)) | exact ld_agg ag190 sz190 (by first | (simp; done) | (simp; omega)) (by first | with_reducible exact cut_kids | rfl | (simp [List.drop_append, List.take_append, List.getElem?_append, lay, hC_length, ints_length, ints_drop, ints_take, ints_append, List.drop_of_length_le, List.take_of_length_le, List.map_append, List.set_append, Value.cells]; done))))
    | ((with_reducible apply Sy.bin (op := .add) (t := 3)); exact rfl; exact rfl; exact rfl; exact (b_add (by omega)))
    | ((with_reducible apply Sy.bin (op := .add) (t := 3)); exact rfl; exact rfl; exact rfl; exact (bz_add (by omega) (by omega)))
    | ((with_reducible apply Sy.bin (op := .quo) (t := 3)); exact rfl; exact rfl; exact rfl; exact (b_quo (by omega) (by omega)))
    | ((with_reducible apply Sy.ia (t := 190)); exact rfl; exact rfl; exact rfl; exact (ia_ar10 Tryd.underlying190 sz189 (by omega)))
    | ((with_reducible apply Sy.ia (t := 190)); exact rfl; exact rfl; exact rfl; exact (ia_ar1 Tryd.underlying190 sz189 (by omega)))
    | ((with_reducible apply Sy.ldN (t := 189)); exact rfl; exact rfl; exact hasT; (· first | ((with_reducible refine ld_int ag189 ?_); first | omega)))
    | ((with_reducible apply Sy.bin (op := .rem) (t := 3)); exact rfl; exact rfl; exact rfl; exact (b_rem (by omega)))
    | ((with_reducible apply Sy.bin (op := .mul) (t := 3)); exact rfl; exact rfl; exact rfl; exact (b_mul (by omega)))
    | ((with_reducible apply Sy.bin (op := .sub) (t := 3)); exact rfl; exact rfl; exact rfl; exact (b_sub (by omega) (by omega)))
    | ((with_reducible apply Sy.bin (op := .sub) (t := 3)); exact rfl; exact rfl; exact rfl; exact (bz_sub (by omega) (by omega)))
    | ((with_reducible apply Sy.conv (D := 0) (T := .bool)); exact rfl; exact Tryd.underlying3; exact Tryd.underlying171; exact rfl; exact (wrap_u64x (by omega)))
    | ((with_reducible apply Sy.conv (D := 0) (T := .bool)); exact rfl; exact Tryd.underlying3; exact Tryd.underlying171; exact rfl; exact wrap_u64 _)
    | ((with_reducible apply Sy.bin (op := .shr) (t := 189)); exact rfl; exact rfl; exact rfl; exact (b_shr32 (by omega)))
    | ((with_reducible apply Sy.conv (D := 0) (T := .bool)); exact rfl; exact Tryd.underlying189; exact Tryd.underlying5; exact rfl; exact (wrap_u8x (by omega)))
    | ((with_reducible apply Sy.conv (D := 0) (T := .bool)); exact rfl; exact Tryd.underlying189; exact Tryd.underlying5; exact rfl; exact wrap_u8 _)
    | ((with_reducible apply Sy.ia (t := 44)); exact rfl; exact rfl; exact rfl; exact (ia_ar10 Tryd.underlying44 sz5 (by omega)))
    | ((with_reducible apply Sy.ia (t := 44)); exact rfl; exact rfl; exact rfl; exact (ia_ar1 Tryd.underlying44 sz5 (by omega)))
    | ((with_reducible apply Sy.stN1 (t := 5)); exact rfl; exact rfl; exact sz5; (· first | exact rfl | exact accV_cells); (· first | exact rfl | exact accV_oneL); exact turnT; (· first | (simp; omega)); (· first | with_reducible exact ints_set _ _ _ _))
    | ((with_reducible apply Sy.ldN (t := 44)); exact rfl; exact rfl; exact hasT; (· first | exact ld_hV ag44 sz44 | exact ld_agg (cs' := hC _) ag44 sz44 (by simp; done) (by first | rfl | exact cut_here (by simp; done) | exact cut_all (by simp; done) | (simp [List.drop_append, List.take_append, List.getElem?_append, lay, hC_length, ints_length, ints_drop, ints_take, ints_append, List.drop_of_length_le, List.take_of_length_le, List.map_append, List.set_append, Value.cells]; done))))
    | (with_reducible refine Sy.skip ?_)
    | (with_reducible refine Sy.exit ?_)
    | (with_reducible refine Sy.block ?_)
    | (with_reducible refine Sy.aex ?_)
    | (with_reducible refine Sy.inrm ?_)
    | ((with_reducible apply Sy.iex); exact rfl)
    | (with_reducible refine Sy.rex ?_)
    | ((with_reducible apply Sy.ite); (case hx => exact rfl); all_goals (intro hc; try (exfalso; omega))))
    · exact Sy.rnrm (i + 1) (by omega) (by omega) ⟨rfl, rfl, rfl, rfl, trivial⟩ (fun H h => h)
    · obtain rfl : i = 32 := by omega
      rw [← hC_out]
      repeat' (first
    | (with_reducible refine Sy.opsnil ?_)
    | (with_reducible refine Sy.go ?_)
    | (with_reducible refine Sy.nrm ?_)
    | ((with_reducible apply Sy.ldN (t := 190)); exact rfl; exact rfl; exact hasT; (· first | exact ld_all ag190 (by first | exact sz190 | (simp [sz190, *]; done)) | exact ld_agg ag190 sz190 (by first | (simp; done) | (simp; omega)) (by first | with_reducible exact cut_kids | rfl | (simp [List.drop_append, List.take_append, List.getElem?_append, lay, hC_length, ints_length, ints_drop, ints_take, ints_append, List.drop_of_length_le, List.take_of_length_le, List.map_append, List.set_append, Value.cells]; done))))
    | ((with_reducible apply Sy.stNa (t := 190)); exact rfl; exact rfl; exact sz190; (· first | exact hC_length _ | (simp; done)); (· first | exact hC_one _); exact turnT; (· first | (simp; done)); (· first | exact lay_all (by first | (simp; done))))
    | ((with_reducible apply Sy.ldN (t := 189)); exact rfl; exact rfl; exact hasT; (· first | ((with_reducible refine ld_hash ag189 ?_); omega) | ((with_reducible refine ld_int ag189 ?_); first | omega | (simp; done) | (simp; omega)) | exact ld_one ag189 rfl | with_reducible assumption | exact ld_one ag189 (by with_reducible assumption) | exact ld_one ag189 (by simp [List.drop_append, List.take_append, List.getElem?_append, lay, hC_length, ints_length, ints_drop, ints_take, ints_append, List.drop_of_length_le, List.take_of_length_le, List.map_append, List.set_append, Value.cells]; done)))
    | ((with_reducible apply Sy.ldN (t := 44)); exact rfl; exact rfl; exact hasT; (· first | exact ld_hV ag44 sz44))
    | ((with_reducible apply Sy.stNa (t := 44)); exact rfl; exact rfl; exact sz44; (· first | exact hC_length _ | (simp; done)); (· first | exact hC_one _); exact turnT; (· first | (simp; done)); (· first | exact lay_all (by first | (simp; done))))
    | (with_reducible refine Sy.ret ?_))
      exact .fin [hV (outH S)] (.inr rfl) ⟨⟨q6, 0, _, rfl, (by repeat (first | exact Has.here | apply Has.there | apply Has.app)), ld_hV ag44 sz44⟩, trivial⟩ fun H1 hp => ⟨rfl, hp.less (List.nil_sublist _)⟩

theorem c_table (H : AHeap) : CallR Tryd.prog noPrims 124 [] H (fun v H' => v = .tuple ⟨[.agg ⟨ints .u32 s0S.l⟩, .agg ⟨ints .u32 sK⟩]⟩ ∧ Hp H 0 0 H' [] []) := by
  refine CallR.sy (n := 4) Tryd.func124 rfl rfl rfl ?_
  repeat' (first
    | (with_reducible refine Sy.seq ?_)
    | (with_reducible refine Sy.regionL ?_)
    | (with_reducible refine Sy.opsnil ?_)
    | (with_reducible refine Sy.go ?_)
    | (with_reducible refine Sy.nrm ?_)
    | ((with_reducible apply Sy.build (t := 190)); exact rfl; exact rfl; (· exact (bv_one [_, _, _, _, _, _, _, _] Tryd.underlying190 sz189 zr190 rfl rfl rfl (by simp only [List.forall_mem_cons, List.not_mem_nil, false_implies, implies_true, and_true]; exact ⟨rfl, rfl, rfl, rfl, rfl, rfl, rfl, rfl⟩))))
    | ((with_reducible apply Sy.build (t := 195)); exact rfl; exact rfl; (· exact (bv_one [_, _, _, _, _, _, _, _, _, _, _, _, _, _, _, _, _, _, _, _, _, _, _, _, _, _, _, _, _, _, _, _, _, _, _, _, _, _, _, _, _, _, _, _, _, _, _, _, _, _, _, _, _, _, _, _, _, _, _, _, _, _, _, _] Tryd.underlying195 sz189 zr195 rfl rfl rfl (by simp only [List.forall_mem_cons, List.not_mem_nil, false_implies, implies_true, and_true]; exact ⟨rfl, rfl, rfl, rfl, rfl, rfl, rfl, rfl, rfl, rfl, rfl, rfl, rfl, rfl, rfl, rfl, rfl, rfl, rfl, rfl, rfl, rfl, rfl, rfl, rfl, rfl, rfl, rfl, rfl, rfl, rfl, rfl, rfl, rfl, rfl, rfl, rfl, rfl, rfl, rfl, rfl, rfl, rfl, rfl, rfl, rfl, rfl, rfl, rfl, rfl, rfl, rfl, rfl, rfl, rfl, rfl, rfl, rfl, rfl, rfl, rfl, rfl, rfl, rfl⟩))))
    | ((with_reducible apply Sy.stNa (t := 190)); exact rfl; exact rfl; exact sz190; (· first | exact rfl | (simp; done)); (· first | exact rfl); exact turnT; (· first | (simp; done)); (· first | exact lay_all (by first | (simp; done)) | exact rfl))
    | ((with_reducible apply Sy.stNa (t := 195)); exact rfl; exact rfl; exact sz195; (· first | exact rfl | (simp; done)); (· first | exact rfl); exact turnT; (· first | (simp; done)); (· first | exact lay_all (by first | (simp; done)) | exact rfl))
    | ((with_reducible apply Sy.newY (o := ⟨some 0, .alloc 190, _, _, _, _⟩)); exact rfl; exact rfl; exact nwz190; intro q0)
    | ((with_reducible apply Sy.newY (o := ⟨some 1, .alloc 195, _, _, _, _⟩)); exact rfl; exact rfl; exact nwz195; intro q1)
    | (with_reducible refine Sy.ret ?_))
  exact .fin [.agg ⟨ints .u32 s0S.l⟩, .agg ⟨ints .u32 sK⟩] (.inr rfl) ⟨⟨q0, 0, _, rfl, (by repeat (first | exact Has.here | apply Has.there | apply Has.app)), ld_all ag190 sz190⟩, ⟨q1, 0, _, rfl, (by repeat (first | exact Has.here | apply Has.there | apply Has.app)), ld_all ag195 sz195⟩, trivial⟩ fun H1 hp => ⟨rfl, hp.less (List.nil_sublist _)⟩

theorem c_rSum (b o n cp : Nat) (lb l : List Nat) (Tb : TypeId) (wb : Bool) (H : AHeap) (hgb : H.get b = .cells (ints .u8 lb) Tb wb) (hlb : o + n ≤ lb.length) (h256 : ∀ x ∈ lb, x < 256) (hn : n < 1000000000000) (hl : (lb.drop o).take n = l) :
    CallR Tryd.prog noPrims 104 [.slice (some ⟨b, o, none⟩) n cp] H (fun v H' => v = hV (sha l) ∧ Hp H 0 0 H' [] []) := by
  refine CallR.sy (n := 13) Tryd.func104 rfl rfl rfl ?_
  repeat' (first
    | (with_reducible refine Sy.seq ?_)
    | (with_reducible refine Sy.regionL ?_)
    | (with_reducible refine Sy.opsnil ?_)
    | (with_reducible refine Sy.go ?_)
    | (with_reducible refine Sy.nrm ?_)
    | ((with_reducible apply Sy.move); exact rfl; exact rfl)
    | ((with_reducible apply Sy.ext); exact rfl; exact rfl; exact rfl)
    | ((with_reducible apply Sy.stNa (t := 190)); exact rfl; exact rfl; exact sz190; (· first | exact hC_length _ | exact rfl | (simp; done)); (· first | exact hC_one _ | exact oneL_ints _ _ | exact rfl); exact turnT; (· first | (simp; done)); (· first | exact lay_all (by first | (simp; done) | exact rfl) | exact rfl))
    | ((with_reducible apply Sy.stNa (t := 195)); exact rfl; exact rfl; exact sz195; (· first | exact hC_length _ | exact rfl | (simp; done)); (· first | exact hC_one _ | exact oneL_ints _ _ | exact rfl); exact turnT; (· first | (simp; done)); (· first | exact lay_all (by first | (simp; done) | exact rfl) | exact rfl))
    | ((with_reducible apply Sy.ldN (t := 190)); exact rfl; exact rfl; exact hasT; (· first | exact ld_all ag190 (by first | exact sz190)))
    | ((with_reducible apply Sy.ldN (t := 195)); exact rfl; exact rfl; exact hasT; (· first | exact ld_all ag195 (by first | exact sz195)))
    | ((with_reducible apply Sy.stNa (t := 44)); exact rfl; exact rfl; exact sz44; (· first | exact hC_length _ | exact rfl | (simp; done)); (· first | exact hC_one _ | exact oneL_ints _ _ | exact rfl); exact turnT; (· first | (simp; done)); (· first | exact lay_all (by first | (simp; done) | exact rfl) | exact rfl))
    | ((with_reducible apply Sy.call0 (k := 124)); exact rfl; exact rfl; exact en124; exact rfl; (intro H' hp; exact c_table H'))
    | ((with_reducible apply Sy.call0 (k := 125)); exact rfl; exact rfl; exact en125; exact rfl; (intro H' hp; exact c_rsum b o n cp lb l Tb wb H' (hp.get0 hgb rfl (by simp)) hlb h256 hn hl))
    | ((with_reducible apply Sy.newY (o := ⟨some 2, .alloc 44, _, _, _, _⟩)); exact rfl; exact rfl; exact nwz44; intro q2)
    | ((with_reducible apply Sy.newY (o := ⟨some 3, .alloc 190, _, _, _, _⟩)); exact rfl; exact rfl; exact nwz190; intro q3)
    | ((with_reducible apply Sy.newY (o := ⟨some 4, .alloc 195, _, _, _, _⟩)); exact rfl; exact rfl; exact nwz195; intro q4)
    | (with_reducible refine Sy.ret ?_))
  exact .fin [hV (sha l)] (.inr rfl) ⟨⟨q2, 0, _, rfl, (by repeat (first | exact Has.here | apply Has.there | apply Has.app)), ld_hV ag44 sz44⟩, trivial⟩ fun H1 hp => ⟨rfl, hp.less (List.nil_sublist _)⟩
end Go.Proofs.YtjimjolfnimimaaDoor

/- The reference's Frame, Tagged, Pair, Leaf, Above. -/
namespace Go.Proofs.YtjimjolfnimimaaDoor
open Go Go.Am
set_option maxRecDepth 100000
set_option linter.unusedVariables false

theorem c_rFrame (s : ByteArray) (hs0 : 0 < s.size) (hs : s.size ≤ 255) (pb np cp : Nat) (pc : List Value) (Tp : TypeId) (w : Bool) (H : AHeap) (hgp : H.get pb = .cells pc Tp w) (ps : List (List Nat)) (hps : ps.length = np) (hn2 : np < 1000000)
    (hrd : ∀ (i : Nat) (p : List Nat), ps[i]? = some p → ∃ x, pc[i]? = some x ∧ SlR H 1 x p.length (ints .u8 p)) (hbd : ∀ i, (frameN (bytesOf s) (ps.take i)).length < 1000000000) (hbp : ∀ p ∈ ps, p.length < 1000000000) :
    CallR Tryd.prog noPrims 105 [.string s, .slice (some ⟨pb, 0, none⟩) np cp] H (fun v H' => ∃ b : Nat, True ∧ v = .slice (some ⟨b, 0, none⟩) (frameN (bytesOf s) ps).length ((frameN (bytesOf s) ps).length + 2 + 1) ∧ Hp H 0 0 H' [] [(b, .cells (ints .u8 (frameN (bytesOf s) ps)) 5 true)]) := by
  have hbs := bytesOf_length s
  have hlt0 : s.size % 256 = s.size := Nat.mod_eq_of_lt (by omega)
  have hb0 := hbd 0
  simp only [List.take_zero, frameN, List.length_cons] at hb0
  refine CallR.sy (n := 42) Tryd.func105 rfl rfl rfl ?_
  repeat' (first
    | (with_reducible refine Sy.seq ?_)
    | (with_reducible refine Sy.regionL ?_)
    | (with_reducible refine Sy.opsnil ?_)
    | (with_reducible refine Sy.go ?_)
    | (with_reducible refine Sy.nrm ?_)
    | ((with_reducible apply Sy.assign); exact rfl; exact rfl)
    | ((with_reducible apply Sy.move); exact rfl; exact rfl)
    | ((with_reducible apply Sy.lenStr); exact rfl; exact Tryd.underlying9; exact rfl)
    | ((with_reducible apply Sy.bin (op := .gtr) (t := 3)); exact rfl; exact rfl; exact rfl; exact b_gtr)
    | ((with_reducible apply Sy.bin (op := .gtr) (t := 3)); exact rfl; exact rfl; exact rfl; exact bz_gtr)
    | ((with_reducible apply Sy.conv (D := 0) (T := .bool)); exact rfl; exact Tryd.underlying3; exact Tryd.underlying5; exact rfl; exact (wrap_u8x (by omega)))
    | ((with_reducible apply Sy.conv (D := 0) (T := .bool)); exact rfl; exact Tryd.underlying3; exact Tryd.underlying5; exact rfl; exact wrap_u8 _)
    | ((with_reducible apply Sy.appQ (t := 25) (xt := 25)); exact ap25_25 zr5 rfl; exact rfl; exact rfl; exact rfl; (· first | exact SrcY.ofNi' (by repeat (first | exact Has.here | apply Has.there)) (by first | omega | (simp; done)) | exact SrcY.stri rfl); (· first | exact oneL_ints _ _); (· first | omega | (simp; done)); (· first | omega | (simp; done)); (· repeat (first | exact Drop.here | apply Drop.there)); (· first | omega | (simp; done)); (· first | exact ints_append _ _ _); intro q18)
    | ((with_reducible apply Sy.appQ (t := 25) (xt := 9)); exact ap25_9 zr5 rfl; exact rfl; exact rfl; exact rfl; (· first | exact SrcY.ofNi' (by repeat (first | exact Has.here | apply Has.there)) (by first | omega | (simp; done)) | exact SrcY.stri rfl); (· first | exact oneL_ints _ _); (· first | omega | (simp; done)); (· first | omega | (simp; done)); (· repeat (first | exact Drop.here | apply Drop.there)); (· first | omega | (simp; done)); (· first | exact ints_append _ _ _); intro q20)
    | ((with_reducible apply Sy.conv (D := 0) (T := .bool)); exact rfl; exact Tryd.underlying3; exact Tryd.underlying22; exact rfl; exact (wrap_u64x (by omega)))
    | ((with_reducible apply Sy.conv (D := 0) (T := .bool)); exact rfl; exact Tryd.underlying3; exact Tryd.underlying22; exact rfl; exact wrap_u64 _)
    | ((with_reducible apply Sy.appQ (t := 25) (xt := 25)); exact ap25_25 zr5 rfl; exact rfl; exact rfl; exact rfl; (· first | exact SrcY.ofNi' (by repeat (first | exact Has.here | apply Has.there)) (by first | omega | (simp; done)) | exact SrcY.stri rfl); (· first | exact oneL_ints _ _); (· first | omega | (simp; done)); (· first | omega | (simp; done)); (· repeat (first | exact Drop.here | apply Drop.there)); (· first | omega | (simp; done)); (· first | exact ints_append _ _ _); intro q35)
    | ((with_reducible apply Sy.appQ (t := 25) (xt := 25)); exact ap25_25 zr5 rfl; exact rfl; exact rfl; exact rfl; (· first | exact SrcY.ofNi' (by repeat (first | exact Has.here | apply Has.there)) (by first | omega | (simp; done)) | exact SrcY.stri rfl); (· first | exact oneL_ints _ _); (· first | omega | (simp; done)); (· first | omega | (simp; done)); (· repeat (first | exact Drop.here | apply Drop.there)); (· first | omega | (simp; done)); (· first | exact ints_append _ _ _); intro q40)
    | ((with_reducible apply Sy.newY (o := ⟨some 12, .makeSlice 25 _ _, _, _, _, _⟩)); exact rfl; exact rfl; exact (newY_mkI Tryd.underlying25 sz5 bs5 zr5 rfl rfl (by decide) (by omega)); intro q12)
    | ((with_reducible apply Sy.newY (o := ⟨some 12, .makeSlice 25 _ _, _, _, _, _⟩)); exact rfl; exact rfl; exact (newY_mkI2 Tryd.underlying25 sz5 bs5 zr5 rfl rfl (by omega) (by decide) (by omega)); intro q12)
    | ((with_reducible apply Sy.newY (o := ⟨some 12, .makeSlice 25 _ _, _, _, _, _⟩)); exact rfl; exact rfl; exact (newY_mk1 Tryd.underlying25 sz5 bs5 zr5 rfl rfl (by decide) (by omega) (by decide) (by rfl)); intro q12)
    | ((with_reducible apply Sy.newY (o := ⟨some 17, .buildSlice 25 _ _, _, _, _, _⟩)); exact rfl; exact rfl; exact (nbsI [_] Tryd.underlying25 sz5 zr5 rfl (by decide) rfl rfl); intro q17)
    | ((with_reducible apply Sy.newY (o := ⟨some 17, .buildSlice 25 _ _, _, _, _, _⟩)); exact rfl; exact rfl; exact (nbs1 Tryd.underlying25 sz5 zr5 rfl (by decide) rfl rfl); intro q17)
    | ((with_reducible apply Sy.newY (o := ⟨some 17, .buildSlice 25 _ _, _, _, _, _⟩)); exact rfl; exact rfl; (· exact (newY_bs Tryd.underlying25 sz5 zr5 rfl (by decide) rfl (by first | rfl | (simp [List.drop_append, List.take_append, List.getElem?_append, lay, hC_length, ints_length, ints_drop, ints_take, ints_append, List.drop_of_length_le, List.take_of_length_le, List.map_append, List.set_append, Value.cells]; done)))); intro q17)
    | (with_reducible refine Sy.skip ?_)
    | (with_reducible refine Sy.block ?_)
    | ((with_reducible apply Sy.ite); (case hx => exact rfl); all_goals (intro hc; try (exfalso; omega))))
  refine Sy.loop (ι := Nat × Nat) (fun i => np - i.1) (fun i => [(1, .slice (some ⟨pb, 0, none⟩) np cp), (5, .slice (some ⟨i.2, 0, none⟩) (frameN (bytesOf s) (ps.take i.1)).length ((frameN (bytesOf s) (ps.take i.1)).length + 2 + 1)), (6, .int .i64 (i.1 : Nat))]) (fun _ => [])
    (fun i => [(i.2, .cells (ints .u8 (frameN (bytesOf s) (ps.take i.1))) 5 true)]) (fun i => i.1 ≤ np) (0, q20) (Nat.zero_le _) ?_ ?_ ?_
  · refine ⟨rfl, ?_, rfl, trivial⟩
    simp only [List.take_zero, frameN, List.length_cons, hbs]
    rw [Nat.add_comm s.size 1, ← Nat.zero_add 1]; rfl
  · intro H h
    have h2 := h.less (List.Sublist.cons_cons _ (List.nil_sublist _))
    simp only [List.take_zero, frameN, hbs]
    exact h2
  rintro ⟨i, b⟩ hi
  dsimp only at hi ⊢
  by_cases hlt : i < np
  · obtain ⟨p, hp⟩ : ∃ p, ps[i]? = some p := ⟨ps[i], List.getElem?_eq_getElem (by omega)⟩
    obtain ⟨x, hx, hr⟩ := hrd i p hp
    have hr2 := hr
    have hplt := hbp p (List.mem_of_getElem? hp)
    have htk : ps.take (i + 1) = ps.take i ++ [p] := by rw [List.take_add_one, hp]; rfl
    have hb1 := hbd (i + 1)
    rw [htk, frameN_snoc] at hb1
    simp only [List.length_append, be64_length] at hb1
    generalize hacc : frameN (bytesOf s) (ps.take i) = acc at *
    have hdone : frameN (bytesOf s) (ps.take (i + 1)) = (acc ++ be64 p.length) ++ p := by rw [htk, frameN_snoc, hacc]
    rcases hr.two with ⟨rfl, hz, hz2⟩ | ⟨b2, o2, c2, rfl⟩
    · obtain rfl : p = [] := List.length_eq_zero_iff.1 hz
      simp only [List.length_nil] at hplt hb1 hdone hr2
      repeat' (first
    | (with_reducible refine Sy.seq ?_)
    | (with_reducible refine Sy.regionL ?_)
    | (with_reducible refine Sy.opsnil ?_)
    | (with_reducible refine Sy.go ?_)
    | (with_reducible refine Sy.nrm ?_)
    | ((with_reducible apply Sy.assign); exact rfl; exact rfl)
    | ((with_reducible apply Sy.move); exact rfl; exact rfl)
    | ((with_reducible apply Sy.conv (D := 0) (T := .bool)); exact rfl; exact Tryd.underlying3; exact Tryd.underlying5; exact rfl; exact (wrap_u8x (by omega)))
    | ((with_reducible apply Sy.conv (D := 0) (T := .bool)); exact rfl; exact Tryd.underlying3; exact Tryd.underlying5; exact rfl; exact wrap_u8 _)
    | ((with_reducible apply Sy.appQ (t := 25) (xt := 25)); exact ap25_25 zr5 rfl; exact rfl; exact rfl; exact rfl; (· first | exact SrcY.ofR (by with_reducible assumption) rfl | exact SrcY.ofNi' (by repeat (first | exact Has.here)) (by first | (simp; done))); (· first | exact oneL_ints _ _); (· first | omega | (simp; done)); (· first | omega | (simp; done)); (· repeat (first | exact Drop.here | apply Drop.there)); (· first | omega | (simp; done)); (· first | exact ints_append _ _ _); intro q18)
    | ((with_reducible apply Sy.appQ (t := 25) (xt := 9)); exact ap25_9 zr5 rfl; exact rfl; exact rfl; exact rfl; (· first | exact SrcY.ofR (by with_reducible assumption) rfl | exact SrcY.ofNi' (by repeat (first | exact Has.here)) (by first | (simp; done))); (· first | exact oneL_ints _ _); (· first | omega | (simp; done)); (· first | omega | (simp; done)); (· repeat (first | exact Drop.here | apply Drop.there)); (· first | omega | (simp; done)); (· first | exact ints_append _ _ _); intro q20)
    | ((with_reducible apply Sy.lenS); exact rfl; exact Tryd.underlying113; exact rfl)
    | ((with_reducible apply Sy.bin (op := .lss) (t := 3)); exact rfl; exact rfl; exact rfl; exact b_lss)
    | ((with_reducible apply Sy.bin (op := .lss) (t := 3)); exact rfl; exact rfl; exact rfl; exact bz_lss)
    | ((with_reducible apply Sy.ia (t := 113)); exact rfl; exact rfl; exact rfl; exact (ia_sl10 Tryd.underlying113 sz25 (by omega)))
    | ((with_reducible apply Sy.ia (t := 113)); exact rfl; exact rfl; exact rfl; exact (ia_sl1 Tryd.underlying113 sz25 (by omega)))
    | ((with_reducible apply Sy.ld0 (t := 25)); exact rfl; exact rfl; (· with_reducible assumption); exact rfl; exact notM; (· first | exact ld_one ag25 (by with_reducible assumption)))
    | ((with_reducible apply Sy.lenS); exact rfl; exact Tryd.underlying25; exact rfl)
    | ((with_reducible apply Sy.conv (D := 0) (T := .bool)); exact rfl; exact Tryd.underlying3; exact Tryd.underlying22; exact rfl; exact (wrap_u64x (by omega)))
    | ((with_reducible apply Sy.conv (D := 0) (T := .bool)); exact rfl; exact Tryd.underlying3; exact Tryd.underlying22; exact rfl; exact wrap_u64 _)
    | ((with_reducible apply Sy.appQ (t := 25) (xt := 25)); exact ap25_25 zr5 rfl; exact rfl; exact rfl; exact rfl; (· first | exact SrcY.ofR (by with_reducible assumption) rfl | exact SrcY.ofNi' (by repeat (first | exact Has.here)) (by first | (simp; done))); (· first | exact oneL_ints _ _); (· first | omega | (simp; done)); (· first | omega | (simp; done)); (· repeat (first | exact Drop.here | apply Drop.there)); (· first | omega | (simp; done)); (· first | exact ints_append _ _ _); intro q35)
    | ((with_reducible apply Sy.appQ (t := 25) (xt := 25)); exact ap25_25 zr5 rfl; exact rfl; exact rfl; exact rfl; (· first | exact SrcY.ofR (by with_reducible assumption) rfl | exact SrcY.ofNi' (by repeat (first | exact Has.here)) (by first | (simp; done))); (· first | exact oneL_ints _ _); (· first | omega | (simp; done)); (· first | omega | (simp; done)); (· repeat (first | exact Drop.here | apply Drop.there)); (· first | omega | (simp; done)); (· first | exact ints_append _ _ _); intro q40)
    | ((with_reducible apply Sy.bin (op := .add) (t := 3)); exact rfl; exact rfl; exact rfl; exact (b_add (by omega)))
    | ((with_reducible apply Sy.bin (op := .add) (t := 3)); exact rfl; exact rfl; exact rfl; exact (bz_add (by omega) (by omega)))
    | ((with_reducible apply Sy.callN (k := 126)); exact rfl; exact rfl; exact en126; exact rfl; (intro H' hp; exact c_reight _ (by omega) H'); rintro hq34 -)
    | ((with_reducible apply Sy.drawL (id := 8) 15 [(12, 7), (12, 8)] (fun hi h => h = pb)); (case hp => kernel_rfl); (case hN => exact rfl); intro base hbase hM)
    | ((with_reducible apply Sy.dld); (case hw => first | exact wantY_none); (case hx => exact rfl); (case hb => exact rfl); (case h2 => exact rfl))
    | ((with_reducible apply Sy.dwr (SK := [(pb, .cells pc Tp w)])); (case hw => first | exact wantY_none); (case hc => intro hcls; cases hcls); (case h1 => exact rfl); (case hS => intro h hh; subst hh; exact ⟨_, List.mem_singleton.2 rfl⟩); (case hk => exact .cons0 hgp rfl (by simp) .nil))
    | ((with_reducible apply Sy.dand); (case hk => exact .cons0 hgp rfl (by simp) .nil))
    | (with_reducible refine Sy.skip ?_)
    | (with_reducible refine Sy.block ?_)
    | (with_reducible refine Sy.inrm ?_)
    | (with_reducible refine Sy.dend ?_)
    | ((with_reducible apply Sy.dld); (· first | exact wantY_none); exact rfl; (· first | omega | exact rfl); exact rfl)
    | ((with_reducible apply Sy.ite); (case hx => exact rfl); all_goals (intro hc; try (exfalso; omega))))
      refine Sy.rnrm (i + 1, q18) (by omega) (by omega) ?_ ?_
      · simp only [hdone, List.length_append, be64_length, List.length_nil]; exact ⟨rfl, rfl, rfl, trivial⟩
      · intro H h; simp only [hdone]; exact h.less (List.Sublist.cons_cons _ (List.nil_sublist _))
    · repeat' (first
    | (with_reducible refine Sy.seq ?_)
    | (with_reducible refine Sy.regionL ?_)
    | (with_reducible refine Sy.opsnil ?_)
    | (with_reducible refine Sy.go ?_)
    | (with_reducible refine Sy.nrm ?_)
    | ((with_reducible apply Sy.assign); exact rfl; exact rfl)
    | ((with_reducible apply Sy.move); exact rfl; exact rfl)
    | ((with_reducible apply Sy.conv (D := 0) (T := .bool)); exact rfl; exact Tryd.underlying3; exact Tryd.underlying5; exact rfl; exact (wrap_u8x (by omega)))
    | ((with_reducible apply Sy.conv (D := 0) (T := .bool)); exact rfl; exact Tryd.underlying3; exact Tryd.underlying5; exact rfl; exact wrap_u8 _)
    | ((with_reducible apply Sy.appQ (t := 25) (xt := 25)); exact ap25_25 zr5 rfl; exact rfl; exact rfl; exact rfl; (· first | exact SrcY.ofR (by with_reducible assumption) rfl | exact SrcY.ofNi' (by repeat (first | exact Has.here)) (by first | (simp; done))); (· first | exact oneL_ints _ _); (· first | omega | (simp; done)); (· first | omega | (simp; done)); (· repeat (first | exact Drop.here | apply Drop.there)); (· first | omega | (simp; done)); (· first | exact ints_append _ _ _); intro q18)
    | ((with_reducible apply Sy.appQ (t := 25) (xt := 9)); exact ap25_9 zr5 rfl; exact rfl; exact rfl; exact rfl; (· first | exact SrcY.ofR (by with_reducible assumption) rfl | exact SrcY.ofNi' (by repeat (first | exact Has.here)) (by first | (simp; done))); (· first | exact oneL_ints _ _); (· first | omega | (simp; done)); (· first | omega | (simp; done)); (· repeat (first | exact Drop.here | apply Drop.there)); (· first | omega | (simp; done)); (· first | exact ints_append _ _ _); intro q20)
    | ((with_reducible apply Sy.lenS); exact rfl; exact Tryd.underlying113; exact rfl)
    | ((with_reducible apply Sy.bin (op := .lss) (t := 3)); exact rfl; exact rfl; exact rfl; exact b_lss)
    | ((with_reducible apply Sy.bin (op := .lss) (t := 3)); exact rfl; exact rfl; exact rfl; exact bz_lss)
    | ((with_reducible apply Sy.ia (t := 113)); exact rfl; exact rfl; exact rfl; exact (ia_sl10 Tryd.underlying113 sz25 (by omega)))
    | ((with_reducible apply Sy.ia (t := 113)); exact rfl; exact rfl; exact rfl; exact (ia_sl1 Tryd.underlying113 sz25 (by omega)))
    | ((with_reducible apply Sy.ld0 (t := 25)); exact rfl; exact rfl; (· with_reducible assumption); exact rfl; exact notM; (· first | exact ld_one ag25 (by with_reducible assumption)))
    | ((with_reducible apply Sy.lenS); exact rfl; exact Tryd.underlying25; exact rfl)
    | ((with_reducible apply Sy.conv (D := 0) (T := .bool)); exact rfl; exact Tryd.underlying3; exact Tryd.underlying22; exact rfl; exact (wrap_u64x (by omega)))
    | ((with_reducible apply Sy.conv (D := 0) (T := .bool)); exact rfl; exact Tryd.underlying3; exact Tryd.underlying22; exact rfl; exact wrap_u64 _)
    | ((with_reducible apply Sy.appQ (t := 25) (xt := 25)); exact ap25_25 zr5 rfl; exact rfl; exact rfl; exact rfl; (· first | exact SrcY.ofR (by with_reducible assumption) rfl | exact SrcY.ofNi' (by repeat (first | exact Has.here)) (by first | (simp; done))); (· first | exact oneL_ints _ _); (· first | omega | (simp; done)); (· first | omega | (simp; done)); (· repeat (first | exact Drop.here | apply Drop.there)); (· first | omega | (simp; done)); (· first | exact ints_append _ _ _); intro q35)
    | ((with_reducible apply Sy.appQ (t := 25) (xt := 25)); exact ap25_25 zr5 rfl; exact rfl; exact rfl; exact rfl; (· first | exact SrcY.ofR (by with_reducible assumption) rfl | exact SrcY.ofNi' (by repeat (first | exact Has.here)) (by first | (simp; done))); (· first | exact oneL_ints _ _); (· first | omega | (simp; done)); (· first | omega | (simp; done)); (· repeat (first | exact Drop.here | apply Drop.there)); (· first | omega | (simp; done)); (· first | exact ints_append _ _ _); intro q40)
    | ((with_reducible apply Sy.bin (op := .add) (t := 3)); exact rfl; exact rfl; exact rfl; exact (b_add (by omega)))
    | ((with_reducible apply Sy.bin (op := .add) (t := 3)); exact rfl; exact rfl; exact rfl; exact (bz_add (by omega) (by omega)))
    | ((with_reducible apply Sy.callN (k := 126)); exact rfl; exact rfl; exact en126; exact rfl; (intro H' hp; exact c_reight _ (by omega) H'); rintro hq34 -)
    | ((with_reducible apply Sy.drawL (id := 8) 15 [(12, 7), (12, 8)] (fun hi h => h = pb)); (case hp => kernel_rfl); (case hN => exact rfl); intro base hbase hM)
    | ((with_reducible apply Sy.dld); (case hw => first | exact wantY_none); (case hx => exact rfl); (case hb => exact rfl); (case h2 => exact rfl))
    | ((with_reducible apply Sy.dwr (SK := [(pb, .cells pc Tp w)])); (case hw => first | exact wantY_none); (case hc => intro hcls; cases hcls); (case h1 => exact rfl); (case hS => intro h hh; subst hh; exact ⟨_, List.mem_singleton.2 rfl⟩); (case hk => exact .cons0 hgp rfl (by simp) .nil))
    | ((with_reducible apply Sy.dand); (case hk => exact .cons0 hgp rfl (by simp) .nil))
    | (with_reducible refine Sy.skip ?_)
    | (with_reducible refine Sy.block ?_)
    | (with_reducible refine Sy.inrm ?_)
    | (with_reducible refine Sy.dend ?_)
    | ((with_reducible apply Sy.dld); (· first | exact wantY_none); exact rfl; (· first | omega | exact rfl); exact rfl)
    | ((with_reducible apply Sy.ite); (case hx => exact rfl); all_goals (intro hc; try (exfalso; omega))))
      refine Sy.rnrm (i + 1, q18) (by omega) (by omega) ?_ ?_
      · simp only [hdone, List.length_append, be64_length, List.length_nil]; exact ⟨rfl, rfl, rfl, trivial⟩
      · intro H h; simp only [hdone]; exact h.less (List.Sublist.cons_cons _ (List.nil_sublist _))
  · obtain rfl : i = np := by omega
    rw [List.take_of_length_le (by omega)]
    repeat' (first
    | (with_reducible refine Sy.seq ?_)
    | (with_reducible refine Sy.regionL ?_)
    | (with_reducible refine Sy.opsnil ?_)
    | (with_reducible refine Sy.go ?_)
    | (with_reducible refine Sy.nrm ?_)
    | ((with_reducible apply Sy.assign); exact rfl; exact rfl)
    | ((with_reducible apply Sy.move); exact rfl; exact rfl)
    | ((with_reducible apply Sy.lenS); exact rfl; exact Tryd.underlying113; exact rfl)
    | ((with_reducible apply Sy.bin (op := .lss) (t := 3)); exact rfl; exact rfl; exact rfl; exact b_lss)
    | ((with_reducible apply Sy.bin (op := .lss) (t := 3)); exact rfl; exact rfl; exact rfl; exact bz_lss)
    | ((with_reducible apply Sy.lenS); exact rfl; exact Tryd.underlying25; exact rfl)
    | (with_reducible refine Sy.exit ?_)
    | (with_reducible refine Sy.ret ?_)
    | (with_reducible refine Sy.aex ?_)
    | ((with_reducible apply Sy.iex); exact rfl)
    | (with_reducible refine Sy.rex ?_)
    | ((with_reducible apply Sy.ite); (case hx => exact rfl); all_goals (intro hc; try (exfalso; omega))))
    exact .fin [_] (.inr rfl) ⟨rfl, trivial⟩ fun H' hp => ⟨b, trivial, rfl, hp⟩

theorem k_rSum {H : AHeap} {b o n cp : Nat} {lb : List Nat} {Tb : TypeId} {wb : Bool} (hgb : H.get b = .cells (ints .u8 lb) Tb wb) (hlb : o + n ≤ lb.length) (h256 : ∀ x ∈ lb, x < 256) (hn : n < 1000000000000) :
    CallR Tryd.prog noPrims 104 [.slice (some ⟨b, o, none⟩) n cp] H (fun v H' => v = hV (sha ((lb.drop o).take n)) ∧ Hp H 0 0 H' [] []) := c_rSum b o n cp lb _ Tb wb H hgb hlb h256 hn rfl

theorem c_rTagged (s : ByteArray) (hs0 : 0 < s.size) (hs : s.size ≤ 255) (pb np cp : Nat) (pc : List Value) (Tp : TypeId) (w : Bool) (H : AHeap) (hgp : H.get pb = .cells pc Tp w) (ps : List (List Nat)) (hps : ps.length = np) (hn2 : np < 1000000)
    (hrd : ∀ (i : Nat) (p : List Nat), ps[i]? = some p → ∃ x, pc[i]? = some x ∧ SlR H 1 x p.length (ints .u8 p)) (hbd : ∀ i, (frameN (bytesOf s) (ps.take i)).length < 1000000000) (hbp : ∀ p ∈ ps, p.length < 1000000000) (h256 : ∀ p ∈ ps, ∀ x ∈ p, x < 256) :
    CallR Tryd.prog noPrims 59 [.string s, .slice (some ⟨pb, 0, none⟩) np cp] H (fun v H' => v = hV (sha (frameN (bytesOf s) ps)) ∧ Hp H 0 0 H' [] []) := by
  have hfl : (frameN (bytesOf s) ps).length < 1000000000 := by have := hbd ps.length; rwa [List.take_of_length_le (Nat.le_refl _)] at this
  have hf256 := frameN_lt (tag := bytesOf s) (ps := ps) (by rw [bytesOf_length]; omega) (bytesOf_lt s) h256
  refine CallR.sy (n := 9) Tryd.func59 rfl rfl rfl ?_
  repeat' (first
    | (with_reducible refine Sy.seq ?_)
    | (with_reducible refine Sy.regionL ?_)
    | (with_reducible refine Sy.opsnil ?_)
    | (with_reducible refine Sy.go ?_)
    | (with_reducible refine Sy.nrm ?_)
    | ((with_reducible apply Sy.move); exact rfl; exact rfl)
    | ((with_reducible apply Sy.stNa (t := 44)); exact rfl; exact rfl; exact sz44; (· first | exact hC_length _ | (simp; done)); (· first | exact hC_one _); exact turnT; (· first | (simp; done)); (· first | exact lay_all (by first | (simp; done))))
    | ((with_reducible apply Sy.callN (k := 105)); exact rfl; exact rfl; exact en105; exact rfl; (intro H' hp; exact c_rFrame s hs0 hs pb np cp pc Tp w H' (hp.get0 hgp rfl (by simp)) ps hps hn2 (fun i p h => by obtain ⟨x, h1, h2⟩ := hrd i p h; exact ⟨x, h1, h2.of hp⟩) hbd hbp); rintro q7 -)
    | ((with_reducible apply Sy.call0 (k := 104)); exact rfl; exact rfl; exact en104; exact rfl; (intro H' hp; exact k_rSum (hp.getN (by repeat (first | exact Has.here | apply Has.there | apply Has.app))) (by simp) hf256 (by omega)))
    | ((with_reducible apply Sy.newY (o := ⟨some 4, .alloc 44, _, _, _, _⟩)); exact rfl; exact rfl; exact nwz44; intro q4)
    | (with_reducible refine Sy.ret ?_))
  rw [List.drop_zero, List.take_of_length_le (Nat.le_refl _)]
  repeat' (first
      | (with_reducible refine Sy.seq ?_)
      | (with_reducible refine Sy.regionL ?_)
      | (with_reducible refine Sy.opsnil ?_)
      | (with_reducible refine Sy.go ?_)
      | (with_reducible refine Sy.nrm ?_)
      | ((with_reducible apply Sy.move); exact rfl; exact rfl)
      | ((with_reducible apply Sy.stNa (t := 44)); exact rfl; exact rfl; exact sz44; (· first | exact hC_length _ | exact rfl | (simp; done) | (simp; omega)); (· first | exact hC_one _ | exact oneL_ints _ _ | exact rfl | (simp [oneL_append, oneL_cons, oneL_nil, hC_one, oneL_ints]; done)); exact turnT; (· first | (simp; done) | omega | (simp; omega)); (· first | with_reducible exact set191 | exact lay_all (by first | (simp; done) | exact rfl) | exact lay_here (by first | (simp; done) | exact rfl) | exact rfl | (simp [List.drop_append, List.take_append, List.getElem?_append, lay, hC_length, ints_length, ints_drop, ints_take, ints_append, List.drop_of_length_le, List.take_of_length_le, List.map_append, List.set_append, Value.cells]; done)))
      | ((with_reducible apply Sy.stOa (t := 44)); exact rfl; exact rfl; exact sz44; (· first | exact hC_length _ | exact rfl | (simp; done) | (simp; omega)); (· first | exact hC_one _ | exact oneL_ints _ _ | exact rfl | (simp [oneL_append, oneL_cons, oneL_nil, hC_one, oneL_ints]; done)); exact turnT; (· first | (simp; done) | omega | (simp; omega)); (· first | with_reducible exact set191 | exact lay_all (by first | (simp; done) | exact rfl) | exact lay_here (by first | (simp; done) | exact rfl) | exact rfl | (simp [List.drop_append, List.take_append, List.getElem?_append, lay, hC_length, ints_length, ints_drop, ints_take, ints_append, List.drop_of_length_le, List.take_of_length_le, List.map_append, List.set_append, Value.cells]; done)))
      | ((with_reducible apply Sy.st0a (t := 44)); exact rfl; exact rfl; exact sz44; (· first | exact hC_length _ | exact rfl | (simp; done) | (simp; omega)); (· first | exact hC_one _ | exact oneL_ints _ _ | exact rfl | (simp [oneL_append, oneL_cons, oneL_nil, hC_one, oneL_ints]; done)); (· with_reducible assumption); exact notM; (· first | (simp; done) | omega | (simp; omega)); (· first | with_reducible exact set191 | exact lay_all (by first | (simp; done) | exact rfl) | exact lay_here (by first | (simp; done) | exact rfl) | exact rfl | (simp [List.drop_append, List.take_append, List.getElem?_append, lay, hC_length, ints_length, ints_drop, ints_take, ints_append, List.drop_of_length_le, List.take_of_length_le, List.map_append, List.set_append, Value.cells]; done)))
      | ((with_reducible apply Sy.newY (o := ⟨some 4, .alloc 44, _, _, _, _⟩)); exact rfl; exact rfl; exact nwz44; intro q4)
      | (with_reducible refine Sy.skip ?_)
      | (with_reducible refine Sy.exit ?_)
      | (with_reducible refine Sy.ret ?_)
      | (with_reducible refine Sy.label ?_)
      | (with_reducible refine Sy.block ?_)
      | (with_reducible refine Sy.scope ?_)
      | (with_reducible refine Sy.aex ?_)
      | (with_reducible refine Sy.aret ?_)
      | (with_reducible refine Sy.inrm ?_)
      | (with_reducible refine Sy.iret ?_)
      | ((with_reducible apply Sy.iex); exact rfl)
      | ((with_reducible apply Sy.iex2); exact rfl)
      | (with_reducible refine Sy.snrm ?_)
      | (with_reducible refine Sy.sret ?_)
      | (with_reducible refine Sy.sex ?_)
      | (with_reducible refine Sy.rex ?_)
      | (with_reducible refine Sy.rret ?_)
      | ((with_reducible apply Sy.yes); exact rfl)
      | ((with_reducible apply Sy.no); exact rfl)
      | ((with_reducible apply Sy.ite); (case hx => exact rfl); all_goals (intro hc; try (exfalso; omega)))
      | ((with_reducible apply Sy.iteB); (case hx => exact rfl); all_goals intro hc))
  exact .fin [hV (sha (frameN (bytesOf s) ps))] (.inr rfl) ⟨⟨q4, 0, _, rfl, (by repeat (first | exact Has.here | apply Has.there | apply Has.app)), ld_hV ag44 sz44⟩, trivial⟩ fun H1 hp => ⟨rfl, hp.less (List.nil_sublist _)⟩

end Go.Proofs.YtjimjolfnimimaaDoor
