/- Messages as bytes and back. -/
import Derived.Test.YtcaafoibabijgaaWalkA
import Derived.Test.YtcaafoibabijgaaCodecB
set_option linter.unusedSimpArgs false
set_option linter.unusedVariables false
/- Equal things are equal, without a split. -/
namespace Go.Proofs.Ytcaafoibabijgaa
open Go Go.Am
theorem eqBS {b : Bool} : binV Try.prog .eql 4 (.bool b) (.bool b) = some (.bool true) := by rw [bb_eq kd4]; cases b <;> rfl
end Go.Proofs.Ytcaafoibabijgaa

/- Layer 09: messages as values. -/
namespace Go.Proofs.Ytcaafoibabijgaa
open Go Go.Am
set_option maxRecDepth 100000
set_option linter.unusedVariables false

structure Msg where
  n : Nat
  s : Nat
  t : Nat
  w : Wd
  g : Nat
  d : List Nat
structure Msg.ok (m : Msg) : Prop where
  n : m.n < 18446744073709551616
  s : m.s < 18446744073709551616
  t : m.t < 18446744073709551616
  g : m.g < 18446744073709551616
  d : ∀ x ∈ m.d, x < 256
def msgC (m : Msg) (v : Value) : List Value := .int .u64 ((m.n : Nat) : Int) :: .int .u64 ((m.s : Nat) : Int) :: .int .u64 ((m.t : Nat) : Int) :: (wC m.w ++ [.int .u64 ((m.g : Nat) : Int), v])
abbrev msgV (m : Msg) (v : Value) : Value := .agg ⟨msgC m v⟩
@[simp] theorem msgC_length (m : Msg) (v : Value) : (msgC m v).length = 9 := by simp [msgC]
theorem msgC_g (m : Msg) (v : Value) : (msgC m v)[7]? = some (.int .u64 ((m.g : Nat) : Int)) := by simp [msgC, List.getElem?_append]
theorem msgC_d (m : Msg) (v : Value) : (msgC m v)[8]? = some v := by simp [msgC, List.getElem?_append]
theorem oneI {k : IntKind} {z : Int} : (Value.int k z).oneCell' = true := rfl
theorem msgC_one (m : Msg) (v : Value) (h : v.oneCell' = true) : oneL (msgC m v) = true := by simp only [msgC, oneL_cons, oneL_append, wC_one, oneL_nil, oneI, h]; rfl
@[simp] theorem msgC_oneS (m : Msg) (a : Option Addr) (k c : Nat) : oneL (msgC m (.slice a k c)) = true := msgC_one m _ rfl
section
variable {m : Msg} {v : Value} {T : TypeId} {b : Bool}
theorem ld_mall : aLoad Try.prog 57 (.cells (msgC m v) T b) 0 = some (msgV m v) := load_all ag57 sz57 (by simp)
theorem ld_rmall : aLoad Try.prog 66 (.cells (msgC m v) T b) 0 = some (msgV m v) := load_all ag66 sz66 (by simp)
end
theorem MsgN.cut_kids {m : Msg} {v : Value} : (List.drop (0 + 3) (msgC m v)).take 4 = wC m.w := by
  show (wC m.w ++ [.int .u64 ((m.g : Nat) : Int), v]).take 4 = _
  rw [← wC_length m.w, List.take_left]
theorem fill_msg (m : Msg) (v : Value) (hv : v.cells.toList = [v]) : fillL (plc [(0, 1), (1, 1), (2, 1), (3, 4), (7, 1), (8, 1)]) ([.int .u64 ((0 : Nat) : Int), .int .u64 ((0 : Nat) : Int), .int .u64 ((0 : Nat) : Int)] ++ (ints .u64 (List.replicate 4 0) ++ ([.int .u64 ((0 : Nat) : Int), .slice none 0 0])))
    [(0, .int .u64 ((m.n : Nat) : Int)), (1, .int .u64 ((m.s : Nat) : Int)), (2, .int .u64 ((m.t : Nat) : Int)), (3, wV m.w), (4, .int .u64 ((m.g : Nat) : Int)), (5, v)] = some (msgC m v) := by
  obtain ⟨n, s, t, ⟨l, hl, hlt⟩, g, d⟩ := m
  match l, hl, hlt with
  | [x1, x2, x3, x4], hl, hlt => 
    have e1 : ∀ z : Int, (Value.int .u64 z).cells.toList = [.int .u64 z] := fun _ => rfl
    have e2 : (wV ⟨[x1, x2, x3, x4], hl, hlt⟩).cells.toList = wC ⟨[x1, x2, x3, x4], hl, hlt⟩ := rfl
    simp [fillL, plc, lay, hv, e1, e2, msgC, wC, ints]
theorem bvMsg {m : Msg} {v : Value} (hv : v.cells.toList = [v]) : buildV Try.prog 57 [(0, .int .u64 ((m.n : Nat) : Int)), (1, .int .u64 ((m.s : Nat) : Int)), (2, .int .u64 ((m.t : Nat) : Int)), (3, wV m.w), (4, .int .u64 ((m.g : Nat) : Int)), (5, v)] = some (msgV m v) := bv57 (fill_msg m v hv)
theorem bvRMsg {m : Msg} {v : Value} (hv : v.cells.toList = [v]) : buildV Try.prog 66 [(0, .int .u64 ((m.n : Nat) : Int)), (1, .int .u64 ((m.s : Nat) : Int)), (2, .int .u64 ((m.t : Nat) : Int)), (3, wV m.w), (4, .int .u64 ((m.g : Nat) : Int)), (5, v)] = some (msgV m v) := bv66 (fill_msg m v hv)
def zeroM : Msg := ⟨0, 0, 0, zeroW, 0, []⟩
def rightMB (m : Msg) : Bool := decide (m.g ≤ 65536) && decide (m.d.length ≤ 64)

theorem c_right (m : Msg) (a : Option Addr) (c : Nat) (H : AHeap) (hg : m.g < 18446744073709551616) (hl : m.d.length < 9223372036854775808) : CallR Try.prog noPrims 87 [msgV m (.slice a m.d.length c)] H (fun u H' => u = .bool (rightMB m) ∧ Hp H 0 0 H' [] []) := by
  have hmg := msgC_g m (.slice a m.d.length c)
  have hmd := msgC_d m (.slice a m.d.length c)
  refine CallR.sy (n := 12) Try.func87 rfl rfl rfl ?_
  repeat' (first
    | (with_reducible refine Sy.seq ?_)
    | (with_reducible refine Sy.regionL ?_)
    | (with_reducible refine Sy.opsnil ?_)
    | (with_reducible refine Sy.go ?_)
    | (with_reducible refine Sy.nrm ?_)
    | ((with_reducible apply Sy.assign); exact rfl; exact rfl)
    | ((with_reducible apply Sy.fa (t := 57) (i := 4)); exact rfl; exact rfl; exact fa57_4 _ _)
    | ((with_reducible apply Sy.ldN (t := 53)); exact rfl; exact rfl; exact hasT; (· first | exact ld_one ag53 (by with_reducible assumption)))
    | ((with_reducible apply Sy.bin (op := .leq) (t := 53)); exact rfl; exact rfl; exact rfl; exact b_leq)
    | ((with_reducible apply Sy.bin (op := .leq) (t := 53)); exact rfl; exact rfl; exact rfl; exact bz_leq)
    | ((with_reducible apply Sy.move); exact rfl; exact rfl)
    | ((with_reducible apply Sy.fa (t := 57) (i := 5)); exact rfl; exact rfl; exact fa57_5 _ _)
    | ((with_reducible apply Sy.ldN (t := 23)); exact rfl; exact rfl; exact hasT; (· first | exact ld_one ag23 (by with_reducible assumption)))
    | ((with_reducible apply Sy.lenS); exact rfl; exact Try.underlying23; exact rfl)
    | ((with_reducible apply Sy.bin (op := .leq) (t := 3)); exact rfl; exact rfl; exact rfl; exact b_leq)
    | ((with_reducible apply Sy.bin (op := .leq) (t := 3)); exact rfl; exact rfl; exact rfl; exact bz_leq)
    | ((with_reducible apply Sy.pickT); exact rfl; exact rfl; exact rfl)
    | ((with_reducible apply Sy.pickF); exact rfl; exact rfl; exact rfl)
    | ((with_reducible apply Sy.newY (o := ⟨some 1, .box 57 _, _, _, _, _⟩)); exact rfl; exact rfl; exact nbA rfl; intro q1)
    | (with_reducible refine Sy.ret ?_)
    | ((with_reducible apply Sy.goG); exact rfl; exact rfl; exact rfl)
    | ((with_reducible apply Sy.noG); exact rfl; exact rfl; exact rfl; exact rfl; exact rfl)
    | ((with_reducible apply Sy.caseG); (case hj => exact rfl); (case hx => exact rfl); all_goals (intro hc; try (exfalso; omega))))
  all_goals exact .fin [_] (.inr rfl) ⟨rfl, trivial⟩ fun H' hp => ⟨by show tupV [_] = _; simp only [tupV]; simp_all [rightMB] <;> omega, hp.less (List.nil_sublist _)⟩
end Go.Proofs.Ytcaafoibabijgaa

/- Layer 09: Message.put. -/
namespace Go.Proofs.Ytcaafoibabijgaa
open Go Go.Am
set_option maxRecDepth 100000
set_option linter.unusedVariables false

def msgB (m : Msg) : List Nat := u64s [m.n, m.s, m.t] ++ (be256 m.w ++ (be64 m.g ++ blobN m.d))
end Go.Proofs.Ytcaafoibabijgaa

/- Layer 09: a message out of a reader. -/
namespace Go.Proofs.Ytcaafoibabijgaa
open Go Go.Am
set_option maxRecDepth 100000
set_option linter.unusedVariables false

def rdM (r : Rd) : Msg × Rd := (⟨rdU r, rdU (r.next 8), rdU ((r.next 8).next 8), rdW (((r.next 8).next 8).next 8), rdU ((((r.next 8).next 8).next 8).next 32), (rdBlob (((((r.next 8).next 8).next 8).next 32).next 8)).1⟩, (rdBlob (((((r.next 8).next 8).next 8).next 32).next 8)).2)
set_option maxHeartbeats 1000000 in
theorem k_message {p c : Nat} {lb : List Nat} {r : Rd} {v : Value} {H : AHeap} (h : RdAt H p c lb r v) :
    CallR Try.prog noPrims 97 [.pointer (some ⟨p, 0, none⟩)] H (fun u H' => ∃ i : Value × Value, (Vw c lb i.1 (rdM r).2.l ∧ Vw c lb i.2 (rdM r).1.d) ∧ u = msgV (rdM r).1 i.2 ∧ Hp H 0 0 H' [(p, .cells (rdC i.1 (rdM r).2.e) 127 true)] []) := by
  have hplt := h.lt
  refine CallR.sy (n := 16) Try.func97 rfl rfl rfl ?_
  repeat' (first
    | (with_reducible refine Sy.seq ?_)
    | (with_reducible refine Sy.regionL ?_)
    | (with_reducible refine Sy.opsnil ?_)
    | (with_reducible refine Sy.go ?_)
    | (with_reducible refine Sy.nrm ?_)
    | ((with_reducible apply Sy.move); exact rfl; exact rfl)
    | ((with_reducible apply Sy.callTX (k := 53)); exact rfl; exact rfl; exact en53; exact rfl; (case hc => intro H' hp; exact k_rdUint (h.of hp (List.forall_mem_nil _))); exact hplt; exact notM; rintro v1 h1)
    | ((with_reducible apply Sy.callTO (k := 53)); exact rfl; exact rfl; exact en53; exact rfl; (case hc => intro H' hp; exact k_rdUint (h.o1 (r := r.next 8) hp h1)); (intro i; exact turnT); rintro v2 h2)
    | ((with_reducible apply Sy.callTO (k := 53)); exact rfl; exact rfl; exact en53; exact rfl; (case hc => intro H' hp; exact k_rdUint (h.o1 (r := (r.next 8).next 8) hp h2)); (intro i; exact turnT); rintro v3 h3)
    | ((with_reducible apply Sy.callTO (k := 64)); exact rfl; exact rfl; exact en64; exact rfl; (case hc => intro H' hp; exact k_rdWide (h.o1 (r := ((r.next 8).next 8).next 8) hp h3)); (intro i; exact turnT); rintro v4 h4)
    | ((with_reducible apply Sy.callTO (k := 53)); exact rfl; exact rfl; exact en53; exact rfl; (case hc => intro H' hp; exact k_rdUint (h.o1 (r := (((r.next 8).next 8).next 8).next 32) hp h4)); (intro i; exact turnT); rintro v5 h5)
    | ((with_reducible apply Sy.callTO (k := 65)); exact rfl; exact rfl; exact en65; exact rfl; (case hc => intro H' hp; exact k_rdBlob (h.o1 (r := ((((r.next 8).next 8).next 8).next 32).next 8) hp h5)); (intro i; exact turnT); rintro ⟨v6, u6⟩ ⟨h6, h7⟩)
    | ((with_reducible apply Sy.newY (o := ⟨some 2, .alloc 57, _, _, _, _⟩)); exact rfl; exact rfl; exact nwz57; intro q2))
  dsimp only at h6 h7
  obtain ⟨ua, uc, rfl⟩ := h7.slice
  refine Sy.build (t := 57) rfl rfl (bvMsg (m := (rdM r).1)  h7.one.1) ?_
  repeat' (first
    | (with_reducible refine Sy.opsnil ?_)
    | (with_reducible refine Sy.go ?_)
    | (with_reducible refine Sy.nrm ?_)
    | ((with_reducible apply Sy.stNa (t := 57)); exact rfl; exact rfl; exact sz57; (· first | exact rfl | (simp; done)); (· first | exact rfl); exact turnT; (· first | (simp; done)); (· first | exact lay_all (by first | (simp; done)) | exact rfl))
    | (with_reducible refine Sy.ret ?_))
  exact .fin [_] (.inr rfl) ⟨⟨_, _, _, rfl, (by repeat (first | exact Has.here | apply Has.there | apply Has.app)), ld_mall⟩, trivial⟩ fun H' hp => ⟨(v6, _), ⟨h6, h7⟩, rfl, hp.less (List.nil_sublist _)⟩
end Go.Proofs.Ytcaafoibabijgaa

/- Layer 09: the program's GetMessage. -/
namespace Go.Proofs.Ytcaafoibabijgaa
open Go Go.Am
set_option maxRecDepth 100000
set_option linter.unusedVariables false

theorem mf87 : mfun Try.prog 57 "bascule/message.right" = some 87 := by kernel_rfl
theorem k_doneM {p c : Nat} {lb : List Nat} {r : Rd} {v : Value} {m : Msg} {a : Option Addr} {k : Nat} {H : AHeap} (h : RdAt H p c lb r v) (hg : m.g < 18446744073709551616) (hl : m.d.length < 9223372036854775808) :
    CallR Try.prog noPrims 57 [.pointer (some ⟨p, 0, none⟩), .iface 57 (msgV m (.slice a m.d.length k))] H (fun u H' => u = .bool (decide (rdDone r = 0) && rightMB m) ∧ Hp H 0 0 H' [] []) := by
  refine CallR.sy (n := 12) Try.func57 rfl rfl rfl ?_
  repeat' (first
    | (with_reducible refine Sy.seq ?_)
    | (with_reducible refine Sy.regionL ?_)
    | (with_reducible refine Sy.opsnil ?_)
    | (with_reducible refine Sy.go ?_)
    | (with_reducible refine Sy.nrm ?_)
    | ((with_reducible apply Sy.assign); exact rfl; exact rfl)
    | ((with_reducible apply Sy.move); exact rfl; exact rfl)
    | ((with_reducible apply Sy.bin (op := .eql) (t := 27)); exact rfl; exact rfl; exact rfl; exact b_eql)
    | ((with_reducible apply Sy.bin (op := .eql) (t := 27)); exact rfl; exact rfl; exact rfl; exact bz_eql)
    | ((with_reducible apply Sy.pickT); exact rfl; exact rfl; exact rfl)
    | ((with_reducible apply Sy.pickF); exact rfl; exact rfl; exact rfl)
    | ((with_reducible apply Sy.call0 (k := 66)); exact rfl; exact rfl; exact en66; exact rfl; (intro H' hp; exact k_rdDone (h.of hp (List.forall_mem_nil _))))
    | ((with_reducible apply Sy.inv0 (k := 87)); exact rfl; exact rfl; exact mf87; exact en87; exact rfl; (intro H' hp; exact c_right m a k H' hg hl))
    | (with_reducible refine Sy.ret ?_)
    | ((with_reducible apply Sy.goG); exact rfl; exact rfl; exact rfl)
    | ((with_reducible apply Sy.noG); exact rfl; exact rfl; exact rfl; exact rfl; exact rfl)
    | ((with_reducible apply Sy.caseG); (case hj => exact rfl); (case hx => exact rfl); all_goals (intro hc; try (exfalso; omega))))
  all_goals exact .fin [_] (.inr rfl) ⟨rfl, trivial⟩ fun H' hp => ⟨by show tupV [_] = _; simp [tupV, hc], hp⟩
theorem Rd.next_lt {r : Rd} {k : Nat} (h : ∀ x ∈ r.l, x < 256) : ∀ x ∈ (r.next k).l, x < 256 := by
  unfold Rd.next; split
  · exact fun x hx => h x (List.mem_of_mem_drop hx)
  · exact h
theorem rdBlob_lt {r : Rd} (h : ∀ x ∈ r.l, x < 256) : (∀ x ∈ (rdBlob r).1, x < 256) ∧ (∀ x ∈ (rdBlob r).2.l, x < 256) ∧ (rdBlob r).1.length ≤ r.l.length := by
  have hn := Rd.next_lt (k := 8) h
  have hl := next_len (r := r) (k := 8)
  unfold rdBlob
  split
  · exact ⟨by simp, h, by simp⟩
  split
  · exact ⟨by simp, h, by simp⟩
  split
  · refine ⟨fun x hx => hn x (List.mem_of_mem_take hx), fun x hx => hn x (List.mem_of_mem_drop hx), ?_⟩
    show ((r.next 8).l.take (rdU r)).length ≤ _
    rw [List.length_take]; omega
  · exact ⟨by simp, h, by simp⟩
theorem rdM_ok {r : Rd} (h : ∀ x ∈ r.l, x < 256) : (rdM r).1.ok ∧ (rdM r).1.d.length ≤ r.l.length := by
  have h1 := Rd.next_lt (k := 8) h
  have h2 := Rd.next_lt (k := 8) h1
  have h3 := Rd.next_lt (k := 8) h2
  have h4 := Rd.next_lt (k := 32) h3
  have h5 := Rd.next_lt (k := 8) h4
  have l1 := next_len (r := r) (k := 8)
  have l2 := next_len (r := r.next 8) (k := 8)
  have l3 := next_len (r := (r.next 8).next 8) (k := 8)
  have l4 := next_len (r := ((r.next 8).next 8).next 8) (k := 32)
  have l5 := next_len (r := (((r.next 8).next 8).next 8).next 32) (k := 8)
  have b := rdBlob_lt h5
  exact ⟨⟨rdU_lt h, rdU_lt h1, rdU_lt h2, rdU_lt h4, b.1⟩, by have := b.2.2; show (rdBlob _).1.length ≤ _; omega⟩
def getM (l : List Nat) : Msg × Nat := if rdDone (rdM ⟨l, 0⟩).2 = 0 ∧ rightMB (rdM ⟨l, 0⟩).1 = true then ((rdM ⟨l, 0⟩).1, 0) else (zeroM, 21)
set_option maxHeartbeats 1000000 in
theorem k_GetMessage (v : Value) (l : List Nat) (H : AHeap) (hv : SlR H 1 v l.length (ints .u8 l)) (h256 : ∀ x ∈ l, x < 256) (hl : l.length ≤ 140737488355328) :
    CallR Try.prog noPrims 96 [v] H (fun u H' => ∃ i : Nat × Value, Vw i.1 l i.2 (getM l).1.d ∧ u = .tuple ⟨[msgV (getM l).1 i.2, .int .i64 (((getM l).2 : Nat) : Int)]⟩ ∧ Hp H 0 0 H' [] (bufM l i.1)) := by
  have hok := rdM_ok (r := ⟨l, 0⟩) h256
  have hgm := msgC_g
  refine CallR.sy (n := 16) Try.func96 rfl rfl rfl ?_
  repeat' (first
    | (with_reducible refine Sy.seq ?_)
    | (with_reducible refine Sy.regionL ?_)
    | (with_reducible refine Sy.opsnil ?_)
    | (with_reducible refine Sy.go ?_)
    | (with_reducible refine Sy.nrm ?_)
    | ((with_reducible apply Sy.assign); exact rfl; exact rfl)
    | ((with_reducible apply Sy.move); exact rfl; exact rfl)
    | ((with_reducible apply Sy.callN (k := 52)); exact rfl; exact rfl; exact en52; exact rfl; (intro H' hp; exact k_NewReader v l H' (hv.of hp) hl); rintro ⟨p, c, v1⟩ h1)
    | ((with_reducible apply Sy.newY (o := ⟨some 2, .alloc 57, _, _, _, _⟩)); exact rfl; exact rfl; exact nwz57; intro q2)
    | ((with_reducible apply Sy.newY (o := ⟨some 5, .alloc 57, _, _, _, _⟩)); exact rfl; exact rfl; exact nwz57; intro q5))
  dsimp only at h1 ⊢
  rw [List.cons_append]
  repeat' (first
    | (with_reducible refine Sy.go ?_)
    | ((with_reducible apply Sy.callTN (k := 97)); exact rfl; exact rfl; exact en97; exact rfl; (case hc => intro H' hp; exact k_message (RdAt.new (c := c) hp .here (fun hx => .there (bufM_has hx)) h1 h256 hl)); (intro i; exact turnT); rintro ⟨v2, u2⟩ ⟨h2, h3⟩)
    | ((with_reducible apply Sy.newY (o := ⟨some 2, .alloc 57, _, _, _, _⟩)); exact rfl; exact rfl; exact nwz57; intro q2)
    | ((with_reducible apply Sy.newY (o := ⟨some 5, .alloc 57, _, _, _, _⟩)); exact rfl; exact rfl; exact nwz57; intro q5))
  dsimp only at h2 h3
  have hG : getM l = if rdDone (rdM ⟨l, 0⟩).2 = 0 ∧ rightMB (rdM ⟨l, 0⟩).1 = true then ((rdM ⟨l, 0⟩).1, 0) else (zeroM, 21) := rfl
  generalize rdM ⟨l, 0⟩ = M at hok h2 h3 hG ⊢
  obtain ⟨m, r⟩ := M
  dsimp only at hok h2 h3 hG ⊢
  generalize getM l = G at hG ⊢
  subst hG
  obtain ⟨ua, uc, rfl⟩ := h3.slice
  repeat' (first
    | (with_reducible refine Sy.seq ?_)
    | (with_reducible refine Sy.regionL ?_)
    | (with_reducible refine Sy.opsnil ?_)
    | (with_reducible refine Sy.go ?_)
    | (with_reducible refine Sy.nrm ?_)
    | ((with_reducible apply Sy.move); exact rfl; exact rfl)
    | ((with_reducible apply Sy.stNa (t := 57)); exact rfl; exact rfl; exact sz57; (· first | (simp; done)); (· first | (simp [oneL_append, oneL_cons, oneL_nil, hC_one, oneL_ints]; done)); exact turnT; (· first | (simp; done)); (· first | exact lay_all (by first | (simp; done))))
    | ((with_reducible apply Sy.ldN (t := 57)); exact rfl; exact rfl; exact hasT; (· first | exact ld_all ag57 (by first | (simp [sz57, *]; done))))
    | ((with_reducible apply Sy.iface); exact rfl; exact rfl; exact if57))
  rw [List.nil_append]
  repeat' (first
    | (with_reducible refine Sy.seq ?_)
    | (with_reducible refine Sy.regionL ?_)
    | (with_reducible refine Sy.opsnil ?_)
    | (with_reducible refine Sy.go ?_)
    | (with_reducible refine Sy.nrm ?_)
    | ((with_reducible apply Sy.assign); exact rfl; exact rfl)
    | ((with_reducible apply Sy.stNa (t := 57)); exact rfl; exact rfl; exact sz57; (· first | exact rfl | (simp; done)); (· first | exact rfl | (simp [oneL_append, oneL_cons, oneL_nil, hC_one, oneL_ints]; done)); exact turnT; (· first | (simp; done)); (· first | exact lay_all (by first | (simp; done)) | exact rfl))
    | ((with_reducible apply Sy.ldN (t := 57)); exact rfl; exact rfl; exact hasT; (· first | exact ld_all ag57 (by first | (simp [sz57, *]; done))))
    | ((with_reducible apply Sy.build (t := 57)); exact rfl; exact rfl; (· exact (bv57 (by first | rfl))))
    | ((with_reducible apply Sy.call0 (k := 57)); exact rfl; exact rfl; exact en57; exact rfl; (intro H' hp; exact k_doneM (RdAt.n1 (r := r) (c := c) hp (.there .here) h2 (fun hx => .there (.there (bufM_has hx))) h256 hl) hok.1.g (by have := hok.2; omega)))
    | (with_reducible refine Sy.skip ?_)
    | (with_reducible refine Sy.ret ?_)
    | (with_reducible refine Sy.aret ?_)
    | ((with_reducible apply Sy.iteB); (case hx => exact rfl); all_goals intro hc))
  · have hc' : rdDone r = 0 ∧ rightMB m = true := by simpa using hc
    rw [if_pos hc']
    exact .fin [_, _] (.inr rfl) ⟨⟨_, _, _, rfl, (by repeat (first | exact Has.here | apply Has.there | apply Has.app)), ld_mall⟩, rfl, trivial⟩ fun H' hp => ⟨(c, _), h3, rfl, hp.less (.cons _ (.cons _ (List.sublist_append_left _ _)))⟩
  · have hc' : ¬ (rdDone r = 0 ∧ rightMB m = true) := fun x => by simp [x.1, x.2] at hc
    rw [if_neg hc']
    refine .fin [msgV zeroM (.slice none 0 0), _] (.inr rfl) ⟨⟨_, _, _, rfl, (by repeat (first | exact Has.here | apply Has.there | apply Has.app)), load_all ag57 sz57 rfl⟩, rfl, trivial⟩ fun H' hp => ⟨(c, .slice none 0 0), .inl ⟨rfl, rfl⟩, rfl, hp.less (.cons _ (.cons _ (List.sublist_append_left _ _)))⟩
end Go.Proofs.Ytcaafoibabijgaa

/- Layer 09: the program's PutMessage. -/
namespace Go.Proofs.Ytcaafoibabijgaa
open Go Go.Am
set_option maxRecDepth 100000
set_option linter.unusedVariables false

theorem WrOut.hp0 {H0 H H' : AHeap} {lo hi p : Nat} {Mn : Hm} {l' : List Nat} {o : AObj} (hp : Hp H0 lo hi H [] Mn) (hm : Has Mn p o) (hJ : WrOut H H' p 0 [] l') : Hp H0 0 0 H' [] [] := by
  obtain ⟨q, _, k, _⟩ := hJ
  have hg := (hp.new_lt hm).1
  have h1 : Kp (fun _ => False) H0 H := Kp.of hp (by simp)
  have h2 : Kp (fun h => h = p) H0 H' := (h1.mono (S1 := fun h => h = p) (fun _ x => x.elim)).trans k (fun h hh hw => by
    rcases hw with rfl | ⟨_, x⟩
    · rfl
    · exact absurd rfl x)
  exact h2.hp fun h hh e => by omega
end Go.Proofs.Ytcaafoibabijgaa

/- Layer 09: the reference's bytes of a message. -/
namespace Go.Proofs.Ytcaafoibabijgaa
open Go Go.Am
set_option maxRecDepth 100000
set_option linter.unusedVariables false

end Go.Proofs.Ytcaafoibabijgaa

/- Layer 09: the reference's PutMessage and its message out of a reader. -/
namespace Go.Proofs.Ytcaafoibabijgaa
open Go Go.Am
set_option maxRecDepth 100000
set_option linter.unusedVariables false

theorem wC_nil {w : Wd} : ∃ a b c d, wC w = [a, b, c, d] := by
  match h : wC w, wC_length w with
  | [a, b, c, d], _ => exact ⟨a, b, c, d, rfl⟩
theorem MsgN.hC_set (n s t : Nat) {g : Nat} {w : Wd} {v : Value} : (msgC ⟨n, s, t, w, 0, []⟩ v).set (0 + 7) (.int .u64 ((g : Nat) : Int)) = msgC ⟨n, s, t, w, g, []⟩ v := by
  obtain ⟨x, y, z, u, e⟩ := wC_nil (w := w)
  simp only [msgC, e]
  rfl
theorem MsgN.ints_set (n s t g : Nat) {w : Wd} {v0 v : Value} : (msgC ⟨n, s, t, w, g, []⟩ v0).set (0 + 8) v = msgC ⟨n, s, t, w, g, []⟩ v := by
  obtain ⟨x, y, z, u, e⟩ := wC_nil (w := w)
  simp only [msgC, e]
  rfl
end Go.Proofs.Ytcaafoibabijgaa

/- Layer 09: the reference's GetMessage. -/
namespace Go.Proofs.Ytcaafoibabijgaa
open Go Go.Am
set_option maxRecDepth 100000
set_option linter.unusedVariables false

end Go.Proofs.Ytcaafoibabijgaa
