/- ProofBack holds for every input. -/
import Derived.Test.YtjimjolfnimimaaDoorCodecB
import Derived.Test.YtjimjolfnimimaaDoorProofC
import Derived.Test.YtjimjolfnimimaaDoorRowA
import Derived.SizedLaws
import Derived.Test.YtjimjolfnimimaaDoorCards
import Derived.Test.YtjimjolfnimimaaDoorTie
set_option linter.unusedSimpArgs false
set_option linter.unusedVariables false
/- Layer 03: what was written is read back. -/
namespace Go.Proofs.YtjimjolfnimimaaDoor
open Go Go.Am
set_option maxRecDepth 100000
set_option linter.unusedVariables false

theorem beV_beP {n : Nat} (hn : n < 18446744073709551616) : ∀ i, i ≤ 8 → beV (beP n i) = n >>> (64 - 8 * i)
  | 0, _ => by
    rw [Nat.shiftRight_eq_div_pow]
    show 0 = n / 2 ^ 64
    omega
  | i + 1, hi => by
    rw [beP, beV_snoc, beV_beP hn i (by omega)]
    have e : 64 - 8 * i = (56 - 8 * i) + 8 := by omega
    have e2 : 64 - 8 * (i + 1) = 56 - 8 * i := by omega
    rw [e, e2, Nat.shiftRight_add, Nat.shiftRight_eq_div_pow _ 8]
    generalize n >>> (56 - 8 * i) = m
    show m / 256 * 256 + m % 256 = m
    omega
theorem beV_be64 {n : Nat} (hn : n < 18446744073709551616) : beV (be64 n) = n := by
  rw [← beP_8, beV_beP hn 8 (by omega)]
  rfl
theorem next_app {x r : List Nat} {k : Nat} (h : x.length = k) : (⟨x ++ r, 0⟩ : Rd).next k = ⟨r, 0⟩ := by
  subst h
  rw [next_ok (by simp), List.drop_left]
theorem got_app {x r : List Nat} {k : Nat} (h : x.length = k) : (⟨x ++ r, 0⟩ : Rd).got k = x := by
  subst h
  rw [got_ok (by simp), List.take_left]
theorem be64_len (n : Nat) : (be64 n).length = 8 := be64_length n
theorem rdU_app {n : Nat} {r : List Nat} (hn : n < 18446744073709551616) : rdU ⟨be64 n ++ r, 0⟩ = n := by
  unfold rdU
  rw [got_app (be64_len n), beV_be64 hn]
theorem next_u {n : Nat} {r : List Nat} : (⟨be64 n ++ r, 0⟩ : Rd).next 8 = ⟨r, 0⟩ := next_app (be64_len n)
theorem rdCnt_app {m n : Nat} {r : List Nat} (hn : n < 18446744073709551616) (hm : n ≤ m) : rdCnt m ⟨be64 n ++ r, 0⟩ = (n, ⟨r, 0⟩) := by
  unfold rdCnt
  rw [next_u, rdU_app hn]
  rw [if_neg (by omega), if_neg (by simp)]
theorem rdH_app {h : Hsh} {r : List Nat} : rdH ⟨h.l ++ r, 0⟩ = h := by
  unfold rdH
  rw [got_app h.len]
  have e := hshOf_l h.len h.lt
  obtain ⟨l, h1, h2⟩ := h
  dsimp only at e
  unfold hshOf at e ⊢
  split
  · rfl
  · rename_i hn; exact absurd ⟨h1, h2⟩ hn
theorem next_h {h : Hsh} {r : List Nat} : (⟨h.l ++ r, 0⟩ : Rd).next 32 = ⟨r, 0⟩ := next_app h.len
end Go.Proofs.YtjimjolfnimimaaDoor

/- Layer 06: steps are read as they were written; the law ProofBack. -/
namespace Go.Proofs.YtjimjolfnimimaaDoor
open Go Go.Am
set_option maxRecDepth 100000
set_option linter.unusedVariables false

theorem hshs_cons (h : Hsh) (l : List Hsh) : hshs (h :: l) = h.l ++ hshs l := by simp [hshs]
theorem rdHs_app (l : List Hsh) (r : List Nat) : ∀ i, i ≤ l.length → rdHs ⟨hshs l ++ r, 0⟩ i = (l.take i, ⟨hshs (l.drop i) ++ r, 0⟩)
  | 0, _ => by simp [rdHs]
  | i + 1, hi => by
    have hx : l[i]? = some l[i] := List.getElem?_eq_getElem hi
    rw [rdHs, rdHs_app l r i (by omega)]
    dsimp only
    rw [List.drop_eq_getElem_cons hi, hshs_cons, List.append_assoc, rdH_app, next_h, List.take_add_one, hx]
    rfl
theorem rdSt_app {s : Stp} {r : List Nat} (hs : s.l.length ≤ 256) : rdSt ⟨stepB s ++ r, 0⟩ = (s.k, ⟨r, 0⟩) := by
  have e : stepB s ++ r = s.key.l ++ (s.old.l ++ (s.mask.l ++ (be64 s.l.length ++ (hshs s.l ++ r)))) := by simp [stepB, hshs, u64s]
  rw [e]
  unfold rdSt
  rw [rdH_app, next_h, rdH_app, next_h, rdH_app, next_h, rdCnt_app (by omega) hs]
  dsimp only
  rw [rdHs_app s.l r _ (Nat.le_refl _)]
  simp [Stp.k, hshs]
def stB (ss : List Stp) : List Nat := (ss.map stepB).flatten
theorem rdSts_app (ss : List Stp) (r : List Nat) (hs : ∀ s ∈ ss, s.l.length ≤ 256) : ∀ i, i ≤ ss.length → rdSts ⟨stB ss ++ r, 0⟩ i = (kS (ss.take i), ⟨stB (ss.drop i) ++ r, 0⟩)
  | 0, _ => by simp [rdSts]
  | i + 1, hi => by
    have hx : ss[i]? = some ss[i] := List.getElem?_eq_getElem hi
    rw [rdSts, rdSts_app ss r hs i (by omega)]
    dsimp only
    have e : stB (ss.drop i) = stepB ss[i] ++ stB (ss.drop (i + 1)) := by rw [List.drop_eq_getElem_cons hi]; unfold stB; rw [List.map_cons, List.flatten_cons]
    rw [e, List.append_assoc, rdSt_app (hs _ (List.getElem_mem hi)), List.take_add_one, hx]
    show (kS (ss.take i) ++ [ss[i].k], _) = (kS (ss.take i ++ [ss[i]]), _)
    rw [kS, kS, List.map_append]; rfl
theorem rputGo_some : ∀ (ss : List Stp) {B C : List Nat}, rputGo B ss = some C → C = B ++ stB ss ∧ ∀ s ∈ ss, rightB s.mask s.l = true
  | [], B, C, e => by simp only [rputGo, Option.some.injEq] at e; subst e; simp [stB]
  | s :: r, B, C, e => by
    unfold rputGo at e
    split at e
    · rename_i hr
      obtain ⟨h1, h2⟩ := rputGo_some r e
      refine ⟨by rw [h1]; simp [stB], fun x hx => ?_⟩
      rcases List.mem_cons.1 hx with rfl | hx
      · exact hr
      · exact h2 x hx
    · simp at e
theorem rputS_bad (ss : List Stp) (h : (rputS ss).2 ≠ 0) : (rputS ss).1 = [] := by
  unfold rputS at h ⊢
  split
  · rfl
  · rename_i hn
    rw [if_neg hn] at h
    cases e : rputGo (u64s [ss.length]) ss with
    | none => rfl
    | some B =>
      rw [e] at h
      dsimp only at h ⊢
      split
      · rfl
      · rename_i h2
        rw [if_neg h2] at h
        exact absurd rfl h
theorem get_put (ss : List Stp) (h : (rputS ss).2 = 0) : getS (rputS ss).1 = (kS ss, 0) ∧ ss.length ≤ 64 := by
  have hl := (rputS_lt ss).2
  unfold rputS at h hl ⊢
  by_cases hn : 64 < ss.length
  · rw [if_pos hn] at h; simp at h
  rw [if_neg hn] at h hl ⊢
  refine ⟨?_, by omega⟩
  cases e : rputGo (u64s [ss.length]) ss with
  | none => rw [e] at h; simp at h
  | some B =>
    rw [e] at h hl
    dsimp only at h hl ⊢
    by_cases h2 : 65536 < B.length
    · rw [if_pos h2] at h; simp at h
    rw [if_neg h2] at hl ⊢
    obtain ⟨hB, hr⟩ := rputGo_some ss e
    have hB2 : B = be64 ss.length ++ (stB ss ++ []) := by rw [hB]; simp [u64s]
    have h256 : ∀ s ∈ ss, s.l.length ≤ 256 := fun s hs => by
      have := right_len (hr s hs)
      have := bitTo_le s.mask 256
      omega
    dsimp only
    unfold getS
    rw [if_neg h2, hB2, rdCnt_app (by omega) (by omega)]
    dsimp only
    rw [rdSts_app ss [] h256 _ (Nat.le_refl _)]
    dsimp only
    rw [List.take_length, List.drop_length]
    rw [if_neg]
    rintro (x | x)
    · exact x rfl
    · rw [List.any_eq_true] at x
      obtain ⟨k, hk, hb⟩ := x
      obtain ⟨s, hs, rfl⟩ := List.mem_map.1 hk
      have := hr s hs
      simp [Stp.k, this] at hb
set_option maxHeartbeats 8000000 in
theorem c_ProofBack (ss : List Stp) (v1 : Value) (H : AHeap) (g : Gl H) (h1 : StsAt 123 H v1 ss) (hn1 : ss.length ≤ 1172812402926) : CallR Tryd.prog noPrims 5 [v1] H (fun u H' => u = .bool true) := by
  have h1' := h1
  obtain ⟨⟨a1, c1, rfl, _⟩, hss⟩ := h1
  obtain ⟨hPlt, hPl⟩ := rputS_lt ss
  have hbad := rputS_bad ss
  have hgp := get_put ss
  obtain ⟨P, hP⟩ : ∃ P, rputS ss = P := ⟨_, rfl⟩
  rw [hP] at hPlt hPl hbad hgp
  refine CallR.sy (n := 38) Tryd.func5 rfl rfl rfl ?_
  repeat' (first
    | (with_reducible refine Sy.seq ?_)
    | (with_reducible refine Sy.regionL ?_)
    | (with_reducible refine Sy.opsnil ?_)
    | (with_reducible refine Sy.go ?_)
    | (with_reducible refine Sy.nrm ?_)
    | ((with_reducible apply Sy.assign); exact rfl; exact rfl)
    | ((with_reducible apply Sy.move); exact rfl; exact rfl)
    | ((with_reducible apply Sy.callN (k := 25)); exact rfl; exact rfl; exact en25; exact rfl; (intro H' hp; exact c_Own ss _ H' (h1'.of hp) hn1); rintro ⟨out, bo, L⟩ ⟨hk, hL⟩))
  dsimp only at hk hL ⊢
  have hlen : out.length = ss.length := by simpa using congrArg List.length hk
  have hP' : rputS out = P := by rw [rputS_k hk, hP]
  repeat' (first
    | (with_reducible refine Sy.seq ?_)
    | (with_reducible refine Sy.regionL ?_)
    | (with_reducible refine Sy.opsnil ?_)
    | (with_reducible refine Sy.go ?_)
    | (with_reducible refine Sy.nrm ?_)
    | ((with_reducible apply Sy.assign); exact rfl; exact rfl)
    | ((with_reducible apply Sy.move); exact rfl; exact rfl)
    | ((with_reducible apply Sy.ext); exact rfl; exact rfl; exact rfl)
    | ((with_reducible apply Sy.bin (op := .neq) (t := 3)); exact rfl; exact rfl; exact rfl; exact b_neq)
    | ((with_reducible apply Sy.bin (op := .neq) (t := 3)); exact rfl; exact rfl; exact rfl; exact bz_neq)
    | ((with_reducible apply Sy.lenS); exact rfl; exact Tryd.underlying25; exact rfl)
    | ((with_reducible apply Sy.bin (op := .eql) (t := 3)); exact rfl; exact rfl; exact rfl; exact b_eql)
    | ((with_reducible apply Sy.bin (op := .eql) (t := 3)); exact rfl; exact rfl; exact rfl; exact bz_eql)
    | ((with_reducible apply Sy.pickT); exact rfl; exact rfl; exact rfl)
    | ((with_reducible apply Sy.pickF); exact rfl; exact rfl; exact rfl)
    | ((with_reducible apply Sy.callN (k := 24)); exact rfl; exact rfl; exact en24; exact rfl; (intro H' hp; exact c_pPut' out _ P H' hP' (own_at hk hL (fun s hs => (hss s hs).2) (hp.less (List.sublist_append_left _ _))) (by omega)); rintro ⟨c3, a3, k3⟩ h3)
    | ((with_reducible apply Sy.call0 (k := 29)); exact rfl; exact rfl; exact en29; exact rfl; (intro H' hp; exact c_num6 _ H'))
    | ((with_reducible apply Sy.call0 (k := 31)); exact rfl; exact rfl; exact en31; exact rfl; (intro H' hp; exact c_knows6 H' (g.of hp (List.forall_mem_nil _))))
    | (with_reducible refine Sy.skip ?_)
    | (with_reducible refine Sy.ret ?_)
    | (with_reducible refine Sy.aret ?_)
    | ((with_reducible apply Sy.goG); exact rfl; exact rfl; exact rfl)
    | ((with_reducible apply Sy.noG); exact rfl; exact rfl; exact rfl; exact rfl; exact rfl)
    | ((with_reducible apply Sy.caseG); (case hj => exact rfl); (case hx => exact rfl); all_goals (intro hc; try (exfalso; omega)))
    | ((with_reducible apply Sy.ite); (case hx => exact rfl); all_goals (intro hc; try (exfalso; omega))))
  · exact .fin [_] (.inr rfl) ⟨rfl, trivial⟩ fun H' hp => rfl
  · exact absurd (by rw [hbad (by assumption)]; rfl) hc
  obtain ⟨hG, hn64⟩ := hgp (by omega)
  dsimp only at h3 ⊢
  repeat' (first
    | (with_reducible refine Sy.seq ?_)
    | (with_reducible refine Sy.regionL ?_)
    | (with_reducible refine Sy.opsnil ?_)
    | (with_reducible refine Sy.go ?_)
    | (with_reducible refine Sy.nrm ?_)
    | ((with_reducible apply Sy.assign); exact rfl; exact rfl)
    | ((with_reducible apply Sy.move); exact rfl; exact rfl)
    | ((with_reducible apply Sy.ext); exact rfl; exact rfl; exact rfl)
    | ((with_reducible apply Sy.callN (k := 27)); exact rfl; exact rfl; exact en27; exact rfl; (intro H' hp; exact c_pGet (.slice a3 P.1.length k3) P.1 H' (h3.slr' (fun x => hp.getN (by repeat (first | exact bufM_has x)))) hPlt (by omega)); rintro ⟨outG, bG, LG⟩ ⟨hkG, hLG, hlG⟩))
  dsimp only at hkG hLG hlG ⊢
  rw [hG] at hkG ⊢
  dsimp only at hkG ⊢
  have hlG64 : outG.length ≤ 64 := by have := congrArg List.length hkG; rw [List.length_map, List.length_map] at this; omega
  repeat' (first
    | (with_reducible refine Sy.opsnil ?_)
    | (with_reducible refine Sy.go ?_)
    | (with_reducible refine Sy.nrm ?_)
    | ((with_reducible apply Sy.assign); exact rfl; exact rfl)
    | ((with_reducible apply Sy.move); exact rfl; exact rfl)
    | ((with_reducible apply Sy.bin (op := .eql) (t := 3)); exact rfl; exact rfl; exact rfl; exact b_eql)
    | ((with_reducible apply Sy.bin (op := .eql) (t := 3)); exact rfl; exact rfl; exact rfl; exact bz_eql)
    | ((with_reducible apply Sy.pickT); exact rfl; exact rfl; exact rfl)
    | ((with_reducible apply Sy.call0 (k := 29)); exact rfl; exact rfl; exact en29; exact rfl; (intro H' hp; exact c_num6 _ H'))
    | ((with_reducible apply Sy.call0 (k := 30)); exact rfl; exact rfl; exact en30; exact rfl; (intro H' hp; exact c_SameS outG ss _ _ H' (get_at hLG hlG (hp.less (List.sublist_append_left _ _))) (h1'.of hp) hkG (by omega)))
    | ((with_reducible apply Sy.call0 (k := 31)); exact rfl; exact rfl; exact en31; exact rfl; (intro H' hp; exact c_knows6 H' (g.of hp (List.forall_mem_nil _))))
    | (with_reducible refine Sy.ret ?_)
    | ((with_reducible apply Sy.goG); exact rfl; exact rfl; exact rfl))
  all_goals exact .fin [_] (.inr rfl) ⟨rfl, trivial⟩ fun H' hp => rfl
end Go.Proofs.YtjimjolfnimimaaDoor

/- Layer 06: steps and bytes as arguments: ProofBytes, ProofBack. -/
namespace Go.Proofs.YtjimjolfnimimaaDoor
open Go Go.Am Go.ChangeShapes Go.WideShapes Go.RowKit
set_option maxRecDepth 100000

theorem sh_hashes {H : AHeap} {m : Nat} {cs : List Value} (h : Sh Tryd.prog H (m + 3) 114 cs) : ∃ v l, cs = [v] ∧ HsS H v l ∧ l.length ≤ 4398046511104 := by
  obtain ⟨n, hn, h2⟩ := sh_slice Tryd.underlying114 h
  have hb : Tryd.prog.bytesOf 44 = 32 := by kernel_rfl
  rw [hb, show reachBytes = 140737488351232 from rfl] at hn
  rcases h2 with ⟨rfl, rfl⟩ | ⟨b, ocs, rfl, hg, hr⟩
  · exact ⟨_, [], rfl, .inl ⟨rfl, rfl⟩, by simp⟩
  · obtain ⟨l, rfl, rfl, _⟩ := hr.list (enc := hC) (Q := fun _ => True) fun a ha => by obtain ⟨k, e⟩ := sh_hash ha; exact ⟨k, e, trivial⟩
    exact ⟨_, l, rfl, .inr ⟨b, _, _, _, rfl, hg⟩, by omega⟩
theorem sh_step {H : AHeap} {m : Nat} {cs : List Value} (h : Sh Tryd.prog H (m + 5) 123 cs) : ∃ s : Stp, cs = s.c ∧ HsS H s.v s.l ∧ s.l.length ≤ 4398046511104 := by
  obtain ⟨a, r, rfl, h1, b, r2, rfl, h2, c, r3, rfl, h3, rfl⟩ := sh_struct Tryd.underlying123 h
  obtain ⟨d, r4, rfl, h4, e, r5, rfl, h5, rfl⟩ := sh_struct Tryd.underlying121 h3
  obtain ⟨k1, rfl⟩ := sh_hash (m := m + 2) h1
  obtain ⟨k2, rfl⟩ := sh_hash (m := m + 2) h2
  obtain ⟨k3, rfl⟩ := sh_hash (m := m + 1) h4
  obtain ⟨v, l, rfl, h6, h7⟩ := sh_hashes (m := m) h5
  exact ⟨⟨k1, k2, k3, l, v⟩, by simp [Stp.c], h6, h7⟩
theorem sh_steps {H : AHeap} {m : Nat} {v : Value} (h : ShV Tryd.prog H (m + 6) 52 v) : ∃ ss : List Stp, StsAt 123 H v ss ∧ ss.length ≤ 1172812402926 := by
  obtain ⟨n, hn, h2⟩ := sh_slice (m := m + 5) Tryd.underlying52 (shv_one (by rw [Tryd.underlying52]) h)
  have hb : Tryd.prog.bytesOf 123 = 120 := by kernel_rfl
  rw [hb, show reachBytes = 140737488351232 from rfl] at hn
  rcases h2 with ⟨e, rfl⟩ | ⟨b, ocs, e, hg, hr⟩
  · simp only [List.cons.injEq, and_true] at e
    exact ⟨[], ⟨⟨none, 0, e, .inl rfl⟩, by simp⟩, by simp⟩
  · simp only [List.cons.injEq, and_true] at e
    obtain ⟨ss, rfl, rfl, hq⟩ := hr.list (enc := Stp.c) (Q := fun s => HsS H s.v s.l ∧ s.l.length ≤ 4398046511104) fun a ha => sh_step (m := m) ha
    exact ⟨ss, ⟨⟨_, _, e, .inr ⟨b, _, rfl, hg⟩⟩, hq⟩, by omega⟩
theorem law_ProofBack (vs : List Value) (H : AHeap) (hx : Ext heap0 H) (hs : EachV (ShV Tryd.prog H 12) [52] vs) : CallR Tryd.prog noPrims 5 vs H (fun u _ => u = .bool true) := by
  obtain ⟨v1, _, rfl, h1, rfl⟩ := hs
  obtain ⟨ss, h3, h4⟩ := sh_steps (m := 6) h1
  exact c_ProofBack ss v1 H (.ext hx) h3 h4
end Go.Proofs.YtjimjolfnimimaaDoor

/- ProofBack: the row and its card. -/
namespace Go.Proofs.YtjimjolfnimimaaDoor
open Go Go.Am Go.ChangeShapes Go.WideShapes Go.RowKit
set_option maxRecDepth 100000

theorem proofBack_lifted (os : Os) (started : os.Started) (H : Type) (enc : TypeId × Value → H) :
    ReturnsInHanded {} Tryd.checked os 5 .any (fun w args => (Rows.proofBackSpec.pre enc Tryd.prog Tryd.f5 Rows.proofBackRow.domain false w args ∧ laidMetH Tryd.prog laidV w) ∧ sizedMet enc Tryd.prog Tryd.f5 (OpenSpec.ofChange Rows.proofBackSpec) false w args)
      (Rows.proofBackSpec.post enc Tryd.prog Tryd.f5 false true false false) := by
  refine returnsInHanded_of_change_and (C := Tryd.checked) (X := fun w _ => laidMetH Tryd.prog laidV w) (fun _ _ _ hh h => h.of_heap hh) Tryd.own started (by kernel_rfl) Tryd.func5
    (ChangeSpec.witness_shaped (enc := enc) (C := Tryd.checked) (os := os) (X := fun w _ => laidMetH Tryd.prog laidV w) false (World.laidAll Tryd.prog os laidV) #[.slice none 0 0] 8 (World.laidAll_os _ _ _)
      (World.shaped_of_ZipB (by kernel_rfl) (by kernel_rfl)) (by kernel_rfl) (by kernel_rfl) (by kernel_rfl)
      (by rw [MakeChecks.laidMetH_plain _ _ _ (by kernel_rfl)]; exact laidMet_laidAll _ (by kernel_rfl) (by kernel_rfl))) ?_
  intro W base args ds gs before hval hW _ hwt hL _
  have hW' := hW
  obtain ⟨p, q, hA0, hV0, rfl, _, _⟩ := hW
  have hA : DataW.TrodAll enc Tryd.prog W 0 (fun _ => true) true Tryd.f5.params.toList args.toList ds p := hA0
  rw [Tryd.params5] at hA
  replace hA : DataW.TrodAll enc Tryd.prog W 0 (fun _ => true) true [52] args.toList ds p := hA
  have hds : ∃ d0, ds = [d0] := by
    obtain ⟨_, _, d0, _, _, _, _, rfl, _, _, hA1⟩ := trodAll_cons hA
    obtain ⟨_, rfl, _⟩ := trodAll_nil hA1
    exact ⟨d0, rfl⟩
  obtain ⟨d0, rfl⟩ := hds
  obtain ⟨rfl, rfl⟩ := trodVars_none hV0
  have hlt := hA.lt
  have hwt' : ∀ n ∈ DataW.weightsEach Tryd.prog [52] [d0], n ≤ reachBytes := fun x hx => of_decide_eq_true (List.all_eq_true.1 (show (DataW.weightsEach Tryd.prog (Tryd.f5.params.toList ++ Rows.proofBackSpec.plain.varTypes Tryd.prog) ([d0] ++ [])).all (· ≤ reachBytes) = true from hwt) x (by rw [Tryd.params5]; exact hx))
  have hrun := calls_of_law (f := 5) (ts := [52]) hL hA (by kernel_rfl) (fun j t v ht hv => hval j t v (by rw [Tryd.params5]; simpa using ht) (by simpa using hv)) hwt' law_ProofBack
  refine hrun.mono fun e W' ⟨he, hb⟩ => ?_
  subst he
  refine ⟨_, rfl, _, _, _, [], p, [], hW', ?_, ?_, ?_, hb.frame _, fun h => by cases h⟩
  · exact trodAll_mk1 (shut_bool Tryd.underlying4 true)
  · show DataW.TrodAll enc Tryd.prog W' 0 (fun b => decide (b < W.heap.size)) true Tryd.f5.params.toList args.toList [d0] p
    rw [Tryd.params5]
    exact trod_below Tryd.laidOut hb [52] _ _ _ hA (by kernel_rfl) (fun x hx => hlt x hx)
  · rfl

theorem proofBack_holds : Rows.ProofBackSaid :=
  OpenClaim.holds_of_wide 5 Tryd.f5 rfl rfl rfl rfl rfl rfl rfl ⟨rfl, rfl, rfl, rfl, rfl⟩ rfl rfl rfl rfl rfl (by kernel_rfl) Tryd.func5 (by kernel_rfl)
    (of_decide_eq_true (by kernel_rfl)) (by unfold Func.isWrapper; first | (rw [if_pos (by decide +kernel)]; kernel_rfl) | (rw [if_neg (by decide +kernel)]; exact ⟨rfl, rfl⟩))
    (fun os started H enc _ => proofBack_lifted os started H enc)

theorem proofBack_card : Rows.ProofBackCardSaid :=
  Claim7.holds_tied_plain_at .later [] [.data, .data] true (true, "bdf93d382adb93ab913e418a0e0f9cb9bcdfe8364f4a4f1432748e356cb3ffb2") false proofBack_holds (fun _ h => by cases h) (by kernel_rfl) (fun _ h => by cases h) proofBack_row_tie rfl ⟨rfl, rfl⟩ (by kernel_rfl) rfl
    (fun f fn hf hfn => by
      obtain rfl : f = 5 := Option.some.inj ((show Tryd.prog.funcNamed "bascule/basculelaw06.ProofBack" = some 5 by kernel_rfl).symm.trans hf) |>.symm
      obtain rfl : fn = Tryd.f5 := (Option.some.inj (Tryd.func5.symm.trans hfn)).symm
      exact ⟨by kernel_rfl, fun j t ht => by
        rw [Tryd.params5] at ht
        have hm : t ∈ [52] := by simpa using Array.mem_of_getElem? ht
        have hall : ([52].all fun u => !Tryd.prog.wantsStandIn u) = true := by kernel_rfl
        exact (show Tryd.prog.wantsStandIn t = false by simpa using List.all_eq_true.1 hall t hm)⟩)
    (by kernel_rfl)
#print axioms proofBack_card
end Go.Proofs.YtjimjolfnimimaaDoor
