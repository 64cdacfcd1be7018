/- Symbolic states over the abstract machine. -/
import Derived.Test.YtcaafoibabijgaaAmC
set_option linter.unusedSimpArgs false
set_option linter.unusedVariables false
/- Symbolic states: what temporaries and objects hold, by lists; the rules that walk code over them. -/
namespace Go.Am
open Go

abbrev Env := List (Nat × Value)
abbrev Hm := List (Nat × AObj)

def look : Env → Nat → Option Value
  | [], _ => none
  | (k, v) :: E, i => match Nat.beq k i with
    | true => some v
    | false => look E i

/-- A constant, its number as a natural number's. -/
def evc : Value → Option Value
  | .int k (.ofNat n) => some (.int k ((@OfNat.ofNat Nat n (instOfNatNat n) : Nat) : Int))
  | v => some v
theorem evc_eq {v u : Value} (h : evc v = some u) : v = u := by
  unfold evc at h
  split at h <;> exact Option.some.inj h

def ev (E : Env) : Operand → Option Value
  | .tmp t => look E t
  | .const v => evc v
  | .global g => some (.pointer (some ⟨g, 0, none⟩))
  | .func f => some (.func (.func f) #[] #[])

def evs (E : Env) : List Operand → Option (List Value)
  | [] => some []
  | x :: xs => match ev E x, evs E xs with
    | some v, some vs => some (v :: vs)
    | _, _ => none

def Mods (tm : List Value) (E : Env) : Prop := ∀ i v, look E i = some v → tm.getD i undef = v

theorem Mods.ev {tm : List Value} {E : Env} (h : Mods tm E) {x : Operand} {v : Value} (hx : ev E x = some v) : aval tm x = v := by
  cases x with
  | tmp t => exact h t v hx
  | const c => exact evc_eq hx
  | global g => exact Option.some.inj hx
  | func f => exact Option.some.inj hx

theorem Mods.evs {tm : List Value} {E : Env} (h : Mods tm E) : ∀ {xs : List Operand} {vs : List Value}, evs E xs = some vs → xs.map (aval tm) = vs
  | [], vs, e => by simp only [Am.evs, Option.some.injEq] at e; subst e; rfl
  | x :: xs, vs, e => by
    simp only [Am.evs] at e
    split at e
    · rename_i v vs' h1 h2
      simp only [Option.some.injEq] at e
      subst e
      simp only [List.map_cons, h.ev h1, h.evs h2]
    · simp at e

theorem look_cons {p : Nat × Value} {E : Env} {i : Nat} : look (p :: E) i = if p.1 = i then some p.2 else look E i := by
  obtain ⟨k, v⟩ := p
  simp only [look]
  by_cases h : k = i
  · subst h; simp
  · have : Nat.beq k i = false := by
      cases e : Nat.beq k i with
      | false => rfl
      | true => exact absurd (Nat.eq_of_beq_eq_true e) h
    rw [this, if_neg h]

theorem Mods.put {tm : List Value} {E : Env} (h : Mods tm E) {d : Nat} (hd : d < tm.length) (v : Value) : Mods (tm.set d v) ((d, v) :: E) := by
  intro i u hu
  rw [look_cons] at hu
  split at hu
  · rename_i e
    simp only at e
    subst e
    simp only [Option.some.injEq] at hu
    subst hu
    simp [List.getD, List.getElem?_set, hd]
  · rename_i e
    simp only at e
    rw [← h i u hu]
    simp only [List.getD, List.getElem?_set, if_neg e]

theorem Mods.nil (tm : List Value) : Mods tm [] := fun _ _ h => by simp [look] at h

/-- What the heap holds, seen from how it was at first: old objects that have turned, new ones; the room from lo to hi is kept free. -/
structure Hp (H0 : AHeap) (lo hi : Nat) (H : AHeap) (Mo Mn : Hm) : Prop where
  vo : ∀ p ∈ Mo, H.get p.1 = p.2
  vn : ∀ p ∈ Mn, H.get p.1 = p.2
  no : (Mo.map (·.1)).Nodup
  nn : (Mn.map (·.1)).Nodup
  ol : ∀ p ∈ Mo, p.1 < H0.next
  ge : ∀ p ∈ Mn, H0.next ≤ p.1
  lt : ∀ p ∈ Mn, p.1 < H.next
  le : H0.next ≤ H.next
  fr : ∀ h, h < H0.next → (∀ p ∈ Mo, p.1 ≠ h) → H.get h = H0.get h
  w1 : lo < hi → H0.next ≤ lo ∧ hi ≤ H.next
  w2 : lo < hi → ∀ p ∈ Mn, p.1 < lo ∨ hi ≤ p.1

theorem Hp.refl (H : AHeap) : Hp H 0 0 H [] [] := ⟨by simp, by simp, by simp, by simp, by simp, by simp, by simp, Nat.le_refl _, fun _ _ _ => rfl, by omega, by omega⟩

def Sy (n : Nat) (H0 : AHeap) (lo hi : Nat) (E : Env) (Mo Mn : Hm) (R : AS → Prop) : Prop :=
  ∀ tm H, tm.length = n → Mods tm E → Hp H0 lo hi H Mo Mn → R ⟨tm, H⟩

/-- An object that is known. -/
inductive Has : Hm → Nat → AObj → Prop
  | here {h : Nat} {o : AObj} {M : Hm} : Has ((h, o) :: M) h o
  | there {h : Nat} {o : AObj} {p : Nat × AObj} {M : Hm} : Has M h o → Has (p :: M) h o

theorem Has.mem {M : Hm} {h : Nat} {o : AObj} (k : Has M h o) : (h, o) ∈ M := by
  induction k with
  | here => simp
  | there _ ih => simp [ih]

/-- An object that turns. -/
inductive Turn : Hm → Nat → AObj → AObj → Hm → Prop
  | here {h : Nat} {o o' : AObj} {M : Hm} : Turn ((h, o) :: M) h o o' ((h, o') :: M)
  | there {h : Nat} {o o' : AObj} {p : Nat × AObj} {M M' : Hm} : Turn M h o o' M' → Turn (p :: M) h o o' (p :: M')

theorem Turn.keys {M M' : Hm} {h : Nat} {o o' : AObj} (k : Turn M h o o' M') : M'.map (·.1) = M.map (·.1) := by
  induction k with
  | here => rfl
  | there _ ih => simp [ih]
theorem Turn.has {M M' : Hm} {h : Nat} {o o' : AObj} (k : Turn M h o o' M') : (h, o) ∈ M := by
  induction k with
  | here => simp
  | there _ ih => simp [ih]
theorem Turn.mem {M M' : Hm} {h : Nat} {o o' : AObj} (k : Turn M h o o' M') (hn : (M.map (·.1)).Nodup) : ∀ p ∈ M', p = (h, o') ∨ (p ∈ M ∧ p.1 ≠ h) := by
  induction k with
  | here =>
    rename_i M
    intro p hp
    rcases List.mem_cons.1 hp with rfl | hp
    · exact .inl rfl
    · refine .inr ⟨List.mem_cons_of_mem _ hp, fun e => ?_⟩
      simp only [List.map_cons, List.nodup_cons, List.mem_map] at hn
      exact hn.1 ⟨p, hp, e⟩
  | there hk ih =>
    rename_i q M M'
    intro p hp
    simp only [List.map_cons, List.nodup_cons, List.mem_map] at hn
    rcases List.mem_cons.1 hp with rfl | hp
    · refine .inr ⟨List.mem_cons_self .., fun e => hn.1 ⟨_, hk.has, e.symm⟩⟩
    · rcases ih hn.2 p hp with h1 | ⟨h1, h2⟩
      · exact .inl h1
      · exact .inr ⟨List.mem_cons_of_mem _ h1, h2⟩
theorem Turn.key {M M' : Hm} {h : Nat} {o o' : AObj} (k : Turn M h o o' M') {q : Nat × AObj} (hq : q ∈ M') : ∃ p ∈ M, p.1 = q.1 := by
  have : q.1 ∈ M.map (·.1) := by rw [← k.keys]; exact List.mem_map_of_mem hq
  obtain ⟨p, hp, e⟩ := List.mem_map.1 this
  exact ⟨p, hp, e⟩
theorem Turn.key' {M M' : Hm} {h : Nat} {o o' : AObj} (k : Turn M h o o' M') {q : Nat × AObj} (hq : q ∈ M) : ∃ p ∈ M', p.1 = q.1 := by
  have : q.1 ∈ M'.map (·.1) := by rw [k.keys]; exact List.mem_map_of_mem hq
  obtain ⟨p, hp, e⟩ := List.mem_map.1 this
  exact ⟨p, hp, e⟩

section
variable {H0 H : AHeap} {lo hi : Nat} {Mo Mn : Hm}

theorem Hp.new_lt (r : Hp H0 lo hi H Mo Mn) {h : Nat} {o : AObj} (k : Has Mn h o) : H0.next ≤ h ∧ h < H.next := ⟨r.ge _ k.mem, r.lt _ k.mem⟩
theorem Hp.getN (r : Hp H0 lo hi H Mo Mn) {h : Nat} {o : AObj} (k : Has Mn h o) : H.get h = o := r.vn _ k.mem
theorem Hp.getO (r : Hp H0 lo hi H Mo Mn) {h : Nat} {o : AObj} (k : Has Mo h o) : H.get h = o := r.vo _ k.mem
theorem Hp.get0 (r : Hp H0 lo hi H Mo Mn) {h : Nat} {o : AObj} (k : H0.get h = o) (hl : o.live = true) (hn : ∀ p ∈ Mo, p.1 ≠ h) : H.get h = o := by
  rw [r.fr h (get_live_lt (by rw [k]; exact hl)) hn, k]

/-- A new one turns. -/
theorem Hp.setN (r : Hp H0 lo hi H Mo Mn) {h : Nat} {o o' : AObj} {Mn' : Hm} (k : Turn Mn h o o' Mn') : Hp H0 lo hi (H.set h o') Mo Mn' := by
  have hlt := r.lt _ k.has
  have hge := r.ge _ k.has
  simp only at hlt hge
  refine ⟨fun p hp => ?_, fun p hp => ?_, r.no, by rw [k.keys]; exact r.nn, r.ol, fun p hp => ?_, fun p hp => ?_, by simpa using r.le, fun x hx hn => ?_, fun hw => ⟨(r.w1 hw).1, by simpa using (r.w1 hw).2⟩, fun hw p hp => ?_⟩
  · rw [get_set_ne _ _ _ _ (by have := r.ol p hp; omega)]; exact r.vo p hp
  · rcases k.mem r.nn p hp with rfl | ⟨h1, h2⟩
    · exact get_set_same _ _ _ hlt
    · rw [get_set_ne _ _ _ _ (Ne.symm h2)]; exact r.vn p h1
  · obtain ⟨q, hq, e⟩ := k.key hp; rw [← e]; exact r.ge q hq
  · obtain ⟨q, hq, e⟩ := k.key hp; rw [← e]; simpa using r.lt q hq
  · rw [get_set_ne _ _ _ _ (by omega)]; exact r.fr x hx hn
  · obtain ⟨q, hq, e⟩ := k.key hp; rw [← e]; exact r.w2 hw q hq

/-- An old one, that has turned before, turns. -/
theorem Hp.setO (r : Hp H0 lo hi H Mo Mn) {h : Nat} {o o' : AObj} {Mo' : Hm} (k : Turn Mo h o o' Mo') : Hp H0 lo hi (H.set h o') Mo' Mn := by
  have hlt := r.ol _ k.has
  simp only at hlt
  have hle := r.le
  refine ⟨fun p hp => ?_, fun p hp => ?_, by rw [k.keys]; exact r.no, r.nn, fun p hp => ?_, r.ge, fun p hp => by simpa using r.lt p hp, by simpa using r.le, fun x hx hn => ?_, fun hw => ⟨(r.w1 hw).1, by simpa using (r.w1 hw).2⟩, r.w2⟩
  · rcases k.mem r.no p hp with rfl | ⟨h1, h2⟩
    · exact get_set_same _ _ _ (by omega)
    · rw [get_set_ne _ _ _ _ (Ne.symm h2)]; exact r.vo p h1
  · rw [get_set_ne _ _ _ _ (by have := r.ge p hp; omega)]; exact r.vn p hp
  · obtain ⟨q, hq, e⟩ := k.key hp; rw [← e]; exact r.ol q hq
  · obtain ⟨q, hq, e⟩ := k.key' k.has
    rw [get_set_ne _ _ _ _ (by simp only at e; rw [← e]; exact hn q hq)]
    refine r.fr x hx fun p hp => ?_
    obtain ⟨q, hq, e⟩ := k.key' hp
    rw [← e]; exact hn q hq

/-- An old one turns for the first time. -/
theorem Hp.set0 (r : Hp H0 lo hi H Mo Mn) {h : Nat} {o' : AObj} (hlt : h < H0.next) (hn : ∀ p ∈ Mo, p.1 ≠ h) : Hp H0 lo hi (H.set h o') ((h, o') :: Mo) Mn := by
  have hle := r.le
  refine ⟨fun p hp => ?_, fun p hp => ?_, ?_, r.nn, fun p hp => ?_, r.ge, fun p hp => by simpa using r.lt p hp, by simpa using r.le, fun x hx hx2 => ?_, fun hw => ⟨(r.w1 hw).1, by simpa using (r.w1 hw).2⟩, r.w2⟩
  · rcases List.mem_cons.1 hp with rfl | hp
    · exact get_set_same _ _ _ (by omega)
    · rw [get_set_ne _ _ _ _ (Ne.symm (hn p hp))]; exact r.vo p hp
  · rw [get_set_ne _ _ _ _ (by have := r.ge p hp; omega)]; exact r.vn p hp
  · simp only [List.map_cons, List.nodup_cons]
    exact ⟨fun hm => by obtain ⟨p, hp, e⟩ := List.mem_map.1 hm; exact hn p hp e, r.no⟩
  · rcases List.mem_cons.1 hp with rfl | hp
    · exact hlt
    · exact r.ol p hp
  · rw [get_set_ne _ _ _ _ (hx2 _ (List.mem_cons_self ..))]
    exact r.fr x hx fun p hp => hx2 p (List.mem_cons_of_mem _ hp)

/-- A new one. -/
theorem Hp.push (r : Hp H0 lo hi H Mo Mn) (o : AObj) : Hp H0 lo hi (H.push o) Mo ((H.next, o) :: Mn) := by
  have hle := r.le
  refine ⟨fun p hp => ?_, fun p hp => ?_, r.no, ?_, r.ol, fun p hp => ?_, fun p hp => ?_, by simp; omega, fun x hx hn => ?_, fun hw => ⟨(r.w1 hw).1, by have := (r.w1 hw).2; simp; omega⟩, fun hw p hp => ?_⟩
  · rw [get_push_ne _ _ _ (by have := r.ol p hp; omega)]; exact r.vo p hp
  · rcases List.mem_cons.1 hp with rfl | hp
    · exact get_push_new _ _
    · rw [get_push_ne _ _ _ (by have := r.lt p hp; omega)]; exact r.vn p hp
  · simp only [List.map_cons, List.nodup_cons]
    exact ⟨fun hm => by obtain ⟨p, hp, e⟩ := List.mem_map.1 hm; have := r.lt p hp; omega, r.nn⟩
  · rcases List.mem_cons.1 hp with rfl | hp
    · exact hle
    · exact r.ge p hp
  · rcases List.mem_cons.1 hp with rfl | hp
    · simp
    · have := r.lt p hp; simp; omega
  · rw [get_push_ne _ _ _ (by omega)]; exact r.fr x hx hn
  · rcases List.mem_cons.1 hp with rfl | hp
    · exact .inr (r.w1 hw).2
    · exact r.w2 hw p hp

/-- A new one in the room that was kept. -/
theorem Hp.room (r : Hp H0 lo hi H Mo Mn) (hw : lo < hi) (o : AObj) : Hp H0 (lo + 1) hi (H.set lo o) Mo ((lo, o) :: Mn) := by
  have h1 := r.w1 hw
  have h2 := r.w2 hw
  refine ⟨fun p hp => ?_, fun p hp => ?_, r.no, ?_, r.ol, fun p hp => ?_, fun p hp => ?_, by simpa using r.le, fun x hx hn => ?_, fun hw2 => ⟨by omega, by simpa using h1.2⟩, fun hw2 p hp => ?_⟩
  · rw [get_set_ne _ _ _ _ (by have := r.ol p hp; omega)]; exact r.vo p hp
  · rcases List.mem_cons.1 hp with rfl | hp
    · exact get_set_same _ _ _ (by omega)
    · rw [get_set_ne _ _ _ _ (by have := h2 p hp; omega)]; exact r.vn p hp
  · simp only [List.map_cons, List.nodup_cons]
    exact ⟨fun hm => by obtain ⟨p, hp, e⟩ := List.mem_map.1 hm; have := h2 p hp; omega, r.nn⟩
  · rcases List.mem_cons.1 hp with rfl | hp
    · exact h1.1
    · exact r.ge p hp
  · rcases List.mem_cons.1 hp with rfl | hp
    · simp; omega
    · simpa using r.lt p hp
  · rw [get_set_ne _ _ _ _ (by omega)]; exact r.fr x hx hn
  · rcases List.mem_cons.1 hp with rfl | hp
    · simp
    · have := h2 p hp; omega

theorem Hp.slip (r : Hp H0 lo hi H Mo Mn) (lo' : Nat) (hl : lo ≤ lo') : Hp H0 lo' hi H Mo Mn :=
  ⟨r.vo, r.vn, r.no, r.nn, r.ol, r.ge, r.lt, r.le, r.fr, fun hw => ⟨by have := r.w1 (by omega); omega, (r.w1 (by omega)).2⟩, fun hw p hp => by have := r.w2 (by omega) p hp; omega⟩

theorem Hp.noroom (r : Hp H0 lo hi H Mo Mn) : Hp H0 0 0 H Mo Mn :=
  ⟨r.vo, r.vn, r.no, r.nn, r.ol, r.ge, r.lt, r.le, r.fr, by omega, by omega⟩

/-- Room. -/
theorem Hp.reserve (r : Hp H0 0 0 H Mo Mn) (N : Nat) : Hp H0 H.next (H.next + N) (reserve H N) Mo Mn := by
  have hle := r.le
  refine ⟨fun p hp => by rw [reserve_get]; exact r.vo p hp, fun p hp => by rw [reserve_get]; exact r.vn p hp, r.no, r.nn, r.ol, r.ge, fun p hp => by have := r.lt p hp; rw [reserve_next]; omega, by rw [reserve_next]; omega,
    fun x hx hn => by rw [reserve_get]; exact r.fr x hx hn, fun _ => ⟨hle, by rw [reserve_next]; exact Nat.le_refl _⟩, fun _ p hp => .inl (r.lt p hp)⟩

/-- Less is known of new ones. -/
theorem Hp.less (r : Hp H0 lo hi H Mo Mn) {Mn' : Hm} (hs : List.Sublist Mn' Mn) : Hp H0 lo hi H Mo Mn' :=
  ⟨r.vo, fun p hp => r.vn p (hs.mem hp), r.no, (hs.map _).nodup r.nn, r.ol, fun p hp => r.ge p (hs.mem hp), fun p hp => r.lt p (hs.mem hp), r.le, r.fr, r.w1, fun hw p hp => r.w2 hw p (hs.mem hp)⟩

theorem Hp.perm (r : Hp H0 lo hi H Mo Mn) {Mn' : Hm} (hs : List.Perm Mn' Mn) : Hp H0 lo hi H Mo Mn' :=
  ⟨r.vo, fun p hp => r.vn p (hs.mem_iff.1 hp), r.no, (hs.map _).nodup_iff.2 r.nn, r.ol, fun p hp => r.ge p (hs.mem_iff.1 hp), fun p hp => r.lt p (hs.mem_iff.1 hp), r.le, r.fr, r.w1, fun hw p hp => r.w2 hw p (hs.mem_iff.1 hp)⟩

/-- A call that turns nothing old: what it made lies behind. -/
theorem Hp.then0 {H' : AHeap} {Ln : Hm} (r : Hp H0 lo hi H Mo Mn) (q : Hp H 0 0 H' [] Ln) : Hp H0 lo hi H' Mo (Ln ++ Mn) := by
  have hle := r.le
  have hq := q.le
  have old : ∀ h, h < H.next → H'.get h = H.get h := fun h hh => q.fr h hh (by simp)
  refine ⟨fun p hp => ?_, fun p hp => ?_, r.no, ?_, r.ol, fun p hp => ?_, fun p hp => ?_, by omega, fun x hx hn => ?_, fun hw => ⟨(r.w1 hw).1, by have := (r.w1 hw).2; omega⟩, fun hw p hp => ?_⟩
  · rw [old _ (by have := r.ol p hp; omega)]; exact r.vo p hp
  · rcases List.mem_append.1 hp with hp | hp
    · exact q.vn p hp
    · rw [old _ (r.lt p hp)]; exact r.vn p hp
  · rw [List.map_append, List.nodup_append]
    refine ⟨q.nn, r.nn, fun a ha b hb => ?_⟩
    obtain ⟨p, hp, rfl⟩ := List.mem_map.1 ha
    obtain ⟨p2, hp2, rfl⟩ := List.mem_map.1 hb
    have := q.ge p hp; have := r.lt p2 hp2; omega
  · rcases List.mem_append.1 hp with hp | hp
    · have := q.ge p hp; omega
    · exact r.ge p hp
  · rcases List.mem_append.1 hp with hp | hp
    · exact q.lt p hp
    · have := r.lt p hp; omega
  · rw [old _ (by omega)]; exact r.fr x hx hn
  · rcases List.mem_append.1 hp with hp | hp
    · have := q.ge p hp; have := (r.w1 hw).2; omega
    · exact r.w2 hw p hp

/-- A call that turns one object. -/
theorem Hp.one {H' : AHeap} {Ln : Hm} {h : Nat} {o' : AObj} (q : Hp H 0 0 H' [(h, o')] Ln) : Hp (H.set h o') 0 0 H' [] Ln := by
  have hh : h < H.next := q.ol (h, o') (List.mem_cons_self ..)
  refine ⟨by simp, q.vn, by simp, q.nn, by simp, fun p hp => by simpa using q.ge p hp, q.lt, by simpa using q.le, fun x hx _ => ?_, by omega, by omega⟩
  simp only [next_set] at hx
  by_cases e : h = x
  · subst e; rw [get_set_same _ _ _ hh]; exact q.vo (h, o') (List.mem_cons_self ..)
  · rw [get_set_ne _ _ _ _ e]; exact q.fr x hx (fun p hp => by simp only [List.mem_singleton] at hp; subst hp; exact e)
theorem Hp.thenN {H' : AHeap} {Ln Mn' : Hm} {h : Nat} {o o' : AObj} (r : Hp H0 lo hi H Mo Mn) (q : Hp H 0 0 H' [(h, o')] Ln) (k : Turn Mn h o o' Mn') : Hp H0 lo hi H' Mo (Ln ++ Mn') := (r.setN k).then0 q.one
theorem Hp.thenO {H' : AHeap} {Ln Mo' : Hm} {h : Nat} {o o' : AObj} (r : Hp H0 lo hi H Mo Mn) (q : Hp H 0 0 H' [(h, o')] Ln) (k : Turn Mo h o o' Mo') : Hp H0 lo hi H' Mo' (Ln ++ Mn) := (r.setO k).then0 q.one
theorem Hp.thenX {H' : AHeap} {Ln : Hm} {h : Nat} {o' : AObj} (r : Hp H0 lo hi H Mo Mn) (q : Hp H 0 0 H' [(h, o')] Ln) (hlt : h < H0.next) (hn : ∀ p ∈ Mo, p.1 ≠ h) : Hp H0 lo hi H' ((h, o') :: Mo) (Ln ++ Mn) := (r.set0 hlt hn).then0 q.one
end

/-- What is to be shown of code, of operations, of one operation: not to be looked into. -/
structure CodeY (P : Program) (pr : Prims) (f : FuncId) (c : Code) (Q : AEx → AS → Prop) (s : AS) : Prop where
  run : CodeR P pr f c s Q
structure OpsY (P : Program) (pr : Prims) (ops : Array Oper) (l : List Oper) (Q : AS → Prop) (s : AS) : Prop where
  run : OpsR P pr ops l s Q
structure StepY (P : Program) (pr : Prims) (o : Oper) (K : AS → Prop) (s : AS) : Prop where
  run : StepR P pr o s K
theorem CodeY.mono {P : Program} {pr : Prims} {f : FuncId} {c : Code} {Q Q' : AEx → AS → Prop} {s : AS} (h : CodeY P pr f c Q s) (hq : ∀ e s', Q e s' → Q' e s') : CodeY P pr f c Q' s := ⟨h.run.mono hq⟩
end Go.Am

/- Symbolic states: code, loops, calls. -/
namespace Go.Am
open Go

section
variable {P : Program} {pr : Prims} {f n : Nat} {H0 : AHeap} {lo hi : Nat} {E : Env} {Mo Mn : Hm}

theorem Sy.imp {R R' : AS → Prop} (h : Sy n H0 lo hi E Mo Mn R) (hr : ∀ s, R s → R' s) : Sy n H0 lo hi E Mo Mn R' := fun tm H a b c => hr _ (h tm H a b c)
theorem Sy.weak {R : AS → Prop} {E' : Env} (he : ∀ i v, look E' i = some v → look E i = some v) (h : Sy n H0 lo hi E' Mo Mn R) : Sy n H0 lo hi E Mo Mn R :=
  fun tm H a b c => h tm H a (fun i v e => b i v (he i v e)) c
/-- The slots of E' are those of E. -/
def Sub (E : Env) : Env → Prop
  | [] => True
  | p :: E' => look E p.1 = some p.2 ∧ Sub E E'
theorem Sub.look {E : Env} : ∀ {E' : Env}, Sub E E' → ∀ i v, Am.look E' i = some v → Am.look E i = some v
  | [], _, _, _, h => by simp [Am.look] at h
  | p :: E', hs, i, v, h => by
    rw [look_cons] at h
    split at h
    · rename_i e; simp only [Option.some.injEq] at h; subst h; subst e; exact hs.1
    · exact Sub.look hs.2 i v h
theorem Sy.keep {R : AS → Prop} (E' : Env) (he : Sub E E') (h : Sy n H0 lo hi E' Mo Mn R) : Sy n H0 lo hi E Mo Mn R := h.weak he.look
theorem Sy.less {R : AS → Prop} (Mn' : Hm) (hs : List.Sublist Mn' Mn) (h : Sy n H0 lo hi E Mo Mn' R) : Sy n H0 lo hi E Mo Mn R := fun tm H a b c => h tm H a b (c.less hs)

theorem Sy.seq {a b : Code} {Q : AEx → AS → Prop} (h : Sy n H0 lo hi E Mo Mn (CodeY P pr f a (andThen (CodeY P pr f b Q) Q))) : Sy n H0 lo hi E Mo Mn (CodeY P pr f (.seq a b) Q) := h.imp fun _ hs => ⟨CodeR.then (hs.run.mono fun e s' he => by cases e <;> first | exact CodeY.run he | exact he)⟩
theorem Sy.region {id : Nat} {ops : Array Oper} {Q : AEx → AS → Prop} (h : Sy n H0 lo hi E Mo Mn (OpsY P pr ops ops.toList (Q .normal))) : Sy n H0 lo hi E Mo Mn (CodeY P pr f (.region id ops false) Q) := h.imp fun _ hs => ⟨CodeR.region hs.run⟩
theorem Sy.regionL {id : Nat} {l : List Oper} {Q : AEx → AS → Prop} (h : Sy n H0 lo hi E Mo Mn (OpsY P pr (List.toArray l) l (Q .normal))) : Sy n H0 lo hi E Mo Mn (CodeY P pr f (.region id (List.toArray l) false) Q) := .region h
theorem Sy.opsnil {ops : Array Oper} {Q : AS → Prop} (h : Sy n H0 lo hi E Mo Mn Q) : Sy n H0 lo hi E Mo Mn (OpsY P pr ops [] Q) := h.imp fun _ hs => ⟨OpsR.nil hs⟩
theorem Sy.nrm {K : AS → Prop} {Q : AEx → AS → Prop} (h : Sy n H0 lo hi E Mo Mn K) : Sy n H0 lo hi E Mo Mn (andThen K Q .normal) := h
theorem Sy.aex {K : AS → Prop} {Q : AEx → AS → Prop} {id : Nat} (h : Sy n H0 lo hi E Mo Mn (Q (.exit id))) : Sy n H0 lo hi E Mo Mn (andThen K Q (.exit id)) := h
theorem Sy.aret {K : AS → Prop} {Q : AEx → AS → Prop} (h : Sy n H0 lo hi E Mo Mn (Q .ret)) : Sy n H0 lo hi E Mo Mn (andThen K Q .ret) := h
theorem Sy.inrm {Q : AEx → AS → Prop} {id : Nat} (h : Sy n H0 lo hi E Mo Mn (Q .normal)) : Sy n H0 lo hi E Mo Mn (inBlock id Q .normal) := h
theorem Sy.iret {Q : AEx → AS → Prop} {id : Nat} (h : Sy n H0 lo hi E Mo Mn (Q .ret)) : Sy n H0 lo hi E Mo Mn (inBlock id Q .ret) := h
theorem Sy.iex {Q : AEx → AS → Prop} {id i : Nat} (hi' : i = id) (h : Sy n H0 lo hi E Mo Mn (Q .normal)) : Sy n H0 lo hi E Mo Mn (inBlock id Q (.exit i)) := by
  subst hi'; exact h.imp fun s hs => by simp only [inBlock_exit, if_true]; exact hs
theorem Sy.iex2 {Q : AEx → AS → Prop} {id i : Nat} (hi' : Nat.beq i id = false) (h : Sy n H0 lo hi E Mo Mn (Q (.exit i))) : Sy n H0 lo hi E Mo Mn (inBlock id Q (.exit i)) := by
  have : i ≠ id := fun e => by subst e; simp at hi'
  exact h.imp fun s hs => by simp only [inBlock_exit, if_neg this]; exact hs
theorem Sy.skip {Q : AEx → AS → Prop} (h : Sy n H0 lo hi E Mo Mn (Q .normal)) : Sy n H0 lo hi E Mo Mn (CodeY P pr f .skip Q) := h.imp fun _ hs => ⟨CodeR.skip hs⟩
theorem Sy.label {l : Nat} {Q : AEx → AS → Prop} (h : Sy n H0 lo hi E Mo Mn (Q .normal)) : Sy n H0 lo hi E Mo Mn (CodeY P pr f (.label l) Q) := h.imp fun _ hs => ⟨CodeR.label hs⟩
theorem Sy.exit {id : Nat} {Q : AEx → AS → Prop} (h : Sy n H0 lo hi E Mo Mn (Q (.exit id))) : Sy n H0 lo hi E Mo Mn (CodeY P pr f (.exit id) Q) := h.imp fun _ hs => ⟨CodeR.exit hs⟩
theorem Sy.ret {Q : AEx → AS → Prop} (h : Sy n H0 lo hi E Mo Mn (Q .ret)) : Sy n H0 lo hi E Mo Mn (CodeY P pr f .ret Q) := h.imp fun _ hs => ⟨CodeR.ret hs⟩
theorem Sy.block {id : Nat} {b : Code} {Q : AEx → AS → Prop} (h : Sy n H0 lo hi E Mo Mn (CodeY P noPrims f b (inBlock id Q))) : Sy n H0 lo hi E Mo Mn (CodeY P noPrims f (.block id b) Q) := h.imp fun _ hs => ⟨CodeR.blk rfl hs.run⟩
def scopeQ (Q : AEx → AS → Prop) : AEx → AS → Prop
  | .goto _ => fun _ => False
  | e => Q e
theorem Sy.scope {b : Code} {Q : AEx → AS → Prop} (h : Sy n H0 lo hi E Mo Mn (CodeY P pr f b (scopeQ Q))) : Sy n H0 lo hi E Mo Mn (CodeY P pr f (.scope b) Q) :=
  h.imp fun _ hs => ⟨CodeR.scope (hs.run.mono fun e s' he => by cases e <;> exact he)⟩
theorem Sy.sret {Q : AEx → AS → Prop} (h : Sy n H0 lo hi E Mo Mn (Q .ret)) : Sy n H0 lo hi E Mo Mn (scopeQ Q .ret) := h
theorem Sy.yes {x : Operand} {a b : Code} {Q : AEx → AS → Prop} (hx : ev E x = some (.bool true)) (h : Sy n H0 lo hi E Mo Mn (CodeY P pr f a Q)) : Sy n H0 lo hi E Mo Mn (CodeY P pr f (.cond x a b) Q) :=
  fun tm H u v w => ⟨CodeR.yes (v.ev hx) (h tm H u v w).run⟩
theorem Sy.no {x : Operand} {a b : Code} {Q : AEx → AS → Prop} (hx : ev E x = some (.bool false)) (h : Sy n H0 lo hi E Mo Mn (CodeY P pr f b Q)) : Sy n H0 lo hi E Mo Mn (CodeY P pr f (.cond x a b) Q) :=
  fun tm H u v w => ⟨CodeR.no (v.ev hx) (h tm H u v w).run⟩
/-- A test: both ways. -/
theorem Sy.ite {x : Operand} {a b : Code} {Q : AEx → AS → Prop} {p : Prop} {d : Decidable p} (hx : ev E x = some (.bool (@decide p d))) (h1 : p → Sy n H0 lo hi E Mo Mn (CodeY P pr f a Q)) (h2 : ¬ p → Sy n H0 lo hi E Mo Mn (CodeY P pr f b Q)) :
    Sy n H0 lo hi E Mo Mn (CodeY P pr f (.cond x a b) Q) := by
  by_cases hp : p
  · exact .yes (by rw [hx]; simp [hp]) (h1 hp)
  · exact .no (by rw [hx]; simp [hp]) (h2 hp)
theorem Sy.iteB {x : Operand} {a b : Code} {Q : AEx → AS → Prop} {c : Bool} (hx : ev E x = some (.bool c)) (h1 : c = true → Sy n H0 lo hi E Mo Mn (CodeY P pr f a Q)) (h2 : c = false → Sy n H0 lo hi E Mo Mn (CodeY P pr f b Q)) :
    Sy n H0 lo hi E Mo Mn (CodeY P pr f (.cond x a b) Q) := by
  cases c with
  | true => exact .yes hx (h1 rfl)
  | false => exact .no hx (h2 rfl)
/-- A slot that holds a test: both ways. -/
theorem Sy.caseT {R : AS → Prop} (d : Nat) {p : Prop} {dc : Decidable p} (hx : look E d = some (.bool (@decide p dc))) (h1 : p → Sy n H0 lo hi ((d, .bool true) :: E) Mo Mn R) (h2 : ¬ p → Sy n H0 lo hi ((d, .bool false) :: E) Mo Mn R) : Sy n H0 lo hi E Mo Mn R := by
  by_cases hp : p
  · refine (h1 hp).weak fun i v hv => ?_
    rw [look_cons] at hv
    split at hv
    · rename_i e; simp only at e; subst e; simp only [Option.some.injEq] at hv; subst hv; rw [hx]; simp [hp]
    · exact hv
  · refine (h2 hp).weak fun i v hv => ?_
    rw [look_cons] at hv
    split at hv
    · rename_i e; simp only at e; subst e; simp only [Option.some.injEq] at hv; subst hv; rw [hx]; simp [hp]
    · exact hv

/-- What goes on behind a round: the state is of the loop's kind again, and nearer to the end. -/
def roundQ {ι : Type} (n : Nat) (H0 : AHeap) (lo hi : Nat) (m : ι → Nat) (E : ι → Env) (Mo Mn : ι → Hm) (I : ι → Prop) (k : Nat) (Q : AEx → AS → Prop) : AEx → AS → Prop
  | .normal => fun s => ∃ i, I i ∧ m i < k ∧ s.tm.length = n ∧ Mods s.tm (E i) ∧ Hp H0 lo hi s.H (Mo i) (Mn i)
  | e => Q e

theorem Sy.loop {ι : Type} {b : Code} {Q : AEx → AS → Prop} (m : ι → Nat) (E' : ι → Env) (Mo' Mn' : ι → Hm) (I : ι → Prop) (i0 : ι) (h0 : I i0) (he : Sub E (E' i0)) (hm : ∀ H, Hp H0 lo hi H Mo Mn → Hp H0 lo hi H (Mo' i0) (Mn' i0))
    (hs : ∀ i, I i → Sy n H0 lo hi (E' i) (Mo' i) (Mn' i) (CodeY P pr f b (roundQ n H0 lo hi m E' Mo' Mn' I (m i) Q))) : Sy n H0 lo hi E Mo Mn (CodeY P pr f (.loop b) Q) := by
  intro tm H ht hE hH
  have key : ∀ k i, m i = k → I i → ∀ s : AS, s.tm.length = n → Mods s.tm (E' i) → Hp H0 lo hi s.H (Mo' i) (Mn' i) → CodeR P pr f (.loop b) s Q := by
    intro k
    induction k using Nat.strongRecOn with
    | _ k ih =>
      rintro i rfl hi s h1 h2 h3
      refine CodeR.loop ((hs i hi s.tm s.H h1 h2 h3).run.mono fun e s' hq => ?_)
      cases e with
      | normal => obtain ⟨j, hj, hlt, a, b, c⟩ := hq; exact ih (m j) hlt j rfl hj s' a b c
      | exit id => exact hq
      | goto l => exact hq
      | ret => exact hq
  exact ⟨key _ i0 rfl h0 ⟨tm, H⟩ ht (fun i v e => hE i v (he.look i v e)) (hm H hH)⟩

theorem Sy.rnrm {ι : Type} {m : ι → Nat} {E' : ι → Env} {Mo' Mn' : ι → Hm} {I : ι → Prop} {k : Nat} {Q : AEx → AS → Prop} (i : ι) (h0 : I i) (hk : m i < k) (he : Sub E (E' i)) (hm : ∀ H, Hp H0 lo hi H Mo Mn → Hp H0 lo hi H (Mo' i) (Mn' i)) :
    Sy n H0 lo hi E Mo Mn (roundQ n H0 lo hi m E' Mo' Mn' I k Q .normal) :=
  fun tm H a b c => ⟨i, h0, hk, a, fun j v e => b j v (he.look j v e), hm H c⟩
theorem Sy.rex {ι : Type} {m : ι → Nat} {E' : ι → Env} {Mo' Mn' : ι → Hm} {I : ι → Prop} {k : Nat} {Q : AEx → AS → Prop} {id : Nat} (h : Sy n H0 lo hi E Mo Mn (Q (.exit id))) : Sy n H0 lo hi E Mo Mn (roundQ n H0 lo hi m E' Mo' Mn' I k Q (.exit id)) := h
theorem Sy.rret {ι : Type} {m : ι → Nat} {E' : ι → Env} {Mo' Mn' : ι → Hm} {I : ι → Prop} {k : Nat} {Q : AEx → AS → Prop} (h : Sy n H0 lo hi E Mo Mn (Q .ret)) : Sy n H0 lo hi E Mo Mn (roundQ n H0 lo hi m E' Mo' Mn' I k Q .ret) := h

/-- A state in the middle, where ways meet. -/
def meetQ {ι : Type} (n : Nat) (H0 : AHeap) (lo hi : Nat) (E : ι → Env) (Mo Mn : ι → Hm) (I : ι → Prop) (s : AS) : Prop :=
  ∃ i, I i ∧ s.tm.length = n ∧ Mods s.tm (E i) ∧ Hp H0 lo hi s.H (Mo i) (Mn i)
theorem Sy.met {ι : Type} {E' : ι → Env} {Mo' Mn' : ι → Hm} {I : ι → Prop} (i : ι) (h0 : I i) (he : Sub E (E' i)) (hm : ∀ H, Hp H0 lo hi H Mo Mn → Hp H0 lo hi H (Mo' i) (Mn' i)) : Sy n H0 lo hi E Mo Mn (meetQ n H0 lo hi E' Mo' Mn' I) :=
  fun tm H a b c => ⟨i, h0, a, fun j v e => b j v (he.look j v e), hm H c⟩

/-- How a function ends. -/
def Fin (P : Program) (fn : Func) (Q : Value → AHeap → Prop) (e : AEx) (s : AS) : Prop := (e = .normal ∨ e = .ret) ∧ ∃ v, aResults P fn s = some v ∧ Q v s.H

/-- What a result is. -/
def resY (P : Program) (E : Env) (Mn : Hm) : ResultVar → Value → Prop
  | .tmp t, v => look E t = some v
  | .cell a t, v => ∃ h o obj, look E a = some (.pointer (some ⟨h, o, none⟩)) ∧ Has Mn h obj ∧ aLoad P t obj o = some v
def ressY (P : Program) (E : Env) (Mn : Hm) : List ResultVar → List Value → Prop
  | [], [] => True
  | r :: rs, v :: vs => resY P E Mn r v ∧ ressY P E Mn rs vs
  | _, _ => False
theorem resY_res {tm : List Value} {H : AHeap} {r : ResultVar} {v : Value} (hE : Mods tm E) (hH : Hp H0 lo hi H Mo Mn) (h : resY P E Mn r v) : aResult P ⟨tm, H⟩ r = some v := by
  cases r with
  | tmp t => simp only [aResult, hE t v h]
  | cell a t =>
    obtain ⟨b, o, obj, h1, h2, h3⟩ := h
    simp only [aResult, hE a _ h1, hH.getN h2, h3]
theorem ressY_res {tm : List Value} {H : AHeap} (hE : Mods tm E) (hH : Hp H0 lo hi H Mo Mn) : ∀ {rs : List ResultVar} {vs : List Value}, ressY P E Mn rs vs → rs.mapM (aResult P ⟨tm, H⟩) = some vs
  | [], [], _ => rfl
  | r :: rs, v :: vs, h => by
    simp only [List.mapM_cons, resY_res hE hH h.1, ressY_res hE hH h.2, Option.bind_eq_bind, Option.bind_some, Option.pure_def]
  | [], _ :: _, h => absurd h id
  | _ :: _, [], h => absurd h id

/-- Results, as one value. -/
def tupV : List Value → Value
  | [v] => v
  | vs => .tuple ⟨vs⟩

theorem Sy.fin {fn : Func} {QQ : Value → AHeap → Prop} {e : AEx} (vs : List Value) (he : e = .normal ∨ e = .ret) (hr : ressY P E Mn fn.results.toList vs) (hq : ∀ H, Hp H0 lo hi H Mo Mn → QQ (tupV vs) H) : Sy n H0 lo hi E Mo Mn (Fin P fn QQ e) :=
  fun tm H _ b c => ⟨he, tupV vs, by simp only [aResults, ressY_res b c hr, Option.map_some]; rfl, hq H c⟩

/-- A function is entered. -/
def envOf : Nat → List Value → Env
  | _, [] => []
  | i, v :: vs => (i, v) :: envOf (i + 1) vs
theorem envOf_mods {tm : List Value} : ∀ {i : Nat} {vs : List Value}, Args tm n i vs → Mods tm (envOf i vs)
  | i, [], _ => Mods.nil tm
  | i, v :: vs, h => by
    intro j u hu
    simp only [envOf, look_cons] at hu
    split at hu
    · rename_i e; subst e; simp only [Option.some.injEq] at hu; subst hu; exact h.1
    · exact envOf_mods h.2 j u hu
theorem args_len {tm : List Value} : ∀ {i : Nat} {vs : List Value}, Args tm n i vs → tm.length = n
  | _, [], h => h
  | _, _ :: _, h => args_len h.2

theorem CallR.sy {g : FuncId} {args : List Value} {fn : Func} {c : Code} {Q : Value → AHeap → Prop} (hfn : P.funcs[g]? = some fn) (hb : fn.body = some c) (hn : fn.ntmps = n) (hle : Nat.ble args.length n = true)
    (h : Sy n H0 0 0 (envOf 0 args) [] [] (CodeY P noPrims g c (Fin P fn Q))) : CallR P noPrims g args H0 Q :=
  CallR.go rfl hfn hb n hn (Nat.le_of_ble_eq_true hle) fun tm ha => (h tm H0 (args_len ha) (envOf_mods ha) (Hp.refl H0)).run.mono fun _ _ hq => hq
end
end Go.Am

/- Symbolic states: operations. -/
namespace Go.Am
open Go

section
variable {P : Program} {pr : Prims} {f n : Nat} {H0 : AHeap} {lo hi : Nat} {E : Env} {Mo Mn : Hm}

theorem of_blt {a b : Nat} (h : Nat.blt a b = true) : a < b := by simpa using h

/-- An operation without a guard is carried out. -/
theorem Sy.go {ops : Array Oper} {l : List Oper} {d : Option Tmp} {op : Op} {ty : TypeId} {p : String} {a : Array Edge} {Q : AS → Prop} (h : Sy n H0 lo hi E Mo Mn (StepY P pr ⟨d, op, ty, p, a, none⟩ (OpsY P pr ops l Q))) :
    Sy n H0 lo hi E Mo Mn (OpsY P pr ops (⟨d, op, ty, p, a, none⟩ :: l) Q) :=
  h.imp fun _ hs => ⟨wp_cons'.2 (by rw [if_pos (wanted_none _ _ _ _ _ _)]; obtain ⟨m, s1, e1, q1⟩ := hs.run; exact ⟨m, s1, e1, q1.run⟩)⟩

theorem yield_of {ops : Array Oper} {j t : Nat} {b : Bool} (hj : (ops[j]?).bind (·.dst) = some t) {tm : List Value} (hl : t < tm.length) (hE : Mods tm E) (hb : look E t = some (.bool b)) : ayield ops tm j = some b := by
  have : tm[t]? = some (.bool b) := by
    have := hE t _ hb
    simp only [List.getD] at this
    rw [List.getElem?_eq_getElem hl] at this ⊢
    simpa using this
  simp only [ayield, hj, Option.bind_some, this]

theorem wanted_yes {d : Option Tmp} {op : Op} {ty : TypeId} {p : String} {a : Array Edge} {j : Nat} {b : Bool} {y : Nat → Option Bool} (h : y j = some b) : Region.wanted ⟨d, op, ty, p, a, some (j, b)⟩ y = true := by simp [Region.wanted, h]
theorem wanted_no {d : Option Tmp} {op : Op} {ty : TypeId} {p : String} {a : Array Edge} {j : Nat} {b : Bool} {y : Nat → Option Bool} (h : y j = some (!b)) : Region.wanted ⟨d, op, ty, p, a, some (j, b)⟩ y = false := by cases b <;> simp [Region.wanted, h]

/-- A guard that holds. -/
theorem Sy.goG {ops : Array Oper} {l : List Oper} {d : Option Tmp} {op : Op} {ty : TypeId} {p : String} {a : Array Edge} {j t : Nat} {b : Bool} {Q : AS → Prop} (hj : (ops[j]?).bind (·.dst) = some t) (ht : Nat.blt t n = true) (hb : look E t = some (.bool b))
    (h : Sy n H0 lo hi E Mo Mn (StepY P pr ⟨d, op, ty, p, a, some (j, b)⟩ (OpsY P pr ops l Q))) :
    Sy n H0 lo hi E Mo Mn (OpsY P pr ops (⟨d, op, ty, p, a, some (j, b)⟩ :: l) Q) := by
  intro tm H x y z
  refine ⟨wp_cons'.2 ?_⟩
  rw [if_pos (wanted_yes (yield_of hj (by rw [x]; exact of_blt ht) y hb))]
  obtain ⟨m, s1, e1, q1⟩ := (h tm H x y z).run
  exact ⟨m, s1, e1, q1.run⟩
/-- A guard that does not. -/
theorem Sy.noG {ops : Array Oper} {l : List Oper} {d : Nat} {op : Op} {ty : TypeId} {p : String} {a : Array Edge} {j t : Nat} {b c : Bool} {Q : AS → Prop} (hj : (ops[j]?).bind (·.dst) = some t) (ht : Nat.blt t n = true) (hb : look E t = some (.bool c)) (hc : (!b) = c) (hd : Nat.blt d n = true)
    (h : Sy n H0 lo hi ((d, undef) :: E) Mo Mn (OpsY P pr ops l Q)) :
    Sy n H0 lo hi E Mo Mn (OpsY P pr ops (⟨some d, op, ty, p, a, some (j, b)⟩ :: l) Q) := by
  subst hc
  intro tm H x y z
  refine ⟨wp_cons'.2 ?_⟩
  rw [if_neg (by rw [wanted_no (yield_of hj (by rw [x]; exact of_blt ht) y hb)]; decide)]
  exact (h _ H (by simp [putT, x]) (y.put (by rw [x]; exact of_blt hd) _) z).run
/-- What a pure operation leaves. -/
theorem Sy.val {K : AS → Prop} {d : Nat} {v : Value} (hd : Nat.blt d n = true) (h : Sy n H0 lo hi ((d, v) :: E) Mo Mn K) {o : Oper} (ho : o.dst = some d) (hp : ∀ tm H, Mods tm E → Hp H0 lo hi H Mo Mn → (StepR P pr o ⟨tm, H⟩ K ↔ K ⟨putT tm o.dst v, H⟩)) :
    Sy n H0 lo hi E Mo Mn (StepY P pr o K) := by
  intro tm H x y z
  refine ⟨(hp tm H y z).2 ?_⟩
  rw [ho]
  exact h _ H (by simp [putT, x]) (y.put (by rw [x]; exact of_blt hd) _) z

section
variable {K : AS → Prop} {d : Nat} {ty : TypeId} {p : String} {a : Array Edge} {g : Option (Nat × Bool)} {v : Value}

theorem Sy.move {x : Operand} (hd : Nat.blt d n = true) (hx : ev E x = some v) (h : Sy n H0 lo hi ((d, v) :: E) Mo Mn K) : Sy n H0 lo hi E Mo Mn (StepY P pr ⟨some d, .move x, ty, p, a, g⟩ K) :=
  .val hd h rfl fun tm H hE _ => by rw [wp_move, hE.ev hx]
theorem Sy.assign {x : Operand} (hd : Nat.blt d n = true) (hx : ev E x = some v) (h : Sy n H0 lo hi ((d, v) :: E) Mo Mn K) : Sy n H0 lo hi E Mo Mn (StepY P pr ⟨some d, .assign x, ty, p, a, g⟩ K) :=
  .val hd h rfl fun tm H hE _ => by rw [wp_assign, hE.ev hx]

theorem ex_some {α : Type} {x : Option α} {v : α} (h : x = some v) {Q : α → Prop} : (∃ u, x = some u ∧ Q u) ↔ Q v := by subst h; simp

theorem Sy.bin {op : BinOp} {t t' : TypeId} {x y : Operand} {vx vy : Value} (hd : Nat.blt d n = true) (hx : ev E x = some vx) (hy : ev E y = some vy) (hv : binV P op t vx vy = some v) (h : Sy n H0 lo hi ((d, v) :: E) Mo Mn K) :
    Sy n H0 lo hi E Mo Mn (StepY P pr ⟨some d, .binOp op t x y t', ty, p, a, g⟩ K) :=
  .val hd h rfl fun tm H hE _ => by rw [wp_binOp, hE.ev hx, hE.ev hy, ex_some hv]
theorem Sy.un {op : UnOp} {t : TypeId} {x : Operand} {vx : Value} (hd : Nat.blt d n = true) (hx : ev E x = some vx) (hv : unV P op vx = some v) (h : Sy n H0 lo hi ((d, v) :: E) Mo Mn K) :
    Sy n H0 lo hi E Mo Mn (StepY P pr ⟨some d, .unOp op t x, ty, p, a, g⟩ K) :=
  .val hd h rfl fun tm H hE _ => by rw [wp_unOp, hE.ev hx, ex_some hv]
theorem Sy.pick {x y z : Operand} {vx vy vz : Value} (hd : Nat.blt d n = true) (hx : ev E x = some vx) (hy : ev E y = some vy) (hz : ev E z = some vz) (hv : pickV vx vy vz = some v) (h : Sy n H0 lo hi ((d, v) :: E) Mo Mn K) :
    Sy n H0 lo hi E Mo Mn (StepY P pr ⟨some d, .pick x y z, ty, p, a, g⟩ K) :=
  .val hd h rfl fun tm H hE _ => by rw [wp_pick, hE.ev hx, hE.ev hy, hE.ev hz, ex_some hv]
theorem Sy.pickT {x y z : Operand} (hd : Nat.blt d n = true) (hx : ev E x = some (.bool true)) (hy : ev E y = some v) (h : Sy n H0 lo hi ((d, v) :: E) Mo Mn K) :
    Sy n H0 lo hi E Mo Mn (StepY P pr ⟨some d, .pick x y z, ty, p, a, g⟩ K) :=
  .val hd h rfl fun tm H hE _ => by rw [wp_pick, hE.ev hx, hE.ev hy]; simp [pickV]
theorem Sy.pickF {x y z : Operand} (hd : Nat.blt d n = true) (hx : ev E x = some (.bool false)) (hy : ev E z = some v) (h : Sy n H0 lo hi ((d, v) :: E) Mo Mn K) :
    Sy n H0 lo hi E Mo Mn (StepY P pr ⟨some d, .pick x y z, ty, p, a, g⟩ K) :=
  .val hd h rfl fun tm H hE _ => by rw [wp_pick, hE.ev hx, hE.ev hy]; simp [pickV]
theorem Sy.nilC {x : Operand} {vx : Value} (hd : Nat.blt d n = true) (hx : ev E x = some vx) (hv : nilV vx = some v) (h : Sy n H0 lo hi ((d, v) :: E) Mo Mn K) :
    Sy n H0 lo hi E Mo Mn (StepY P pr ⟨some d, .nilCheck x, ty, p, a, g⟩ K) :=
  .val hd h rfl fun tm H hE _ => by rw [wp_nilCheck, hE.ev hx, ex_some hv]
theorem Sy.ext {x : Operand} {vx : Value} {i : Nat} (hd : Nat.blt d n = true) (hx : ev E x = some vx) (hv : extractV vx i = some v) (h : Sy n H0 lo hi ((d, v) :: E) Mo Mn K) :
    Sy n H0 lo hi E Mo Mn (StepY P pr ⟨some d, .extract x i, ty, p, a, g⟩ K) :=
  .val hd h rfl fun tm H hE _ => by rw [wp_extract, hE.ev hx, ex_some hv]
theorem Sy.fa {t : TypeId} {x : Operand} {vx : Value} {i : Nat} (hd : Nat.blt d n = true) (hx : ev E x = some vx) (hv : fieldAddrV P t vx i = some v) (h : Sy n H0 lo hi ((d, v) :: E) Mo Mn K) :
    Sy n H0 lo hi E Mo Mn (StepY P pr ⟨some d, .fieldAddr t x i, ty, p, a, g⟩ K) :=
  .val hd h rfl fun tm H hE _ => by rw [wp_fieldAddr, hE.ev hx, ex_some hv]
theorem Sy.ia {t : TypeId} {x y : Operand} {vx vy : Value} (hd : Nat.blt d n = true) (hx : ev E x = some vx) (hy : ev E y = some vy) (hv : indexAddrV P t vx vy = some v) (h : Sy n H0 lo hi ((d, v) :: E) Mo Mn K) :
    Sy n H0 lo hi E Mo Mn (StepY P pr ⟨some d, .indexAddr t x y, ty, p, a, g⟩ K) :=
  .val hd h rfl fun tm H hE _ => by rw [wp_indexAddr, hE.ev hx, hE.ev hy, ex_some hv]
/-- Operands that may be lacking. -/
def evo (E : Env) : Option Operand → Option (Option Value)
  | none => some none
  | some x => match ev E x with
    | some v => some (some v)
    | none => none
theorem Mods.evo {tm : List Value} (h : Mods tm E) {x : Option Operand} {v : Option Value} (hx : evo E x = some v) : x.map (aval tm) = v := by
  cases x with
  | none => exact Option.some.inj hx
  | some y =>
    simp only [Am.evo] at hx
    split at hx
    · rename_i u hu; simp only [Option.some.injEq] at hx; subst hx; simp only [Option.map_some, h.ev hu]
    · simp at hx
theorem Sy.sl {t : TypeId} {x : Operand} {l u m : Option Operand} {vx : Value} {vl vu vm : Option Value} (hd : Nat.blt d n = true) (hx : ev E x = some vx) (hl : evo E l = some vl) (hu : evo E u = some vu) (hm : evo E m = some vm) (hv : sliceV P t vx vl vu vm = some v) (h : Sy n H0 lo hi ((d, v) :: E) Mo Mn K) :
    Sy n H0 lo hi E Mo Mn (StepY P pr ⟨some d, .slice t x l u m, ty, p, a, g⟩ K) :=
  .val hd h rfl fun tm H hE _ => by rw [wp_slice, hE.ev hx, hE.evo hl, hE.evo hu, hE.evo hm, ex_some hv]

def evp (E : Env) : List (Nat × Operand) → Option (List (Nat × Value))
  | [] => some []
  | x :: xs => match ev E x.2, evp E xs with
    | some v, some vs => some ((x.1, v) :: vs)
    | _, _ => none
theorem Mods.evp {tm : List Value} (h : Mods tm E) : ∀ {xs : List (Nat × Operand)} {vs : List (Nat × Value)}, evp E xs = some vs → (xs.map fun q => (q.1, aval tm q.2)) = vs
  | [], vs, e => by simp only [Am.evp, Option.some.injEq] at e; subst e; rfl
  | x :: xs, vs, e => by
    simp only [Am.evp] at e
    split at e
    · rename_i v vs' h1 h2
      simp only [Option.some.injEq] at e
      subst e
      simp only [List.map_cons, h.ev h1, h.evp h2]
    · simp at e
theorem Sy.build {t : TypeId} {ps : Array (Nat × Operand)} {vs : List (Nat × Value)} (hd : Nat.blt d n = true) (hx : evp E ps.toList = some vs) (hv : buildV P t vs = some v) (h : Sy n H0 lo hi ((d, v) :: E) Mo Mn K) :
    Sy n H0 lo hi E Mo Mn (StepY P pr ⟨some d, .build t ps, ty, p, a, g⟩ K) :=
  .val hd h rfl fun tm H hE _ => by rw [wp_build, hE.evp hx, ex_some hv]
theorem Sy.iface {t : TypeId} {x : Operand} {vx : Value} (hd : Nat.blt d n = true) (hx : ev E x = some vx) (ht : kindT P t ≠ 7 ∧ (P.underlying t).isSome = true) (h : Sy n H0 lo hi ((d, .iface t vx) :: E) Mo Mn K) :
    Sy n H0 lo hi E Mo Mn (StepY P pr ⟨some d, .makeInterface t x, ty, p, a, g⟩ K) :=
  .val hd h rfl fun tm H hE _ => by rw [wp_iface, hE.ev hx]; exact ⟨fun h => h.2, fun h => ⟨ht, h⟩⟩
theorem Sy.conv {t u D : TypeId} {T : TypeDesc} {x : Operand} {k k' : IntKind} {z : Int} (hd : Nat.blt d n = true) (hs : P.underlying t = some (.int k')) (hu : P.underlying u = some (.int k)) (hx : ev E x = some (.int k' z)) {z' : Int} (hz : k.wrap z = z') (h : Sy n H0 lo hi ((d, .int k z') :: E) Mo Mn K) :
    Sy n H0 lo hi E Mo Mn (StepY P pr ⟨some d, .convert t u x, ty, p, a, g⟩ K) :=
  .val hd h rfl fun tm H hE _ => by
    rw [StepR.of fun _ => st_conv_int hs hu, hE.ev hx, conv_int hs hu, hz]
    simp
theorem cls_len_p {t e : TypeId} {x : Operand} (ht : P.underlying t = some (.slice e) ∨ P.underlying t = some .string) : cls P ⟨some d, .call ⟨.builtin .len, #[x], #[t]⟩, ty, p, a, g⟩ = .p := by
  show (if some (kindT P t) = some 4 then Cls.r else Cls.p) = .p
  rw [if_neg]
  rcases ht with h | h <;> simp [kindT, h]
theorem Sy.lenS {t e : TypeId} {x : Operand} {m cp : Nat} {q : Option Addr} (hd : Nat.blt d n = true) (ht : P.underlying t = some (.slice e)) (hx : ev E x = some (.slice q m cp)) (h : Sy n H0 lo hi ((d, .int .i64 (m : Int)) :: E) Mo Mn K) :
    Sy n H0 lo hi E Mo Mn (StepY P pr ⟨some d, .call ⟨.builtin .len, #[x], #[t]⟩, ty, p, a, g⟩ K) :=
  .val hd h rfl fun tm H hE _ => by
    rw [wp_pure (cls_len_p (.inl ht))]
    exact ex_some (by show lenV P t (aval tm x) = _; simp only [hE.ev hx, lenV, ht])
/-- Other pure operations. -/
theorem Sy.pureV {o : Oper} (ho : o.dst = some d) (hd : Nat.blt d n = true) (hc : cls P o = .p) (hp : ∀ tm, Mods tm E → pop P (aval tm) o = some v) (h : Sy n H0 lo hi ((d, v) :: E) Mo Mn K) : Sy n H0 lo hi E Mo Mn (StepY P pr o K) :=
  .val hd h ho fun tm H hE _ => by rw [wp_pure hc, ex_some (hp tm hE)]

/-- Reads. -/
theorem Sy.ldN {t : TypeId} {x : Operand} {b o : Nat} {obj : AObj} (hd : Nat.blt d n = true) (hx : ev E x = some (.pointer (some ⟨b, o, none⟩))) (hm : Has Mn b obj) (hv : aLoad P t obj o = some v) (h : Sy n H0 lo hi ((d, v) :: E) Mo Mn K) :
    Sy n H0 lo hi E Mo Mn (StepY P pr ⟨some d, .load t x, ty, p, a, g⟩ K) :=
  .val hd h rfl fun tm H hE hH => by rw [wp_load, hE.ev hx, ex_some (by rw [load_ptr, hH.getN hm]; exact hv)]
theorem Sy.ldO {t : TypeId} {x : Operand} {b o : Nat} {obj : AObj} (hd : Nat.blt d n = true) (hx : ev E x = some (.pointer (some ⟨b, o, none⟩))) (hm : Has Mo b obj) (hv : aLoad P t obj o = some v) (h : Sy n H0 lo hi ((d, v) :: E) Mo Mn K) :
    Sy n H0 lo hi E Mo Mn (StepY P pr ⟨some d, .load t x, ty, p, a, g⟩ K) :=
  .val hd h rfl fun tm H hE hH => by rw [wp_load, hE.ev hx, ex_some (by rw [load_ptr, hH.getO hm]; exact hv)]
theorem Sy.ld0 {t : TypeId} {x : Operand} {b o : Nat} {obj : AObj} (hd : Nat.blt d n = true) (hx : ev E x = some (.pointer (some ⟨b, o, none⟩))) (hm : H0.get b = obj) (hl : obj.live = true) (hn : ∀ p ∈ Mo, p.1 ≠ b) (hv : aLoad P t obj o = some v) (h : Sy n H0 lo hi ((d, v) :: E) Mo Mn K) :
    Sy n H0 lo hi E Mo Mn (StepY P pr ⟨some d, .load t x, ty, p, a, g⟩ K) :=
  .val hd h rfl fun tm H hE hH => by rw [wp_load, hE.ev hx, ex_some (by rw [load_ptr, hH.get0 hm hl hn]; exact hv)]
/-- Stores. -/
theorem Sy.stN {t : TypeId} {x y : Operand} {b o m : Nat} {vy : Value} {cs cs' : List Value} {T : TypeId} {Mn' : Hm} (hx : ev E x = some (.pointer (some ⟨b, o, none⟩))) (hy : ev E y = some vy) (hs : szT P t = some m) (hl : vy.cells.toList.length = m) (h1 : oneL vy.cells.toList = true)
    (hm : Turn Mn b (.cells cs T true) (.cells cs' T true) Mn') (hle : o + m ≤ cs.length) (hc : lay cs o vy.cells.toList = cs') (h : Sy n H0 lo hi E Mo Mn' K) :
    Sy n H0 lo hi E Mo Mn (StepY P pr ⟨none, .store t x y, ty, p, a, g⟩ K) := by
  intro tm H u hE hH
  have hg : H.get b = .cells cs T true := hH.vn _ hm.has
  refine ⟨(wp_store _ _ _).2 ⟨H.set b (.cells cs' T true), ?_, h _ _ u hE (hH.setN hm)⟩⟩
  rw [hE.ev hx, hE.ev hy]
  simp only [storeW, hg, hs, Option.bind_some]
  rw [if_pos ⟨hl, hle, h1⟩, hc]
theorem Sy.stO {t : TypeId} {x y : Operand} {b o m : Nat} {vy : Value} {cs cs' : List Value} {T : TypeId} {Mo' : Hm} (hx : ev E x = some (.pointer (some ⟨b, o, none⟩))) (hy : ev E y = some vy) (hs : szT P t = some m) (hl : vy.cells.toList.length = m) (h1 : oneL vy.cells.toList = true)
    (hm : Turn Mo b (.cells cs T true) (.cells cs' T true) Mo') (hle : o + m ≤ cs.length) (hc : lay cs o vy.cells.toList = cs') (h : Sy n H0 lo hi E Mo' Mn K) :
    Sy n H0 lo hi E Mo Mn (StepY P pr ⟨none, .store t x y, ty, p, a, g⟩ K) := by
  intro tm H u hE hH
  have hg : H.get b = .cells cs T true := hH.vo _ hm.has
  refine ⟨(wp_store _ _ _).2 ⟨H.set b (.cells cs' T true), ?_, h _ _ u hE (hH.setO hm)⟩⟩
  rw [hE.ev hx, hE.ev hy]
  simp only [storeW, hg, hs, Option.bind_some]
  rw [if_pos ⟨hl, hle, h1⟩, hc]
theorem Sy.st0 {t : TypeId} {x y : Operand} {b o m : Nat} {vy : Value} {cs cs' : List Value} {T : TypeId} (hx : ev E x = some (.pointer (some ⟨b, o, none⟩))) (hy : ev E y = some vy) (hs : szT P t = some m) (hl : vy.cells.toList.length = m) (h1 : oneL vy.cells.toList = true)
    (hm : H0.get b = .cells cs T true) (hn : ∀ p ∈ Mo, p.1 ≠ b) (hle : o + m ≤ cs.length) (hc : lay cs o vy.cells.toList = cs') (h : Sy n H0 lo hi E ((b, .cells cs' T true) :: Mo) Mn K) :
    Sy n H0 lo hi E Mo Mn (StepY P pr ⟨none, .store t x y, ty, p, a, g⟩ K) := by
  intro tm H u hE hH
  have hg : H.get b = .cells cs T true := hH.get0 hm rfl hn
  have hlt : b < H0.next := get_live_lt (by rw [hm]; rfl)
  refine ⟨(wp_store _ _ _).2 ⟨H.set b (.cells cs' T true), ?_, h _ _ u hE (hH.set0 hlt hn)⟩⟩
  rw [hE.ev hx, hE.ev hy]
  simp only [storeW, hg, hs, Option.bind_some]
  rw [if_pos ⟨hl, hle, h1⟩, hc]

/-- New objects. -/
theorem Sy.new {o : Oper} {obj : AObj} {mk : Nat → Value} (ho : o.dst = some d) (hd : Nat.blt d n = true) (hc : cls P o = .n) (hp : ∀ tm, Mods tm E → nop P (aval tm) o = some (obj, mk)) (h : ∀ b, Sy n H0 lo hi ((d, mk b) :: E) Mo ((b, obj) :: Mn) K) :
    Sy n H0 lo hi E Mo Mn (StepY P pr o K) := by
  intro tm H u hE hH
  refine ⟨(wp_new hc).2 ⟨(obj, mk), hp tm hE, ?_⟩⟩
  rw [ho]
  exact h H.next _ _ (by simp [putT, u]) (hE.put (by rw [u]; exact of_blt hd) _) (hH.push obj)
def NewY (P : Program) (E : Env) (o : Oper) (obj : AObj) (mk : Nat → Value) : Prop := cls P o = .n ∧ ∀ tm, Mods tm E → nop P (aval tm) o = some (obj, mk)
theorem Sy.newY {o : Oper} {obj : AObj} {mk : Nat → Value} (ho : o.dst = some d) (hd : Nat.blt d n = true) (hc : NewY P E o obj mk) (h : ∀ b, Sy n H0 lo hi ((d, mk b) :: E) Mo ((b, obj) :: Mn) K) :
    Sy n H0 lo hi E Mo Mn (StepY P pr o K) := .new ho hd hc.1 hc.2 h
theorem newY_alloc {t : TypeId} {z : Value} (hz : zeroT P t = some z) : NewY P E ⟨some d, .alloc t, ty, p, a, g⟩ (.cells z.cells.toList t true) (fun h => .pointer (some ⟨h, 0, none⟩)) :=
  ⟨rfl, fun tm _ => by simp only [nop, hz, Option.map_some]⟩
theorem newY_box {t : TypeId} {x : Operand} {vx : Value} (hx : ev E x = some vx) : NewY P E ⟨some d, .box t x, ty, p, a, g⟩ (.cells vx.cells.toList t true) (fun h => .pointer (some ⟨h, 0, none⟩)) :=
  ⟨rfl, fun tm hE => by simp only [nop, hE.ev hx]⟩
theorem newY_bs {t e : TypeId} {m sz : Nat} {ps : Array (Nat × Operand)} {vs : List (Nat × Value)} {z : Value} {cs : List Value} (ht : P.underlying t = some (.slice e)) (hs : szT P e = some sz) (hz : zeroT P e = some z) (hl : z.cells.toList.length = sz) (h1 : m * sz ≤ 2 ^ 24 ∧ sz ≠ 0) (hx : evp E ps.toList = some vs)
    (hf : fillL (fun i => some (i * sz, sz)) (List.replicate m z.cells.toList).flatten vs = some cs) : NewY P E ⟨some d, .buildSlice t m ps, ty, p, a, g⟩ (.cells cs e true) (fun h => .slice (some ⟨h, 0, none⟩) m m) :=
  ⟨rfl, fun tm hE => by simp only [nop, ht, hs, Option.bind_some, hz, if_pos h1, if_pos hl, hE.evp hx, hf, Option.map_some]⟩
theorem newY_mk {t e : TypeId} {l m : Operand} {k q sz bs : Nat} {z : Value} {kl km : IntKind} (ht : P.underlying t = some (.slice e)) (hs : szT P e = some sz) (hb : bytesT P e = some bs) (hz : zeroT P e = some z) (hl : ev E l = some (.int kl (k : Int))) (hm : ev E m = some (.int km (q : Int)))
    (hle : k ≤ q) (h0 : 0 < bs) (h1 : bs * q ≤ 2 ^ 48) (h2 : sz ≠ 0) (h3 : z.cells.toList.length = sz) (hR : sz < 1000000000000 := by decide) :
    NewY P E ⟨some d, .makeSlice t l m, ty, p, a, g⟩ (.cells (List.replicate k z.cells.toList).flatten e true) (fun h => .slice (some ⟨h, 0, none⟩) k (if (k : Int) = (q : Int) then k else k + 2 + sz)) :=
  ⟨rfl, fun tm hE => by
    have hc : (0 : Int) ≤ (k : Int) ∧ (k : Int) ≤ (q : Int) ∧ 0 < bs ∧ (bs : Int) * (q : Int) ≤ 2 ^ 48 ∧ sz ≠ 0 ∧ z.cells.toList.length = sz ∧ sz < 1000000000000 := ⟨by omega, by omega, h0, by norm_cast, h2, h3, hR⟩
    simp only [nop, ht, hE.ev hl, hE.ev hm, hs, hb, hz, Option.bind_some]
    rw [if_pos hc]
    simp⟩
/-- make([]T, k). -/
theorem newY_mk1 {t e : TypeId} {l m : Operand} {k sz bs : Nat} {z : Value} {kl km : IntKind} (ht : P.underlying t = some (.slice e)) (hs : szT P e = some sz) (hb : bytesT P e = some bs) (hz : zeroT P e = some z) (hl : ev E l = some (.int kl (k : Int))) (hm : ev E m = some (.int km (k : Int)))
    (h0 : 0 < bs) (h1 : bs * k ≤ 2 ^ 48) (h2 : sz ≠ 0) (h3 : z.cells.toList.length = sz) (hR : sz < 1000000000000 := by decide) :
    NewY P E ⟨some d, .makeSlice t l m, ty, p, a, g⟩ (.cells (List.replicate k z.cells.toList).flatten e true) (fun h => .slice (some ⟨h, 0, none⟩) k k) := by
  have := newY_mk (ty := ty) (p := p) (a := a) (g := g) (d := d) ht hs hb hz hl hm (Nat.le_refl k) h0 h1 h2 h3 hR
  simpa using this
end
end
end Go.Am

/- Symbolic states: calls, append, copy; regions that draw their order. -/
namespace Go.Am
open Go

section
variable {P : Program} {pr : Prims} {f n : Nat} {H0 : AHeap} {lo hi : Nat} {E : Env} {Mo Mn : Hm} {K : AS → Prop} {d : Nat} {ty : TypeId} {p : String} {a : Array Edge} {g : Option (Nat × Bool)} {v : Value}

theorem cop_val {tm : List Value} {fo : Operand} {xs : Array Operand} {ts : Array TypeId} {k : FuncId} {vs first cap : List Value} {dst : Option Tmp} (hE : Mods tm E) (hf : ev E fo = some (.func (.func k) ⟨first⟩ ⟨cap⟩)) (hen : enters P k = true) (hx : evs E xs.toList = some vs) :
    cop P (aval tm) ⟨dst, .call ⟨.value fo, xs, ts⟩, ty, p, a, g⟩ = some (k, first ++ vs ++ cap) := by
  simp only [cop, hE.ev hf, hen, if_true, hE.evs hx]

/-- A call: whatever it leaves. -/
theorem Sy.call {ι : Type} {fo : Operand} {xs : Array Operand} {ts : Array TypeId} {k : FuncId} {vs first cap : List Value} (V : ι → Value) (Mo' Mn' : ι → Hm) (I : ι → Prop) (hd : Nat.blt d n = true) (hf : ev E fo = some (.func (.func k) ⟨first⟩ ⟨cap⟩)) (hen : enters P k = true) (hx : evs E xs.toList = some vs)
    (hc : ∀ H, Hp H0 lo hi H Mo Mn → CallR P pr k (first ++ vs ++ cap) H (fun v H' => ∃ i, I i ∧ v = V i ∧ Hp H0 lo hi H' (Mo' i) (Mn' i))) (h : ∀ i, I i → Sy n H0 lo hi ((d, V i) :: E) (Mo' i) (Mn' i) K) :
    Sy n H0 lo hi E Mo Mn (StepY P pr ⟨some d, .call ⟨.value fo, xs, ts⟩, ty, p, a, g⟩ K) := by
  intro tm H u hE hH
  refine ⟨(wp_callF rfl).2 ⟨_, cop_val hE hf hen hx, (hc H hH).mono ?_⟩⟩
  rintro v H' ⟨i, hi, rfl, hq⟩
  exact h i hi _ _ (by simp [putT, u]) (hE.put (by rw [u]; exact of_blt hd) _) hq

/-- A call that leaves the heap as it was, but for what it made. -/
theorem Sy.callN {ι : Type} {fo : Operand} {xs : Array Operand} {ts : Array TypeId} {k : FuncId} {vs first cap : List Value} {V : ι → Value} {Ln : ι → Hm} {I : ι → Prop} (hd : Nat.blt d n = true) (hf : ev E fo = some (.func (.func k) ⟨first⟩ ⟨cap⟩)) (hen : enters P k = true) (hx : evs E xs.toList = some vs)
    (hc : ∀ H, Hp H0 lo hi H Mo Mn → CallR P pr k (first ++ vs ++ cap) H (fun v H' => ∃ i, I i ∧ v = V i ∧ Hp H 0 0 H' [] (Ln i))) (h : ∀ i, I i → Sy n H0 lo hi ((d, V i) :: E) Mo (Ln i ++ Mn) K) :
    Sy n H0 lo hi E Mo Mn (StepY P pr ⟨some d, .call ⟨.value fo, xs, ts⟩, ty, p, a, g⟩ K) :=
  .call V (fun _ => Mo) (fun i => Ln i ++ Mn) I hd hf hen hx (fun H hH => (hc H hH).mono fun v H' ⟨i, hi, e, q⟩ => ⟨i, hi, e, hH.then0 q⟩) h
/-- A call whose answer is told, and that leaves nothing. -/
theorem Sy.call0 {fo : Operand} {xs : Array Operand} {ts : Array TypeId} {k : FuncId} {vs first cap : List Value} (hd : Nat.blt d n = true) (hf : ev E fo = some (.func (.func k) ⟨first⟩ ⟨cap⟩)) (hen : enters P k = true) (hx : evs E xs.toList = some vs)
    (hc : ∀ H, Hp H0 lo hi H Mo Mn → CallR P pr k (first ++ vs ++ cap) H (fun u H' => u = v ∧ Hp H 0 0 H' [] [])) (h : Sy n H0 lo hi ((d, v) :: E) Mo Mn K) :
    Sy n H0 lo hi E Mo Mn (StepY P pr ⟨some d, .call ⟨.value fo, xs, ts⟩, ty, p, a, g⟩ K) :=
  .callN (ι := Unit) (V := fun _ => v) (Ln := fun _ => []) (I := fun _ => True) hd hf hen hx (fun H hH => (hc H hH).mono fun v H' ⟨e, q⟩ => ⟨(), trivial, e, q⟩) fun _ _ => h
/-- A call that turns one object: a new one, an old one, an old one for the first time. -/
theorem Sy.callTN {ι : Type} {fo : Operand} {xs : Array Operand} {ts : Array TypeId} {k b : Nat} {o : AObj} {vs first cap : List Value} {V : ι → Value} {o' : ι → AObj} {Mn' Ln : ι → Hm} {I : ι → Prop} (hd : Nat.blt d n = true) (hf : ev E fo = some (.func (.func k) ⟨first⟩ ⟨cap⟩)) (hen : enters P k = true) (hx : evs E xs.toList = some vs)
    (ht : ∀ i, Turn Mn b o (o' i) (Mn' i)) (hc : ∀ H, Hp H0 lo hi H Mo Mn → CallR P pr k (first ++ vs ++ cap) H (fun v H' => ∃ i, I i ∧ v = V i ∧ Hp H 0 0 H' [(b, o' i)] (Ln i))) (h : ∀ i, I i → Sy n H0 lo hi ((d, V i) :: E) Mo (Ln i ++ Mn' i) K) :
    Sy n H0 lo hi E Mo Mn (StepY P pr ⟨some d, .call ⟨.value fo, xs, ts⟩, ty, p, a, g⟩ K) :=
  .call V (fun _ => Mo) (fun i => Ln i ++ Mn' i) I hd hf hen hx (fun H hH => (hc H hH).mono fun v H' ⟨i, hi, e, q⟩ => ⟨i, hi, e, hH.thenN q (ht i)⟩) h
theorem Sy.callTO {ι : Type} {fo : Operand} {xs : Array Operand} {ts : Array TypeId} {k b : Nat} {o : AObj} {vs first cap : List Value} {V : ι → Value} {o' : ι → AObj} {Mo' Ln : ι → Hm} {I : ι → Prop} (hd : Nat.blt d n = true) (hf : ev E fo = some (.func (.func k) ⟨first⟩ ⟨cap⟩)) (hen : enters P k = true) (hx : evs E xs.toList = some vs)
    (ht : ∀ i, Turn Mo b o (o' i) (Mo' i)) (hc : ∀ H, Hp H0 lo hi H Mo Mn → CallR P pr k (first ++ vs ++ cap) H (fun v H' => ∃ i, I i ∧ v = V i ∧ Hp H 0 0 H' [(b, o' i)] (Ln i))) (h : ∀ i, I i → Sy n H0 lo hi ((d, V i) :: E) (Mo' i) (Ln i ++ Mn) K) :
    Sy n H0 lo hi E Mo Mn (StepY P pr ⟨some d, .call ⟨.value fo, xs, ts⟩, ty, p, a, g⟩ K) :=
  .call V Mo' (fun i => Ln i ++ Mn) I hd hf hen hx (fun H hH => (hc H hH).mono fun v H' ⟨i, hi, e, q⟩ => ⟨i, hi, e, hH.thenO q (ht i)⟩) h
theorem Sy.callTX {ι : Type} {fo : Operand} {xs : Array Operand} {ts : Array TypeId} {k b : Nat} {vs first cap : List Value} {V : ι → Value} {o' : ι → AObj} {Ln : ι → Hm} {I : ι → Prop} (hd : Nat.blt d n = true) (hf : ev E fo = some (.func (.func k) ⟨first⟩ ⟨cap⟩)) (hen : enters P k = true) (hx : evs E xs.toList = some vs)
    (hb : b < H0.next) (hn : ∀ p ∈ Mo, p.1 ≠ b) (hc : ∀ H, Hp H0 lo hi H Mo Mn → CallR P pr k (first ++ vs ++ cap) H (fun v H' => ∃ i, I i ∧ v = V i ∧ Hp H 0 0 H' [(b, o' i)] (Ln i))) (h : ∀ i, I i → Sy n H0 lo hi ((d, V i) :: E) ((b, o' i) :: Mo) (Ln i ++ Mn) K) :
    Sy n H0 lo hi E Mo Mn (StepY P pr ⟨some d, .call ⟨.value fo, xs, ts⟩, ty, p, a, g⟩ K) :=
  .call V (fun i => (b, o' i) :: Mo) (fun i => Ln i ++ Mn) I hd hf hen hx (fun H hH => (hc H hH).mono fun v H' ⟨i, hi, e, q⟩ => ⟨i, hi, e, hH.thenX q hb hn⟩) h

/-- The elements that append and copy take. -/
def SrcY (H0 : AHeap) (lo hi : Nat) (Mo Mn : Hm) (sz : Nat) (x : Value) (k : Nat) (cs : List Value) : Prop := ∀ H, Hp H0 lo hi H Mo Mn → srcCells sz x H = some (k, cs)
theorem SrcY.nil {sz : Nat} : SrcY H0 lo hi Mo Mn sz (.slice none 0 0) 0 [] := fun _ _ => rfl
theorem SrcY.str {b : ByteArray} : SrcY H0 lo hi Mo Mn 1 (.string b) b.size (b.data.toList.map fun c => .int .u8 c.toNat) := fun _ _ => rfl
theorem srcCells_some {H : AHeap} {sz b o m c : Nat} {cs : List Value} {T : TypeId} {w : Bool} (hg : H.get b = .cells cs T w) (hl : o + m * sz ≤ cs.length) : srcCells sz (.slice (some ⟨b, o, none⟩) m c) H = some (m, (cs.drop o).take (m * sz)) := by
  by_cases h0 : m = 0
  · subst h0; simp [srcCells]
  · simp only [srcCells, hg, if_pos hl, if_neg h0]
theorem SrcY.ofN {sz b o m c : Nat} {cs : List Value} {T : TypeId} {w : Bool} (hm : Has Mn b (.cells cs T w)) (hl : o + m * sz ≤ cs.length) : SrcY H0 lo hi Mo Mn sz (.slice (some ⟨b, o, none⟩) m c) m ((cs.drop o).take (m * sz)) := fun _ hH => srcCells_some (hH.getN hm) hl
theorem SrcY.of0 {sz b o m c : Nat} {cs : List Value} {T : TypeId} {w : Bool} (hm : H0.get b = .cells cs T w) (hn : ∀ p ∈ Mo, p.1 ≠ b) (hl : o + m * sz ≤ cs.length) : SrcY H0 lo hi Mo Mn sz (.slice (some ⟨b, o, none⟩) m c) m ((cs.drop o).take (m * sz)) := fun _ hH => srcCells_some (hH.get0 hm rfl hn) hl
/-- The same, by what it is. -/
theorem SrcY.eq {sz k : Nat} {x : Value} {cs cs' : List Value} (h : SrcY H0 lo hi Mo Mn sz x k cs) (e : cs = cs') : SrcY H0 lo hi Mo Mn sz x k cs' := e ▸ h

/-- A slice's elements, as they are read. -/
inductive SlR (H : AHeap) (sz : Nat) : Value → Nat → List Value → Prop
  | nil : SlR H sz (.slice none 0 0) 0 []
  | emp {b o c : Nat} : SlR H sz (.slice (some ⟨b, o, none⟩) 0 c) 0 []
  | mk {b o n c : Nat} {cs : List Value} {T : TypeId} {w : Bool} {l : List Value} : H.get b = .cells cs T w → o + n * sz ≤ cs.length → (cs.drop o).take (n * sz) = l → SlR H sz (.slice (some ⟨b, o, none⟩) n c) n l
theorem SlR.len {H : AHeap} {sz m : Nat} {x : Value} {l : List Value} (h : SlR H sz x m l) : l.length = m * sz := by
  cases h with
  | nil => simp
  | emp => simp
  | mk h1 h2 h3 => subst h3; simp; omega
theorem SrcY.emp {sz b o c : Nat} : SrcY H0 lo hi Mo Mn sz (.slice (some ⟨b, o, none⟩) 0 c) 0 [] := fun _ _ => by simp [srcCells]
theorem SrcY.ofR {sz m : Nat} {x : Value} {l : List Value} (hx : SlR H0 sz x m l) (hn : Mo = []) : SrcY H0 lo hi Mo Mn sz x m l := by
  subst hn
  cases hx with
  | nil => exact .nil
  | emp => exact .emp
  | mk h1 h2 h3 => exact (SrcY.of0 h1 (by simp) h2).eq h3

/-- A slice that is built by append: nothing yet, or the call's own. -/
def accV (sz : Nat) (l : List Value) (k b : Nat) : Value := if k = 0 then .slice none 0 0 else .slice (some ⟨b, 0, none⟩) k (k + 2 + sz)
def accM (T : TypeId) (l : List Value) (k b : Nat) : Hm := if k = 0 then [] else [(b, .cells l T true)]

theorem wy_append {t xt : TypeId} {x y : Operand} {s : AS} {Q : AS → Prop} {r : Value × AHeap} (h : appendW P t xt (aval s.tm x) (aval s.tm y) s.H = some r) (hq : Q ⟨putT s.tm (some d) r.1, r.2⟩) : StepR P pr ⟨some d, .call ⟨.builtin .append, #[x, y], #[t, xt]⟩, ty, p, a, g⟩ s Q :=
  (wp_write rfl).2 ⟨r, by show appendZ _ _ _ _ _ _ = _; unfold appendZ; rw [h], hq⟩
/-- What append asks of a type. -/
structure AppT (P : Program) (t xt e : TypeId) (sz bs : Nat) (z : Value) : Prop where
  ht : P.underlying t = some (.slice e)
  hx : notInt P xt = true
  hs : szT P e = some sz
  hb : bytesT P e = some bs
  hz : zeroT P e = some z
  h0 : sz ≠ 0
  h1 : bs ≠ 0
  h2 : z.cells.toList.length = sz
  h3 : sz < 1000000000000

variable {t xt e : TypeId} {sz bs : Nat} {z : Value}

/-- Nothing is appended. -/
theorem Sy.appZ {x y : Operand} {vx vy : Value} {cs : List Value} (A : AppT P t xt e sz bs z) (hd : Nat.blt d n = true) (hx : ev E x = some vx) (hy : ev E y = some vy) (hv : (∃ b o m c, vx = .slice (some ⟨b, o, none⟩) m c) ∨ vx = .slice none 0 0) (hs : SrcY H0 lo hi Mo Mn sz vy 0 cs) (h1 : oneL cs = true) (h : Sy n H0 lo hi ((d, vx) :: E) Mo Mn K) :
    Sy n H0 lo hi E Mo Mn (StepY P pr ⟨some d, .call ⟨.builtin .append, #[x, y], #[t, xt]⟩, ty, p, a, g⟩ K) := by
  intro tm H u hE hH
  refine ⟨wy_append (r := (vx, H)) ?_ (h _ _ (by simp [putT, u]) (hE.put (by rw [u]; exact of_blt hd) _) hH)⟩
  simp only [hE.ev hx, hE.ev hy, appendW, A.ht, A.hs, A.hb, A.hz, hs H hH, Option.bind_some, A.hx, A.h2, A.h3, h1, ne_eq, A.h0, A.h1, not_false_eq_true, and_self, if_true]
  rcases hv with ⟨b, o, m, c, rfl⟩ | rfl <;> rfl
/-- To nothing. -/
theorem Sy.appN {x y : Operand} {vy : Value} {k : Nat} {cs : List Value} (A : AppT P t xt e sz bs z) (hd : Nat.blt d n = true) (hx : ev E x = some (.slice none 0 0)) (hy : ev E y = some vy) (hs : SrcY H0 lo hi Mo Mn sz vy k cs) (h1 : oneL cs = true) (hk : k ≠ 0) (hb : k * bs ≤ 140737488355328)
    (h : ∀ b, Sy n H0 lo hi ((d, .slice (some ⟨b, 0, none⟩) k (k + 2 + sz)) :: E) Mo ((b, .cells cs e true) :: Mn) K) :
    Sy n H0 lo hi E Mo Mn (StepY P pr ⟨some d, .call ⟨.builtin .append, #[x, y], #[t, xt]⟩, ty, p, a, g⟩ K) := by
  intro tm H u hE hH
  refine ⟨wy_append (r := (.slice (some ⟨H.next, 0, none⟩) k (k + 2 + sz), H.push (.cells cs e true))) ?_ (h H.next _ _ (by simp [putT, u]) (hE.put (by rw [u]; exact of_blt hd) _) (hH.push _))⟩
  simp only [hE.ev hx, hE.ev hy, appendW, A.ht, A.hs, A.hb, A.hz, hs H hH, Option.bind_some, A.hx, A.h2, A.h3, h1, ne_eq, A.h0, A.h1, not_false_eq_true, and_self, if_true, hk, if_false, hb]
/-- To a full slice, or to one that may be appended to but is kept: what it held is known. -/
theorem Sy.appF {x y : Operand} {b o m : Nat} {vy : Value} {k : Nat} {cs old cc : List Value} {T : TypeId} {w : Bool} (A : AppT P t xt e sz bs z) (hd : Nat.blt d n = true) (hx : ev E x = some (.slice (some ⟨b, o, none⟩) m m)) (hy : ev E y = some vy) (hs : SrcY H0 lo hi Mo Mn sz vy k cs) (h1 : oneL cs = true) (hk : k ≠ 0) (hb : (m + k) * bs ≤ 140737488355328)
    (hg : ∀ H, Hp H0 lo hi H Mo Mn → H.get b = .cells cc T w) (hl : o + m * sz ≤ cc.length) (ho : (cc.drop o).take (m * sz) = old)
    (h : ∀ b', Sy n H0 lo hi ((d, .slice (some ⟨b', 0, none⟩) (m + k) (m + k + 2 + sz)) :: E) Mo ((b', .cells (old ++ cs) e true) :: Mn) K) :
    Sy n H0 lo hi E Mo Mn (StepY P pr ⟨some d, .call ⟨.builtin .append, #[x, y], #[t, xt]⟩, ty, p, a, g⟩ K) := by
  subst ho
  intro tm H u hE hH
  refine ⟨wy_append (r := (.slice (some ⟨H.next, 0, none⟩) (m + k) (m + k + 2 + sz), H.push (.cells ((cc.drop o).take (m * sz) ++ cs) e true))) ?_ (h H.next _ _ (by simp [putT, u]) (hE.put (by rw [u]; exact of_blt hd) _) (hH.push _))⟩
  simp only [hE.ev hx, hE.ev hy, appendW, A.ht, A.hs, A.hb, A.hz, hs H hH, Option.bind_some, A.hx, A.h2, A.h3, h1, ne_eq, A.h0, A.h1, not_false_eq_true, and_self, if_true, hk, if_false, hb, hg H hH, hl]
/-- To a slice of one's own. -/
theorem Sy.appO {x y : Operand} {b m : Nat} {vy : Value} {k : Nat} {cs cc : List Value} {T : TypeId} {Mn' : Hm} (A : AppT P t xt e sz bs z) (hd : Nat.blt d n = true) (hx : ev E x = some (.slice (some ⟨b, 0, none⟩) m (m + 2 + sz))) (hy : ev E y = some vy) (hs : SrcY H0 lo hi Mo Mn sz vy k cs) (h1 : oneL cs = true) (hk : k ≠ 0) (hb : (m + k) * bs ≤ 140737488355328)
    (hm : Turn Mn b (.cells cc T true) .dead Mn') (hl : cc.length = m * sz)
    (h : ∀ b', Sy n H0 lo hi ((d, .slice (some ⟨b', 0, none⟩) (m + k) (m + k + 2 + sz)) :: E) Mo ((b', .cells (cc ++ cs) e true) :: Mn') K) :
    Sy n H0 lo hi E Mo Mn (StepY P pr ⟨some d, .call ⟨.builtin .append, #[x, y], #[t, xt]⟩, ty, p, a, g⟩ K) := by
  intro tm H u hE hH
  have hg : H.get b = .cells cc T true := hH.vn _ hm.has
  have e1 : (cc.drop 0).take (m * sz) = cc := by rw [List.drop_zero, List.take_of_length_le (by omega)]
  have e2 : 0 + m * sz ≤ cc.length := by omega
  have e3 : ¬ (m + 2 + sz = m) := by omega
  have e4 : (m + 2 ≤ m + 2 + sz ∧ (m + 2 + sz - m - 2) % 1000000000000 = sz) = True := eq_true ⟨by omega, by have := A.h3; omega⟩
  have hp := (hH.setN hm).push (.cells (cc ++ cs) e true)
  rw [next_set] at hp
  refine ⟨wy_append (r := (.slice (some ⟨H.next, 0, none⟩) (m + k) (m + k + 2 + sz), (H.set b .dead).push (.cells (cc ++ cs) e true))) ?_ (h H.next _ _ (by simp [putT, u]) (hE.put (by rw [u]; exact of_blt hd) _) hp)⟩
  simp only [hE.ev hx, hE.ev hy, appendW, A.ht, A.hs, A.hb, A.hz, hs H hH, Option.bind_some, A.hx, A.h2, A.h3, h1, ne_eq, A.h0, A.h1, not_false_eq_true, and_self, if_true, hk, if_false, hb, hg, e2, e3, e4, e1]
/-- To what is built by append. -/
theorem Sy.appA {x y : Operand} {b m : Nat} {vy : Value} {k : Nat} {cs l : List Value} {M1 : Hm} (A : AppT P t xt e sz bs z) (hd : Nat.blt d n = true) (hx : ev E x = some (accV sz l m b)) (hy : ev E y = some vy) (hl : l.length = m * sz) (hs : SrcY H0 lo hi Mo (accM e l m b ++ M1) sz vy k cs) (h1 : oneL cs = true) (hc : cs.length = k * sz) (hb : (m + k) * bs ≤ 140737488355328)
    (h : ∀ b', Sy n H0 lo hi ((d, accV sz (l ++ cs) (m + k) b') :: E) Mo (accM e (l ++ cs) (m + k) b' ++ M1) K) :
    Sy n H0 lo hi E Mo (accM e l m b ++ M1) (StepY P pr ⟨some d, .call ⟨.builtin .append, #[x, y], #[t, xt]⟩, ty, p, a, g⟩ K) := by
  by_cases hk : k = 0
  · subst hk
    have e0 : cs = [] := List.length_eq_zero_iff.1 (by simpa using hc)
    subst e0
    refine Sy.appZ A hd hx hy ?_ hs h1 ?_
    · unfold accV; split
      · exact .inr rfl
      · exact .inl ⟨_, _, _, _, rfl⟩
    · have := h b; simpa using this
  · by_cases hm : m = 0
    · subst hm
      have e0 : l = [] := List.length_eq_zero_iff.1 (by simpa using hl)
      subst e0
      simp only [accM, if_true, List.nil_append] at hs ⊢
      refine Sy.appN A hd (by rw [hx]; simp [accV]) hy hs h1 hk (by simpa using hb) fun b' => ?_
      have := h b'
      simpa [accV, accM, hk] using this
    · simp only [accM, hm, if_false, List.cons_append, List.nil_append] at hs ⊢
      have hmk : ¬ (m + k = 0) := by omega
      refine Sy.appO A hd (by rw [hx]; simp [accV, hm]) hy hs h1 hk hb .here hl fun b' => ?_
      have := h b'
      simp only [accV, accM, hmk, if_false, List.cons_append, List.nil_append] at this
      exact fun tm H u hE hH => this tm H u hE (hH.less (List.Sublist.cons_cons _ (List.sublist_cons_self _ _)))

end
end Go.Am

/- Symbolic states: regions that draw their order. -/
namespace Go.Am
open Go

structure DrawS (P : Program) (pr : Prims) (ops : Array Oper) (ps : List (Nat × Nat)) (S : Nat → Prop) (base : Nat) (l : List Oper) (i : Nat) (Q : AS → Prop) (s : AS) : Prop where
  run : ∀ a : DAcc, a.s = s → (∀ r ∈ a.reads, S r.2) → (∀ x ∈ a.writes, ∀ h, S h → x.2.1.get h = x.2.2.get h) → DrawL P pr ops ps base l i a (fun a => drawOK ps a ∧ Q a.s)

section
variable {P : Program} {pr : Prims} {f n : Nat} {H0 : AHeap} {lo hi base i N : Nat} {E : Env} {Mo Mn : Hm} {Q : AS → Prop} {ops : Array Oper} {ps : List (Nat × Nat)} {S : Nat → Prop} {o : Oper} {l : List Oper}

theorem Sy.draw {id : Nat} {QQ : AEx → AS → Prop} (N : Nat) (ps : List (Nat × Nat)) (S : Nat → Nat → Prop) (hp : drawPairs P ops = some ps) (hN : ops.size = N)
    (h : ∀ base, H0.next ≤ base → (∀ p ∈ Mn, p.1 < base) → Sy n H0 (base + 0) (base + N) E Mo Mn (DrawS P pr ops ps (S (base + N)) base ops.toList 0 (QQ .normal))) :
    Sy n H0 0 0 E Mo Mn (CodeY P pr f (.region id ops true) QQ) := by
  intro tm H x y z
  refine ⟨(wp_draw hp).2 ?_⟩
  have hr := z.reserve N
  have := h H.next z.le z.lt tm (reserve H N) x y (by simpa using hr)
  subst hN
  exact this.run _ rfl (by simp) (by simp)

theorem Sy.drawL {id : Nat} {l : List Oper} {QQ : AEx → AS → Prop} (N : Nat) (ps : List (Nat × Nat)) (S : Nat → Nat → Prop) (hp : drawPairs P (List.toArray l) = some ps) (hN : l.length = N)
    (h : ∀ base, H0.next ≤ base → (∀ p ∈ Mn, p.1 < base) → Sy n H0 (base + 0) (base + N) E Mo Mn (DrawS P pr (List.toArray l) ps (S (base + N)) base l 0 (QQ .normal))) :
    Sy n H0 0 0 E Mo Mn (CodeY P pr f (.region id (List.toArray l) true) QQ) := .draw N ps S hp (by simpa using hN) h
theorem Sy.dst {K : AS → Prop} (h : Sy n H0 lo hi E Mo Mn K) : Sy n H0 lo hi E Mo Mn K := h
theorem Sy.dend (h : Sy n H0 0 0 E Mo Mn Q) : Sy n H0 lo hi E Mo Mn (DrawS P pr ops ps S base [] i Q) := by
  intro tm H x y z
  refine ⟨?_⟩
  intro a ha hr hw
  refine wp_dnil.2 ⟨fun p _ r hrm _ w hwm _ => hw w hwm _ (hr r hrm), ?_⟩
  rw [ha]; exact h tm H x y z.noroom

def WantY (n : Nat) (E : Env) (ops : Array Oper) (o : Oper) : Prop := ∀ tm : List Value, tm.length = n → Mods tm E → Region.wanted o (ayield ops tm) = true
theorem wantY_none {d : Option Tmp} {op : Op} {ty : TypeId} {p : String} {a : Array Edge} : WantY n E ops ⟨d, op, ty, p, a, none⟩ := fun _ _ _ => rfl
/-- A read or a pure operation, or one that is not watched. -/
theorem Sy.dgo (hw : WantY n E ops o) (hc : cls P o ≠ .n) (h1 : ps.any (fun q => q.1 == i) = false) (h2 : ps.any (fun q => q.2 == i) = false)
    (h : Sy n H0 (base + (i + 1)) hi E Mo Mn (StepY P pr o (DrawS P pr ops ps S base l (i + 1) Q))) : Sy n H0 (base + i) hi E Mo Mn (DrawS P pr ops ps S base (o :: l) i Q) := by
  intro tm H x y z
  refine ⟨?_⟩
  intro a ha hr hwr
  refine wp_dcons.2 ?_
  rw [ha, if_pos (hw tm x y)]
  obtain ⟨m, s1, e1, q1⟩ := (h tm H x y (z.slip _ (by omega))).run
  refine ⟨m, s1, by rw [dStep_op hc]; exact e1, ?_⟩
  exact q1.run _ rfl (by simp only [note, h1]; exact hr) (by simp only [note, h2]; exact hwr)

/-- A load that is watched. -/
theorem Sy.dld {t : TypeId} {x : Operand} {b c : Nat} {d : Option Tmp} {ty : TypeId} {p : String} {a : Array Edge} {g : Option (Nat × Bool)} (hw : WantY n E ops ⟨d, .load t x, ty, p, a, g⟩) (hx : ev E x = some (.pointer (some ⟨b, c, none⟩))) (hb : S b) (h2 : ps.any (fun q => q.2 == i) = false)
    (h : Sy n H0 (base + (i + 1)) hi E Mo Mn (StepY P pr ⟨d, .load t x, ty, p, a, g⟩ (DrawS P pr ops ps S base l (i + 1) Q))) : Sy n H0 (base + i) hi E Mo Mn (DrawS P pr ops ps S base (⟨d, .load t x, ty, p, a, g⟩ :: l) i Q) := by
  intro tm H u y z
  refine ⟨?_⟩
  intro a ha hr hwr
  refine wp_dcons.2 ?_
  rw [ha, if_pos (hw tm u y)]
  obtain ⟨m, s1, e1, q1⟩ := (h tm H u y (z.slip _ (by omega))).run
  refine ⟨m, s1, by rw [dStep_op (by simp [cls])]; exact e1, ?_⟩
  refine q1.run _ rfl ?_ (by simp only [note, h2]; exact hwr)
  simp only [note]
  split
  · split
    · rename_i h' he
      intro r hrm
      rcases List.mem_cons.1 hrm with rfl | hrm
      · simp only [readO] at he
        rw [if_pos (by rw [ha]; exact hw tm u y)] at he
        simp only [rop, ha, y.ev hx, Option.bind_some, Option.some.injEq] at he
        subst he; exact hb
      · exact hr r hrm
    · exact hr
  · exact hr

/-- A call that is watched, and turns nothing. -/
theorem Sy.dcall {ι : Type} {fo : Operand} {xs : Array Operand} {ts : Array TypeId} {k d : Nat} {ty : TypeId} {p : String} {a : Array Edge} {g : Option (Nat × Bool)} {vs first cap : List Value} {V : ι → Value} {Ln : ι → Hm} {I : ι → Prop} (hw : WantY n E ops ⟨some d, .call ⟨.value fo, xs, ts⟩, ty, p, a, g⟩) (h1 : ps.any (fun q => q.1 == i) = false) (hS : ∀ h, S h → h < base + N) (hi1 : Nat.blt i N = true)
    (hd : Nat.blt d n = true) (hf : ev E fo = some (.func (.func k) ⟨first⟩ ⟨cap⟩)) (hen : enters P k = true) (hx : evs E xs.toList = some vs)
    (hc : ∀ H, Hp H0 (base + (i + 1)) (base + N) H Mo Mn → CallR P pr k (first ++ vs ++ cap) H (fun v H' => ∃ j, I j ∧ v = V j ∧ Hp H 0 0 H' [] (Ln j))) (h : ∀ j, I j → Sy n H0 (base + (i + 1)) (base + N) ((d, V j) :: E) Mo (Ln j ++ Mn) (DrawS P pr ops ps S base l (i + 1) Q)) :
    Sy n H0 (base + i) (base + N) E Mo Mn (DrawS P pr ops ps S base (⟨some d, .call ⟨.value fo, xs, ts⟩, ty, p, a, g⟩ :: l) i Q) := by
  intro tm H u y z
  refine ⟨?_⟩
  intro acc ha hr hwr
  have hi2 : i < N := of_blt hi1
  refine wp_dcons.2 ?_
  rw [ha, if_pos (hw tm u y)]
  have z' := z.slip (base + (i + 1)) (by omega)
  obtain ⟨m, v, H', e1, j, hj, rfl, q⟩ := hc H z'
  refine ⟨m, ⟨putT tm (some d) (V j), H'⟩, ?_, ?_⟩
  · rw [dStep_op (by simp [cls])]
    show opStep P (Am.call P pr m) ⟨some d, .call ⟨.value fo, xs, ts⟩, ty, p, a, g⟩ ⟨tm, H⟩ = _
    unfold opStep
    simp only [cls, cop_val y hf hen hx, Option.bind_some, e1, Option.map_some]
  · refine (h j hj _ _ (by simp [putT, u]) (y.put (by rw [u]; exact of_blt hd) _) (z'.then0 q)).run _ rfl (by simp only [note, h1]; exact hr) ?_
    intro x hx2 h' hS'
    simp only [note] at hx2
    split at hx2
    · rcases List.mem_cons.1 hx2 with rfl | hx2
      · simp only [ha]
        exact (q.fr h' (by have := (z.w1 (by omega)).2; have := hS h' hS'; omega) (by simp)).symm
      · exact hwr x hx2 h' hS'
    · exact hwr x hx2 h' hS'

/-- The same, its answer told, nothing left. -/
theorem Sy.dcall0 {fo : Operand} {xs : Array Operand} {ts : Array TypeId} {k d : Nat} {ty : TypeId} {p : String} {a : Array Edge} {g : Option (Nat × Bool)} {vs first cap : List Value} {v : Value} (hw : WantY n E ops ⟨some d, .call ⟨.value fo, xs, ts⟩, ty, p, a, g⟩) (h1 : ps.any (fun q => q.1 == i) = false) (hS : ∀ h, S h → h < base + N) (hi1 : Nat.blt i N = true)
    (hd : Nat.blt d n = true) (hf : ev E fo = some (.func (.func k) ⟨first⟩ ⟨cap⟩)) (hen : enters P k = true) (hx : evs E xs.toList = some vs)
    (hc : ∀ H, Hp H0 (base + (i + 1)) (base + N) H Mo Mn → CallR P pr k (first ++ vs ++ cap) H (fun u H' => u = v ∧ Hp H 0 0 H' [] [])) (h : Sy n H0 (base + (i + 1)) (base + N) ((d, v) :: E) Mo Mn (DrawS P pr ops ps S base l (i + 1) Q)) :
    Sy n H0 (base + i) (base + N) E Mo Mn (DrawS P pr ops ps S base (⟨some d, .call ⟨.value fo, xs, ts⟩, ty, p, a, g⟩ :: l) i Q) :=
  .dcall (ι := Unit) (V := fun _ => v) (Ln := fun _ => []) (I := fun _ => True) hw h1 hS hi1 hd hf hen hx (fun H hH => (hc H hH).mono fun _ _ ⟨e, q⟩ => ⟨(), trivial, e, q⟩) fun _ _ => h

/-- Objects that are known. -/
def KnownY (H0 : AHeap) (Mo Mn SK : Hm) : Prop := ∀ lo hi H, Hp H0 lo hi H Mo Mn → ∀ q ∈ SK, H.get q.1 = q.2
theorem KnownY.nil : KnownY H0 Mo Mn [] := fun _ _ _ _ _ h => by simp at h
theorem KnownY.consN {b : Nat} {ob : AObj} {SK : Hm} (hm : Has Mn b ob) (h : KnownY H0 Mo Mn SK) : KnownY H0 Mo Mn ((b, ob) :: SK) := fun lo hi H hH q hq => by
  rcases List.mem_cons.1 hq with rfl | hq
  · exact hH.getN hm
  · exact h lo hi H hH q hq
/-- A write that is watched: what is read elsewhere stays. -/
theorem Sy.dwr {SK : Hm} (hw : WantY n E ops o) (hc : cls P o ≠ .n) (h1 : ps.any (fun q => q.1 == i) = false) (hS : ∀ h, S h → ∃ ob, (h, ob) ∈ SK) (hk : KnownY H0 Mo Mn SK)
    (h : Sy n H0 (base + (i + 1)) hi E Mo Mn (StepY P pr o (fun s1 => (∀ q ∈ SK, s1.H.get q.1 = q.2) ∧ DrawS P pr ops ps S base l (i + 1) Q s1))) : Sy n H0 (base + i) hi E Mo Mn (DrawS P pr ops ps S base (o :: l) i Q) := by
  intro tm H u y z
  refine ⟨?_⟩
  intro a ha hr hwr
  refine wp_dcons.2 ?_
  rw [ha, if_pos (hw tm u y)]
  obtain ⟨m, s1, e1, q0, q1⟩ := (h tm H u y (z.slip _ (by omega))).run
  refine ⟨m, s1, by rw [dStep_op hc]; exact e1, ?_⟩
  refine q1.run _ rfl (by simp only [note, h1]; exact hr) ?_
  intro x hx2 h' hS'
  simp only [note] at hx2
  split at hx2
  · rcases List.mem_cons.1 hx2 with rfl | hx2
    · obtain ⟨ob, hob⟩ := hS h' hS'
      simp only [ha]
      rw [hk _ _ _ z _ hob, q0 _ hob]
    · exact hwr x hx2 h' hS'
  · exact hwr x hx2 h' hS'
theorem Sy.dand {SK : Hm} {R : AS → Prop} (hk : KnownY H0 Mo Mn SK) (h : Sy n H0 lo hi E Mo Mn R) : Sy n H0 lo hi E Mo Mn (fun s1 => (∀ q ∈ SK, s1.H.get q.1 = q.2) ∧ R s1) :=
  fun tm H x y z => ⟨hk _ _ _ z, h tm H x y z⟩

/-- A new object, in the room that is kept. -/
theorem Sy.dnew {d : Nat} {obj : AObj} {mk : Nat → Value} (hw : WantY n E ops o) (ho : o.dst = some d) (hd : Nat.blt d n = true) (hi1 : Nat.blt i N = true) (h1 : ps.any (fun q => q.1 == i) = false) (h2 : ps.any (fun q => q.2 == i) = false) (hc : NewY P E o obj mk)
    (h : ∀ b, b < base + N → Sy n H0 (base + (i + 1)) (base + N) ((d, mk b) :: E) Mo ((b, obj) :: Mn) (DrawS P pr ops ps S base l (i + 1) Q)) : Sy n H0 (base + i) (base + N) E Mo Mn (DrawS P pr ops ps S base (o :: l) i Q) := by
  intro tm H u y z
  refine ⟨?_⟩
  intro a ha hr hwr
  have hi2 : i < N := of_blt hi1
  refine wp_dcons.2 ?_
  rw [ha, if_pos (hw tm u y)]
  refine ⟨0, ⟨putT tm o.dst (mk (base + i)), H.set (base + i) obj⟩, ?_, ?_⟩
  · unfold dStep
    simp only [hc.1, hc.2 tm y, Option.map_some]
  · refine (h (base + i) (by omega) _ _ (by rw [ho]; simp [putT, u]) (by rw [ho]; exact y.put (by rw [u]; exact of_blt hd) _) ?_).run _ rfl (by simp only [note, h1]; exact hr) (by simp only [note, h2]; exact hwr)
    have := z.room (by omega) obj
    rwa [Nat.add_assoc] at this

/-- A guard that is open: both ways. -/
theorem Sy.caseG {d : Option Tmp} {op : Op} {ty : TypeId} {p : String} {a : Array Edge} {j t : Nat} {b : Bool} {pp : Prop} {dc : Decidable pp} (hj : (ops[j]?).bind (·.dst) = some t) (hx : look E t = some (.bool (@decide pp dc)))
    (h1 : pp → Sy n H0 lo hi ((t, .bool true) :: E) Mo Mn (OpsY P pr ops (⟨d, op, ty, p, a, some (j, b)⟩ :: l) Q)) (h2 : ¬ pp → Sy n H0 lo hi ((t, .bool false) :: E) Mo Mn (OpsY P pr ops (⟨d, op, ty, p, a, some (j, b)⟩ :: l) Q)) :
    Sy n H0 lo hi E Mo Mn (OpsY P pr ops (⟨d, op, ty, p, a, some (j, b)⟩ :: l) Q) := .caseT t hx h1 h2
end
end Go.Am

/- Symbolic states: values, cells. -/
namespace Go.Am
open Go

/-- Whole numbers, side by side. -/
def ints (k : IntKind) (l : List Nat) : List Value := l.map fun n : Nat => Value.int k (n : Int)
@[simp] theorem ints_length (k : IntKind) (l : List Nat) : (ints k l).length = l.length := by simp [ints]
theorem ints_get {k : IntKind} {l : List Nat} {i : Nat} (h : i < l.length) : (ints k l)[i]? = some (.int k ((l.getD i 0 : Nat) : Int)) := by
  simp [ints, List.getD, List.getElem?_eq_getElem h]
theorem ints_set (k : IntKind) (l : List Nat) (i n : Nat) : (ints k l).set i (.int k (n : Int)) = ints k (l.set i n) := by simp [ints, List.map_set]
theorem ints_drop (k : IntKind) (l : List Nat) (i : Nat) : (ints k l).drop i = ints k (l.drop i) := by simp [ints]
theorem ints_take (k : IntKind) (l : List Nat) (i : Nat) : (ints k l).take i = ints k (l.take i) := by simp [ints]
theorem ints_append (k : IntKind) (l m : List Nat) : ints k l ++ ints k m = ints k (l ++ m) := by simp [ints]
theorem oneL_ints (k : IntKind) (l : List Nat) : oneL (ints k l) = true := by
  simp only [oneL, ints, List.all_map, List.all_eq_true]
  intro x _; rfl
theorem oneL_append (a b : List Value) : oneL (a ++ b) = (oneL a && oneL b) := by simp [oneL]
theorem oneL_cons (a : Value) (b : List Value) : oneL (a :: b) = (a.oneCell' && oneL b) := rfl
theorem oneL_nil : oneL [] = true := rfl

/-- 32 bytes. -/
structure Hsh where
  l : List Nat
  len : l.length = 32
  lt : ∀ x ∈ l, x < 256
theorem Hsh.ext' {a b : Hsh} (h : a.l = b.l) : a = b := by cases a; cases b; simp at h; subst h; rfl
instance : DecidableEq Hsh := fun a b => if h : a.l = b.l then .isTrue (Hsh.ext' h) else .isFalse (fun e => h (by rw [e]))
def hC (h : Hsh) : List Value := ints .u8 h.l
def hV (h : Hsh) : Value := .agg ⟨hC h⟩
@[simp] theorem hC_length (h : Hsh) : (hC h).length = 32 := by simp [hC, h.len]
theorem hC_one (h : Hsh) : oneL (hC h) = true := oneL_ints _ _
def Hsh.at (h : Hsh) (i : Nat) : Nat := h.l.getD i 0
theorem Hsh.at_lt (h : Hsh) (i : Nat) : h.at i < 256 := by
  unfold Hsh.at
  by_cases hi : i < h.l.length
  · simp only [List.getD, List.getElem?_eq_getElem hi, Option.getD_some]; exact h.lt _ (List.getElem_mem hi)
  · simp only [List.getD, List.getElem?_eq_none (show h.l.length ≤ i by omega), Option.getD_none]; decide
theorem hC_get (h : Hsh) {i : Nat} (hi : i < 32) : (hC h)[i]? = some (.int .u8 ((h.at i : Nat) : Int)) := ints_get (by rw [h.len]; exact hi)
theorem lay_there {a b v : List Value} {o k : Nat} (h : a.length = o) : lay (a ++ b) (o + k) v = a ++ lay b k v := by
  subst h
  have e : a.length + k + v.length - a.length = k + v.length := by omega
  simp [lay, List.take_append, List.drop_append, e, List.drop_of_length_le, List.take_of_length_le (show a.length ≤ a.length + k by omega), List.append_assoc, show a.length ≤ a.length + k + v.length by omega]
theorem lay_here {a b v : List Value} (h : a.length = v.length) : lay (a ++ b) 0 v = v ++ b := by
  simp [lay, List.drop_append, ← h]
theorem lay_all {a v : List Value} (h : a.length = v.length) : lay a 0 v = v := by
  simp [lay, List.drop_of_length_le, h]
section
variable {P : Program} {t T : TypeId} {w : Bool}
theorem ld_int {k : IntKind} {l : List Nat} {o : Nat} (ha : aggT P t = some false) (h : o < l.length) : aLoad P t (.cells (ints k l) T w) o = some (.int k ((l.getD o 0 : Nat) : Int)) := by rw [load_cell ha, ints_get h]
theorem ld_hash {h : Hsh} {o : Nat} (ha : aggT P t = some false) (ho : o < 32) : aLoad P t (.cells (hC h) T w) o = some (.int .u8 ((h.at o : Nat) : Int)) := by rw [load_cell ha, hC_get h ho]
theorem ld_one {v : Value} {cs : List Value} {o : Nat} (ha : aggT P t = some false) (h : cs[o]? = some v) : aLoad P t (.cells cs T w) o = some v := by rw [load_cell ha, h]
theorem ld_agg {cs cs' : List Value} {o m : Nat} (ha : aggT P t = some true) (hs : szT P t = some m) (hl : o + m ≤ cs.length) (h : (cs.drop o).take m = cs') : aLoad P t (.cells cs T w) o = some (.agg ⟨cs'⟩) := by
  rw [load_agg ha hs, if_pos hl, h]
theorem ld_all {cs : List Value} (ha : aggT P t = some true) (hs : szT P t = some cs.length) : aLoad P t (.cells cs T w) 0 = some (.agg ⟨cs⟩) := load_all ha hs rfl
end

section
variable {P : Program} {t : TypeId} {a b : Nat} {k k' : IntKind} {x y : Int}
theorem b_add (h : a + b < 9223372036854775808) : binV P .add t (.int .i64 (a : Int)) (.int .i64 (b : Int)) = some (.int .i64 ((a + b : Nat) : Int)) := by rw [bin_i rfl, i_add h]
theorem b_sub (h : b ≤ a) (h2 : a < 9223372036854775808) : binV P .sub t (.int .i64 (a : Int)) (.int .i64 (b : Int)) = some (.int .i64 ((a - b : Nat) : Int)) := by rw [bin_i rfl, i_sub h h2]
theorem b_mul (h : a * b < 9223372036854775808) : binV P .mul t (.int .i64 (a : Int)) (.int .i64 (b : Int)) = some (.int .i64 ((a * b : Nat) : Int)) := by rw [bin_i rfl, i_mul h]
theorem b_quo (h : b ≠ 0) (h2 : a < 9223372036854775808) : binV P .quo t (.int .i64 (a : Int)) (.int .i64 (b : Int)) = some (.int .i64 ((a / b : Nat) : Int)) := by rw [bin_i rfl, i_quo h h2]
theorem b_rem (h : b ≠ 0) : binV P .rem t (.int k (a : Int)) (.int k (b : Int)) = some (.int k ((a % b : Nat) : Int)) := by rw [bin_i rfl, i_rem h]
theorem b_lss : binV P .lss t (.int k (a : Int)) (.int k (b : Int)) = some (.bool (decide (a < b))) := by rw [bin_i rfl, i_lss]
theorem b_leq : binV P .leq t (.int k (a : Int)) (.int k (b : Int)) = some (.bool (decide (a ≤ b))) := by rw [bin_i rfl, i_leq]
theorem b_gtr : binV P .gtr t (.int k (a : Int)) (.int k (b : Int)) = some (.bool (decide (b < a))) := by rw [bin_i rfl, i_gtr]
theorem b_geq : binV P .geq t (.int k (a : Int)) (.int k (b : Int)) = some (.bool (decide (b ≤ a))) := by rw [bin_i rfl, i_geq]
theorem b_eql : binV P .eql t (.int k (a : Int)) (.int k (b : Int)) = some (.bool (decide (a = b))) := by
  rw [bin_eq]; congr 2; rw [Bool.eq_iff_iff]; simp; omega
theorem b_neq : binV P .neq t (.int k (a : Int)) (.int k (b : Int)) = some (.bool (decide (¬ a = b))) := by
  rw [bin_ne]; congr 2; rw [Bool.eq_iff_iff]; simp; omega
theorem bz_lss : binV P .lss t (.int k x) (.int k y) = some (.bool (decide (x < y))) := by rw [bin_i rfl]; rfl
theorem bz_leq : binV P .leq t (.int k x) (.int k y) = some (.bool (decide (x ≤ y))) := by rw [bin_i rfl]; rfl
theorem bz_gtr : binV P .gtr t (.int k x) (.int k y) = some (.bool (decide (x > y))) := by rw [bin_i rfl]; rfl
theorem bz_geq : binV P .geq t (.int k x) (.int k y) = some (.bool (decide (x ≥ y))) := by rw [bin_i rfl]; rfl
theorem bz_eql : binV P .eql t (.int k x) (.int k y) = some (.bool (decide (x = y))) := by
  rw [bin_eq]; rfl
theorem bz_neq : binV P .neq t (.int k x) (.int k y) = some (.bool (decide (¬ x = y))) := by
  rw [bin_ne]; congr 2; rw [Bool.eq_iff_iff]; simp
theorem wrap_i64z {z : Int} (h1 : -9223372036854775808 ≤ z) (h2 : z < 9223372036854775808) : IntKind.i64.wrap z = z := IntWalk.i64_in _ (by omega)
theorem bz_add (h1 : -9223372036854775808 ≤ x + y) (h2 : x + y < 9223372036854775808) : binV P .add t (.int .i64 x) (.int .i64 y) = some (.int .i64 (x + y)) := by rw [bin_i rfl]; simp only [intBin, wrap_i64z h1 h2]
theorem bz_sub (h1 : -9223372036854775808 ≤ x - y) (h2 : x - y < 9223372036854775808) : binV P .sub t (.int .i64 x) (.int .i64 y) = some (.int .i64 (x - y)) := by rw [bin_i rfl]; simp only [intBin, wrap_i64z h1 h2]
theorem u64_or (ha : a < 18446744073709551616) (hb : b < 18446744073709551616) : binV P .or t (.int .u64 (a : Int)) (.int .u64 (b : Int)) = some (.int .u64 ((a ||| b : Nat) : Int)) := by rw [bin_i rfl, u_or rfl ha hb]
theorem u64_shl (hb : b ≤ 64) : binV P .shl t (.int .u64 (a : Int)) (.int k (b : Int)) = some (.int .u64 (((a <<< b) % 18446744073709551616 : Nat) : Int)) := u_shl (k := .u64) rfl hb

/-- Pointers and slices held against nil. -/
theorem p_eq0 (h : kindT P t = 2) : binV P .eql t (.pointer none) (.pointer none) = some (.bool true) := by simp [binV, eqV, h]
theorem p_eq1 {q : Addr} (h : kindT P t = 2) : binV P .eql t (.pointer (some q)) (.pointer none) = some (.bool false) := by simp [binV, eqV, h]
theorem p_eq2 {q : Addr} (h : kindT P t = 2) : binV P .eql t (.pointer none) (.pointer (some q)) = some (.bool false) := by simp [binV, eqV, h]
theorem s_eq0 (h : kindT P t = 3) : binV P .eql t (.slice none 0 0) (.slice none 0 0) = some (.bool true) := by simp [binV, eqV, h]
theorem s_eq1 {q : Addr} {m c : Nat} (h : kindT P t = 3) : binV P .eql t (.slice (some q) m c) (.slice none 0 0) = some (.bool false) := by simp [binV, eqV, h]
theorem bb_eq {c e : Bool} (h : kindT P t = 1) : binV P .eql t (.bool c) (.bool e) = some (.bool (c == e)) := by simp [binV, eqV, h]
/-- Rows of numbers held against each other. -/
theorem eqL_ints {k : IntKind} {j : LK} (hj : ∀ a b : Nat, eqLeaf j (.int k (a : Int)) (.int k (b : Int)) = some (decide (a = b))) : ∀ {l m : List Nat}, l.length = m.length → eqL (List.replicate l.length j) (ints k l) (ints k m) = some (decide (l = m))
  | [], [], _ => rfl
  | x :: l, y :: m, h => by
    have ih := eqL_ints (l := l) (m := m) hj (by simpa using h)
    simp only [List.length_cons, List.replicate_succ, ints, List.map_cons, eqL]
    simp only [ints] at ih
    rw [hj, ih]
    by_cases e : x = y <;> simp [e]
  | [], _ :: _, h => by simp at h
  | _ :: _, [], h => by simp at h

/-- Addresses. -/
theorem ia_sl {e : TypeId} {q o m c i sz : Nat} (h : P.underlying t = some (.slice e)) (hs : szT P e = some sz) (hi : i < m) : indexAddrV P t (.slice (some ⟨q, o, none⟩) m c) (.int k (i : Int)) = some (.pointer (some ⟨q, o + i * sz, none⟩)) := ia_slice h hs hi
theorem ia_sl1 {e : TypeId} {q o m c i : Nat} (h : P.underlying t = some (.slice e)) (hs : szT P e = some 1) (hi : i < m) : indexAddrV P t (.slice (some ⟨q, o, none⟩) m c) (.int k (i : Int)) = some (.pointer (some ⟨q, o + i, none⟩)) := by
  have := ia_slice (o := o) (b := q) (c := c) (k := k) h hs hi; rwa [Nat.mul_one] at this
theorem ia_sl10 {e : TypeId} {q m c i : Nat} (h : P.underlying t = some (.slice e)) (hs : szT P e = some 1) (hi : i < m) : indexAddrV P t (.slice (some ⟨q, 0, none⟩) m c) (.int k (i : Int)) = some (.pointer (some ⟨q, i, none⟩)) := by
  have := ia_sl1 (o := 0) (q := q) (c := c) (k := k) h hs hi; rwa [Nat.zero_add] at this
theorem ia_ar1 {e : TypeId} {q o m i : Nat} (h : P.underlying t = some (.array m e)) (hs : szT P e = some 1) (hi : i < m) : indexAddrV P t (.pointer (some ⟨q, o, none⟩)) (.int k (i : Int)) = some (.pointer (some ⟨q, o + i, none⟩)) := by
  have := ia_array (o := o) (b := q) (k := k) h hs hi; rwa [Nat.mul_one] at this
theorem ia_ar10 {e : TypeId} {q m i : Nat} (h : P.underlying t = some (.array m e)) (hs : szT P e = some 1) (hi : i < m) : indexAddrV P t (.pointer (some ⟨q, 0, none⟩)) (.int k (i : Int)) = some (.pointer (some ⟨q, i, none⟩)) := by
  have := ia_ar1 (o := 0) (q := q) (k := k) h hs hi; rwa [Nat.zero_add] at this
end

section
variable {P : Program} {t e : TypeId} {b o m c n sz lo hi : Nat} {k k' : IntKind}
theorem natOf_int {dflt most j : Nat} (h : j ≤ most) : natOf dflt most (some (.int k (j : Int))) = some j := by
  simp only [natOf]
  rw [if_pos ⟨by omega, by omega⟩]
  simp
theorem natOf_none {dflt most : Nat} : natOf dflt most none = some dflt := rfl
/-- s[lo:]. -/
theorem sl_from (h : P.underlying t = some (.slice e)) (hs : szT P e = some sz) (hl : lo ≤ m) (hR : sz < 1000000000000 := by decide) : sliceV P t (.slice (some ⟨b, o, none⟩) m c) (some (.int k (lo : Int))) none none = some (.slice (some ⟨b, o + lo * sz, none⟩) (m - lo) (if c = m then m - lo else if c = m + 2 + sz then m - lo + 2 + sz else m - lo + 1)) := by
  have hR' : ¬ (1000000000000 ≤ sz) := by omega
  simp only [sliceV, h, hs, Option.bind_eq_bind, Option.bind_some, hR', if_false, natOf_none, natOf_int hl, if_true, Option.isNone_some, Bool.false_eq_true, Nat.add_zero]
/-- s[lo:hi]. -/
theorem sl_mid (h : P.underlying t = some (.slice e)) (hs : szT P e = some sz) (hl : lo ≤ hi) (hh : hi ≤ m) (hR : sz < 1000000000000 := by decide) : sliceV P t (.slice (some ⟨b, o, none⟩) m c) (some (.int k (lo : Int))) (some (.int k' (hi : Int))) none = some (.slice (some ⟨b, o + lo * sz, none⟩) (hi - lo) (if c = m then (if hi = m then hi - lo else hi - lo + 1) else if c = m + 2 + sz then hi - lo + 2 + sz else hi - lo + 1)) := by
  have hR' : ¬ (1000000000000 ≤ sz) := by omega
  simp only [sliceV, h, hs, Option.bind_eq_bind, Option.bind_some, hR', if_false, natOf_int hl, natOf_int (show hi ≤ m + roomOf m c by omega), Option.isNone_some, Bool.false_eq_true, Nat.add_zero]
/-- s[:hi:hi]. -/
theorem sl_cap (h : P.underlying t = some (.slice e)) (hs : szT P e = some sz) (hl : hi ≤ m) (hR : sz < 1000000000000 := by decide) : sliceV P t (.slice (some ⟨b, o, none⟩) m c) none (some (.int k (hi : Int))) (some (.int k' (hi : Int))) = some (.slice (some ⟨b, o, none⟩) hi hi) := by
  have hR' : ¬ (1000000000000 ≤ sz) := by omega
  simp only [sliceV, h, hs, Option.bind_eq_bind, Option.bind_some, hR', if_false, natOf_int hl, natOf_none, Option.isNone_some, Bool.false_eq_true, if_false, natOf_int (Nat.le_refl hi), Nat.zero_mul, Nat.add_zero, Nat.sub_zero, if_true]
end

section
variable {P : Program} {t u : TypeId} {a b : Nat} {k k' : IntKind} {p : Prop} {dc : Decidable p} {c : Bool}
theorem un_notD : unV P .not (.bool (@decide p dc)) = some (.bool (decide (¬ p))) := by simp [unV]
theorem un_not : unV P .not (.bool c) = some (.bool (!c)) := rfl
theorem un_notT : unV P .not (.bool true) = some (.bool false) := rfl
theorem un_notF : unV P .not (.bool false) = some (.bool true) := rfl
theorem b_shr64 (hb : b ≤ 64) : binV P .shr t (.int .u64 (a : Int)) (.int k' (b : Int)) = some (.int .u64 ((a >>> b : Nat) : Int)) := n_shr (k := .u64) hb
theorem wrap_u64x (h : a < 18446744073709551616) : IntKind.u64.wrap (a : Int) = (a : Int) := by rw [wrap_u64, Nat.mod_eq_of_lt h]
theorem wrap_u8x (h : a < 256) : IntKind.u8.wrap (a : Int) = (a : Int) := by rw [wrap_u8, Nat.mod_eq_of_lt h]
end


section
variable {P : Program} {E : Env} {d : Nat} {ty : TypeId} {p : String} {a : Array Edge} {g : Option (Nat × Bool)} {t : TypeId}
theorem nw {z : Value} {cs : List Value} (hz : zeroT P t = some z) (h : z.cells.toList = cs) : NewY P E ⟨some d, .alloc t, ty, p, a, g⟩ (.cells cs t true) (fun h => .pointer (some ⟨h, 0, none⟩)) := h ▸ newY_alloc hz
theorem nbA {x : Operand} {l : List Value} (hx : ev E x = some (.agg ⟨l⟩)) : NewY P E ⟨some d, .box t x, ty, p, a, g⟩ (.cells l t true) (fun h => .pointer (some ⟨h, 0, none⟩)) := newY_box hx
end


section
variable {P : Program} {pr : Prims} {n : Nat} {H0 : AHeap} {lo hi : Nat} {E : Env} {Mo Mn : Hm} {K : AS → Prop} {ty : TypeId} {p : String} {a : Array Edge} {g : Option (Nat × Bool)} {t : TypeId} {x y : Operand} {b o : Nat} {v : Value} {cs cs' : List Value} {T : TypeId} {Mo' Mn' : Hm}
theorem Sy.stN1 (hx : ev E x = some (.pointer (some ⟨b, o, none⟩))) (hy : ev E y = some v) (hs : szT P t = some 1) (hl : v.cells.toList = [v]) (h1 : oneL [v] = true)
    (hm : Turn Mn b (.cells cs T true) (.cells cs' T true) Mn') (hle : o < cs.length) (hc : cs.set o v = cs') (h : Sy n H0 lo hi E Mo Mn' K) : Sy n H0 lo hi E Mo Mn (StepY P pr ⟨none, .store t x y, ty, p, a, g⟩ K) :=
  .stN hx hy hs (by rw [hl]; rfl) (by rw [hl]; exact h1) hm (by omega) (by rw [hl, lay_one hle]; exact hc) h
theorem Sy.stO1 (hx : ev E x = some (.pointer (some ⟨b, o, none⟩))) (hy : ev E y = some v) (hs : szT P t = some 1) (hl : v.cells.toList = [v]) (h1 : oneL [v] = true)
    (hm : Turn Mo b (.cells cs T true) (.cells cs' T true) Mo') (hle : o < cs.length) (hc : cs.set o v = cs') (h : Sy n H0 lo hi E Mo' Mn K) : Sy n H0 lo hi E Mo Mn (StepY P pr ⟨none, .store t x y, ty, p, a, g⟩ K) :=
  .stO hx hy hs (by rw [hl]; rfl) (by rw [hl]; exact h1) hm (by omega) (by rw [hl, lay_one hle]; exact hc) h
theorem Sy.st01 (hx : ev E x = some (.pointer (some ⟨b, o, none⟩))) (hy : ev E y = some v) (hs : szT P t = some 1) (hl : v.cells.toList = [v]) (h1 : oneL [v] = true)
    (hm : H0.get b = .cells cs T true) (hn : ∀ p ∈ Mo, p.1 ≠ b) (hle : o < cs.length) (hc : cs.set o v = cs') (h : Sy n H0 lo hi E ((b, .cells cs' T true) :: Mo) Mn K) : Sy n H0 lo hi E Mo Mn (StepY P pr ⟨none, .store t x y, ty, p, a, g⟩ K) :=
  .st0 hx hy hs (by rw [hl]; rfl) (by rw [hl]; exact h1) hm hn (by omega) (by rw [hl, lay_one hle]; exact hc) h
end
theorem hC_set (h : Hsh) (i n : Nat) : (hC h).set i (.int .u8 (n : Int)) = ints .u8 (h.l.set i n) := ints_set _ _ _ _
end Go.Am
namespace Go.Am
open Go
section
variable {P : Program} {t : TypeId} {a b : Hsh}
end

section
variable {P : Program} {t : TypeId}
/-- Literals. -/
theorem bv_arr {n sz : Nat} {e : TypeId} {z : Value} {zc cs : List Value} {parts : List (Nat × Value)} (hu : P.underlying t = some (.array n e)) (hs : szT P e = some sz) (hz : zeroT P t = some z) (hc : z.cells.toList = zc) (hf : fillL (fun i => some (i * sz, sz)) zc parts = some cs) : buildV P t parts = some (.agg ⟨cs⟩) := by
  subst hc; simp only [buildV, hu, hs, hz, Option.bind_some, hf, Option.map_some]
def plc (l : List (Nat × Nat)) (i : Nat) : Option (Nat × Nat) := l[i]?
theorem bv_struct {fs : Array Field} {z : Value} {zc cs : List Value} {l : List (Nat × Nat)} {parts : List (Nat × Value)} (hu : P.underlying t = some (.struct fs)) (hz : zeroT P t = some z) (hc : z.cells.toList = zc) (hl : fs.toList.map (fun f => (szT P f.type).map fun n => (f.offset, n)) = l.map some)
    (hf : fillL (plc l) zc parts = some cs) : buildV P t parts = some (.agg ⟨cs⟩) := by
  subst hc
  have hall : (fs.toList.all fun f => (szT P f.type).isSome) = true := by
    rw [List.all_eq_true]
    intro f hf'
    have : (szT P f.type).map (fun n => (f.offset, n)) ∈ l.map some := by rw [← hl]; exact List.mem_map_of_mem (f := fun f : Field => (szT P f.type).map fun n => (f.offset, n)) hf'
    obtain ⟨a, _, ha⟩ := List.mem_map.1 this
    cases h : szT P f.type with
    | none => rw [h] at ha; simp at ha
    | some n => rfl
  have hp : (fun i => (fs[i]?).bind fun f => (szT P f.type).map fun n => (f.offset, n)) = plc l := by
    funext i
    have h1 : (fs.toList.map (fun f => (szT P f.type).map fun n => (f.offset, n)))[i]? = (l.map some)[i]? := by rw [hl]
    simp only [List.getElem?_map, Array.getElem?_toList] at h1
    unfold plc
    cases h2 : fs[i]? with
    | none => rw [h2] at h1; cases h3 : l[i]? with
      | none => rfl
      | some a => rw [h3] at h1; simp at h1
    | some f => rw [h2] at h1; cases h3 : l[i]? with
      | none => rw [h3] at h1; simp at h1
      | some a => rw [h3] at h1; simpa using h1
  simp only [buildV, hu, hall, if_true, hz, Option.bind_some, hp, hf, Option.map_some]
end
/-- What is as it was is forgotten. -/
theorem Hp.drop {H0 H : AHeap} {lo hi : Nat} {Mo Mn : Hm} {h : Nat} {o : AObj} (r : Hp H0 lo hi H ((h, o) :: Mo) Mn) (k : H0.get h = o) : Hp H0 lo hi H Mo Mn := by
  refine ⟨fun p hp => r.vo p (List.mem_cons_of_mem _ hp), r.vn, ?_, r.nn, fun p hp => r.ol p (List.mem_cons_of_mem _ hp), r.ge, r.lt, r.le, fun x hx hx2 => ?_, r.w1, r.w2⟩
  · have := r.no; simp only [List.map_cons, List.nodup_cons] at this; exact this.2
  · by_cases e : h = x
    · subst e; rw [k]; exact r.vo (h, o) (List.mem_cons_self ..)
    · exact r.fr x hx fun p hp => by
        rcases List.mem_cons.1 hp with rfl | hp
        · exact e
        · exact hx2 p hp
end Go.Am

/- Symbolic states: rows of numbers in memory: copy, append, calls that turn one object. -/
namespace Go.Am
open Go

section
variable {P : Program} {pr : Prims} {n : Nat} {H0 : AHeap} {lo hi : Nat} {E : Env} {Mo Mn : Hm} {K : AS → Prop} {d : Nat} {ty : TypeId} {p : String} {a : Array Edge} {g : Option (Nat × Bool)} {v : Value} {t xt e : TypeId}

theorem SrcY.ofNi {k : IntKind} {b o m c : Nat} {l : List Nat} {T : TypeId} {w : Bool} (hm : Has Mn b (.cells (ints k l) T w)) (hl : o + m ≤ l.length) : SrcY H0 lo hi Mo Mn 1 (.slice (some ⟨b, o, none⟩) m c) m (ints k ((l.drop o).take m)) :=
  (SrcY.ofN hm (by simpa using hl)).eq (by simp [ints_drop, ints_take])
theorem SrcY.ofNi' {k : IntKind} {b m c : Nat} {l : List Nat} {T : TypeId} {w : Bool} (hm : Has Mn b (.cells (ints k l) T w)) (hl : l.length = m) : SrcY H0 lo hi Mo Mn 1 (.slice (some ⟨b, 0, none⟩) m c) m (ints k l) :=
  (SrcY.ofNi hm (by omega)).eq (by simp [← hl])
end

section
variable {P : Program} {pr : Prims} {n : Nat} {H0 : AHeap} {lo hi : Nat} {E : Env} {Mo Mn : Hm} {K : AS → Prop} {ty : TypeId} {p : String} {a : Array Edge} {g : Option (Nat × Bool)} {t : TypeId} {x y : Operand} {b o m : Nat} {vc cs cs' : List Value} {T : TypeId} {Mo' Mn' : Hm}
/-- Stores of rows. -/
theorem Sy.stNa (hx : ev E x = some (.pointer (some ⟨b, o, none⟩))) (hy : ev E y = some (.agg ⟨vc⟩)) (hs : szT P t = some m) (hl : vc.length = m) (h1 : oneL vc = true)
    (hm : Turn Mn b (.cells cs T true) (.cells cs' T true) Mn') (hle : o + m ≤ cs.length) (hc : lay cs o vc = cs') (h : Sy n H0 lo hi E Mo Mn' K) : Sy n H0 lo hi E Mo Mn (StepY P pr ⟨none, .store t x y, ty, p, a, g⟩ K) := .stN hx hy hs hl h1 hm hle hc h
end
end Go.Am

/- Symbolic states: append, as programs use it. -/
namespace Go.Am
open Go

/-- An object is left out. -/
inductive Drop : Hm → Nat → AObj → Hm → Prop
  | here {h : Nat} {o : AObj} {M : Hm} : Drop ((h, o) :: M) h o M
  | there {h : Nat} {o : AObj} {p : Nat × AObj} {M M' : Hm} : Drop M h o M' → Drop (p :: M) h o (p :: M')
theorem Drop.perm {M M' : Hm} {h : Nat} {o : AObj} (k : Drop M h o M') : List.Perm ((h, o) :: M') M := by
  induction k with
  | here => exact .refl _
  | there _ ih => exact (List.Perm.swap _ _ _).trans (ih.cons _)
theorem Drop.sub {M M' : Hm} {h : Nat} {o : AObj} (k : Drop M h o M') : List.Sublist M' M := by
  induction k with
  | here => exact List.sublist_cons_self _ _
  | there _ ih => exact ih.cons_cons _
theorem Drop.turn {M M' : Hm} {h : Nat} {o o' : AObj} (k : Drop M h o M') : ∃ M2, Turn M h o o' M2 ∧ List.Sublist M' M2 := by
  induction k with
  | here => exact ⟨_, .here, List.sublist_cons_self _ _⟩
  | there _ ih => obtain ⟨M2, h1, h2⟩ := ih; exact ⟨_, .there h1, h2.cons_cons _⟩

/-- What is known of new ones, in another order. -/
theorem Sy.perm {n : Nat} {H0 : AHeap} {lo hi : Nat} {E : Env} {Mo Mn Mn' : Hm} {R : AS → Prop} (hs : List.Perm Mn' Mn) (h : Sy n H0 lo hi E Mo Mn' R) : Sy n H0 lo hi E Mo Mn R := fun tm H a b c => h tm H a b (c.perm hs)

section
variable {P : Program} {pr : Prims} {n : Nat} {H0 : AHeap} {lo hi : Nat} {E : Env} {Mo Mn : Hm} {K : AS → Prop} {d : Nat} {ty : TypeId} {p : String} {a : Array Edge} {g : Option (Nat × Bool)} {v : Value} {t xt e : TypeId} {sz bs : Nat} {z : Value}

/-- To a slice of one's own, whatever is appended. -/
theorem Sy.appQ {x y : Operand} {b m : Nat} {vy : Value} {k : Nat} {cs cc cs' : List Value} {Mn' : Hm} (A : AppT P t xt e sz bs z) (hd : Nat.blt d n = true) (hx : ev E x = some (.slice (some ⟨b, 0, none⟩) m (m + 2 + sz))) (hy : ev E y = some vy) (hs : SrcY H0 lo hi Mo Mn sz vy k cs) (h1 : oneL cs = true) (hc : cs.length = k * sz) (hb : (m + k) * bs ≤ 140737488355328)
    (hm : Drop Mn b (.cells cc e true) Mn') (hl : cc.length = m * sz) (hj : cc ++ cs = cs')
    (h : ∀ b', Sy n H0 lo hi ((d, .slice (some ⟨b', 0, none⟩) (m + k) (m + k + 2 + sz)) :: E) Mo ((b', .cells cs' e true) :: Mn') K) :
    Sy n H0 lo hi E Mo Mn (StepY P pr ⟨some d, .call ⟨.builtin .append, #[x, y], #[t, xt]⟩, ty, p, a, g⟩ K) := by
  subst hj
  by_cases hk : k = 0
  · subst hk
    have e0 : cs = [] := List.length_eq_zero_iff.1 (by simpa using hc)
    subst e0
    refine Sy.appZ A hd hx hy (.inl ⟨_, _, _, _, rfl⟩) hs h1 ?_
    have := h b
    simp only [Nat.add_zero, List.append_nil] at this
    exact this.perm hm.perm
  · obtain ⟨M2, ht, hsub⟩ := hm.turn (o' := .dead)
    exact Sy.appO A hd hx hy hs h1 hk hb ht hl fun b' => (h b').less _ (hsub.cons_cons _)
/-- To a full slice: a new one. -/
theorem Sy.appFN {x y : Operand} {b o m : Nat} {vy : Value} {k : Nat} {cs old cc cs' : List Value} {T : TypeId} {w : Bool} (A : AppT P t xt e sz bs z) (hd : Nat.blt d n = true) (hx : ev E x = some (.slice (some ⟨b, o, none⟩) m m)) (hy : ev E y = some vy) (hs : SrcY H0 lo hi Mo Mn sz vy k cs) (h1 : oneL cs = true) (hk : k ≠ 0) (hb : (m + k) * bs ≤ 140737488355328)
    (hm : Has Mn b (.cells cc T w)) (hl : o + m * sz ≤ cc.length) (ho : (cc.drop o).take (m * sz) = old) (hj : old ++ cs = cs')
    (h : ∀ b', Sy n H0 lo hi ((d, .slice (some ⟨b', 0, none⟩) (m + k) (m + k + 2 + sz)) :: E) Mo ((b', .cells cs' e true) :: Mn) K) :
    Sy n H0 lo hi E Mo Mn (StepY P pr ⟨some d, .call ⟨.builtin .append, #[x, y], #[t, xt]⟩, ty, p, a, g⟩ K) := by
  subst hj
  exact Sy.appF A hd hx hy hs h1 hk hb (fun H hH => hH.getN hm) hl ho h
end
theorem min_int {P : Program} {k : IntKind} {a b : Nat} {ts : Array TypeId} {t : TypeId} : prunP P (Builtin.min_ ts t ⟨[.int k (a : Int), .int k (b : Int)]⟩) = some (.int k ((min a b : Nat) : Int)) := by
  have : (if b < a then (b : Int) else (a : Int)) = ((min a b : Nat) : Int) := by split <;> omega
  simp [prunP, Builtin.min_, Builtin.min2, plainV, this]
section
variable {P : Program} {pr : Prims} {n : Nat} {H0 : AHeap} {lo hi : Nat} {E : Env} {Mo Mn : Hm} {K : AS → Prop} {d : Nat} {ty : TypeId} {p : String} {aa : Array Edge} {g : Option (Nat × Bool)} {ts : Array TypeId}
theorem Sy.minI {x y : Operand} {k : IntKind} {a b : Nat} (hd : Nat.blt d n = true) (hx : ev E x = some (.int k (a : Int))) (hy : ev E y = some (.int k (b : Int))) (h : Sy n H0 lo hi ((d, .int k ((min a b : Nat) : Int)) :: E) Mo Mn K) :
    Sy n H0 lo hi E Mo Mn (StepY P pr ⟨some d, .call ⟨.builtin .min, #[x, y], ts⟩, ty, p, aa, g⟩ K) :=
  .pureV rfl hd rfl (fun tm hE => by
    have h1 : pop P (aval tm) ⟨some d, .call ⟨.builtin .min, #[x, y], ts⟩, ty, p, aa, g⟩ = if ([x, y].all fun z => plainV (aval tm z)) = true then prunP P (Builtin.min_ ts ty ⟨[x, y].map (aval tm)⟩) else none := rfl
    rw [h1, if_pos (by simp [hE.ev hx, hE.ev hy, plainV])]
    simp only [List.map_cons, List.map_nil, hE.ev hx, hE.ev hy]
    exact min_int) h
end

/-- Literals of slices. -/
theorem fill_all {sz : Nat} : ∀ (ws : List (List Value)) (k : Nat) (pre rest : List Value) (vs : List (Nat × Value)), pre.length = k * sz → rest.length = ws.length * sz → vs = (ws.zipIdx k).map (fun q => (q.2, Value.agg ⟨q.1⟩)) → (∀ w ∈ ws, w.length = sz) →
    fillL (fun i => some (i * sz, sz)) (pre ++ rest) vs = some (pre ++ ws.flatten)
  | [], k, pre, rest, vs, h1, h2, h3, _ => by
    subst h3
    have : rest = [] := List.length_eq_zero_iff.1 (by simpa using h2)
    simp [fillL, this]
  | w :: ws, k, pre, rest, vs, h1, h2, h3, h4 => by
    subst h3
    have hw : w.length = sz := h4 w (List.mem_cons_self ..)
    have hr : sz ≤ rest.length := by rw [h2, List.length_cons, Nat.add_mul]; omega
    have e : lay (pre ++ rest) (k * sz) w = (pre ++ w) ++ rest.drop sz := by
      have := lay_there (a := pre) (b := rest) (v := w) (k := 0) h1
      rw [Nat.add_zero] at this
      rw [this]
      simp [lay, hw]
    simp only [List.zipIdx_cons, List.map_cons, fillL]
    have hcw : (Value.agg ⟨w⟩).cells.toList = w := rfl
    rw [hcw, if_pos ⟨hw, by simp only [List.length_append]; rw [h1, hw]; omega⟩, e]
    have := fill_all ws (k + 1) (pre ++ w) (rest.drop sz) _ (by simp [h1, hw, Nat.add_mul]) (by simp [h2, Nat.add_mul]) rfl (fun x hx => h4 x (List.mem_cons_of_mem _ hx))
    rw [this]
    simp
section
variable {P : Program} {E : Env} {d : Nat} {ty : TypeId} {p : String} {a : Array Edge} {g : Option (Nat × Bool)} {t e : TypeId} {m sz : Nat} {ps : Array (Nat × Operand)} {z : Value}
theorem nbs0 (ht : P.underlying t = some (.slice e)) (hs : szT P e = some sz) (hz : zeroT P e = some z) (hl : z.cells.toList.length = sz) (h1 : 0 * sz ≤ 2 ^ 24 ∧ sz ≠ 0) (hx : evp E ps.toList = some []) :
    NewY P E ⟨some d, .buildSlice t 0 ps, ty, p, a, g⟩ (.cells [] e true) (fun h => .slice (some ⟨h, 0, none⟩) 0 0) := newY_bs ht hs hz hl h1 hx rfl
theorem nbs1 {v0 : Value} (ht : P.underlying t = some (.slice e)) (hs : szT P e = some 1) (hz : zeroT P e = some z) (hl : z.cells.toList.length = 1) (h1 : 1 * 1 ≤ 2 ^ 24 ∧ 1 ≠ 0) (hx : evp E ps.toList = some [(0, v0)]) (c0 : v0.cells.toList = [v0]) :
    NewY P E ⟨some d, .buildSlice t 1 ps, ty, p, a, g⟩ (.cells [v0] e true) (fun h => .slice (some ⟨h, 0, none⟩) 1 1) :=
  newY_bs ht hs hz hl h1 hx (by
    obtain ⟨x, hx⟩ := List.length_eq_one_iff.1 hl
    simp [fillL, c0, hx, lay])
theorem nbs2 {v0 v1 : Value} (ht : P.underlying t = some (.slice e)) (hs : szT P e = some 1) (hz : zeroT P e = some z) (hl : z.cells.toList.length = 1) (h1 : 2 * 1 ≤ 2 ^ 24 ∧ 1 ≠ 0) (hx : evp E ps.toList = some [(0, v0), (1, v1)]) (c0 : v0.cells.toList = [v0]) (c1 : v1.cells.toList = [v1]) :
    NewY P E ⟨some d, .buildSlice t 2 ps, ty, p, a, g⟩ (.cells [v0, v1] e true) (fun h => .slice (some ⟨h, 0, none⟩) 2 2) :=
  newY_bs ht hs hz hl h1 hx (by
    obtain ⟨x, hx⟩ := List.length_eq_one_iff.1 hl
    simp [fillL, c0, c1, hx, lay, List.replicate])
theorem nba1 {w0 : List Value} (ht : P.underlying t = some (.slice e)) (hs : szT P e = some sz) (hz : zeroT P e = some z) (hl : z.cells.toList.length = sz) (h1 : 1 * sz ≤ 2 ^ 24 ∧ sz ≠ 0) (hx : evp E ps.toList = some [(0, .agg ⟨w0⟩)]) (c0 : w0.length = sz) :
    NewY P E ⟨some d, .buildSlice t 1 ps, ty, p, a, g⟩ (.cells w0 e true) (fun h => .slice (some ⟨h, 0, none⟩) 1 1) :=
  newY_bs ht hs hz hl h1 hx (by
    have := fill_all (sz := sz) [w0] 0 [] (List.replicate 1 z.cells.toList).flatten _ (by simp) (by simp [hl]) rfl (by simp [c0])
    simpa using this)
end

theorem fill_one : ∀ (ws : List Value) (k : Nat) (pre rest : List Value) (vs : List (Nat × Value)), pre.length = k → rest.length = ws.length → vs = (ws.zipIdx k).map (fun q => (q.2, q.1)) → (∀ w ∈ ws, w.cells.toList = [w]) →
    fillL (fun i => some (i * 1, 1)) (pre ++ rest) vs = some (pre ++ ws)
  | [], k, pre, rest, vs, h1, h2, h3, _ => by
    subst h3
    have : rest = [] := List.length_eq_zero_iff.1 (by simpa using h2)
    simp [fillL, this]
  | w :: ws, k, pre, rest, vs, h1, h2, h3, h4 => by
    subst h3
    have hw : w.cells.toList = [w] := h4 w (List.mem_cons_self ..)
    obtain ⟨x, rest, rfl⟩ : ∃ x r, rest = x :: r := by cases rest with
      | nil => simp at h2
      | cons x r => exact ⟨x, r, rfl⟩
    have e : lay (pre ++ x :: rest) (k * 1) [w] = (pre ++ [w]) ++ rest := by
      have := lay_there (a := pre) (b := x :: rest) (v := [w]) (k := 0) (o := k * 1) (by omega)
      rw [Nat.add_zero] at this
      rw [this]
      simp [lay]
    simp only [List.zipIdx_cons, List.map_cons, fillL, hw]
    rw [if_pos ⟨rfl, by simp; omega⟩, e]
    have := fill_one ws (k + 1) (pre ++ [w]) rest _ (by simp [h1]) (by simpa using h2) rfl (fun x hx => h4 x (List.mem_cons_of_mem _ hx))
    rw [this]
    simp
section
variable {P : Program} {E : Env} {d : Nat} {ty : TypeId} {p : String} {a : Array Edge} {g : Option (Nat × Bool)} {t e : TypeId} {m : Nat} {ps : Array (Nat × Operand)} {z : Value}
theorem nbsL (vs : List Value) (ht : P.underlying t = some (.slice e)) (hs : szT P e = some 1) (hz : zeroT P e = some z) (hl : z.cells.toList.length = 1) (h1 : m * 1 ≤ 2 ^ 24 ∧ 1 ≠ 0) (hm : vs.length = m) (hx : evp E ps.toList = some ((vs.zipIdx 0).map fun q => (q.2, q.1))) (hc : ∀ v ∈ vs, v.cells.toList = [v]) :
    NewY P E ⟨some d, .buildSlice t m ps, ty, p, a, g⟩ (.cells vs e true) (fun h => .slice (some ⟨h, 0, none⟩) m m) :=
  newY_bs ht hs hz hl h1 hx (by
    have := fill_one vs 0 [] (List.replicate m z.cells.toList).flatten _ rfl (by simp [hl, hm]) rfl hc
    simpa using this)
theorem newY_mkI {l q : Operand} {k bs : Nat} {ik : IntKind} {kl km : IntKind} (ht : P.underlying t = some (.slice e)) (hs : szT P e = some 1) (hb : bytesT P e = some bs) (hz : zeroT P e = some (.int ik 0)) (hl : ev E l = some (.int kl (k : Int))) (hm : ev E q = some (.int km (k : Int)))
    (h0 : 0 < bs) (h1 : bs * k ≤ 281474976710656) :
    NewY P E ⟨some d, .makeSlice t l q, ty, p, a, g⟩ (.cells (ints ik (List.replicate k 0)) e true) (fun h => .slice (some ⟨h, 0, none⟩) k k) := by
  have := newY_mk1 (d := d) (ty := ty) (p := p) (a := a) (g := g) ht hs hb hz hl hm h0 h1 (by decide) rfl
  have e2 : (List.replicate k (Value.int ik 0).cells.toList).flatten = ints ik (List.replicate k 0) := by
    show (List.replicate k [Value.int ik 0]).flatten = _
    simp [ints]
  rw [e2] at this
  exact this
end
section
variable {P : Program} {E : Env} {d : Nat} {ty : TypeId} {p : String} {a : Array Edge} {g : Option (Nat × Bool)} {t e : TypeId} {m : Nat} {ps : Array (Nat × Operand)} {z : Value}
theorem nbsI {ik : IntKind} (ns : List Nat) (ht : P.underlying t = some (.slice e)) (hs : szT P e = some 1) (hz : zeroT P e = some z) (hl : z.cells.toList.length = 1) (h1 : m * 1 ≤ 2 ^ 24 ∧ 1 ≠ 0) (hm : ns.length = m) (hx : evp E ps.toList = some (((ints ik ns).zipIdx 0).map fun q => (q.2, q.1))) :
    NewY P E ⟨some d, .buildSlice t m ps, ty, p, a, g⟩ (.cells (ints ik ns) e true) (fun h => .slice (some ⟨h, 0, none⟩) m m) :=
  nbsL (ints ik ns) ht hs hz hl h1 (by simpa using hm) hx (by
    intro v hv
    simp only [ints, List.mem_map] at hv
    obtain ⟨n, _, rfl⟩ := hv
    rfl)
end

/-- Behind a row of objects that is told as a whole. -/
theorem Has.app {L M : Hm} {h : Nat} {o : AObj} (k : Has M h o) : Has (L ++ M) h o := by
  induction L with
  | nil => exact k
  | cons p L ih => exact .there ih
theorem Turn.app {L M M' : Hm} {h : Nat} {o o' : AObj} (k : Turn M h o o' M') : Turn (L ++ M) h o o' (L ++ M') := by
  induction L with
  | nil => exact k
  | cons p L ih => exact .there ih
theorem Drop.app {L M M' : Hm} {h : Nat} {o : AObj} (k : Drop M h o M') : Drop (L ++ M) h o (L ++ M') := by
  induction L with
  | nil => exact k
  | cons p L ih => exact .there ih
theorem Has.front {L M : Hm} {h : Nat} {o : AObj} (k : Has L h o) : Has (L ++ M) h o := by
  induction k with
  | here => exact .here
  | there _ ih => exact .there ih
/-- Known, turning, untouched: found by search. -/
theorem hasT {M : Hm} {h : Nat} {o : AObj} (x : Has M h o := by repeat (first | exact Has.here | apply Has.there | apply Has.app)) : Has M h o := x
theorem turnT {M M' : Hm} {h : Nat} {o o' : AObj} (x : Turn M h o o' M' := by repeat (first | exact Turn.here | apply Turn.there | apply Turn.app)) : Turn M h o o' M' := x
theorem notM {M : Hm} {b : Nat} (x : ∀ p ∈ M, p.1 ≠ b := by simp only [List.forall_mem_cons, List.not_mem_nil, false_implies, implies_true, and_true, ne_eq]; first | done | omega | (repeat (first | with_reducible assumption | (refine And.intro ?_ ?_)))) : ∀ p ∈ M, p.1 ≠ b := x
end Go.Am

/- Symbolic states: iterators over maps. -/
namespace Go.Am
open Go
section
variable {P : Program} {pr : Prims} {f n : Nat} {H0 : AHeap} {lo hi : Nat} {E : Env} {Mo Mn : Hm} {K : AS → Prop} {d : Nat} {ty : TypeId} {p : String} {a : Array Edge} {g : Option (Nat × Bool)}

/-- To a slice that the caller handed over: it is used up. -/
theorem Sy.appX {t xt e : TypeId} {sz bs : Nat} {z : Value} {x y : Operand} {b m : Nat} {vy : Value} {k : Nat} {cs cc : List Value} {T : TypeId} (A : AppT P t xt e sz bs z) (hd : Nat.blt d n = true) (hx : ev E x = some (.slice (some ⟨b, 0, none⟩) m (m + 2 + sz))) (hy : ev E y = some vy) (hs : SrcY H0 lo hi Mo Mn sz vy k cs) (h1 : oneL cs = true) (hk : k ≠ 0) (hb : (m + k) * bs ≤ 140737488355328)
    (hg0 : H0.get b = .cells cc T true) (hn : ∀ p ∈ Mo, p.1 ≠ b) (hl : cc.length = m * sz)
    (h : ∀ b', Sy n H0 lo hi ((d, .slice (some ⟨b', 0, none⟩) (m + k) (m + k + 2 + sz)) :: E) ((b, .dead) :: Mo) ((b', .cells (cc ++ cs) e true) :: Mn) K) :
    Sy n H0 lo hi E Mo Mn (StepY P pr ⟨some d, .call ⟨.builtin .append, #[x, y], #[t, xt]⟩, ty, p, a, g⟩ K) := by
  intro tm H u hE hH
  have hg : H.get b = .cells cc T true := hH.get0 hg0 rfl hn
  have e1 : (cc.drop 0).take (m * sz) = cc := by rw [List.drop_zero, List.take_of_length_le (by omega)]
  have e2 : 0 + m * sz ≤ cc.length := by omega
  have e3 : ¬ (m + 2 + sz = m) := by omega
  have e4 : (m + 2 ≤ m + 2 + sz ∧ (m + 2 + sz - m - 2) % 1000000000000 = sz) = True := eq_true ⟨by omega, by have := A.h3; omega⟩
  have hp := (hH.set0 (o' := .dead) (get_live_lt (by rw [hg0]; rfl)) hn).push (.cells (cc ++ cs) e true)
  rw [next_set] at hp
  refine ⟨wy_append (r := (.slice (some ⟨H.next, 0, none⟩) (m + k) (m + k + 2 + sz), (H.set b .dead).push (.cells (cc ++ cs) e true))) ?_ (h H.next _ _ (by simp [putT, u]) (hE.put (by rw [u]; exact of_blt hd) _) hp)⟩
  simp only [hE.ev hx, hE.ev hy, appendW, A.ht, A.hs, A.hb, A.hz, hs H hH, Option.bind_some, A.hx, A.h2, A.h3, h1, ne_eq, A.h0, A.h1, not_false_eq_true, and_self, if_true, hk, if_false, hb, hg, e2, e3, e4, e1]
end
end Go.Am

/- Symbolic states: the heap of a moment as the start of what follows; loops whose invariant speaks of the heap. -/
namespace Go.Am
open Go
section
variable {P : Program} {pr : Prims} {f n : Nat} {H0 : AHeap} {lo hi : Nat} {E : Env} {Mo Mn : Hm}

theorem Sy.cut {R : AS → Prop} (h : ∀ H1, Hp H0 lo hi H1 Mo Mn → Sy n H1 0 0 E [] [] R) : Sy n H0 lo hi E Mo Mn R :=
  fun tm H u hE hH => h H hH tm H u hE (Hp.refl H)

/-- Below B nothing has turned. -/
structure Fr (B : Nat) (H H' : AHeap) : Prop where
  lo : B ≤ H.next
  le : H.next ≤ H'.next
  eq : ∀ a, a < B → H'.get a = H.get a
theorem Fr.refl {H : AHeap} {B : Nat} (h : B ≤ H.next) : Fr B H H := ⟨h, Nat.le_refl _, fun _ _ => rfl⟩
theorem Fr.step {H H1 H2 : AHeap} {B : Nat} (h : Fr B H H1) (hp : Hp H1 lo hi H2 Mo Mn) (hn : ∀ p ∈ Mo, B ≤ p.1) : Fr B H H2 :=
  ⟨h.lo, Nat.le_trans h.le hp.le, fun a ha => by
    rw [hp.fr a (by have := h.lo; have := h.le; omega) (fun p hq e => by have := hn p hq; omega), h.eq a ha]⟩
theorem Fr.of {H H1 : AHeap} (hp : Hp H lo hi H1 [] Mn) : Fr H.next H H1 := (Fr.refl (Nat.le_refl _)).step hp (by simp)
theorem Fr.hp {H H' : AHeap} (h : Fr H.next H H') : Hp H 0 0 H' [] [] :=
  ⟨by simp, by simp, by simp, by simp, by simp, by simp, by simp, h.le, fun a ha _ => h.eq a ha, by omega, by omega⟩
theorem Fr.get {H H' : AHeap} {B a : Nat} {o : AObj} (h : Fr B H H') (hg : H.get a = o) (ha : a < B) : H'.get a = o := by rw [h.eq a ha, hg]
end
end Go.Am

/- Symbolic states: calls through interfaces; calls behind which the walk starts anew. -/
namespace Go.Am
open Go

section
variable {P : Program} {pr : Prims} {f n : Nat} {H0 : AHeap} {lo hi : Nat} {E : Env} {Mo Mn : Hm} {K : AS → Prop} {d : Nat} {ty : TypeId} {p : String} {a : Array Edge} {g : Option (Nat × Bool)} {v : Value}

theorem cop_inv {tm : List Value} {r : Operand} {nm : String} {xs : Array Operand} {ts : Array TypeId} {k : FuncId} {rt : TypeId} {rv : Value} {vs : List Value} {dst : Option Tmp} (hE : Mods tm E) (hf : ev E r = some (.iface rt rv)) (hm : mfun P rt nm = some k) (hen : enters P k = true) (hx : evs E xs.toList = some vs) :
    cop P (aval tm) ⟨dst, .call ⟨.invoke r nm, xs, ts⟩, ty, p, a, g⟩ = some (k, rv :: vs) := by
  simp only [cop, hE.ev hf, hm, hen, if_true, hE.evs hx]

theorem Sy.inv {ι : Type} {r : Operand} {nm : String} {xs : Array Operand} {ts : Array TypeId} {k : FuncId} {rt : TypeId} {rv : Value} {vs : List Value} (V : ι → Value) (Mo' Mn' : ι → Hm) (I : ι → Prop) (hd : Nat.blt d n = true) (hf : ev E r = some (.iface rt rv)) (hm : mfun P rt nm = some k) (hen : enters P k = true) (hx : evs E xs.toList = some vs)
    (hc : ∀ H, Hp H0 lo hi H Mo Mn → CallR P pr k (rv :: vs) H (fun v H' => ∃ i, I i ∧ v = V i ∧ Hp H0 lo hi H' (Mo' i) (Mn' i))) (h : ∀ i, I i → Sy n H0 lo hi ((d, V i) :: E) (Mo' i) (Mn' i) K) :
    Sy n H0 lo hi E Mo Mn (StepY P pr ⟨some d, .call ⟨.invoke r nm, xs, ts⟩, ty, p, a, g⟩ K) := by
  intro tm H u hE hH
  refine ⟨(wp_callF rfl).2 ⟨_, cop_inv hE hf hm hen hx, (hc H hH).mono ?_⟩⟩
  rintro v H' ⟨i, hi, rfl, hq⟩
  exact h i hi _ _ (by simp [putT, u]) (hE.put (by rw [u]; exact of_blt hd) _) hq
theorem Sy.invN {ι : Type} {r : Operand} {nm : String} {xs : Array Operand} {ts : Array TypeId} {k : FuncId} {rt : TypeId} {rv : Value} {vs : List Value} {V : ι → Value} {Ln : ι → Hm} {I : ι → Prop} (hd : Nat.blt d n = true) (hf : ev E r = some (.iface rt rv)) (hm : mfun P rt nm = some k) (hen : enters P k = true) (hx : evs E xs.toList = some vs)
    (hc : ∀ H, Hp H0 lo hi H Mo Mn → CallR P pr k (rv :: vs) H (fun v H' => ∃ i, I i ∧ v = V i ∧ Hp H 0 0 H' [] (Ln i))) (h : ∀ i, I i → Sy n H0 lo hi ((d, V i) :: E) Mo (Ln i ++ Mn) K) :
    Sy n H0 lo hi E Mo Mn (StepY P pr ⟨some d, .call ⟨.invoke r nm, xs, ts⟩, ty, p, a, g⟩ K) :=
  .inv V (fun _ => Mo) (fun i => Ln i ++ Mn) I hd hf hm hen hx (fun H hH => (hc H hH).mono fun v H' ⟨i, hi, e, q⟩ => ⟨i, hi, e, hH.then0 q⟩) h
theorem Sy.inv0 {r : Operand} {nm : String} {xs : Array Operand} {ts : Array TypeId} {k : FuncId} {rt : TypeId} {rv : Value} {vs : List Value} (hd : Nat.blt d n = true) (hf : ev E r = some (.iface rt rv)) (hm : mfun P rt nm = some k) (hen : enters P k = true) (hx : evs E xs.toList = some vs)
    (hc : ∀ H, Hp H0 lo hi H Mo Mn → CallR P pr k (rv :: vs) H (fun u H' => u = v ∧ Hp H 0 0 H' [] [])) (h : Sy n H0 lo hi ((d, v) :: E) Mo Mn K) :
    Sy n H0 lo hi E Mo Mn (StepY P pr ⟨some d, .call ⟨.invoke r nm, xs, ts⟩, ty, p, a, g⟩ K) :=
  .invN (ι := Unit) (V := fun _ => v) (Ln := fun _ => []) (I := fun _ => True) hd hf hm hen hx (fun H hH => (hc H hH).mono fun v H' ⟨e, q⟩ => ⟨(), trivial, e, q⟩) fun _ _ => h

/-- What may have turned lies in S. -/
def Kp (S : Nat → Prop) (H H' : AHeap) : Prop := H.next ≤ H'.next ∧ ∀ h, h < H.next → ¬ S h → H'.get h = H.get h
theorem Kp.refl (S : Nat → Prop) (H : AHeap) : Kp S H H := ⟨Nat.le_refl _, fun _ _ _ => rfl⟩
theorem Kp.trans {S S1 : Nat → Prop} {H H1 H2 : AHeap} (a : Kp S H H1) (b : Kp S1 H1 H2) (hs : ∀ h, h < H.next → S1 h → S h) : Kp S H H2 :=
  ⟨Nat.le_trans a.1 b.1, fun h hh hn => by rw [b.2 h (Nat.lt_of_lt_of_le hh a.1) (fun x => hn (hs h hh x)), a.2 h hh hn]⟩
theorem Kp.of {S : Nat → Prop} {H H1 : AHeap} (hp : Hp H lo hi H1 Mo Mn) (hs : ∀ p ∈ Mo, S p.1) : Kp S H H1 :=
  ⟨hp.le, fun h hh hn => hp.fr h hh (fun p hq e => hn (e ▸ hs p hq))⟩
theorem Kp.get {S : Nat → Prop} {H H1 : AHeap} (k : Kp S H H1) {h : Nat} {o : AObj} (e : H.get h = o) (hl : o.live = true) (hn : ¬ S h) : H1.get h = o := by
  rw [k.2 h (get_live_lt (by rw [e]; exact hl)) hn, e]
theorem Kp.hp {S : Nat → Prop} {H H1 : AHeap} (k : Kp S H H1) (hs : ∀ h, h < H.next → ¬ S h) : Hp H 0 0 H1 [] [] :=
  ⟨by simp, by simp, by simp, by simp, by simp, by simp, by simp, k.1, fun h hh _ => k.2 h hh (hs h hh), by omega, by omega⟩
theorem Kp.mono {S S1 : Nat → Prop} {H H1 : AHeap} (k : Kp S H H1) (hs : ∀ h, S h → S1 h) : Kp S1 H H1 := ⟨k.1, fun h hh hn => k.2 h hh fun x => hn (hs h x)⟩

/-- A call behind which the walk starts anew, at the heap of the moment. -/
theorem Sy.callH {ι : Type} {fo : Operand} {xs : Array Operand} {ts : Array TypeId} {k : FuncId} {vs first cap : List Value} {V : ι → Value} {J : ι → AHeap → AHeap → Prop} (hd : Nat.blt d n = true) (hf : ev E fo = some (.func (.func k) ⟨first⟩ ⟨cap⟩)) (hen : enters P k = true) (hx : evs E xs.toList = some vs)
    (hc : ∀ H, Hp H0 lo hi H Mo Mn → CallR P pr k (first ++ vs ++ cap) H (fun v H' => ∃ i, v = V i ∧ J i H H')) (h : ∀ i H H', Hp H0 lo hi H Mo Mn → J i H H' → Sy n H' 0 0 ((d, V i) :: E) [] [] K) :
    Sy n H0 lo hi E Mo Mn (StepY P pr ⟨some d, .call ⟨.value fo, xs, ts⟩, ty, p, a, g⟩ K) := by
  intro tm H u hE hH
  refine ⟨(wp_callF rfl).2 ⟨_, cop_val hE hf hen hx, (hc H hH).mono ?_⟩⟩
  rintro v H' ⟨i, rfl, hq⟩
  exact h i H H' hH hq _ _ (by simp [putT, u]) (hE.put (by rw [u]; exact of_blt hd) _) (Hp.refl H')
theorem Sy.invH {ι : Type} {r : Operand} {nm : String} {xs : Array Operand} {ts : Array TypeId} {k : FuncId} {rt : TypeId} {rv : Value} {vs : List Value} {V : ι → Value} {J : ι → AHeap → AHeap → Prop} (hd : Nat.blt d n = true) (hf : ev E r = some (.iface rt rv)) (hm : mfun P rt nm = some k) (hen : enters P k = true) (hx : evs E xs.toList = some vs)
    (hc : ∀ H, Hp H0 lo hi H Mo Mn → CallR P pr k (rv :: vs) H (fun v H' => ∃ i, v = V i ∧ J i H H')) (h : ∀ i H H', Hp H0 lo hi H Mo Mn → J i H H' → Sy n H' 0 0 ((d, V i) :: E) [] [] K) :
    Sy n H0 lo hi E Mo Mn (StepY P pr ⟨some d, .call ⟨.invoke r nm, xs, ts⟩, ty, p, a, g⟩ K) := by
  intro tm H u hE hH
  refine ⟨(wp_callF rfl).2 ⟨_, cop_inv hE hf hm hen hx, (hc H hH).mono ?_⟩⟩
  rintro v H' ⟨i, rfl, hq⟩
  exact h i H H' hH hq _ _ (by simp [putT, u]) (hE.put (by rw [u]; exact of_blt hd) _) (Hp.refl H')
end
end Go.Am

/- Symbolic states: rows that grow by append, wherever they stand among the new objects. -/
namespace Go.Am
open Go

/-- A stretch of new objects, taken out. -/
inductive Pull : Hm → Hm → Hm → Prop
  | here {A R : Hm} : Pull (A ++ R) A R
  | all {A : Hm} : Pull A A []
  | there {A R M : Hm} {p : Nat × AObj} : Pull M A R → Pull (p :: M) A (p :: R)
  | app {A R M L : Hm} : Pull M A R → Pull (L ++ M) A (L ++ R)
theorem Pull.perm {M A R : Hm} (h : Pull M A R) : List.Perm M (A ++ R) := by
  induction h with
  | here => exact .refl _
  | all => rw [List.append_nil]
  | there _ ih => exact (List.Perm.cons _ ih).trans (List.perm_middle.symm)
  | app _ ih =>
    rename_i A R M L _
    refine (List.Perm.append_left L ih).trans ?_
    rw [← List.append_assoc, ← List.append_assoc]
    exact List.Perm.append_right _ List.perm_append_comm
theorem pullT {M A R : Hm} (x : Pull M A R := by repeat (first | exact Pull.here | exact Pull.all | apply Pull.there | apply Pull.app)) : Pull M A R := x

section
variable {P : Program} {pr : Prims} {f n : Nat} {H0 : AHeap} {lo hi : Nat} {E : Env} {Mo Mn : Hm} {K : AS → Prop} {d : Nat} {ty : TypeId} {p : String} {a : Array Edge} {g : Option (Nat × Bool)} {t xt e : TypeId} {sz bs : Nat} {z : Value}

theorem SrcY.perm {Mn' : Hm} {x : Value} {k : Nat} {cs : List Value} (h : SrcY H0 lo hi Mo Mn sz x k cs) (q : List.Perm Mn' Mn) : SrcY H0 lo hi Mo Mn' sz x k cs := fun H hH => h H (hH.perm q.symm)
/-- An append to a row of one's own that may be nothing yet. -/
theorem Sy.appB {x y : Operand} {b m : Nat} {vy : Value} {k : Nat} {cs l l' : List Value} {M1 : Hm} (A : AppT P t xt e sz bs z) (hd : Nat.blt d n = true) (hx : ev E x = some (accV sz l m b)) (hy : ev E y = some vy) (hs : SrcY H0 lo hi Mo Mn sz vy k cs) (h1 : oneL cs = true) (hc : cs.length = k * sz) (hb : (m + k) * bs ≤ 140737488355328)
    (hm : Pull Mn (accM e l m b) M1) (hl : l.length = m * sz) (hj : l ++ cs = l') (h : ∀ b', Sy n H0 lo hi ((d, accV sz l' (m + k) b') :: E) Mo (accM e l' (m + k) b' ++ M1) K) :
    Sy n H0 lo hi E Mo Mn (StepY P pr ⟨some d, .call ⟨.builtin .append, #[x, y], #[t, xt]⟩, ty, p, a, g⟩ K) := by
  subst hj
  exact Sy.perm hm.perm.symm (Sy.appA A hd hx hy hl (hs.perm hm.perm.symm) h1 hc hb h)
end
section
variable {P : Program} {t e : TypeId} {sz : Nat} {k k' k2 : IntKind}
/-- Slices of nothing. -/
theorem sl_nil3 (h : P.underlying t = some (.slice e)) (hs : szT P e = some sz) : sliceV P t (.slice none 0 0) none (some (.int k ((0 : Nat) : Int))) (some (.int k' ((0 : Nat) : Int))) = some (.slice none 0 0) := by
  simp [sliceV, h, hs, natOf]
theorem sl_nil_from (h : P.underlying t = some (.slice e)) (hs : szT P e = some sz) : sliceV P t (.slice none 0 0) (some (.int k ((0 : Nat) : Int))) none none = some (.slice none 0 0) := by
  simp [sliceV, h, hs, natOf]
end
/-- An old object that is as it was. -/
theorem Hp.sameO {H0 H : AHeap} {lo hi : Nat} {Mo Mn : Hm} {m : Nat} {o : AObj} (h : Hp H0 lo hi H Mo Mn) (hm : H0.get m = o) (hl : o.live = true) (hn : ∀ p ∈ Mo, p.1 ≠ m) : Hp H0 lo hi H ((m, o) :: Mo) Mn where
  vo := fun p hp => by
    rcases List.mem_cons.1 hp with rfl | hp
    · exact h.get0 hm hl hn
    · exact h.vo p hp
  vn := h.vn
  no := by
    simp only [List.map_cons, List.nodup_cons]
    exact ⟨fun hx => by obtain ⟨p, hp, e⟩ := List.mem_map.1 hx; exact hn p hp e, h.no⟩
  nn := h.nn
  ol := fun p hp => by
    rcases List.mem_cons.1 hp with rfl | hp
    · exact get_live_lt (by rw [hm]; exact hl)
    · exact h.ol p hp
  ge := h.ge
  lt := h.lt
  le := h.le
  fr := fun x hx hp => h.fr x hx fun p hq => hp p (List.mem_cons_of_mem _ hq)
  w1 := h.w1
  w2 := h.w2
theorem Sy.touch {n : Nat} {H0 : AHeap} {lo hi : Nat} {E : Env} {Mo Mn : Hm} {R : AS → Prop} {m : Nat} {o : AObj} (hm : H0.get m = o) (hl : o.live = true) (hn : ∀ p ∈ Mo, p.1 ≠ m) (h : Sy n H0 lo hi E ((m, o) :: Mo) Mn R) : Sy n H0 lo hi E Mo Mn R :=
  fun tm H a b c => h tm H a b (c.sameO hm hl hn)

/-- A guard whose own guard did not hold. -/
theorem yield_undef {ops : Array Oper} {E : Env} {j t : Nat} (hj : (ops[j]?).bind (·.dst) = some t) {tm : List Value} (hE : Mods tm E) (hb : look E t = some undef) : ayield ops tm j = none := by
  have := hE t _ hb
  simp only [List.getD] at this
  simp only [ayield, hj, Option.bind_some]
  cases h : tm[t]? with
  | none => rfl
  | some v => rw [h] at this; simp only [Option.getD_some] at this; subst this; rfl
theorem wanted_un {d : Option Tmp} {op : Op} {ty : TypeId} {p : String} {a : Array Edge} {j : Nat} {b : Bool} {y : Nat → Option Bool} (h : y j = none) : Region.wanted ⟨d, op, ty, p, a, some (j, b)⟩ y = false := by simp [Region.wanted, h]
section
variable {P : Program} {pr : Prims} {n : Nat} {H0 : AHeap} {lo hi : Nat} {E : Env} {Mo Mn : Hm}
theorem Sy.noGu {ops : Array Oper} {l : List Oper} {d : Nat} {op : Op} {ty : TypeId} {p : String} {a : Array Edge} {j t : Nat} {b : Bool} {Q : AS → Prop} (hj : (ops[j]?).bind (·.dst) = some t) (hb : look E t = some undef) (hd : Nat.blt d n = true)
    (h : Sy n H0 lo hi ((d, undef) :: E) Mo Mn (OpsY P pr ops l Q)) : Sy n H0 lo hi E Mo Mn (OpsY P pr ops (⟨some d, op, ty, p, a, some (j, b)⟩ :: l) Q) := by
  intro tm H x y z
  refine ⟨wp_cons'.2 ?_⟩
  rw [if_neg (by rw [wanted_un (yield_undef hj y hb)]; decide)]
  exact (h _ H (by simp [putT, x]) (y.put (by rw [x]; exact of_blt hd) _) z).run
end

/-- What a copy of a row is: a new row, or what was empty. -/
def CopyV (sz k b : Nat) (v : Value) : Prop := v = .slice (some ⟨b, 0, none⟩) k (k + 2 + sz) ∨ (k = 0 ∧ ∃ b', v = .slice (some ⟨b', 0, none⟩) 0 0)
theorem CopyV.slice {sz k b : Nat} {v : Value} (h : CopyV sz k b v) : ∃ a c, v = .slice (some a) k c := by
  rcases h with rfl | ⟨rfl, b', rfl⟩ <;> exact ⟨_, _, rfl⟩
section
variable {P : Program} {pr : Prims} {f n : Nat} {H0 : AHeap} {lo hi : Nat} {E : Env} {Mo Mn : Hm} {K : AS → Prop} {d : Nat} {ty : TypeId} {p : String} {a : Array Edge} {g : Option (Nat × Bool)} {t xt e : TypeId} {sz bs : Nat} {z : Value}
end

theorem SrcY.zero {H0 : AHeap} {lo hi : Nat} {Mo Mn : Hm} {sz b c : Nat} : SrcY H0 lo hi Mo Mn sz (.slice (some ⟨b, 0, none⟩) 0 c) 0 [] := by
  intro H _
  simp [srcCells]

@[simp] theorem accV_cells {sz k b : Nat} {l : List Value} : (accV sz l k b).cells.toList = [accV sz l k b] := by unfold accV; split <;> rfl
@[simp] theorem accV_one {sz k b : Nat} {l : List Value} : (accV sz l k b).oneCell' = true := by unfold accV; split <;> rfl
theorem accV_oneL {sz k b : Nat} {l : List Value} : oneL [accV sz l k b] = true := by simp [oneL_cons, oneL_nil]

section
variable {P : Program} {pr : Prims} {f n : Nat} {H0 : AHeap} {lo hi : Nat} {E : Env} {Mo Mn : Hm} {K : AS → Prop} {d : Nat} {ty : TypeId} {p : String} {a : Array Edge} {g : Option (Nat × Bool)} {t xt e : TypeId} {bs : Nat} {z z0 : Value}
end

section
variable {P : Program} {pr : Prims} {f n : Nat} {H0 : AHeap} {lo hi : Nat} {E : Env} {Mo Mn : Hm} {K : AS → Prop} {d : Nat} {ty : TypeId} {p : String} {a : Array Edge} {g : Option (Nat × Bool)} {t e : TypeId}
end
end Go.Am

/- Symbolic states: strings out of bytes; equal rows of numbers. -/
namespace Go.Am
open Go

/-- A string of bytes. -/
def strB (l : List Nat) : ByteArray := ⟨⟨l.map UInt8.ofNat⟩⟩
theorem aBytes_row : ∀ l : List Nat, aBytes (ints .u8 l) = some (l.map UInt8.ofNat)
  | [] => rfl
  | x :: l => by
    have := aBytes_row l
    simp only [ints] at this
    simp only [ints, List.map_cons, aBytes, this, Option.map_some, Int.toNat_natCast]
theorem strB_inj {a b : List Nat} (ha : ∀ x ∈ a, x < 256) (hb : ∀ x ∈ b, x < 256) : (strB a).toList = (strB b).toList ↔ a = b := by
  constructor
  · intro h
    have h1 : (strB a).data.toList = (strB b).data.toList := by rw [← ByteArray.toList_eq, ← ByteArray.toList_eq]; exact h
    have h2 : a.map UInt8.ofNat = b.map UInt8.ofNat := h1
    have hl : a.length = b.length := by simpa using congrArg List.length h2
    apply List.ext_getElem hl
    intro i h3 h4
    have h5 : (a.map UInt8.ofNat)[i]? = (b.map UInt8.ofNat)[i]? := by rw [h2]
    rw [List.getElem?_map, List.getElem?_map, List.getElem?_eq_getElem h3, List.getElem?_eq_getElem h4] at h5
    simp only [Option.map_some, Option.some.injEq] at h5
    have h6 := congrArg UInt8.toNat h5
    rw [UInt8.toNat_ofNat', UInt8.toNat_ofNat'] at h6
    have := ha _ (List.getElem_mem h3)
    have := hb _ (List.getElem_mem h4)
    omega
  · intro h; rw [h]
section
variable {P : Program} {pr : Prims} {n : Nat} {H0 : AHeap} {lo hi : Nat} {E : Env} {Mo Mn : Hm} {K : AS → Prop} {d : Nat} {ty : TypeId} {p : String} {a : Array Edge} {g : Option (Nat × Bool)} {s u e : TypeId}

theorem cls_str {x : Operand} {dd : Option Tmp} (h1 : P.underlying s = some (.slice e)) (h2 : P.underlying u = some .string) : cls P ⟨dd, .convert s u x, ty, p, a, g⟩ = .r := by simp [cls, h1, h2]
/-- What holds of a row of bytes at each heap of a kind. -/
def SrL (H0 : AHeap) (lo hi : Nat) (Mo Mn : Hm) (v : Value) (l : List Nat) : Prop := ∀ H, Hp H0 lo hi H Mo Mn → SlR H 1 v l.length (ints .u8 l)
theorem Sy.str {x : Operand} {v : Value} {l : List Nat} (h1 : P.underlying s = some (.slice e)) (h2 : P.underlying u = some .string) (h3 : P.underlying e = some (.int .u8)) (hd : Nat.blt d n = true) (hx : ev E x = some v) (hs : SrL H0 lo hi Mo Mn v l) (h : Sy n H0 lo hi ((d, .string (strB l)) :: E) Mo Mn K) :
    Sy n H0 lo hi E Mo Mn (StepY P pr ⟨some d, .convert s u x, ty, p, a, g⟩ K) := by
  intro tm H w hE hH
  refine ⟨(wp_read (cls_str h1 h2)).2 ?_⟩
  have hq := hs H hH
  have fin := h (putT tm (some d) (.string (strB l))) H (by simp [putT, w]) (hE.put (by rw [w]; exact of_blt hd) _) hH
  generalize hl : l.length = m at hq
  generalize hcs : ints .u8 l = cl at hq
  cases hq with
  | nil =>
    obtain rfl := List.length_eq_zero_iff.1 hl
    exact ⟨(none, fun _ => some (.string .empty)), by simp only [rop, h1, h2, h3, hE.ev hx], _, rfl, fin⟩
  | emp =>
    obtain rfl := List.length_eq_zero_iff.1 hl
    exact ⟨(none, fun _ => some (.string .empty)), by simp only [rop, h1, h2, h3, hE.ev hx, if_true], _, rfl, fin⟩
  | mk hg hle ht =>
    rename_i b o c cs T wr
    by_cases hm0 : m = 0
    · subst hm0
      obtain rfl := List.length_eq_zero_iff.1 hl
      exact ⟨(none, fun _ => some (.string .empty)), by simp only [rop, h1, h2, h3, hE.ev hx, if_true], _, rfl, fin⟩
    have hr : rop P (aval tm) ⟨some d, .convert s u x, ty, p, a, g⟩ = some (some b, fun obj => match obj with
          | .cells c _ _ => if o + m ≤ c.length then (aBytes ((c.drop o).take m)).map fun l => .string ⟨⟨l⟩⟩ else none
          | _ => none) := by
      simp only [rop, h1, h2, h3, hE.ev hx, if_neg hm0]
      rfl
    refine ⟨_, hr, .string (strB l), ?_, fin⟩
    simp only [hg]
    rw [if_pos (by omega)]
    rw [Nat.mul_one] at ht
    rw [ht, ← hcs, aBytes_row]; rfl
theorem SrL.of0 {v : Value} {l : List Nat} (h : SlR H0 1 v l.length (ints .u8 l)) (hn : Mo = []) : SrL H0 lo hi Mo Mn v l := fun H hH => by
  subst hn
  generalize l.length = m at h ⊢
  generalize ints .u8 l = cl at h ⊢
  cases h with
  | nil => exact .nil
  | emp => exact .emp
  | mk h1 h2 h3 => exact .mk (hH.get0 h1 rfl (by simp)) h2 h3
theorem SrL.nil : SrL H0 lo hi Mo Mn (.slice none 0 0) [] := fun _ _ => .nil
theorem SrL.ofN {b c : Nat} {l : List Nat} {T : TypeId} {w : Bool} (h : Has Mn b (.cells (ints .u8 l) T w)) : SrL H0 lo hi Mo Mn (.slice (some ⟨b, 0, none⟩) l.length c) l := fun H hH =>
  .mk (hH.getN h) (by simp) (by rw [List.drop_zero, List.take_of_length_le (by simp)])
/-- Two strings. -/
theorem eqS {t : TypeId} {x y : List Nat} (hx : ∀ z ∈ x, z < 256) (hy : ∀ z ∈ y, z < 256) : binV P .eql t (.string (strB x)) (.string (strB y)) = some (.bool (decide (x = y))) := by
  simp only [binV, eqV, Option.map_some, Option.some.injEq, Value.bool.injEq]
  rw [Bool.eq_iff_iff]
  simp only [beq_iff_eq, decide_eq_true_eq]
  exact strB_inj hx hy
theorem eqSS {t : TypeId} {x : ByteArray} : binV P .eql t (.string x) (.string x) = some (.bool true) := by
  simp [binV, eqV]
/-- Two rows of numbers. -/
theorem eqIs {t : TypeId} {k : IntKind} {m : Nat} {x y : List Nat} (hk : eqKs P t = some (List.replicate m .int)) (ha : aggT P t = some true) (hx : x.length = m) (hy : y.length = m) : binV P .eql t (.agg ⟨ints k x⟩) (.agg ⟨ints k y⟩) = some (.bool (decide (x = y))) := by
  have h1 : eqL (List.replicate m .int) (ints k x) (ints k y) = some (decide (x = y)) := by
    have := eqL_ints (k := k) (j := .int) (l := x) (m := y) (fun a b => by simp [eqLeaf]; rw [Bool.eq_iff_iff]; simp; omega) (by rw [hx, hy])
    rw [hx] at this; exact this
  simp only [binV, eqV, hk, Option.bind_some, ha, if_true, h1, Option.map_some]
end
end Go.Am
