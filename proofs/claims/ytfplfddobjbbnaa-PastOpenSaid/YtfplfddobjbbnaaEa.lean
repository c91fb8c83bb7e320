/- The engine, part a: a symbolic frame (an association list), a small separation logic on worlds, and the judgement 'H'. No program in sight; no conditions. -/
import Derived.Calls
import Derived.Tactics
import Derived.KernelRfl
import Derived.Below
namespace Go.Proofs.Ytfplfddobjbbnaa
set_option linter.unusedSectionVars false
set_option linter.unusedSimpArgs false
set_option linter.unusedVariables false
open Go

abbrev Env := List (Nat × Value)
def look? : Env → Nat → Option Value
  | [], _ => none
  | (j, v) :: r, i => match Nat.beq j i with
    | true => some v
    | false => look? r i

structure Fr (n : Nat) (a : Act) (L : Env) : Prop where
  size : a.tmps.size = n
  defers : a.defers = []
  get : ∀ i v, look? L i = some v → a.tmps[i]? = some v

theorem look?_cons (j : Nat) (v : Value) (r : Env) (i : Nat) : look? ((j, v) :: r) i = if j = i then some v else look? r i := by
  simp only [look?]
  by_cases h : j = i
  · subst h; simp [Nat.beq_refl]
  · have : Nat.beq j i = false := by
      cases hb : Nat.beq j i with
      | true => exact absurd (Nat.eq_of_beq_eq_true hb) h
      | false => rfl
    simp [this, h]

theorem Fr.put {n : Nat} {a : Act} {L : Env} (h : Fr n a L) {d : Nat} (hd : d < n) (v : Value) : Fr n (a.put (some d) v) ((d, v) :: L) := by
  refine ⟨by simp [Act.put, h.size], h.defers, fun i u hi => ?_⟩
  rw [look?_cons] at hi
  by_cases e : d = i
  · subst e
    simp at hi; subst hi
    have : d < a.tmps.size := by rw [h.size]; exact hd
    simp [Act.put, this]
  · simp [e] at hi
    simp only [Act.put]
    rw [Array.getElem?_setIfInBounds_ne e]
    exact h.get i u hi

def SubE (L : Env) : Env → Prop
  | [] => True
  | (i, v) :: r => look? L i = some v ∧ SubE L r

theorem SubE.get {L : Env} : ∀ {L' : Env}, SubE L L' → ∀ i v, look? L' i = some v → look? L i = some v
  | [], _, i, v, h => by simp [look?] at h
  | (j, u) :: r, hs, i, v, h => by
    rw [look?_cons] at h
    by_cases e : j = i
    · subst e; simp at h; subst h; exact hs.1
    · simp [e] at h; exact hs.2.get i v h

theorem Fr.sub {n : Nat} {a : Act} {L L' : Env} (h : Fr n a L) (hs : SubE L L') : Fr n a L' :=
  ⟨h.size, h.defers, fun i v hi => h.get i v (hs.get i v hi)⟩

def ev? (L : Env) : Operand → Option Value
  | .tmp t => look? L t
  | .const v => some v
  | .global g => some (.pointer (some ⟨g, 0, none⟩))
  | .func f => some (.func (.func f) #[] #[])

theorem Fr.eval {n : Nat} {a : Act} {L : Env} (h : Fr n a L) {x : Operand} {v : Value} (hx : ev? L x = some v) : a.eval x = v := by
  cases x with
  | tmp t =>
    have := h.get t v hx
    simp [Act.eval, this]
  | const u => simpa [ev?, Act.eval] using hx
  | global g => simpa [ev?, Act.eval] using hx
  | func g => simpa [ev?, Act.eval] using hx

def evs? (L : Env) : List Operand → Option (List Value)
  | [] => some []
  | x :: xs => (ev? L x).bind fun v => (evs? L xs).bind fun vs => some (v :: vs)

theorem Fr.evals {n : Nat} {a : Act} {L : Env} (h : Fr n a L) : ∀ {xs : List Operand} {vs : List Value}, evs? L xs = some vs → xs.map a.eval = vs
  | [], vs, hx => by simp [evs?] at hx; simp [← hx]
  | x :: xs, vs, hx => by
    simp only [evs?, Option.bind_eq_some_iff, Option.some.injEq] at hx
    obtain ⟨v, hv, us, hus, rfl⟩ := hx
    simp [h.eval hv, h.evals hus]

/-- What an operation's guard says now. -/
def getO : List Oper → Nat → Option Oper
  | [], _ => none
  | o :: _, 0 => some o
  | _ :: r, i + 1 => getO r i

theorem getO_eq : ∀ (l : List Oper) (i : Nat), getO l i = l[i]?
  | [], i => by simp [getO]
  | o :: r, 0 => by simp [getO]
  | o :: r, i + 1 => by simp [getO, getO_eq r i]

def isB (b : Bool) : Option Value → Bool
  | some (.bool c) => match b, c with
    | true, true => true
    | false, false => true
    | _, _ => false
  | _ => false
def isU : Option Value → Bool
  | some (.tuple _) => true
  | _ => false

def want? (l : List Oper) (L : Env) : Option (Nat × Bool) → Bool
  | none => true
  | some (j, b) => match getO l j with
    | some ⟨some d, _, _, _, _, _⟩ => isB b (look? L d)
    | _ => false

def skip? (l : List Oper) (L : Env) : Option (Nat × Bool) → Bool
  | none => false
  | some (j, b) => match getO l j with
    | some ⟨some d, _, _, _, _, _⟩ => isB (!b) (look? L d) || isU (look? L d)
    | _ => false

theorem Fr.want {n : Nat} {a : Act} {L : Env} (h : Fr n a L) {l : List Oper} {o : Oper} (hw : want? l L o.guard = true) :
    Region.wanted o (yielded l.toArray a.tmps) = true := by
  unfold Region.wanted
  cases hg : o.guard with
  | none => rfl
  | some gb =>
    obtain ⟨j, b⟩ := gb
    rw [hg] at hw
    simp only [want?] at hw
    rw [getO_eq] at hw
    split at hw
    · rename_i d _ _ _ _ _ ho
      unfold yielded
      simp only [List.getElem?_toArray, ho, Option.bind_some]
      cases hl : look? L d with
      | none => simp [hl, isB] at hw
      | some v =>
        have := h.get d v hl
        rw [hl] at hw
        cases v <;> simp [isB] at hw
        rename_i c
        cases b <;> cases c <;> simp at hw <;> simp [this]
    · simp at hw

theorem Fr.skip {n : Nat} {a : Act} {L : Env} (h : Fr n a L) {l : List Oper} {o : Oper} (hw : skip? l L o.guard = true) :
    Region.wanted o (yielded l.toArray a.tmps) = false := by
  unfold Region.wanted
  cases hg : o.guard with
  | none => rw [hg] at hw; simp [skip?] at hw
  | some gb =>
    obtain ⟨j, b⟩ := gb
    rw [hg] at hw
    simp only [skip?] at hw
    rw [getO_eq] at hw
    split at hw
    · rename_i d _ _ _ _ _ ho
      unfold yielded
      simp only [List.getElem?_toArray, ho, Option.bind_some]
      cases hl : look? L d with
      | none => simp [hl, isB, isU] at hw
      | some v =>
        have := h.get d v hl
        rw [hl] at hw
        cases v <;> simp [isB, isU] at hw
        · rename_i c
          cases b <;> cases c <;> simp at hw <;> simp [this]
        · simp [this]
    · simp at hw

/-! ### Heap predicates -/

abbrev Frag := Nat → Option Obj
abbrev HP := Frag → Prop

def Dj (f g : Frag) : Prop := ∀ k, f k = none ∨ g k = none
def un (f g : Frag) : Frag := fun k => (f k).or (g k)
def nil0 : Frag := fun _ => none
def sing (b : Nat) (o : Obj) : Frag := fun k => if k = b then some o else none

theorem Dj.symm {f g : Frag} (h : Dj f g) : Dj g f := fun k => (h k).symm
theorem un_comm {f g : Frag} (h : Dj f g) : un f g = un g f := by
  funext k; unfold un
  rcases h k with e | e <;> simp [e]
theorem un_assoc (f g h : Frag) : un (un f g) h = un f (un g h) := by
  funext k; unfold un; cases f k <;> simp
theorem un_nil (f : Frag) : un f nil0 = f := by funext k; simp [un, nil0]
theorem nil_un (f : Frag) : un nil0 f = f := by funext k; simp [un, nil0]
theorem Dj.nil (f : Frag) : Dj f nil0 := fun _ => .inr rfl
theorem Dj.un_left {f g h : Frag} : Dj (un f g) h ↔ Dj f h ∧ Dj g h := by
  constructor
  · intro H
    refine ⟨fun k => ?_, fun k => ?_⟩
    · rcases H k with e | e
      · simp [un] at e; exact .inl e.1
      · exact .inr e
    · rcases H k with e | e
      · simp [un] at e; exact .inl e.2
      · exact .inr e
  · rintro ⟨h1, h2⟩ k
    rcases h1 k with e | e
    · rcases h2 k with e' | e'
      · exact .inl (by simp [un, e, e'])
      · exact .inr e'
    · exact .inr e
theorem Dj.un_right {f g h : Frag} : Dj f (un g h) ↔ Dj f g ∧ Dj f h := by
  constructor
  · intro H; have := Dj.un_left.1 H.symm; exact ⟨this.1.symm, this.2.symm⟩
  · rintro ⟨a, b⟩; exact (Dj.un_left.2 ⟨a.symm, b.symm⟩).symm

/-- Block b is this, and this alone. -/
def pts (b : Nat) (o : Obj) : HP := fun h => h = sing b o
def star (p q : HP) : HP := fun h => ∃ h1 h2, Dj h1 h2 ∧ h = un h1 h2 ∧ p h1 ∧ q h2
def emp : HP := fun h => h = nil0
/-- A fact, and no memory. -/
def fact (φ : Prop) : HP := fun h => φ ∧ h = nil0
def ex {α : Type} (q : α → HP) : HP := fun h => ∃ x, q x h

theorem star_comm (p q : HP) : star p q = star q p := by
  funext h; apply propext
  constructor <;> (rintro ⟨h1, h2, d, rfl, a, b⟩; exact ⟨h2, h1, d.symm, un_comm d, b, a⟩)
theorem star_assoc (p q r : HP) : star (star p q) r = star p (star q r) := by
  funext h; apply propext
  constructor
  · rintro ⟨_, h3, d, rfl, ⟨h1, h2, d', rfl, a, b⟩, c⟩
    have := Dj.un_left.1 d
    exact ⟨h1, un h2 h3, Dj.un_right.2 ⟨d', this.1⟩, un_assoc _ _ _, a, h2, h3, this.2, rfl, b, c⟩
  · rintro ⟨h1, _, d, rfl, a, h2, h3, d', rfl, b, c⟩
    have := Dj.un_right.1 d
    exact ⟨un h1 h2, h3, Dj.un_left.2 ⟨this.2, d'⟩, (un_assoc _ _ _).symm, ⟨h1, h2, this.1, rfl, a, b⟩, c⟩
theorem star_left_comm (p q r : HP) : star p (star q r) = star q (star p r) := by
  rw [← star_assoc, star_comm p q, star_assoc]
theorem emp_star (p : HP) : star emp p = p := by
  funext h; apply propext
  constructor
  · rintro ⟨_, h2, _, rfl, rfl, b⟩; rw [nil_un]; exact b
  · intro b; exact ⟨nil0, h, (Dj.nil h).symm, (nil_un h).symm, rfl, b⟩
theorem star_emp (p : HP) : star p emp = p := by rw [star_comm, emp_star]
theorem fact_star {φ : Prop} (hφ : φ) (p : HP) : star (fact φ) p = p := by
  have : fact φ = emp := by funext h; simp [fact, emp, hφ]
  rw [this, emp_star]
theorem ex_star {α : Type} (q : α → HP) (r : HP) : star (ex q) r = ex fun x => star (q x) r := by
  funext h; apply propext
  constructor
  · rintro ⟨h1, h2, d, rfl, ⟨x, a⟩, b⟩; exact ⟨x, h1, h2, d, rfl, a, b⟩
  · rintro ⟨x, h1, h2, d, rfl, a, b⟩; exact ⟨h1, h2, d, rfl, ⟨x, a⟩, b⟩

def stars : List HP → HP
  | [] => emp
  | p :: ps => star p (stars ps)

/-- In the list A stands x; A' is A with y in its place. -/
inductive At : List HP → HP → List HP → HP → Prop where
  | here (t : List HP) (x y : HP) : At (x :: t) x (y :: t) y
  | there (z : HP) {A A' : List HP} {x y : HP} (h : At A x A' y) : At (z :: A) x (z :: A') y

theorem At.split {A A' : List HP} {x y : HP} (h : At A x A' y) : ∃ R, stars A = star x R ∧ stars A' = star y R := by
  induction h with
  | here t x y => exact ⟨stars t, rfl, rfl⟩
  | there z h ih =>
    obtain ⟨R, h1, h2⟩ := ih
    exact ⟨star z R, by simp only [stars, h1]; rw [star_left_comm], by simp only [stars, h2]; rw [star_left_comm]⟩

/-- In the list A stands x; A' is the rest. -/
inductive Pull : List HP → HP → List HP → Prop where
  | here (t : List HP) (x : HP) : Pull (x :: t) x t
  | there (z : HP) {A A' : List HP} {x : HP} (h : Pull A x A') : Pull (z :: A) x (z :: A')

theorem Pull.eq {A A' : List HP} {x : HP} (h : Pull A x A') : stars A = star x (stars A') := by
  induction h with
  | here t x => rfl
  | there z h ih => simp only [stars, ih]; rw [star_left_comm]

structure Sat (base w : World) (f : Frag) (A : List HP) : Prop where
  os : w.os = base.os
  tape : w.tape = base.tape
  output : w.output = base.output
  size : base.heap.size ≤ w.heap.size
  imm : ∀ k o, f k = some o → w.heap[k]? = some o
  mem : ∃ h, stars A h ∧ Dj f h ∧ ∀ k o, h k = some o → w.heap[k]? = some o

theorem Sat.conv {base w : World} {f : Frag} {A A' : List HP} (s : Sat base w f A) (h : stars A = stars A') : Sat base w f A' := by
  obtain ⟨a, b, c, d, e, m⟩ := s; rw [h] at m; exact ⟨a, b, c, d, e, m⟩
theorem Sat.imp {base w : World} {f : Frag} {A A' : List HP} (s : Sat base w f A) (h : ∀ x, stars A x → stars A' x) : Sat base w f A' := by
  obtain ⟨a, b, c, d, e, x, hx, hd, hm⟩ := s; exact ⟨a, b, c, d, e, x, h x hx, hd, hm⟩

theorem Sat.got {base w : World} {f : Frag} {A A' : List HP} {b : Nat} {o : Obj} {y : HP} (s : Sat base w f A) (h : At A (pts b o) A' y) : w.heap[b]? = some o := by
  obtain ⟨R, h1, _⟩ := h.split
  obtain ⟨m, hm, _, hw⟩ := s.mem
  rw [h1] at hm
  obtain ⟨m1, m2, _, rfl, rfl, _⟩ := hm
  exact hw b o (by simp [un, sing])

/-- An owned block is turned. -/
theorem Sat.set {base w w' : World} {f : Frag} {A A' : List HP} {b : Nat} {o o' : Obj} (s : Sat base w f A) (h : At A (pts b o) A' (pts b o'))
    (hos : w'.os = w.os) (ht : w'.tape = w.tape) (ho : w'.output = w.output) (hh : w'.heap = w.heap.setIfInBounds b o') : Sat base w' f A' := by
  have hb := s.got h
  obtain ⟨R, h1, h2⟩ := h.split
  obtain ⟨m, hm, hd, hw⟩ := s.mem
  rw [h1] at hm
  obtain ⟨m1, m2, d, rfl, rfl, hr⟩ := hm
  have hlt : b < w.heap.size := by
    rcases Nat.lt_or_ge b w.heap.size with h | h
    · exact h
    · simp [Array.getElem?_eq_none h] at hb
  have hd' := Dj.un_right.1 hd
  have hfb : f b = none := by
    rcases hd'.1 b with e | e
    · exact e
    · simp [sing] at e
  have hmb : m2 b = none := by
    rcases d b with e | e
    · simp [sing] at e
    · exact e
  refine ⟨hos.trans s.os, ht.trans s.tape, ho.trans s.output, by rw [hh]; simpa using s.size, fun k x hk => ?_, un (sing b o') m2, ?_, ?_, fun k x hk => ?_⟩
  · have : b ≠ k := by rintro rfl; rw [hfb] at hk; cases hk
    rw [hh, Array.getElem?_setIfInBounds_ne this]
    exact s.imm k x hk
  · rw [h2]
    refine ⟨_, m2, fun k => ?_, rfl, rfl, hr⟩
    by_cases e : k = b
    · subst e; exact .inr hmb
    · exact .inl (by simp [sing, e])
  · refine Dj.un_right.2 ⟨fun k => ?_, hd'.2⟩
    by_cases e : k = b
    · subst e; exact .inl hfb
    · exact .inr (by simp [sing, e])
  · by_cases e : k = b
    · subst e
      simp [un, sing] at hk
      subst hk
      rw [hh]; simp [hlt]
    · have e' : b ≠ k := fun h => e h.symm
      simp [un, sing, e] at hk
      rw [hh, Array.getElem?_setIfInBounds_ne e']
      exact hw k x (by simp [un, sing, e, hk])

/-- A new block. -/
theorem Sat.alloc {base w w' : World} {f : Frag} {A : List HP} {o : Obj} (s : Sat base w f A)
    (hos : w'.os = w.os) (ht : w'.tape = w.tape) (ho : w'.output = w.output) (hh : w'.heap = w.heap.push o) : Sat base w' f (pts w.heap.size o :: A) := by
  obtain ⟨m, hm, hd, hw⟩ := s.mem
  have hlt : ∀ k x, w.heap[k]? = some x → k < w.heap.size := fun k x hk => by
    rcases Nat.lt_or_ge k w.heap.size with h | h
    · exact h
    · simp [Array.getElem?_eq_none h] at hk
  have hmn : m w.heap.size = none := by
    cases e : m w.heap.size with
    | none => rfl
    | some x => exact absurd (hlt _ _ (hw _ _ e)) (Nat.lt_irrefl _)
  have hfn : f w.heap.size = none := by
    cases e : f w.heap.size with
    | none => rfl
    | some x => exact absurd (hlt _ _ (s.imm _ _ e)) (Nat.lt_irrefl _)
  have hold : ∀ k x, w.heap[k]? = some x → w'.heap[k]? = some x := fun k x hk => by
    have := hlt k x hk
    rw [hh, Array.getElem?_push, if_neg (by omega)]
    exact hk
  refine ⟨hos.trans s.os, ht.trans s.tape, ho.trans s.output, by rw [hh]; simp; have := s.size; omega, fun k x hk => hold k x (s.imm k x hk), un (sing w.heap.size o) m, ?_, ?_, fun k x hk => ?_⟩
  · refine ⟨_, m, fun k => ?_, rfl, rfl, hm⟩
    by_cases e : k = w.heap.size
    · rw [e]; exact .inr hmn
    · exact .inl (by simp [sing, e])
  · refine Dj.un_right.2 ⟨fun k => ?_, hd⟩
    by_cases e : k = w.heap.size
    · rw [e]; exact .inl hfn
    · exact .inr (by simp [sing, e])
  · by_cases e : k = w.heap.size
    · rw [e] at hk ⊢
      simp [un, sing] at hk
      subst hk
      rw [hh]; simp
    · simp [un, sing, e] at hk
      exact hold k x (hw k x hk)

/-- A draw turns nothing. -/
theorem Sat.same {base w w' : World} {f : Frag} {A : List HP} (s : Sat base w f A)
    (hos : w'.os = w.os) (ht : w'.tape = w.tape) (ho : w'.output = w.output) (hh : w'.heap = w.heap) : Sat base w' f A :=
  ⟨hos.trans s.os, ht.trans s.tape, ho.trans s.output, by rw [hh]; exact s.size, by rw [hh]; exact s.imm, by rw [hh]; exact s.mem⟩

theorem Sat.front {base w : World} {f : Frag} {A A' : List HP} {x : HP} (s : Sat base w f A) (h : Pull A x A') : Sat base w f (x :: A') := s.conv h.eq
theorem Sat.drop {base w : World} {f : Frag} {A A' : List HP} {x : HP} (s : Sat base w f A) (h : Pull A x A') : Sat base w f A' := by
  obtain ⟨a, b, c, d, e, m, hm, hd, hw⟩ := s
  rw [h.eq] at hm
  obtain ⟨m1, m2, dj, rfl, _, h2⟩ := hm
  have hd' := Dj.un_right.1 hd
  refine ⟨a, b, c, d, e, m2, h2, hd'.2, fun k o hk => hw k o ?_⟩
  rcases dj k with e | e
  · simp [un, e, hk]
  · rw [e] at hk; cases hk

/-- f is part of g. -/
def Le (f g : Frag) : Prop := ∀ k o, f k = some o → g k = some o
theorem Le.refl (f : Frag) : Le f f := fun _ _ h => h
theorem Le.trans {f g h : Frag} (a : Le f g) (b : Le g h) : Le f h := fun k o e => b k o (a k o e)

/-- What is owned is turned no more. -/
theorem Sat.freeze {base w : World} {f : Frag} {A A' : List HP} {x : HP} (s : Sat base w f A) (h : Pull A x A') :
    ∃ g, x g ∧ Dj f g ∧ Sat base w (un f g) A' := by
  obtain ⟨a, b, c, d, e, m, hm, hd, hw⟩ := s
  rw [h.eq] at hm
  obtain ⟨m1, m2, dj, rfl, h1, h2⟩ := hm
  have hd' := Dj.un_right.1 hd
  refine ⟨m1, h1, hd'.1, a, b, c, d, fun k o hk => ?_, m2, h2, Dj.un_left.2 ⟨hd'.2, dj⟩, fun k o hk => hw k o ?_⟩
  · unfold un at hk
    cases hf : f k with
    | none => rw [hf] at hk; exact hw k o (by simp at hk; simp [un, hk])
    | some y => rw [hf] at hk; simp at hk; subst hk; exact e k y hf
  · rcases dj k with e | e
    · simp [un, e, hk]
    · rw [e] at hk; cases hk

/-- What was borrowed is given back. -/
theorem Sat.thaw {base w : World} {f g : Frag} {A : List HP} {x : HP} (s : Sat base w (un f g) A) (hx : x g) (hd : Dj f g) : Sat base w f (x :: A) := by
  obtain ⟨a, b, c, d, e, m, hm, hdm, hw⟩ := s
  have h2 := Dj.un_left.1 hdm
  refine ⟨a, b, c, d, fun k o hk => e k o (by simp [un, hk]), un g m, ⟨g, m, h2.2, rfl, hx, hm⟩, Dj.un_right.2 ⟨hd, h2.1⟩, fun k o hk => ?_⟩
  unfold un at hk
  cases hg : g k with
  | none => rw [hg] at hk; simp at hk; exact hw k o hk
  | some y =>
    rw [hg] at hk; simp at hk; subst hk
    refine e k y ?_
    rcases hd k with h | h
    · simp [un, h, hg]
    · rw [h] at hg; cases hg

/-! ### The judgement -/

/-- What is asked where a piece of code ends. (As data, so that no rule is held against another one's.) -/
inductive Post where
  | seq (y : Code) (q : Post)
  | block (id : Nat) (q : Post)
  | loop (I : Act → World → Prop) (q : Post)
  | fn (R : Exit → Act → World → Prop)

def Post.den (P : Program) : Post → Exit → Act → World → Prop
  | .seq y q => Exit.then (y.wp P (q.den P)) (q.den P)
  | .block id q => Exit.inBlock id (q.den P)
  | .loop I q => Exit.then I (q.den P)
  | .fn R => R

/-- What is to be gone through next. -/
inductive Kont where
  | code (c : Code) (q : Post)
  | ops (l rest : List Oper) (q : Post)
  | out (e : Exit) (q : Post)

def Kont.den (P : Program) : Kont → Act → World → Prop
  | .code c q => c.wp P (q.den P)
  | .ops l rest q => wpList P l.toArray (q.den P) rest
  | .out e q => q.den P e

structure H (P : Program) (base : World) (n : Nat) (L : Env) (f : Frag) (A : List HP) (K : Kont) : Prop where
  out : ∀ a w, Fr n a L → Sat base w f A → K.den P a w

section rules
variable {P : Program} {base : World} {n : Nat} {L : Env} {f : Frag} {A : List HP} {q : Post} {K : Kont}

theorem H.sub {L' : Env} (hs : SubE L L') (h : H P base n L' f A K) : H P base n L f A K := .mk fun a w hf s => h.out a w (hf.sub hs) s
theorem H.front {A' : List HP} {x : HP} (hp : Pull A x A') (h : H P base n L f (x :: A') K) : H P base n L f A K := .mk fun a w hf s => h.out a w hf (s.front hp)
theorem H.drop {A' : List HP} {x : HP} (hp : Pull A x A') (h : H P base n L f A' K) : H P base n L f A K := .mk fun a w hf s => h.out a w hf (s.drop hp)
theorem H.conv {A' : List HP} (he : stars A = stars A') (h : H P base n L f A' K) : H P base n L f A K := .mk fun a w hf s => h.out a w hf (s.conv he)
theorem foldr_star (B : List HP) (y : HP) : star (stars B) y = List.foldr star y B := by
  induction B with
  | nil => exact emp_star y
  | cons p B ih => simp only [stars, List.foldr]; rw [star_assoc, ih]
theorem stars_append (B A : List HP) : stars (B ++ A) = star (stars B) (stars A) := by
  rw [foldr_star]
  induction B with
  | nil => rfl
  | cons p B ih => simp only [List.cons_append, stars, List.foldr, ih]
/-- The first of A is another thing, that says the same. -/
theorem H.turn {x : HP} {B : List HP} {A : List HP} (hx : ∀ h, x h → stars B h) (h : H P base n L f (B ++ A) K) : H P base n L f (x :: A) K := .mk fun a w hf s =>
  h.out a w hf (s.imp fun m hm => by
    obtain ⟨m1, m2, d, rfl, h1, h2⟩ := hm
    rw [stars_append]
    exact ⟨m1, m2, d, rfl, hx m1 h1, h2⟩)
theorem H.imp {A' : List HP} (hx : ∀ h, stars A h → stars A' h) (h : H P base n L f A' K) : H P base n L f A K := .mk fun a w hf s => h.out a w hf (s.imp hx)
theorem H.ex {α : Type} {g : α → HP} {A : List HP} (h : ∀ x, H P base n L f (g x :: A) K) : H P base n L f (ex g :: A) K := .mk fun a w hf s => by
  obtain ⟨m, ⟨m1, m2, d, e, ⟨x, hx⟩, h2⟩, hd, hw⟩ := s.mem
  exact (h x).out a w hf ⟨s.os, s.tape, s.output, s.size, s.imm, m, ⟨m1, m2, d, e, hx, h2⟩, hd, hw⟩
theorem H.fact {φ : Prop} {A : List HP} (h : φ → H P base n L f A K) : H P base n L f (fact φ :: A) K := .mk fun a w hf s => by
  obtain ⟨m, ⟨m1, m2, d, e, ⟨hφ, hx⟩, h2⟩, hd, hw⟩ := s.mem
  exact (h hφ).out a w hf (s.drop (.here _ _))
theorem H.star {g r : HP} {A : List HP} (h : H P base n L f (g :: r :: A) K) : H P base n L f (star g r :: A) K :=
  H.conv (by simp only [stars]; rw [star_assoc]) h
theorem H.freeze {A' : List HP} {x : HP} (hp : Pull A x A') (h : ∀ g, x g → Dj f g → H P base n L (un f g) A' K) : H P base n L f A K := .mk fun a w hf s => by
  obtain ⟨g, hx, hd, s'⟩ := s.freeze hp
  exact (h g hx hd).out a w hf s'
theorem H.thaw {g : Frag} {x : HP} (hx : x g) (hd : Dj f g) (h : H P base n L f (x :: A) K) : H P base n L (un f g) A K := .mk fun a w hf s =>
  h.out a w hf (s.thaw hx hd)
/-- A slot's value is written otherwise. -/
theorem H.val {d : Nat} {v u : Value} (e : v = u) (h : H P base n ((d, u) :: L) f A K) : H P base n ((d, v) :: L) f A K := by rw [e]; exact h
theorem H.know {d : Nat} {v u : Value} (hv : look? L d = some v) (e : v = u) (h : H P base n ((d, u) :: L) f A K) : H P base n L f A K := .mk fun a w hf s => by
  refine h.out a w ⟨hf.size, hf.defers, fun i x hi => ?_⟩ s
  rw [look?_cons] at hi
  by_cases c : d = i
  · subst c; simp at hi; subst hi; rw [← e]; exact hf.get _ _ hv
  · simp [c] at hi; exact hf.get _ _ hi

/-! code -/
theorem H.seq {x y : Code} (h : H P base n L f A (.code x (.seq y q))) : H P base n L f A (.code (.seq x y) q) := .mk fun a w hf s => wp_seq (h.out a w hf s)
theorem H.skip (h : H P base n L f A (.out .normal q)) : H P base n L f A (.code .skip q) := .mk fun a w hf s => wp_skip (h.out a w hf s)
theorem H.label {l : Nat} (h : H P base n L f A (.out .normal q)) : H P base n L f A (.code (.label l) q) := .mk fun a w hf s => wp_label (h.out a w hf s)
theorem H.exit {id : Nat} (h : H P base n L f A (.out (.exit id) q)) : H P base n L f A (.code (.exit id) q) := .mk fun a w hf s => wp_exit (h.out a w hf s)
theorem H.ret (h : H P base n L f A (.out .ret q)) : H P base n L f A (.code .ret q) := .mk fun a w hf s => wp_ret (h.out a w hf s)
theorem H.block {id : Nat} {c : Code} (h : H P base n L f A (.code c (.block id q))) : H P base n L f A (.code (.block id c) q) := .mk fun a w hf s => wp_block (h.out a w hf s)
theorem H.region {id : Nat} {l : List Oper} (h : H P base n L f A (.ops l l q)) : H P base n L f A (.code (.region id l.toArray false) q) := .mk fun a w hf s => wp_region_lit (h.out a w hf s)
theorem H.nil {l : List Oper} (h : H P base n L f A (.out .normal q)) : H P base n L f A (.ops l [] q) := .mk h.out
theorem H.cond {c : Operand} {x y : Code} {t : Bool} (hc : ev? L c = some (.bool t)) (ht : t = true → H P base n L f A (.code x q)) (hf' : t = false → H P base n L f A (.code y q)) :
    H P base n L f A (.code (.cond c x y) q) := .mk fun a w hf s => wp_cond_split (hf.eval hc) (fun e => (ht e).out a w hf s) (fun e => (hf' e).out a w hf s)
theorem H.cond_dec {c : Operand} {x y : Code} {p : Prop} {_ : Decidable p} (hc : ev? L c = some (.bool (decide p))) (ht : p → H P base n L f A (.code x q)) (hf' : ¬ p → H P base n L f A (.code y q)) :
    H P base n L f A (.code (.cond c x y) q) := H.cond hc (fun e => ht (of_decide_eq_true e)) (fun e => hf' (of_decide_eq_false e))
theorem H.cond_true {c : Operand} {x y : Code} (hc : ev? L c = some (.bool true)) (ht : H P base n L f A (.code x q)) : H P base n L f A (.code (.cond c x y) q) := .mk fun a w hf s => wp_cond_true (hf.eval hc) (ht.out a w hf s)
theorem H.cond_false {c : Operand} {x y : Code} (hc : ev? L c = some (.bool false)) (ht : H P base n L f A (.code y q)) : H P base n L f A (.code (.cond c x y) q) := .mk fun a w hf s => wp_cond_false (hf.eval hc) (ht.out a w hf s)
theorem H.then_normal {y : Code} (h : H P base n L f A (.code y q)) : H P base n L f A (.out .normal (.seq y q)) := .mk h.out
theorem H.then_ret {y : Code} (h : H P base n L f A (.out .ret q)) : H P base n L f A (.out .ret (.seq y q)) := .mk h.out
theorem H.then_exit {y : Code} {id : Nat} (h : H P base n L f A (.out (.exit id) q)) : H P base n L f A (.out (.exit id) (.seq y q)) := .mk h.out
theorem H.loop_ret {I : Act → World → Prop} (h : H P base n L f A (.out .ret q)) : H P base n L f A (.out .ret (.loop I q)) := .mk h.out
theorem H.loop_exit {I : Act → World → Prop} {id : Nat} (h : H P base n L f A (.out (.exit id) q)) : H P base n L f A (.out (.exit id) (.loop I q)) := .mk h.out
theorem H.in_normal {id : Nat} (h : H P base n L f A (.out .normal q)) : H P base n L f A (.out .normal (.block id q)) := .mk h.out
theorem H.in_ret {id : Nat} (h : H P base n L f A (.out .ret q)) : H P base n L f A (.out .ret (.block id q)) := .mk h.out
theorem H.in_exit {id id' : Nat} (h : H P base n L f A (match Nat.beq id' id with | true => .out .normal q | false => .out (.exit id') q)) : H P base n L f A (.out (.exit id') (.block id q)) := .mk fun a w hf s => by
  have h1 := h.out a w hf s
  show Exit.inBlock id (q.den P) (.exit id') a w
  cases hb : Nat.beq id' id with
  | true =>
    have e : id' = id := Nat.eq_of_beq_eq_true hb
    rw [hb] at h1
    simp only [Exit.inBlock, e, if_true]; exact h1
  | false =>
    have e : id' ≠ id := by rintro rfl; simp [Nat.beq_refl] at hb
    rw [hb] at h1
    simp only [Exit.inBlock, if_neg e]; exact h1
theorem H.in_hit {id : Nat} (h : H P base n L f A (.out .normal q)) : H P base n L f A (.out (.exit id) (.block id q)) := H.in_exit (by rw [Nat.beq_refl]; exact h)
theorem H.in_miss {id id' : Nat} (hne : Nat.beq id' id = false) (h : H P base n L f A (.out (.exit id') q)) : H P base n L f A (.out (.exit id') (.block id q)) := H.in_exit (by rw [hne]; exact h)

/-- A loop: the states at its head are St i, Sf i, SA i, under Φ i; each round goes down in μ. -/
def Again (base : World) (n : Nat) {ι : Type} (St : ι → Env) (Sf : ι → Frag) (SA : ι → List HP) (Φ : ι → Prop) (μ : ι → Nat) (i : ι) (a : Act) (w : World) : Prop :=
  ∃ j, Φ j ∧ μ j < μ i ∧ Fr n a (St j) ∧ Sat base w (Sf j) (SA j)
theorem H.loop {c : Code} {ι : Type} (St : ι → Env) (Sf : ι → Frag) (SA : ι → List HP) (Φ : ι → Prop) (μ : ι → Nat) (i : ι) (hΦ : Φ i) (hs : SubE L (St i)) (hf : f = Sf i) (hA : A = SA i)
    (round : ∀ i, Φ i → H P base n (St i) (Sf i) (SA i) (.code c (.loop (Again base n St Sf SA Φ μ i) q))) : H P base n L f A (.code (.loop c) q) := by
  subst hf; subst hA
  refine .mk fun a w hf s b k cs => ?_
  have key : ∀ m i a w, μ i = m → Φ i → Fr n a (St i) → Sat base w (Sf i) (SA i) →
      ∃ e a' w', q.den P e a' w' ∧ Arrives P (lone (b.at a (.code c :: .inLoop c :: k)) cs w) b k cs e a' w' := by
    intro m
    induction m using Nat.strongRecOn with
    | _ m ih =>
      intro i a w hm hΦ hf s
      obtain ⟨e, a₁, w₁, hq, harr⟩ := (round i hΦ).out a w hf s b (.inLoop c :: k) cs
      cases e with
      | normal =>
        obtain ⟨j, hΦ', hlt, hf', s'⟩ := hq
        obtain ⟨e₂, a₂, w₂, hq₂, harr₂⟩ := ih (μ j) (hm ▸ hlt) j a₁ w₁ rfl hΦ' hf' s'
        exact ⟨e₂, a₂, w₂, hq₂, .of_steps (Steps.trans harr (.one step_inLoop)) harr₂⟩
      | exit id => exact ⟨_, a₁, w₁, hq, .pass (x := .inLoop c) rfl (fun _ _ => .inl (by simp)) harr⟩
      | goto l => exact ⟨_, a₁, w₁, hq, .pass (x := .inLoop c) rfl (fun _ _ => .inl (by simp)) harr⟩
      | ret => exact ⟨_, a₁, w₁, hq, .pass (x := .inLoop c) rfl (fun _ _ => .inl (by simp)) harr⟩
      | panic ch => exact ⟨_, a₁, w₁, hq, .pass (x := .inLoop c) rfl (fun _ _ => .inl (by simp)) harr⟩
      | outgrown => exact ⟨_, a₁, w₁, hq, .pass (x := .inLoop c) rfl (fun _ _ => .inl (by simp)) harr⟩
  obtain ⟨e, a', w', hq, harr⟩ := key _ i a w rfl hΦ (hf.sub hs) s
  exact ⟨e, a', w', hq, .of_steps (.one step_loop) harr⟩
theorem H.again {ι : Type} {St : ι → Env} {Sf : ι → Frag} {SA : ι → List HP} {Φ : ι → Prop} {μ : ι → Nat} {i : ι} (j : ι) (hΦ : Φ j) (hμ : μ j < μ i) (hs : SubE L (St j)) (hf : f = Sf j) (hA : A = SA j) :
    H P base n L f A (.out .normal (.loop (Again base n St Sf SA Φ μ i) q)) := .mk fun _ _ h s => ⟨j, hΦ, hμ, h.sub hs, hf ▸ hA ▸ s⟩

/-- Where ways meet: the rest is gone through once, from the states St i. -/
theorem H.cut {c : Code} {ι : Type} (St : ι → Env) (Sf : ι → Frag) (SA : ι → List HP) (Φ : ι → Prop) (y : Code)
    (rest : ∀ i, Φ i → H P base n (St i) (Sf i) (SA i) (.code y q))
    (h : H P base n L f A (.code c (.loop (fun a w => ∃ j, Φ j ∧ Fr n a (St j) ∧ Sat base w (Sf j) (SA j)) q))) : H P base n L f A (.code c (.seq y q)) := .mk fun a w hf s =>
  wp_mono (h.out a w hf s) fun e a w he => by
    cases e with
    | normal => obtain ⟨j, hj, hf, s⟩ := he; exact (rest j hj).out a w hf s
    | exit id => exact he
    | goto l => exact he
    | ret => exact he
    | panic ch => exact he
    | outgrown => exact he
theorem H.meet {ι : Type} {St : ι → Env} {Sf : ι → Frag} {SA : ι → List HP} {Φ : ι → Prop} (j : ι) (hΦ : Φ j) (hs : SubE L (St j)) (hf : f = Sf j) (hA : A = SA j) :
    H P base n L f A (.out .normal (.loop (fun a w => ∃ j, Φ j ∧ Fr n a (St j) ∧ Sat base w (Sf j) (SA j)) q)) := .mk fun _ _ h s => ⟨j, hΦ, h.sub hs, hf ▸ hA ▸ s⟩
end rules
end Go.Proofs.Ytfplfddobjbbnaa
