/- The engine, part e: maps that the call owns ('mp'). No program in sight; no conditions. -/
import Derived.Test.YtfplfddobjbbnaaEd
namespace Go.Proofs.Ytfplfddobjbbnaa
set_option linter.unusedSectionVars false
set_option linter.unusedSimpArgs false
set_option linter.unusedVariables false
open Go

/-- Keys of a kind: how they are written as values, and how the model tells them apart. -/
class KeyT (P : Program) (kt : TypeId) {κ : Type} [DecidableEq κ] (enc : κ → Value) : Prop where
  chk : ∀ (k : κ) (e : Bool) (w : World), (Instr.checkKey e 10000 kt (enc k)).run P w = .ok () w
  fnd : ∀ (k : κ) (es : List MapEntry) (ks : List κ) (w : World), es.map (·.key) = ks.map enc → (Instr.findKey kt (enc k) es).run P w = .ok ((ks.findIdx? (k = ·)).bind fun i => (es[i]?).map fun e => (i, e.val)) w
  same : ∀ k : κ, Instr.sameBits 10000 (enc k) (enc k) = true

def getKV {κ : Type} [DecidableEq κ] : List (κ × Value) → κ → Option Value
  | [], _ => none
  | (k', v) :: r, k => if k = k' then some v else getKV r k
def putKV {κ : Type} [DecidableEq κ] : List (κ × Value) → κ → Value → List (κ × Value)
  | [], k, v => [(k, v)]
  | (k', u) :: r, k, v => if k = k' then (k, v) :: r else (k', u) :: putKV r k v
def delKV {κ : Type} [DecidableEq κ] : List (κ × Value) → κ → List (κ × Value)
  | [], _ => []
  | (k', u) :: r, k => if k = k' then r else (k', u) :: delKV r k

section
variable {κ : Type} [DecidableEq κ]

theorem getKV_idx (m : List (κ × Value)) (k : κ) : getKV m k = ((m.map (·.1)).findIdx? (k = ·)).bind fun i => (m[i]?).map (·.2) := by
  induction m with
  | nil => simp [getKV]
  | cons x r ih =>
    obtain ⟨k', v⟩ := x
    simp only [getKV, List.map_cons, List.findIdx?_cons]
    by_cases e : k = k'
    · simp [e]
    · simp only [e, if_false, decide_false, Bool.false_eq_true]
      rw [ih]
      cases (r.map (·.1)).findIdx? (k = ·) <;> simp

theorem getKV_put_same (m : List (κ × Value)) (k : κ) (v : Value) : getKV (putKV m k v) k = some v := by
  induction m with
  | nil => simp [putKV, getKV]
  | cons x r ih =>
    obtain ⟨k', u⟩ := x
    simp only [putKV]
    by_cases e : k = k'
    · simp [e, getKV]
    · simp [e, getKV, ih]
theorem getKV_put_ne (m : List (κ × Value)) (k j : κ) (v : Value) (h : j ≠ k) : getKV (putKV m k v) j = getKV m j := by
  induction m with
  | nil => simp [putKV, getKV, h]
  | cons x r ih =>
    obtain ⟨k', u⟩ := x
    simp only [putKV]
    by_cases e : k = k'
    · subst e; simp [getKV, h]
    · simp only [e, if_false, getKV, ih]
theorem putKV_keys (m : List (κ × Value)) (k : κ) (v : Value) : (putKV m k v).map (·.1) = if k ∈ m.map (·.1) then m.map (·.1) else m.map (·.1) ++ [k] := by
  induction m with
  | nil => simp [putKV]
  | cons x r ih =>
    obtain ⟨k', u⟩ := x
    simp only [putKV]
    by_cases e : k = k'
    · simp [e]
    · simp only [e, if_false, List.map_cons, ih, List.mem_cons, false_or]
      split <;> simp
theorem getKV_none (m : List (κ × Value)) (k : κ) : getKV m k = none ↔ k ∉ m.map (·.1) := by
  induction m with
  | nil => simp [getKV]
  | cons x r ih =>
    obtain ⟨k', u⟩ := x
    simp only [getKV]
    by_cases e : k = k'
    · simp [e]
    · simp [e, ih]

def entOf (enc : κ → Value) (e : κ × Value × Nat) : MapEntry := ⟨enc e.1, e.2.1, e.2.2⟩
def kvOf (e : κ × Value × Nat) : κ × Value := (e.1, e.2.1)

/-- Block b is a map; m: its entries. -/
def mp (b : Nat) (enc : κ → Value) (m : List (κ × Value)) : HP := fun h =>
  ∃ (es : List (κ × Value × Nat)) (clock : Nat), es.map kvOf = m ∧ (es.map (·.1)).Nodup ∧ (es.map (·.2.2)).Nodup ∧ (∀ e ∈ es, e.2.2 < clock) ∧ h = sing b (.map (es.map (entOf enc)).toArray clock)
/-- The same, the entry of the key k having the stamp s. -/
def mpAt (b : Nat) (enc : κ → Value) (m : List (κ × Value)) (k : κ) (s : Nat) : HP := fun h =>
  ∃ (es : List (κ × Value × Nat)) (clock : Nat), es.map kvOf = m ∧ (es.map (·.1)).Nodup ∧ (es.map (·.2.2)).Nodup ∧ (∀ e ∈ es, e.2.2 < clock) ∧ (∃ v, (k, v, s) ∈ es) ∧ h = sing b (.map (es.map (entOf enc)).toArray clock)

def putE (k : κ) (v : Value) (clock : Nat) : List (κ × Value × Nat) → List (κ × Value × Nat)
  | [] => [(k, v, clock)]
  | e :: r => if k = e.1 then (k, v, e.2.2) :: r else e :: putE k v clock r

theorem putE_kv (k : κ) (v : Value) (clock : Nat) (es : List (κ × Value × Nat)) : (putE k v clock es).map kvOf = putKV (es.map kvOf) k v := by
  induction es with
  | nil => rfl
  | cons e r ih =>
    obtain ⟨k', u, s⟩ := e
    simp only [putE, List.map_cons, kvOf, putKV]
    by_cases c : k = k'
    · simp [c, kvOf]
    · simp only [c, if_false, List.map_cons, kvOf]
      rw [← ih]
theorem putE_keys (k : κ) (v : Value) (clock : Nat) (es : List (κ × Value × Nat)) : (putE k v clock es).map (·.1) = if k ∈ es.map (·.1) then es.map (·.1) else es.map (·.1) ++ [k] := by
  induction es with
  | nil => simp [putE]
  | cons e r ih =>
    obtain ⟨k', u, s⟩ := e
    simp only [putE]
    by_cases c : k = k'
    · simp [c]
    · simp only [c, if_false, List.map_cons, ih, List.mem_cons, false_or]
      split <;> simp
theorem putE_borns (k : κ) (v : Value) (clock : Nat) (es : List (κ × Value × Nat)) : (putE k v clock es).map (·.2.2) = if k ∈ es.map (·.1) then es.map (·.2.2) else es.map (·.2.2) ++ [clock] := by
  induction es with
  | nil => simp [putE]
  | cons e r ih =>
    obtain ⟨k', u, s⟩ := e
    simp only [putE]
    by_cases c : k = k'
    · simp [c]
    · simp only [c, if_false, List.map_cons, ih, List.mem_cons, false_or]
      split <;> simp
theorem nodup_snoc {α : Type} {l : List α} {x : α} (h : l.Nodup) (hx : x ∉ l) : (l ++ [x]).Nodup := by
  rw [List.nodup_append]
  exact ⟨h, by simp, fun a ha b hb => by simp at hb; subst hb; rintro rfl; exact hx ha⟩
theorem mem_keys_iff (es : List (κ × Value × Nat)) (k : κ) : (es.map (·.1)).findIdx? (k = ·) = none ↔ k ∉ es.map (·.1) := by
  rw [List.findIdx?_eq_none_iff]
  constructor
  · intro h hk; have := h k hk; simp at this
  · intro h x hx; simp; rintro rfl; exact h hx

/-- An update: where the key is, its entry is turned; else one comes behind the others. -/
theorem putE_found (enc : κ → Value) {k : κ} {v : Value} {clock i : Nat} : ∀ {es : List (κ × Value × Nat)}, (es.map (·.1)).findIdx? (k = ·) = some i →
    (∃ u s, es[i]? = some (k, u, s)) ∧ (putE k v clock es).map (entOf enc) = (es.map (entOf enc)).modify i fun e => { e with key := enc k, val := v }
  | [], h => by simp at h
  | (k', u, s) :: r, h => by
    simp only [List.map_cons, List.findIdx?_cons] at h
    by_cases c : k = k'
    · subst c
      simp at h; subst h
      simp [putE, entOf]
    · simp only [c, decide_false, Bool.false_eq_true, if_false, Option.map_eq_some_iff] at h
      obtain ⟨j, hj, rfl⟩ := h
      obtain ⟨h1, h2⟩ := putE_found enc (v := v) (clock := clock) hj
      refine ⟨by simpa using h1, ?_⟩
      simp only [putE, c, if_false, List.map_cons, h2, List.modify_succ_cons]
theorem putE_absent (enc : κ → Value) {k : κ} {v : Value} {clock : Nat} : ∀ {es : List (κ × Value × Nat)}, k ∉ es.map (·.1) →
    putE k v clock es = es ++ [(k, v, clock)]
  | [], _ => rfl
  | (k', u, s) :: r, h => by
    have c : ¬ k = k' := fun e => h (by simp [e])
    have := putE_absent enc (v := v) (clock := clock) (es := r) (fun e => h (by simp at e ⊢; exact .inr e))
    simp [putE, c, this]

theorem mp_putE {enc : κ → Value} {b clock : Nat} {k : κ} {v : Value} {es : List (κ × Value × Nat)} (h1 : (es.map (·.1)).Nodup) (h2 : (es.map (·.2.2)).Nodup) (h3 : ∀ e ∈ es, e.2.2 < clock) :
    ((putE k v clock es).map (·.1)).Nodup ∧ ((putE k v clock es).map (·.2.2)).Nodup ∧ ∀ e ∈ putE k v clock es, e.2.2 < clock + 1 := by
  have _ := b; have _ := enc
  rw [putE_keys, putE_borns]
  by_cases c : k ∈ es.map (·.1)
  · rw [if_pos c, if_pos c]
    refine ⟨h1, h2, fun e he => ?_⟩
    have := List.mem_map_of_mem (f := fun e : κ × Value × Nat => e.2.2) he
    rw [putE_borns, if_pos c] at this
    obtain ⟨e', he', e2⟩ := List.mem_map.1 this
    have := h3 e' he'
    have e2 : e'.2.2 = e.2.2 := e2
    omega
  · rw [if_neg c, if_neg c]
    refine ⟨nodup_snoc h1 c, nodup_snoc h2 fun hx => ?_, fun e he => ?_⟩
    · obtain ⟨e', he', e2⟩ := List.mem_map.1 hx
      have := h3 e' he'
      omega
    · rw [putE_absent enc c] at he
      simp at he
      rcases he with he | rfl
      · have := h3 e he; omega
      · simp
end

section rules
variable {P : Program} {base : World} {n : Nat} {L : Env} {f : Frag} {A : List HP} {q : Post}
variable {l rest : List Oper} {d : Nat} {ty : TypeId} {pos : String} {af : Array Edge} {gd : Option (Nat × Bool)}
variable {κ : Type} [DecidableEq κ] {enc : κ → Value}

theorem Sat.mp_at {w : World} {A' : List HP} {b : Nat} {m : List (κ × Value)} {y : HP} (s : Sat base w f A) (h : At A (mp b enc m) A' y) :
    ∃ (es : List (κ × Value × Nat)) (clock : Nat), es.map kvOf = m ∧ (es.map (·.1)).Nodup ∧ (es.map (·.2.2)).Nodup ∧ (∀ e ∈ es, e.2.2 < clock) ∧ w.heap[b]? = some (.map (es.map (entOf enc)).toArray clock) := by
  obtain ⟨R, h1, _⟩ := h.split
  obtain ⟨x, hm, _, hw⟩ := s.mem
  rw [h1] at hm
  obtain ⟨m1, m2, _, rfl, ⟨es, clock, a1, a2, a3, a4, rfl⟩, _⟩ := hm
  exact ⟨es, clock, a1, a2, a3, a4, hw b _ (by simp [un, sing])⟩
theorem Sat.mpAt_at {w : World} {A' : List HP} {b : Nat} {m : List (κ × Value)} {k : κ} {st : Nat} {y : HP} (s : Sat base w f A) (h : At A (mpAt b enc m k st) A' y) :
    ∃ (es : List (κ × Value × Nat)) (clock : Nat), es.map kvOf = m ∧ (es.map (·.1)).Nodup ∧ (es.map (·.2.2)).Nodup ∧ (∀ e ∈ es, e.2.2 < clock) ∧ (∃ v, (k, v, st) ∈ es) ∧ w.heap[b]? = some (.map (es.map (entOf enc)).toArray clock) := by
  obtain ⟨R, h1, _⟩ := h.split
  obtain ⟨x, hm, _, hw⟩ := s.mem
  rw [h1] at hm
  obtain ⟨m1, m2, _, rfl, ⟨es, clock, a1, a2, a3, a4, a5, rfl⟩, _⟩ := hm
  exact ⟨es, clock, a1, a2, a3, a4, a5, hw b _ (by simp [un, sing])⟩

theorem run_getMap {w : World} {b : Nat} {es : Array MapEntry} {clock : Nat} (h : w.heap[b]? = some (.map es clock)) : (getObj b).run P w = .ok (.map es clock) w := by
  simp [getObj, Sem.run, h]
theorem run_setMap {w : World} {b : Nat} {es : Array MapEntry} {clock : Nat} {o : Obj} (h : w.heap[b]? = some (.map es clock)) : (setObj b o).run P w = .ok () { w with heap := w.heap.setIfInBounds b o } := by
  simp [setObj, Sem.run, h]

theorem keys_entOf (es : List (κ × Value × Nat)) : (es.map (entOf enc)).map (·.key) = (es.map (·.1)).map enc := by
  simp [entOf, Function.comp_def]

theorem found_get (m : List (κ × Value)) (es : List (κ × Value × Nat)) (hm : es.map kvOf = m) (k : κ) :
    getKV m k = ((es.map (·.1)).findIdx? (k = ·)).bind fun i => ((es.map (entOf enc))[i]?).map (·.val) := by
  rw [getKV_idx, ← hm]
  have e1 : (es.map kvOf).map (·.1) = es.map (·.1) := by simp [kvOf, Function.comp_def]
  rw [e1]
  congr 1
  funext i
  simp [kvOf, entOf, Function.comp_def]

/-- A look-up. -/
theorem run_lookup_mp {w : World} {A' : List HP} {kt et t : TypeId} {b : Nat} {m : List (κ × Value)} {k : κ} {z : Value} {c : Bool} (hu : Und P t (.map kt et)) (hk : KeyT P kt enc) (hz : Zer P et z)
    (s : Sat base w f A) (hA : At A (mp b enc m) A' (mp b enc m)) :
    (Instr.lookup t (.map (some b)) (enc k) c).run P w = .ok (if c then .tuple #[(getKV m k).getD z, .bool (getKV m k).isSome] else (getKV m k).getD z) w := by
  obtain ⟨es, clock, hm, _, _, _, hb⟩ := s.mp_at hA
  have hf := hk.fnd k (es.map (entOf enc)) (es.map (·.1)) w (keys_entOf es)
  have hg := found_get (enc := enc) m es hm k
  unfold Instr.lookup
  simp only [Sem.run_bind, hu.run, Result.andThen_ok, run_getMap hb, Sem.run_pure, hk.chk, List.toList_toArray, hf]
  rw [hg]
  cases (es.map (·.1)).findIdx? (k = ·) with
  | none => simp [hz.run]
  | some i =>
    cases hi : (es.map (entOf enc))[i]? with
    | none =>
      simp only [Option.bind_some, hi, Option.map_none, Sem.run_bind, hz.run, Result.andThen_ok, Sem.run_pure, Option.getD_none, Option.isSome_none]
    | some e => simp only [Option.bind_some, hi, Option.map_some, Sem.run_pure, Result.andThen_ok, Option.getD_some, Option.isSome_some]; rfl

theorem H.lookup {t kt et : TypeId} {x y : Operand} {b : Nat} {m : List (κ × Value)} {k : κ} {z v kv : Value} {A' : List HP} [hu : Und P t (.map kt et)] [hk : KeyT P kt enc] [hz : Zer P et z] (hw : want? l L gd = true)
    (hx : ev? L x = some (.map (some b))) (hy : ev? L y = some kv) (hA : At A (mp b enc m) A' (mp b enc m)) (hkv : kv = enc k) (hv : (getKV m k).getD z = v) (hd : Nat.ble (d + 1) n = true)
    (kk : H P base n ((d, v) :: L) f A (.ops l rest q)) : H P base n L f A (.ops l (⟨some d, .lookup t x y false, ty, pos, af, gd⟩ :: rest) q) :=
  H.opV hw hd (fun a w hfr s => by
    subst hv; subst hkv
    have h := run_lookup_mp (c := false) (k := k) hu hk hz s hA
    simp only [execOp, hfr.eval hx, hfr.eval hy, Sem.run_bind, h, Result.andThen_ok, Sem.run_pure]
    rfl) kk
theorem H.lookup2 {t kt et : TypeId} {x y : Operand} {b : Nat} {m : List (κ × Value)} {k : κ} {z v kv : Value} {i : Bool} {A' : List HP} [hu : Und P t (.map kt et)] [hk : KeyT P kt enc] [hz : Zer P et z] (hw : want? l L gd = true)
    (hx : ev? L x = some (.map (some b))) (hy : ev? L y = some kv) (hA : At A (mp b enc m) A' (mp b enc m)) (hkv : kv = enc k) (hv : (getKV m k).getD z = v) (hi : (getKV m k).isSome = i) (hd : Nat.ble (d + 1) n = true)
    (kk : H P base n ((d, .tuple #[v, .bool i]) :: L) f A (.ops l rest q)) : H P base n L f A (.ops l (⟨some d, .lookup t x y true, ty, pos, af, gd⟩ :: rest) q) :=
  H.opV hw hd (fun a w hfr s => by
    subst hv; subst hkv; subst hi
    have h := run_lookup_mp (c := true) (k := k) hu hk hz s hA
    simp only [execOp, hfr.eval hx, hfr.eval hy, Sem.run_bind, h, Result.andThen_ok, Sem.run_pure]
    rfl) kk

theorem H.makeMap {t : TypeId} (enc : κ → Value) (hw : want? l L gd = true) (hd : Nat.ble (d + 1) n = true)
    (k : ∀ b, H P base n ((d, .map (some b)) :: L) f (mp b enc [] :: A) (.ops l rest q)) : H P base n L f A (.ops l (⟨some d, .makeMap t none, ty, pos, af, gd⟩ :: rest) q) :=
  H.opE (fun b => .map (some b)) (fun _ => f) (fun b => mp b enc [] :: A) (fun _ => True) hw hd (fun a w hfr s => by
    have s' : Sat base (w.alloc (.map #[] 0)) f (pts w.heap.size (.map #[] 0) :: A) := s.alloc rfl rfl rfl rfl
    refine ⟨w.heap.size, w.alloc (.map #[] 0), trivial, ?_, s'.imp ?_⟩
    · simp [execOp, Instr.makeMap]
    · rintro m ⟨m1, m2, dj, e, a, r⟩
      exact ⟨m1, m2, dj, e, ⟨[], 0, rfl, by simp, by simp, by simp, a⟩, r⟩) (fun b _ => k b)

/-- An update. -/
theorem run_update_mp {w : World} {A' : List HP} {kt et t : TypeId} {b : Nat} {m : List (κ × Value)} {k : κ} {v : Value} (hu : Und P t (.map kt et)) (hk : KeyT P kt enc)
    (s : Sat base w f A) (hA : At A (mp b enc m) A' (mp b enc (putKV m k v))) :
    ∃ w', (Instr.mapUpdate t (.map (some b)) (enc k) v).run P w = .ok () w' ∧ Sat base w' f A' := by
  obtain ⟨es, clock, hm, h1, h2, h3, hb⟩ := s.mp_at hA
  have hf := hk.fnd k (es.map (entOf enc)) (es.map (·.1)) w (keys_entOf es)
  obtain ⟨g1, g2, g3⟩ := mp_putE (enc := enc) (b := b) (k := k) (v := v) h1 h2 h3
  have hx : ∀ x, mp b enc m x → ∃ o, x = sing b o := by rintro x ⟨_, _, _, _, _, _, rfl⟩; exact ⟨_, rfl⟩
  cases hi : (es.map (·.1)).findIdx? (k = ·) with
  | none =>
    have hno := (mem_keys_iff es k).1 hi
    refine ⟨{ w with heap := w.heap.setIfInBounds b (.map ((es.map (entOf enc)).toArray.push ⟨enc k, v, clock⟩) (clock + 1)) }, ?_, s.turnRow hA hx rfl rfl rfl rfl ?_⟩
    · unfold Instr.mapUpdate
      simp only [Sem.run_bind, hu.run, Result.andThen_ok, run_getMap hb, hk.chk, List.toList_toArray, hf, hi, Option.bind_none, run_setMap hb]
    · refine ⟨putE k v clock es, clock + 1, by rw [putE_kv, hm], g1, g2, g3, ?_⟩
      rw [putE_absent enc hno]
      congr 2
      simp [entOf]
  | some i =>
    obtain ⟨⟨u, st, hes⟩, hmod⟩ := putE_found enc (v := v) (clock := clock) hi
    have hei : (es.map (entOf enc))[i]? = some (entOf enc (k, u, st)) := by simp [hes]
    have g3' : ∀ e ∈ putE k v clock es, e.2.2 < clock := fun e he => by
      have hin : k ∈ es.map (·.1) := by
        have := List.mem_of_getElem? hes
        exact List.mem_map.2 ⟨_, this, rfl⟩
      have := List.mem_map_of_mem (f := fun e : κ × Value × Nat => e.2.2) he
      rw [putE_borns, if_pos hin] at this
      obtain ⟨e', he', e2⟩ := List.mem_map.1 this
      have := h3 e' he'
      have e2 : e'.2.2 = e.2.2 := e2
      omega
    refine ⟨{ w with heap := w.heap.setIfInBounds b (.map ((es.map (entOf enc)).toArray.modify i fun e => { e with key := enc k, val := v }) clock) }, ?_, s.turnRow hA hx rfl rfl rfl rfl ?_⟩
    · unfold Instr.mapUpdate
      simp only [Sem.run_bind, hu.run, Result.andThen_ok, run_getMap hb, hk.chk, List.toList_toArray, hf, hi, Option.bind_some, hei, Option.map_some]
      have hks : (Instr.keyThatStays (((es.map (entOf enc)).toArray[i]?).map (·.key) |>.getD (enc k)) (enc k)).run P w = .ok (enc k) w := by
        unfold Instr.keyThatStays
        rw [List.getElem?_toArray, hei]
        simp only [Option.map_some, Option.getD_some, entOf, hk.same, if_true, Sem.run_pure]
      simp only [hks, Result.andThen_ok, run_setMap hb]
    · refine ⟨putE k v clock es, clock, by rw [putE_kv, hm], g1, g2, g3', ?_⟩
      rw [hmod]
      congr 2
      simp

theorem H.mapUpdate {t kt et : TypeId} {x y zz : Operand} {b : Nat} {m : List (κ × Value)} {k : κ} {v kv : Value} {A' : List HP} [hu : Und P t (.map kt et)] [hk : KeyT P kt enc] (hw : want? l L gd = true)
    (hx : ev? L x = some (.map (some b))) (hy : ev? L y = some kv) (hz : ev? L zz = some v) (hA : At A (mp b enc m) A' (mp b enc (putKV m k v))) (hkv : kv = enc k)
    (kk : H P base n L f A' (.ops l rest q)) : H P base n L f A (.ops l (⟨none, .mapUpdate t x y zz, ty, pos, af, gd⟩ :: rest) q) :=
  H.opS hw (fun a w hfr s => by
    subst hkv
    obtain ⟨w', h1, h2⟩ := run_update_mp hu hk s hA
    exact ⟨w', by simp only [execOp, hfr.eval hx, hfr.eval hy, hfr.eval hz, Sem.run_bind, h1, Result.andThen_ok, Sem.run_pure], h2⟩) kk
theorem H.mapInsert {t kt et : TypeId} {x y zz : Operand} {b : Nat} {m : List (κ × Value)} {k : κ} {v kv : Value} {A' : List HP} [hu : Und P t (.map kt et)] [hk : KeyT P kt enc] (hw : want? l L gd = true)
    (hx : ev? L x = some (.map (some b))) (hy : ev? L y = some kv) (hz : ev? L zz = some v) (hA : At A (mp b enc m) A' (mp b enc (putKV m k v))) (hkv : kv = enc k)
    (kk : H P base n L f A' (.ops l rest q)) : H P base n L f A (.ops l (⟨none, .insert t x y zz, ty, pos, af, gd⟩ :: rest) q) :=
  H.opS hw (fun a w hfr s => by
    subst hkv
    obtain ⟨w', h1, h2⟩ := run_update_mp hu hk s hA
    exact ⟨w', by simp only [execOp, hfr.eval hx, hfr.eval hy, hfr.eval hz, Sem.run_bind, h1, Result.andThen_ok, Sem.run_pure], h2⟩) kk
theorem H.len_map {t kt et : TypeId} {x : Operand} {b : Nat} {m : List (κ × Value)} {A' : List HP} [hu : Und P t (.map kt et)] (hw : want? l L gd = true)
    (hx : ev? L x = some (.map (some b))) (hA : At A (mp b enc m) A' (mp b enc m)) (hd : Nat.ble (d + 1) n = true)
    (kk : H P base n ((d, .int .i64 (m.length : Nat)) :: L) f A (.ops l rest q)) : H P base n L f A (.ops l (⟨some d, .call ⟨.builtin .len, #[x], #[t]⟩, ty, pos, af, gd⟩ :: rest) q) :=
  H.opV hw hd (fun a w hfr s => by
    obtain ⟨es, clock, hm, _, _, _, hb⟩ := s.mp_at hA
    subst hm
    simp [execOp, resolve, invoke, builtin, Builtin.len_, hfr.eval hx, hu.run, goInt, run_getMap hb]) kk

/-- 'm[k] = v' beside other assignments: the entry is found, or laid, first; then it is written. -/
theorem run_entry_mp {w : World} {A' : Nat → List HP} {kt et t : TypeId} {b : Nat} {m : List (κ × Value)} {k : κ} {z : Value} (hu : Und P t (.map kt et)) (hk : KeyT P kt enc) (hz : Zer P et z)
    (s : Sat base w f A) (hA : ∀ st, At A (mp b enc m) (A' st) (mpAt b enc (putKV m k ((getKV m k).getD z)) k st)) :
    ∃ st w', (Instr.mapEntry t (.map (some b)) (enc k)).run P w = .ok (.tuple #[(getKV m k).getD z, .int .i64 (st : Nat)]) w' ∧ Sat base w' f (A' st) := by
  obtain ⟨es, clock, hm, h1, h2, h3, hb⟩ := s.mp_at (hA 0)
  have hf := hk.fnd k (es.map (entOf enc)) (es.map (·.1)) w (keys_entOf es)
  have hg := found_get (enc := enc) m es hm k
  obtain ⟨g1, g2, g3⟩ := mp_putE (enc := enc) (b := b) (k := k) (v := (getKV m k).getD z) h1 h2 h3
  have hx : ∀ x, mp b enc m x → ∃ o, x = sing b o := by rintro x ⟨_, _, _, _, _, _, rfl⟩; exact ⟨_, rfl⟩
  cases hi : (es.map (·.1)).findIdx? (k = ·) with
  | none =>
    have hno := (mem_keys_iff es k).1 hi
    rw [hi] at hg
    simp only [Option.bind_none] at hg
    rw [hg] at g1 g2 g3 ⊢
    rw [hg] at hA
    refine ⟨clock, { w with heap := w.heap.setIfInBounds b (.map ((es.map (entOf enc)).toArray.push ⟨enc k, z, clock⟩) (clock + 1)) }, ?_, s.turnRow (hA clock) hx rfl rfl rfl rfl ?_⟩
    · unfold Instr.mapEntry
      simp only [Sem.run_bind, hu.run, Result.andThen_ok, run_getMap hb, hk.chk, List.toList_toArray, hf, hi, Option.bind_none, hz.run, run_setMap hb, Sem.run_pure, goInt, Option.getD_none]
    · refine ⟨putE k z clock es, clock + 1, by rw [putE_kv, hm]; rfl, g1, g2, g3, ⟨z, ?_⟩, ?_⟩
      · rw [putE_absent enc hno]; simp
      · rw [putE_absent enc hno]
        congr 2
        simp [entOf]
  | some i =>
    obtain ⟨⟨u, st, hes⟩, _⟩ := putE_found enc (v := z) (clock := clock) hi
    have hei : (es.map (entOf enc))[i]? = some (entOf enc (k, u, st)) := by simp [hes]
    have hgu : (getKV m k).getD z = u := by rw [hg, hi]; simp [hes, entOf]
    obtain ⟨_, hmod⟩ := putE_found enc (v := u) (clock := clock) hi
    rw [hgu] at g1 g2 g3 ⊢
    rw [hgu] at hA
    have hin : k ∈ es.map (·.1) := List.mem_map.2 ⟨_, List.mem_of_getElem? hes, rfl⟩
    have g3' : ∀ e ∈ putE k u clock es, e.2.2 < clock := fun e he => by
      have := List.mem_map_of_mem (f := fun e : κ × Value × Nat => e.2.2) he
      rw [putE_borns, if_pos hin] at this
      obtain ⟨e', he', e2⟩ := List.mem_map.1 this
      have := h3 e' he'
      have e2 : e'.2.2 = e.2.2 := e2
      omega
    have hmem : ∀ (es : List (κ × Value × Nat)) (i : Nat), es[i]? = some (k, u, st) → (es.map (·.1)).findIdx? (k = ·) = some i → (k, u, st) ∈ putE k u clock es := by
      intro es
      induction es with
      | nil => intro i h; simp at h
      | cons e r ih =>
        intro i h hi
        obtain ⟨k', u', s'⟩ := e
        simp only [List.map_cons, List.findIdx?_cons] at hi
        by_cases c : k = k'
        · subst c
          simp at hi; subst hi
          simp at h
          simp [putE, h.2]
        · simp only [c, decide_false, Bool.false_eq_true, if_false, Option.map_eq_some_iff] at hi
          obtain ⟨j, hj, rfl⟩ := hi
          have := ih j (by simpa using h) hj
          simp [putE, c, this]
    refine ⟨st, { w with heap := w.heap.setIfInBounds b (.map ((es.map (entOf enc)).toArray.modify i fun e => { e with key := enc k }) clock) }, ?_, s.turnRow (hA st) hx rfl rfl rfl rfl ?_⟩
    · unfold Instr.mapEntry
      simp only [Sem.run_bind, hu.run, Result.andThen_ok, run_getMap hb, hk.chk, List.toList_toArray, hf, hi, Option.bind_some, hei, Option.map_some]
      have hks : (Instr.keyThatStays (((es.map (entOf enc)).toArray[i]?).map (·.key) |>.getD (enc k)) (enc k)).run P w = .ok (enc k) w := by
        unfold Instr.keyThatStays
        rw [List.getElem?_toArray, hei]
        simp only [Option.map_some, Option.getD_some, entOf, hk.same, if_true, Sem.run_pure]
      have hks2 : (Instr.keyThatStays (enc k) (enc k)).run P w = .ok (enc k) w := by
        unfold Instr.keyThatStays
        simp only [hk.same, if_true, Sem.run_pure]
      have _ := hks
      simp only [Result.andThen_ok, Sem.run_pure, goInt, List.getElem?_toArray, hei, Option.map_some, Option.getD_some, entOf, hks2]
      rw [run_setMap hb]
      rfl
    · refine ⟨putE k u clock es, clock, by rw [putE_kv, hm], g1, g2, g3', ⟨u, hmem es i hes hi⟩, ?_⟩
      rw [hmod]
      congr 2
      rw [List.modify_toArray]
      congr 1
      apply List.ext_getElem?
      intro j
      simp only [List.getElem?_modify]
      by_cases c : i = j
      · subst c; simp [hei, entOf]
      · simp [c]

theorem H.mapEntry {t kt et : TypeId} {x y : Operand} {b : Nat} {m : List (κ × Value)} {k : κ} {z kv : Value} {A' : Nat → List HP} [hu : Und P t (.map kt et)] [hk : KeyT P kt enc] [hz : Zer P et z] (hw : want? l L gd = true)
    (hx : ev? L x = some (.map (some b))) (hy : ev? L y = some kv) (hA : ∀ st, At A (mp b enc m) (A' st) (mpAt b enc (putKV m k ((getKV m k).getD z)) k st)) (hkv : kv = enc k) (hd : Nat.ble (d + 1) n = true)
    (kk : ∀ st : Nat, H P base n ((d, .tuple #[(getKV m k).getD z, .int .i64 st]) :: L) f (A' st) (.ops l rest q)) : H P base n L f A (.ops l (⟨some d, .mapEntry t x y, ty, pos, af, gd⟩ :: rest) q) :=
  H.opE (fun st => .tuple #[(getKV m k).getD z, .int .i64 (st : Nat)]) (fun _ => f) A' (fun _ => True) hw hd (fun a w hfr s => by
    subst hkv
    obtain ⟨st, w', h1, h2⟩ := run_entry_mp hu hk hz s hA
    exact ⟨st, w', trivial, by simp only [execOp, hfr.eval hx, hfr.eval hy, Sem.run_bind, h1, Result.andThen_ok, Sem.run_pure], h2⟩) (fun st _ => kk st)

theorem findIdx_born (enc : κ → Value) (st : Nat) (k : κ) : ∀ (es : List (κ × Value × Nat)), (es.map (·.1)).Nodup → (es.map (·.2.2)).Nodup → (∃ v, (k, v, st) ∈ es) →
    (es.map (entOf enc)).findIdx? (fun e => (e.born : Int) == (st : Int)) = (es.map (·.1)).findIdx? (k = ·)
  | [], _, _, h => by obtain ⟨v, h⟩ := h; simp at h
  | (k', u, s') :: r, h1, h2, h => by
    obtain ⟨v, h⟩ := h
    simp only [List.map_cons, List.nodup_cons] at h1 h2
    simp only [List.map_cons, List.findIdx?_cons, entOf]
    by_cases c : k = k'
    · subst c
      have : s' = st := by
        simp only [List.mem_cons, Prod.mk.injEq, true_and] at h
        rcases h with h | h
        · exact h.2.symm
        · exact absurd (List.mem_map.2 ⟨_, h, rfl⟩) h1.1
      subst this
      simp
    · have h' : (k, v, st) ∈ r := by
        simp only [List.mem_cons, Prod.mk.injEq] at h
        rcases h with h | h
        · exact absurd h.1 c
        · exact h
      have c2 : ¬ s' = st := by
        rintro rfl
        exact h2.1 (List.mem_map.2 ⟨_, h', rfl⟩)
      have c3 : ((s' : Int) == (st : Int)) = false := by
        rw [beq_eq_false_iff_ne]; omega
      rw [findIdx_born enc st k r h1.2 h2.2 ⟨v, h'⟩]
      simp [c, c3]

theorem H.entryStore {t : TypeId} {x y zz : Operand} {b st : Nat} {m : List (κ × Value)} {k : κ} {v : Value} {A' : List HP} (hw : want? l L gd = true)
    (hx : ev? L x = some (.map (some b))) (hy : ev? L y = some (.int .i64 (st : Nat))) (hz : ev? L zz = some v) (hA : At A (mpAt b enc m k st) A' (mp b enc (putKV m k v)))
    (kk : H P base n L f A' (.ops l rest q)) : H P base n L f A (.ops l (⟨none, .entryStore t x y zz, ty, pos, af, gd⟩ :: rest) q) :=
  H.opS hw (fun a w hfr s => by
    obtain ⟨es, clock, hm, h1, h2, h3, h4, hb⟩ := s.mpAt_at hA
    have hfi := findIdx_born enc st k es h1 h2 h4
    have hxx : ∀ x, mpAt b enc m k st x → ∃ o, x = sing b o := by rintro x ⟨_, _, _, _, _, _, _, rfl⟩; exact ⟨_, rfl⟩
    cases hi : (es.map (·.1)).findIdx? (k = ·) with
    | none =>
      obtain ⟨u, hu⟩ := h4
      exact absurd (List.mem_map.2 ⟨_, hu, rfl⟩) ((mem_keys_iff es k).1 hi)
    | some i =>
      obtain ⟨⟨u, st', hes⟩, hmod⟩ := putE_found enc (v := v) (clock := clock) hi
      have hei : (es.map (entOf enc))[i]? = some (entOf enc (k, u, st')) := by simp [hes]
      have hin : k ∈ es.map (·.1) := List.mem_map.2 ⟨_, List.mem_of_getElem? hes, rfl⟩
      obtain ⟨g1, g2, _⟩ := mp_putE (enc := enc) (b := b) (k := k) (v := v) h1 h2 h3
      have g3' : ∀ e ∈ putE k v clock es, e.2.2 < clock := fun e he => by
        have := List.mem_map_of_mem (f := fun e : κ × Value × Nat => e.2.2) he
        rw [putE_borns, if_pos hin] at this
        obtain ⟨e', he', e2⟩ := List.mem_map.1 this
        have := h3 e' he'
        have e2 : e'.2.2 = e.2.2 := e2
        omega
      refine ⟨{ w with heap := w.heap.setIfInBounds b (.map ((es.map (entOf enc)).toArray.modify i fun e => { e with val := v }) clock) }, ?_, s.turnRow hA hxx rfl rfl rfl rfl ?_⟩
      · rw [hi] at hfi
        have hfi' : Array.findIdx? (fun e : MapEntry => (e.born : Int) == (st : Int)) (es.map (entOf enc)).toArray = some i := by simpa using hfi
        simp only [execOp, hfr.eval hx, hfr.eval hy, hfr.eval hz, Instr.entryStore, Sem.run_bind, run_getMap hb, asInt, asIntOf, Result.andThen_ok, Sem.run_pure, hfi', run_setMap hb]
      · refine ⟨putE k v clock es, clock, by rw [putE_kv, hm], g1, g2, g3', ?_⟩
        rw [hmod]
        congr 2
        rw [List.modify_toArray]
        congr 1
        apply List.ext_getElem?
        intro j
        simp only [List.getElem?_modify]
        by_cases c : i = j
        · subst c; simp [hei, entOf]
        · simp [c]) kk

/-- Integer keys. -/
theorem keyT_int {kt : TypeId} {ik : IntKind} (hu : Und P kt (.int ik)) : KeyT P kt (fun k : Int => Value.int ik k) where
  chk := fun k e w => by
    have h : ∀ m, (Instr.checkKey e (m + 1) kt (.int ik k)).run P w = .ok () w := fun m => by
      simp [Instr.checkKey, hu.run]
    exact h 9999
  same := fun k => by
    have : ∀ m, Instr.sameBits m (.int ik k) (.int ik k) = true := fun m => by cases m <;> simp [Instr.sameBits]
    exact this 10000
  fnd := fun k es ks w h => by
    have key : ∀ (es : List MapEntry) (ks : List Int) (j : Nat), es.map (·.key) = ks.map (fun k : Int => Value.int ik k) →
        Instr.findNow (.int ik) (.int ik k) es j = some ((ks.findIdx? (k = ·)).bind fun i => (es[i]?).map fun e => (j + i, e.val)) := by
      intro es
      induction es with
      | nil => intro ks j h; cases ks <;> simp at h; simp [Instr.findNow]
      | cons e r ih =>
        intro ks j h
        cases ks with
        | nil => simp at h
        | cons k' ks =>
          simp only [List.map_cons, List.cons.injEq] at h
          simp only [Instr.findNow, h.1, Instr.sameNow, if_true, List.findIdx?_cons]
          by_cases c : k = k'
          · simp [c]
          · have : (k == k') = false := by simpa using c
            simp only [this, ih ks (j + 1) h.2, c, decide_false, Bool.false_eq_true, if_false]
            cases ks.findIdx? (k = ·) with
            | none => simp
            | some i => simp [Nat.add_assoc, Nat.add_comm 1]
    unfold Instr.findKey
    have := key es ks 0 h
    simp only [Nat.zero_add] at this
    simp only [Sem.run_bind, hu.run, Result.andThen_ok, this, Sem.run_pure]
end rules
end Go.Proofs.Ytfplfddobjbbnaa
