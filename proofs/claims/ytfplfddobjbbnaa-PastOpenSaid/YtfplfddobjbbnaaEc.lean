/- The engine, part c: a rule for each operation that reads or writes cells. No program in sight; no conditions. -/
import Derived.Test.YtfplfddobjbbnaaEb
namespace Go.Proofs.Ytfplfddobjbbnaa
set_option linter.unusedSectionVars false
set_option linter.unusedSimpArgs false
set_option linter.unusedVariables false
open Go

/-- A row of cells that the call owns. -/
def row (b : Nat) (T : TypeId) (l : List Value) : HP := pts b (.cells l.toArray T (0, 0))

def World.putRow' (w : World) (b : Nat) (T : TypeId) (l : List Value) : World := { w with heap := w.heap.setIfInBounds b (.cells l.toArray T (0, 0)) }

theorem add_none (b o k : Nat) : (⟨b, o, none⟩ : Addr).add k = ⟨b, o + k, none⟩ := by
  unfold Addr.add; split
  · rename_i h; subst h; rfl
  · rfl

/-- Cells that stand in a block from a place on. -/
def RowAt (w : World) (b off : Nat) (l : List Value) : Prop := ∃ cs t fr, w.heap[b]? = some (.cells cs t fr) ∧ ∀ i, i < l.length → cs[off + i]? = l[i]?
theorem RowAt.cell {w : World} {b off : Nat} {l : List Value} (h : RowAt w b off l) {i : Nat} {v : Value} (hv : l[i]? = some v) : w.cell? ⟨b, off + i, none⟩ = some v := by
  obtain ⟨cs, t, fr, h1, h2⟩ := h
  have hi : i < l.length := by
    rcases Nat.lt_or_ge i l.length with h | h
    · exact h
    · simp [List.getElem?_eq_none h] at hv
  simp [World.cell?, h1, h2 i hi, hv]

def Rd (f : Frag) (A : List HP) (b off : Nat) (l : List Value) : Prop := ∀ base w, Sat base w f A → RowAt w b off l
def Rd1 (f : Frag) (A : List HP) (b off : Nat) (v : Value) : Prop := ∀ base w, Sat base w f A → w.cell? ⟨b, off, none⟩ = some v

theorem Rd1.ofRow {f : Frag} {A A' : List HP} {b off : Nat} {T : TypeId} {l : List Value} {v : Value} (h : At A (row b T l) A' (row b T l)) (hv : nthV l off = some v) : Rd1 f A b off v := fun base w s => by
  have := s.got h
  rw [nthV_eq] at hv
  simp [World.cell?, this, hv]
theorem Rd1.own {f : Frag} {A A' : List HP} {b off : Nat} {T : TypeId} {cs : Array Value} {fr : Nat × Nat} {v : Value} (h : At A (pts b (.cells cs T fr)) A' (pts b (.cells cs T fr))) (hv : cs[off]? = some v) : Rd1 f A b off v := fun base w s => by
  have := s.got h
  simp [World.cell?, this, hv]
theorem Rd1.imm {f : Frag} {A : List HP} {b off : Nat} {T : TypeId} {cs : Array Value} {fr : Nat × Nat} {v : Value} (h : f b = some (.cells cs T fr)) (hv : cs[off]? = some v) : Rd1 f A b off v := fun base w s => by
  have := s.imm _ _ h
  simp [World.cell?, this, hv]
theorem Rd1.of {f : Frag} {A : List HP} {b off : Nat} {l : List Value} {i : Nat} {v : Value} (h : Rd f A b off l) (hv : l[i]? = some v) : Rd1 f A b (off + i) v := fun base w s => (h base w s).cell hv

theorem Rd1.at0 {f : Frag} {A : List HP} {b : Nat} {l : List Value} {i : Nat} {v : Value} (h : Rd f A b 0 l) (hv : l[i]? = some v) : Rd1 f A b i v := fun base w s => by
  have := (h base w s).cell hv
  rwa [Nat.zero_add] at this
theorem Rd.ofRow {f : Frag} {A A' : List HP} {b : Nat} {T : TypeId} {l : List Value} (h : At A (row b T l) A' (row b T l)) : Rd f A b 0 l := fun _ _ s =>
  ⟨_, _, _, s.got h, fun i _ => by simp⟩
theorem Rd.sub {f : Frag} {A : List HP} {b off k : Nat} {pre l post : List Value} (h : Rd f A b off (pre ++ l ++ post)) (hk : pre.length = k) : Rd f A b (off + k) l := fun base w s => by
  obtain ⟨cs, t, fr, h1, h2⟩ := h base w s
  refine ⟨cs, t, fr, h1, fun i hi => ?_⟩
  subst hk
  have := h2 (pre.length + i) (by simp; omega)
  rw [Nat.add_assoc, this, List.getElem?_append_left (by simp; omega), List.getElem?_append_right (by omega)]
  simp
theorem Rd.imm {f : Frag} {A : List HP} {b off : Nat} {T : TypeId} {cs : Array Value} {fr : Nat × Nat} {l : List Value} (h : f b = some (.cells cs T fr)) (hv : ∀ i, i < l.length → cs[off + i]? = l[i]?) : Rd f A b off l := fun _ _ s =>
  ⟨_, _, _, s.imm _ _ h, hv⟩
theorem Rd.nil {f : Frag} {A A' : List HP} {b off : Nat} {T : TypeId} {l : List Value} (h : At A (row b T l) A' (row b T l)) : Rd f A b off [] := fun _ _ s =>
  ⟨_, _, _, s.got h, fun i hi => by simp at hi⟩

theorem run_loadAt1 {P : Program} {t : TypeId} {d : TypeDesc} (hu : Und P t d) (hd : aggD d = false) {w : World} {b off : Nat} {v : Value} (h : w.cell? ⟨b, off, none⟩ = some v) :
    (Instr.loadAt t (.pointer (some ⟨b, off, none⟩))).run P w = .ok v w := by
  unfold Instr.loadAt Instr.sureAddr loadVar
  simp [run_isAgg hu, hd, h]
theorem run_loadAtN {P : Program} {t : TypeId} {d : TypeDesc} {m : Nat} (hu : Und P t d) (hd : aggD d = true) (hs : Siz P t m) {w : World} {b off : Nat} {l : List Value} (h : RowAt w b off l) (hm : l.length = m) :
    (Instr.loadAt t (.pointer (some ⟨b, off, none⟩))).run P w = .ok (.agg l.toArray) w := by
  unfold Instr.loadAt Instr.sureAddr loadVar
  have h2 := run_loadCells_list (P := P) (w := w) ⟨b, off, none⟩ l (fun j v hj => by rw [add_none]; exact h.cell hj)
  rw [hm] at h2
  simp [run_isAgg hu, hd, hs.run, h2]

/-- One cell's value. -/
def one : Value → Bool
  | .agg _ | .tuple _ => false
  | _ => true

theorem run_store_row {P : Program} {w : World} {b i : Nat} {T : TypeId} {l : List Value} {v : Value} (hb : w.heap[b]? = some (.cells l.toArray T (0, 0))) (hi : i < l.length) (hv : one v = true) :
    (store ⟨b, i, none⟩ v).run P w = .ok () (World.putRow' w b T (l.set i v)) := by
  have hc : w.cell? ⟨b, i, none⟩ = some l[i] := by simp [World.cell?, hb, hi]
  have hf : w.frozen? ⟨b, i, none⟩ = false := by simp [World.frozen?, hb]
  have hw : w.setCell ⟨b, i, none⟩ v = World.putRow' w b T (l.set i v) := by
    unfold World.setCell World.putRow'
    congr 1
    apply Array.ext_getElem?
    intro k
    rw [Array.getElem?_modify]
    by_cases e : b = k
    · subst e
      have hlt : b < w.heap.size := by
        rcases Nat.lt_or_ge b w.heap.size with h | h
        · exact h
        · simp [Array.getElem?_eq_none h] at hb
      rw [hb]
      simp [hlt]
    · simp [e, Array.getElem?_setIfInBounds_ne e]
  unfold store
  cases v <;> simp only [one, Bool.false_eq_true] at hv <;> simp only [Sem.run, hc, hf, hw, Bool.false_eq_true, if_false]

theorem putRow'_heap (w : World) (b : Nat) (T : TypeId) (l : List Value) {o : Obj} (hb : w.heap[b]? = some o) : (World.putRow' w b T l).heap[b]? = some (.cells l.toArray T (0, 0)) := by
  have hlt : b < w.heap.size := by
    rcases Nat.lt_or_ge b w.heap.size with h | h
    · exact h
    · simp [Array.getElem?_eq_none h] at hb
  simp [World.putRow', hlt]
theorem putRow'_putRow' (w : World) (b : Nat) (T : TypeId) (l l' : List Value) : World.putRow' (World.putRow' w b T l) b T l' = World.putRow' w b T l' := by
  simp [World.putRow']

def splice (l : List Value) (off : Nat) (vs : List Value) : List Value := l.take off ++ vs ++ l.drop (off + vs.length)
theorem splice_nil (l : List Value) (off : Nat) : splice l off [] = l := by simp [splice]
theorem splice_cons (l : List Value) (off : Nat) (v : Value) (vs : List Value) (h : off < l.length) : splice (l.set off v) (off + 1) vs = splice l off (v :: vs) := by
  unfold splice
  apply List.ext_getElem?
  intro i
  simp only [List.getElem?_append, List.length_take, List.length_set, List.getElem?_take, List.getElem?_set, List.length_append, List.length_cons, List.getElem?_drop]
  have e1 : min (off + 1) l.length = off + 1 := by omega
  have e2 : min off l.length = off := by omega
  rw [e1, e2]
  by_cases c1 : i < off
  · simp [show i < off + 1 + vs.length by omega, show i < off + (vs.length + 1) by omega, show i < off + 1 by omega, c1, show off ≠ i by omega]
  · by_cases c2 : i = off
    · subst c2; simp [h]; intro; omega
    · by_cases c3 : i < off + 1 + vs.length
      · have e3 : i - off = (i - (off + 1)) + 1 := by omega
        simp [c3, show i < off + (vs.length + 1) by omega, show ¬ i < off + 1 by omega, c1, e3]
      · have e4 : off + 1 + vs.length + (i - (off + 1 + vs.length)) = off + (vs.length + 1) + (i - (off + (vs.length + 1))) := by omega
        have e5 : off + 1 + vs.length + (i - (off + 1 + vs.length)) ≠ off := by omega
        rw [if_neg c3, if_neg (show ¬ i < off + (vs.length + 1) by omega), if_neg (fun h => e5 h.symm), e4]
theorem splice_length (l : List Value) (off : Nat) (vs : List Value) (h : off + vs.length ≤ l.length) : (splice l off vs).length = l.length := by
  simp [splice]; omega

theorem run_storeCells {P : Program} {b off : Nat} {T : TypeId} : ∀ (vs : List Value) (l : List Value) (i : Nat) (w : World), w.heap[b]? = some (.cells l.toArray T (0, 0)) →
    (∀ v ∈ vs, one v = true) → off + i + vs.length ≤ l.length → (storeCells ⟨b, off, none⟩ vs i).run P w = .ok () (if vs = [] then w else World.putRow' w b T (splice l (off + i) vs))
  | [], l, i, w, hb, hv, hl => by simp [storeCells]
  | v :: vs, l, i, w, hb, hv, hl => by
    simp only [List.length_cons] at hl
    have h1 := run_store_row (P := P) hb (i := off + i) (by omega) (hv v (by simp))
    have h2 := run_storeCells (P := P) (off := off) (T := T) vs (l.set (off + i) v) (i + 1) (World.putRow' w b T (l.set (off + i) v)) (putRow'_heap _ _ _ _ hb) (fun u hu => hv u (by simp [hu])) (by simp; omega)
    unfold storeCells
    rw [add_none, Sem.run_bind, h1, Result.andThen_ok, h2]
    have e0 : (if v :: vs = [] then w else World.putRow' w b T (splice l (off + i) (v :: vs))) = World.putRow' w b T (splice l (off + i) (v :: vs)) := if_neg (by simp)
    rw [e0]
    by_cases e : vs = []
    · subst e
      rw [if_pos rfl, ← splice_cons _ _ _ _ (by omega), splice_nil]
    · rw [if_neg e, putRow'_putRow', ← Nat.add_assoc, splice_cons _ _ _ _ (by omega)]

section rules
variable {P : Program} {base : World} {n : Nat} {L : Env} {f : Frag} {A : List HP} {q : Post}
variable {l rest : List Oper} {d : Nat} {ty : TypeId} {pos : String} {af : Array Edge} {gd : Option (Nat × Bool)}

theorem Sat.putRow {w : World} {A' : List HP} {b : Nat} {T : TypeId} {l l' : List Value} (s : Sat base w f A) (h : At A (row b T l) A' (row b T l')) : Sat base (World.putRow' w b T l') f A' :=
  s.set h rfl rfl rfl rfl

def nthF : List Field → Nat → Option Field
  | [], _ => none
  | v :: _, 0 => some v
  | _ :: r, i + 1 => nthF r i
theorem nthF_eq : ∀ (l : List Field) (i : Nat), nthF l i = l[i]?
  | [], i => by simp [nthF]
  | o :: r, 0 => by simp [nthF]
  | o :: r, i + 1 => by simp [nthF, nthF_eq r i]

theorem H.fieldAddr {st : TypeId} {x : Operand} {i b off m : Nat} {fs : List Field} {nm tg pk : String} {ft : TypeId} {fo bo : Nat} {em : Bool} [hu : Und P st (.struct fs.toArray)] (hw : want? l L gd = true)
    (hx : ev? L x = some (.pointer (some ⟨b, off, none⟩))) (hf : nthF fs i = some ⟨nm, ft, fo, em, tg, pk, bo⟩) (hs : Siz P ft (m + 1)) (hd : Nat.ble (d + 1) n = true)
    (k : H P base n ((d, .pointer (some ⟨b, off + fo, none⟩)) :: L) f A (.ops l rest q)) : H P base n L f A (.ops l (⟨some d, .fieldAddr st x i, ty, pos, af, gd⟩ :: rest) q) :=
  H.opV hw hd (fun a w hfr _ => by
    rw [nthF_eq] at hf
    simp [execOp, Instr.fieldAt, hfr.eval hx, hu.run, hf, Instr.sureAddr, fieldPlace, hs.run, add_none]) k

theorem H.load1 {t : TypeId} {dd : TypeDesc} {x : Operand} {b off : Nat} {v : Value} [hu : Und P t dd] (hw : want? l L gd = true) (hx : ev? L x = some (.pointer (some ⟨b, off, none⟩))) (ha : aggD dd = false)
    (hr : Rd1 f A b off v) (hd : Nat.ble (d + 1) n = true)
    (k : H P base n ((d, v) :: L) f A (.ops l rest q)) : H P base n L f A (.ops l (⟨some d, .load t x, ty, pos, af, gd⟩ :: rest) q) :=
  H.opV hw hd (fun a w hfr s => by simp [execOp, hfr.eval hx, run_loadAt1 hu ha (hr base w s)]) k
theorem H.loadN {t : TypeId} {dd : TypeDesc} {m : Nat} {x : Operand} {b off : Nat} {ls : List Value} [hu : Und P t dd] [hs : Siz P t m] (hw : want? l L gd = true) (hx : ev? L x = some (.pointer (some ⟨b, off, none⟩))) (ha : aggD dd = true)
    (hr : Rd f A b off ls) (hm : ls.length = m) (hd : Nat.ble (d + 1) n = true)
    (k : H P base n ((d, .agg ls.toArray) :: L) f A (.ops l rest q)) : H P base n L f A (.ops l (⟨some d, .load t x, ty, pos, af, gd⟩ :: rest) q) :=
  H.opV hw hd (fun a w hfr s => by simp [execOp, hfr.eval hx, run_loadAtN hu ha hs (hr base w s) hm]) k

inductive SetV : List Value → Nat → Value → List Value → Prop where
  | here (x v : Value) (t : List Value) : SetV (x :: t) 0 v (v :: t)
  | there (x : Value) {t t' : List Value} {i : Nat} {v : Value} (h : SetV t i v t') : SetV (x :: t) (i + 1) v (x :: t')
theorem SetV.eq {l l' : List Value} {i : Nat} {v : Value} (h : SetV l i v l') : l' = l.set i v ∧ i < l.length := by
  induction h with
  | here => simp
  | there x h ih => simp [ih.1]; exact ih.2
theorem SetV.mk {l : List Value} {i : Nat} (v : Value) (h : i < l.length) : SetV l i v (l.set i v) := by
  induction l generalizing i with
  | nil => simp at h
  | cons x t ih =>
    cases i with
    | zero => exact .here _ _ _
    | succ i => exact .there _ (ih (by simpa using h))

theorem H.store1 {t : TypeId} {x y : Operand} {b off : Nat} {T : TypeId} {ls ls' : List Value} {v : Value} {A' : List HP} [hs : Siz P t 1] (hw : want? l L gd = true) (hx : ev? L x = some (.pointer (some ⟨b, off, none⟩))) (hy : ev? L y = some v) (hv : one v = true)
    (hA : At A (row b T ls) A' (row b T ls')) (hset : SetV ls off v ls')
    (k : H P base n L f A' (.ops l rest q)) : H P base n L f A (.ops l (⟨none, .store t x y, ty, pos, af, gd⟩ :: rest) q) :=
  H.opS hw (fun a w hfr s => by
    obtain ⟨e1, e2⟩ := hset.eq
    subst e1
    refine ⟨_, ?_, s.putRow hA⟩
    have hb := s.got hA
    have hc : v.cells = #[v] := by cases v <;> simp_all [one, Value.cells]
    have h1 := run_store_row (P := P) hb e2 hv
    simp only [execOp, hfr.eval hx, hfr.eval hy, Instr.storeAt, Instr.sureAddr, storeVar, storeCells, hc, Sem.run_bind, Sem.run_pure, Result.andThen_ok, hs.run]
    simp [add_none, h1]) k
/-- A struct or an array is stored: cells ls become ls', vs from off on. -/
theorem H.storeN {t : TypeId} {x y : Operand} {b off m : Nat} {T : TypeId} {ls ls' vs : List Value} {A' : List HP} [hs : Siz P t m] (hw : want? l L gd = true) (hx : ev? L x = some (.pointer (some ⟨b, off, none⟩))) (hy : ev? L y = some (.agg vs.toArray)) (hv : ∀ v ∈ vs, one v = true) (hm : vs.length = m)
    (hset : splice ls off vs = ls') (hle : off + vs.length ≤ ls.length) (hA : At A (row b T ls) A' (row b T ls'))
    (k : H P base n L f A' (.ops l rest q)) : H P base n L f A (.ops l (⟨none, .store t x y, ty, pos, af, gd⟩ :: rest) q) :=
  H.opS hw (fun a w hfr s => by
    subst hset
    have hb := s.got hA
    have h1 := run_storeCells (P := P) (off := off) vs ls 0 w hb hv hle
    have hr : (execOp a.eval ⟨none, .store t x y, ty, pos, af, gd⟩).run P w = .ok .skip (if vs = [] then w else World.putRow' w b T (splice ls (off + 0) vs)) := by
      simp only [execOp, hfr.eval hx, hfr.eval hy, Instr.storeAt, Instr.sureAddr, storeVar, Value.cells, Sem.run_bind, Sem.run_pure, Result.andThen_ok, hs.run, List.size_toArray, hm]
      simp [h1]
    rw [hr]
    by_cases e : vs = []
    · subst e
      rw [splice_nil] at hA
      refine ⟨w, by simp, s.conv ?_⟩
      obtain ⟨R, a1, a2⟩ := hA.split
      rw [a1, a2]
    · rw [if_neg e]
      exact ⟨_, rfl, s.putRow hA⟩) k

/-- A new variable. -/
theorem H.box {t : TypeId} {x : Operand} {v : Value} {ls : List Value} (hw : want? l L gd = true) (hx : ev? L x = some v) (hv : v.cells = ls.toArray) (hd : Nat.ble (d + 1) n = true)
    (k : ∀ b, H P base n ((d, .pointer (some ⟨b, 0, none⟩)) :: L) f (row b t ls :: A) (.ops l rest q)) : H P base n L f A (.ops l (⟨some d, .box t x, ty, pos, af, gd⟩ :: rest) q) :=
  H.opE (fun b => .pointer (some ⟨b, 0, none⟩)) (fun _ => f) (fun b => row b t ls :: A) (fun _ => True) hw hd (fun a w hfr s => by
    refine ⟨w.heap.size, w.alloc (.cells ls.toArray t (0, 0)), trivial, ?_, s.alloc rfl rfl rfl rfl⟩
    simp [execOp, Instr.box, newVar, newRow, hfr.eval hx, hv]) (fun b _ => k b)
theorem H.alloc {t : TypeId} {z : Value} {ls : List Value} [hz : Zer P t z] (hw : want? l L gd = true) (hv : z.cells = ls.toArray) (hd : Nat.ble (d + 1) n = true)
    (k : ∀ b, H P base n ((d, .pointer (some ⟨b, 0, none⟩)) :: L) f (row b t ls :: A) (.ops l rest q)) : H P base n L f A (.ops l (⟨some d, .alloc t, ty, pos, af, gd⟩ :: rest) q) :=
  H.opE (fun b => .pointer (some ⟨b, 0, none⟩)) (fun _ => f) (fun b => row b t ls :: A) (fun _ => True) hw hd (fun a w hfr s => by
    refine ⟨w.heap.size, w.alloc (.cells ls.toArray t (0, 0)), trivial, ?_, s.alloc rfl rfl rfl rfl⟩
    simp [execOp, Instr.alloc, newVar, newRow, hz.run, hv]) (fun b _ => k b)

/-- len of a slice, of a string, of an array. -/
theorem H.len_slice {t e : TypeId} {x : Operand} {p : Option Addr} {m c : Nat} [hu : Und P t (.slice e)] (hw : want? l L gd = true) (hx : ev? L x = some (.slice p m c)) (hd : Nat.ble (d + 1) n = true)
    (k : H P base n ((d, .int .i64 (m : Nat)) :: L) f A (.ops l rest q)) : H P base n L f A (.ops l (⟨some d, .call ⟨.builtin .len, #[x], #[t]⟩, ty, pos, af, gd⟩ :: rest) q) :=
  H.opV hw hd (fun a w hfr _ => by
    simp [execOp, resolve, invoke, builtin, Builtin.len_, hfr.eval hx, hu.run, goInt]) k
theorem H.len_string {t : TypeId} {x : Operand} {s : ByteArray} [hu : Und P t .string] (hw : want? l L gd = true) (hx : ev? L x = some (.string s)) (hd : Nat.ble (d + 1) n = true)
    (k : H P base n ((d, .int .i64 (s.size : Nat)) :: L) f A (.ops l rest q)) : H P base n L f A (.ops l (⟨some d, .call ⟨.builtin .len, #[x], #[t]⟩, ty, pos, af, gd⟩ :: rest) q) :=
  H.opV hw hd (fun a w hfr _ => by
    simp [execOp, resolve, invoke, builtin, Builtin.len_, hfr.eval hx, hu.run, goInt]) k

/-- The address of an element of a slice. -/
theorem H.index_slice {t e : TypeId} {x y : Operand} {b off m c i sz : Nat} {ik : IntKind} {z : Int} [hu : Und P t (.slice e)] [hs : Siz P e sz] (hw : want? l L gd = true)
    (hx : ev? L x = some (.slice (some ⟨b, off, none⟩) m c)) (hy : ev? L y = some (.int ik z)) (hq : z = (i : Nat)) (hi : i < m) (hd : Nat.ble (d + 1) n = true)
    (k : H P base n ((d, .pointer (some ⟨b, off + i * sz, none⟩)) :: L) f A (.ops l rest q)) : H P base n L f A (.ops l (⟨some d, .indexAddr t x y, ty, pos, af, gd⟩ :: rest) q) :=
  H.opV hw hd (fun a w hfr _ => by
    subst hq
    simp only [execOp, Instr.indexAt, hfr.eval hx, hfr.eval hy, Sem.run_bind, asIntOf, Sem.run_pure, Result.andThen_ok, hu.run]
    simp [hi, hs.run, add_none]) k
theorem H.index_array {t e : TypeId} {x y : Operand} {b off m i sz : Nat} {ik : IntKind} {z : Int} [hu : Und P t (.array m e)] [hs : Siz P e sz] (hw : want? l L gd = true)
    (hx : ev? L x = some (.pointer (some ⟨b, off, none⟩))) (hy : ev? L y = some (.int ik z)) (hq : z = (i : Nat)) (hi : i < m) (hd : Nat.ble (d + 1) n = true)
    (k : H P base n ((d, .pointer (some ⟨b, off + i * sz, none⟩)) :: L) f A (.ops l rest q)) : H P base n L f A (.ops l (⟨some d, .indexAddr t x y, ty, pos, af, gd⟩ :: rest) q) :=
  H.opV hw hd (fun a w hfr _ => by
    subst hq
    simp only [execOp, Instr.indexAt, hfr.eval hx, hfr.eval hy, Sem.run_bind, asIntOf, Sem.run_pure, Result.andThen_ok, hu.run, Instr.sureAddr]
    simp [hi, hs.run, add_none]) k
end rules
end Go.Proofs.Ytfplfddobjbbnaa
