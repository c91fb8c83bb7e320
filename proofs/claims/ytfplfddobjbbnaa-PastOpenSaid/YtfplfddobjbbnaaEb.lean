/- The engine, part b: a rule for each operation that reckons, and for a call. No program in sight; no conditions. -/
import Derived.Test.YtfplfddobjbbnaaEa
import Derived.WalkKit
namespace Go.Proofs.Ytfplfddobjbbnaa
set_option linter.unusedSectionVars false
set_option linter.unusedSimpArgs false
set_option linter.unusedVariables false
open Go

class Und (P : Program) (t : TypeId) (d : outParam TypeDesc) : Prop where
  eq : P.underlying t = some d
class Siz (P : Program) (t : TypeId) (n : outParam Nat) : Prop where
  eq : (P.info? t).map (·.size) = some n
class Zer (P : Program) (t : TypeId) (v : outParam Value) : Prop where
  eq : (P.info? t).map (·.zero) = some (some v)
class Fun (P : Program) (f : FuncId) : Prop where
  eq : ∃ fn, P.funcs[f]? = some fn ∧ (fn.name == "runtime.NumGoroutine") = false ∧ fn.body.isNone = false

theorem Und.run {P : Program} {t : TypeId} {d : TypeDesc} (h : Und P t d) (w : World) : (underlying t).run P w = .ok d w := by
  unfold underlying; simp [h.eq]
theorem Siz.run {P : Program} {t : TypeId} {n : Nat} (h : Siz P t n) (w : World) : (sizeOf t).run P w = .ok n w := by
  have := h.eq
  unfold sizeOf typeInfo
  cases hi : P.info? t with
  | none => rw [hi] at this; cases this
  | some i => rw [hi] at this; simp at this; simp [hi, this]
theorem Zer.run {P : Program} {t : TypeId} {v : Value} (h : Zer P t v) (w : World) : (zeroValue t).run P w = .ok v w := by
  have := h.eq
  unfold zeroValue typeInfo
  cases hi : P.info? t with
  | none => rw [hi] at this; cases this
  | some i => rw [hi] at this; simp at this; simp [hi, this]

def aggD : TypeDesc → Bool
  | .struct _ | .array _ _ => true
  | _ => false
theorem run_isAgg {P : Program} {t : TypeId} {d : TypeDesc} (h : Und P t d) (w : World) : (isAgg t).run P w = .ok (aggD d) w := by
  unfold isAgg
  simp only [Sem.run_bind, h.run, Result.andThen_ok]
  cases d <;> rfl


theorem run_equal_bool {P : Program} {t : TypeId} (hu : Und P t .bool) (p q : Bool) (w : World) : (Op.equal t (.bool p) (.bool q)).run P w = .ok (p == q) w := by
  have h : ∀ d, (Op.equalIn (d + 1) t (.bool p) (.bool q)).run P w = .ok (p == q) w := fun d => by
    simp [Op.equalIn, hu.run]
  exact h 9999
theorem run_equal_pn {P : Program} {t e : TypeId} (hu : Und P t (.pointer e)) (p : Option Addr) (w : World) : (Op.equal t (.pointer p) (.pointer none)).run P w = .ok p.isNone w := by
  have h : ∀ d, (Op.equalIn (d + 1) t (.pointer p) (.pointer none)).run P w = .ok p.isNone w := fun d => by
    cases p <;> simp [Op.equalIn, hu.run]
  exact h 9999
theorem run_bin {P : Program} (ρ : Operand → Value) {dd : Option Tmp} {op : BinOp} {xt yt ty : TypeId} {x y : Operand} {pos : String} {af : Array Edge} {gd : Option (Nat × Bool)} {w : World} {v : Value}
    (h1 : (eqGuard op xt x y (ρ x) (ρ y)).run P w = .ok () w) (h2 : (binOp op xt (ρ x) (ρ y)).run P w = .ok v w) :
    (execOp ρ ⟨dd, .binOp op xt x y yt, ty, pos, af, gd⟩).run P w = .ok (.value v) w := by
  show Sem.run P ((do eqGuard op xt x y (ρ x) (ρ y); binOp op xt (ρ x) (ρ y)) >>= fun a => pure (Next.value a)) w = _
  simp only [Sem.run_bind, h1, h2, Result.andThen_ok, Sem.run_pure]
theorem run_guard_bool {P : Program} (op : BinOp) (t : TypeId) (x y : Operand) (p q : Bool) (w : World) : (eqGuard op t x y (.bool p) (.bool q)).run P w = .ok () w := by
  cases op <;> rfl
theorem run_guard_ptr {P : Program} (op : BinOp) (t : TypeId) (x y : Operand) (p q : Option Addr) (w : World) : (eqGuard op t x y (.pointer p) (.pointer q)).run P w = .ok () w := by
  cases op <;> rfl
theorem run_enter {P : Program} {fid : FuncId} [hfun : Fun P fid] (a : Act) {dd : Option Tmp} {xs : List Operand} {vs : List Value} {ats : Array TypeId} {ty : TypeId} {pos : String} {af : Array Edge} {gd : Option (Nat × Bool)} {w : World} (hargs : xs.map a.eval = vs) :
    (execOp a.eval ⟨dd, .call ⟨.value (.func fid), xs.toArray, ats⟩, ty, pos, af, gd⟩).run P w = .ok (.enter fid vs.toArray) w := by
  obtain ⟨fn, h1, h2, h3⟩ := hfun.eq
  have e1 : (#[] ++ Array.map a.eval xs.toArray : Array Value) ++ #[] = vs.toArray := by simp [hargs]
  show Sem.run P (callFunc fid ((#[] ++ Array.map a.eval xs.toArray) ++ #[])) w = _
  rw [e1]
  unfold callFunc
  simp only [Sem.run_bind, run_program, Result.andThen_ok, h1, h2, h3, Bool.false_eq_true, if_false, Sem.run_pure]

section rules
variable {P : Program} {base : World} {n : Nat} {L : Env} {f : Frag} {A : List HP} {q : Post}
variable {l rest : List Oper} {d : Nat} {ty : TypeId} {pos : String} {af : Array Edge} {gd : Option (Nat × Bool)}

/-- A value, the world as it was. -/
theorem H.opV {op : Op} {v : Value} (hw : want? l L gd = true) (hd : Nat.ble (d + 1) n = true)
    (hx : ∀ a w, Fr n a L → Sat base w f A → (execOp a.eval ⟨some d, op, ty, pos, af, gd⟩).run P w = .ok (.value v) w)
    (k : H P base n ((d, v) :: L) f A (.ops l rest q)) : H P base n L f A (.ops l (⟨some d, op, ty, pos, af, gd⟩ :: rest) q) := .mk fun a w hf s => by
  show wpList P l.toArray (q.den P) _ a w
  unfold wpList
  rw [if_pos (hf.want (o := ⟨some d, op, ty, pos, af, gd⟩) hw)]
  refine .inl ?_
  simp only [Oper.wp, hx a w hf s, Oper.upon]
  exact k.out _ _ (hf.put (Nat.le_of_ble_eq_true hd) v) s

/-- Passed over. -/
theorem H.pass {op : Op} (hw : skip? l L gd = true) (hd : Nat.ble (d + 1) n = true)
    (k : H P base n ((d, .tuple #[]) :: L) f A (.ops l rest q)) : H P base n L f A (.ops l (⟨some d, op, ty, pos, af, gd⟩ :: rest) q) := .mk fun a w hf s => by
  show wpList P l.toArray (q.den P) _ a w
  unfold wpList
  rw [if_neg (by rw [hf.skip (o := ⟨some d, op, ty, pos, af, gd⟩) hw]; simp)]
  exact k.out _ _ (hf.put (Nat.le_of_ble_eq_true hd) _) s
theorem H.pass0 {op : Op} (hw : skip? l L gd = true)
    (k : H P base n L f A (.ops l rest q)) : H P base n L f A (.ops l (⟨none, op, ty, pos, af, gd⟩ :: rest) q) := .mk fun a w hf s => by
  show wpList P l.toArray (q.den P) _ a w
  unfold wpList
  rw [if_neg (by rw [hf.skip (o := ⟨none, op, ty, pos, af, gd⟩) hw]; simp)]
  exact k.out _ _ hf s

/-- A value, another world, another state. -/
theorem H.opE {op : Op} {ι : Sort _} (V : ι → Value) (F : ι → Frag) (AA : ι → List HP) (Φ : ι → Prop) (hw : want? l L gd = true) (hd : Nat.ble (d + 1) n = true)
    (hx : ∀ a w, Fr n a L → Sat base w f A → ∃ i w', Φ i ∧ (execOp a.eval ⟨some d, op, ty, pos, af, gd⟩).run P w = .ok (.value (V i)) w' ∧ Sat base w' (F i) (AA i))
    (k : ∀ i, Φ i → H P base n ((d, V i) :: L) (F i) (AA i) (.ops l rest q)) : H P base n L f A (.ops l (⟨some d, op, ty, pos, af, gd⟩ :: rest) q) := .mk fun a w hf s => by
  show wpList P l.toArray (q.den P) _ a w
  unfold wpList
  rw [if_pos (hf.want (o := ⟨some d, op, ty, pos, af, gd⟩) hw)]
  refine .inl ?_
  obtain ⟨i, w', hφ, hr, s'⟩ := hx a w hf s
  simp only [Oper.wp, hr, Oper.upon]
  exact (k i hφ).out _ _ (hf.put (Nat.le_of_ble_eq_true hd) _) s'

/-- No value (a store). -/
theorem H.opS {op : Op} {A' : List HP} (hw : want? l L gd = true)
    (hx : ∀ a w, Fr n a L → Sat base w f A → ∃ w', (execOp a.eval ⟨none, op, ty, pos, af, gd⟩).run P w = .ok .skip w' ∧ Sat base w' f A')
    (k : H P base n L f A' (.ops l rest q)) : H P base n L f A (.ops l (⟨none, op, ty, pos, af, gd⟩ :: rest) q) := .mk fun a w hf s => by
  show wpList P l.toArray (q.den P) _ a w
  unfold wpList
  rw [if_pos (hf.want (o := ⟨none, op, ty, pos, af, gd⟩) hw)]
  refine .inl ?_
  obtain ⟨w', hr, s'⟩ := hx a w hf s
  simp only [Oper.wp, hr, Oper.upon]
  exact k.out _ _ hf s'

theorem H.move {x : Operand} {v : Value} (hw : want? l L gd = true) (hx : ev? L x = some v) (hd : Nat.ble (d + 1) n = true)
    (k : H P base n ((d, v) :: L) f A (.ops l rest q)) : H P base n L f A (.ops l (⟨some d, .move x, ty, pos, af, gd⟩ :: rest) q) :=
  H.opV hw hd (fun a w hf _ => by simp [execOp, hf.eval hx]) k
theorem H.assign {x : Operand} {v : Value} (hw : want? l L gd = true) (hx : ev? L x = some v) (hd : Nat.ble (d + 1) n = true)
    (k : H P base n ((d, v) :: L) f A (.ops l rest q)) : H P base n L f A (.ops l (⟨some d, .assign x, ty, pos, af, gd⟩ :: rest) q) :=
  H.opV hw hd (fun a w hf _ => by simp [execOp, hf.eval hx]) k
theorem H.pickT {c x y : Operand} {v : Value} (hw : want? l L gd = true) (hc : ev? L c = some (.bool true)) (hx : ev? L x = some v) (hd : Nat.ble (d + 1) n = true)
    (k : H P base n ((d, v) :: L) f A (.ops l rest q)) : H P base n L f A (.ops l (⟨some d, .pick c x y, ty, pos, af, gd⟩ :: rest) q) :=
  H.opV hw hd (fun a w hf _ => by simp [execOp, hf.eval hx, hf.eval hc, asBool]) k
theorem H.pickF {c x y : Operand} {v : Value} (hw : want? l L gd = true) (hc : ev? L c = some (.bool false)) (hx : ev? L y = some v) (hd : Nat.ble (d + 1) n = true)
    (k : H P base n ((d, v) :: L) f A (.ops l rest q)) : H P base n L f A (.ops l (⟨some d, .pick c x y, ty, pos, af, gd⟩ :: rest) q) :=
  H.opV hw hd (fun a w hf _ => by simp [execOp, hf.eval hx, hf.eval hc, asBool]) k
theorem H.nilCheck {x : Operand} {p : Addr} (hw : want? l L gd = true) (hx : ev? L x = some (.pointer (some p))) (hd : Nat.ble (d + 1) n = true)
    (k : H P base n ((d, .pointer (some p)) :: L) f A (.ops l rest q)) : H P base n L f A (.ops l (⟨some d, .nilCheck x, ty, pos, af, gd⟩ :: rest) q) :=
  H.opV hw hd (fun a w hf _ => by simp [execOp, hf.eval hx]) k

def cmpP : BinOp → Int → Int → Option Bool
  | .eql, x, y => some (decide (x = y))
  | .neq, x, y => some (decide (¬ x = y))
  | .lss, x, y => some (decide (x < y))
  | .leq, x, y => some (decide (x ≤ y))
  | .gtr, x, y => some (decide (y < x))
  | .geq, x, y => some (decide (y ≤ x))
  | _, _, _ => none
theorem H.cmp {op : BinOp} {xt yt : TypeId} {x y : Operand} {k : IntKind} {p p2 : Int} {b : Bool} (hw : want? l L gd = true) (hx : ev? L x = some (.int k p)) (hy : ev? L y = some (.int k p2)) (hc : cmpP op p p2 = some b) (hd : Nat.ble (d + 1) n = true)
    (kk : H P base n ((d, .bool b) :: L) f A (.ops l rest q)) : H P base n L f A (.ops l (⟨some d, .binOp op xt x y yt, ty, pos, af, gd⟩ :: rest) q) :=
  H.opV hw hd (fun a w hf _ => by
    cases op <;> simp only [cmpP, Option.some.injEq, reduceCtorEq] at hc <;> subst hc <;>
      simp [execOp, eqGuard, binOp, Op.intCmp, hf.eval hx, hf.eval hy] <;> by_cases e : p = p2 <;> simp [e]) kk

def arP : BinOp → IntKind → Int → Int → Option Int
  | .add, k, x, y => some (k.wrap (x + y))
  | .sub, k, x, y => some (k.wrap (x - y))
  | .mul, k, x, y => some (k.wrap (x * y))
  | _, _, _, _ => none
/-- '+', '-', '*': z is what they come to. -/
theorem H.ar {op : BinOp} {xt yt : TypeId} {x y : Operand} {k : IntKind} {p p2 r z : Int} (hw : want? l L gd = true) (hx : ev? L x = some (.int k p)) (hy : ev? L y = some (.int k p2)) (hc : arP op k p p2 = some r) (hz : r = z) (hd : Nat.ble (d + 1) n = true)
    (kk : H P base n ((d, .int k z) :: L) f A (.ops l rest q)) : H P base n L f A (.ops l (⟨some d, .binOp op xt x y yt, ty, pos, af, gd⟩ :: rest) q) :=
  H.opV hw hd (fun a w hf _ => by
    cases op <;> simp only [arP, Option.some.injEq, reduceCtorEq] at hc <;> subst hc <;> subst hz <;>
      simp [execOp, eqGuard, binOp, Op.intArith, hf.eval hx, hf.eval hy]) kk
/-- '/', '%' at what is not 0. -/
theorem H.quo {xt yt : TypeId} {x y : Operand} {k : IntKind} {p p2 z : Int} (hw : want? l L gd = true) (hx : ev? L x = some (.int k p)) (hy : ev? L y = some (.int k p2)) (h0 : p2 ≠ 0) (hz : k.wrap (p.tdiv p2) = z) (hd : Nat.ble (d + 1) n = true)
    (kk : H P base n ((d, .int k z) :: L) f A (.ops l rest q)) : H P base n L f A (.ops l (⟨some d, .binOp .quo xt x y yt, ty, pos, af, gd⟩ :: rest) q) :=
  H.opV hw hd (fun a w hf _ => by subst hz; simp [execOp, eqGuard, binOp, Op.intDiv, hf.eval hx, hf.eval hy, h0]) kk
theorem H.rem {xt yt : TypeId} {x y : Operand} {k : IntKind} {p p2 z : Int} (hw : want? l L gd = true) (hx : ev? L x = some (.int k p)) (hy : ev? L y = some (.int k p2)) (h0 : p2 ≠ 0) (hz : p.tmod p2 = z) (hd : Nat.ble (d + 1) n = true)
    (kk : H P base n ((d, .int k z) :: L) f A (.ops l rest q)) : H P base n L f A (.ops l (⟨some d, .binOp .rem xt x y yt, ty, pos, af, gd⟩ :: rest) q) :=
  H.opV hw hd (fun a w hf _ => by subst hz; simp [execOp, eqGuard, binOp, Op.intDiv, hf.eval hx, hf.eval hy, h0]) kk
theorem H.beq {op : BinOp} {xt yt : TypeId} {x y : Operand} {p p2 b : Bool} [hu : Und P xt .bool] (hw : want? l L gd = true) (hx : ev? L x = some (.bool p)) (hy : ev? L y = some (.bool p2)) (ho : op = .eql) (hb : (p == p2) = b) (hd : Nat.ble (d + 1) n = true)
    (kk : H P base n ((d, .bool b) :: L) f A (.ops l rest q)) : H P base n L f A (.ops l (⟨some d, .binOp op xt x y yt, ty, pos, af, gd⟩ :: rest) q) :=
  H.opV hw hd (fun a w hf _ => by
    subst ho; subst hb
    refine run_bin _ ?_ ?_
    · rw [hf.eval hx, hf.eval hy]; exact run_guard_bool _ _ _ _ _ _ _
    · rw [hf.eval hx, hf.eval hy]
      show Sem.run P (do pure (Value.bool (← Op.equal xt (.bool p) (.bool p2)))) w = _
      simp [run_equal_bool hu]) kk
theorem H.bne {op : BinOp} {xt yt : TypeId} {x y : Operand} {p p2 b : Bool} [hu : Und P xt .bool] (hw : want? l L gd = true) (hx : ev? L x = some (.bool p)) (hy : ev? L y = some (.bool p2)) (ho : op = .neq) (hb : (!(p == p2)) = b) (hd : Nat.ble (d + 1) n = true)
    (kk : H P base n ((d, .bool b) :: L) f A (.ops l rest q)) : H P base n L f A (.ops l (⟨some d, .binOp op xt x y yt, ty, pos, af, gd⟩ :: rest) q) :=
  H.opV hw hd (fun a w hf _ => by
    subst ho; subst hb
    refine run_bin _ ?_ ?_
    · rw [hf.eval hx, hf.eval hy]; exact run_guard_bool _ _ _ _ _ _ _
    · rw [hf.eval hx, hf.eval hy]
      show Sem.run P (do pure (Value.bool (!(← Op.equal xt (.bool p) (.bool p2))))) w = _
      simp [run_equal_bool hu]) kk
/-- A pointer against nil. -/
def nilP : BinOp → Option Addr → Option Bool
  | .eql, none => some true
  | .eql, some _ => some false
  | .neq, none => some false
  | .neq, some _ => some true
  | _, _ => none
theorem H.ptrNil {op : BinOp} {xt yt e : TypeId} {x y : Operand} {p : Option Addr} {b : Bool} [hu : Und P xt (.pointer e)] (hw : want? l L gd = true) (hx : ev? L x = some (.pointer p)) (hy : ev? L y = some (.pointer none)) (hb : nilP op p = some b) (hd : Nat.ble (d + 1) n = true)
    (kk : H P base n ((d, .bool b) :: L) f A (.ops l rest q)) : H P base n L f A (.ops l (⟨some d, .binOp op xt x y yt, ty, pos, af, gd⟩ :: rest) q) :=
  H.opV hw hd (fun a w hf _ => by
    refine run_bin _ ?_ ?_
    · rw [hf.eval hx, hf.eval hy]; exact run_guard_ptr _ _ _ _ _ _ _
    · rw [hf.eval hx, hf.eval hy]
      have e1 : Sem.run P (do pure (Value.bool (← Op.equal xt (.pointer p) (.pointer none)))) w = .ok (.bool p.isNone) w := by simp [run_equal_pn hu]
      have e2 : Sem.run P (do pure (Value.bool (!(← Op.equal xt (.pointer p) (.pointer none))))) w = .ok (.bool (!p.isNone)) w := by simp [run_equal_pn hu]
      cases op <;> cases p <;> simp only [nilP, Option.some.injEq, reduceCtorEq] at hb <;> subst hb <;> first | exact e1 | exact e2) kk
theorem H.not {x : Operand} {xt : TypeId} {b c : Bool} (hw : want? l L gd = true) (hx : ev? L x = some (.bool b)) (hb : (!b) = c) (hd : Nat.ble (d + 1) n = true)
    (k : H P base n ((d, .bool c) :: L) f A (.ops l rest q)) : H P base n L f A (.ops l (⟨some d, .unOp .not xt x, ty, pos, af, gd⟩ :: rest) q) :=
  H.opV hw hd (fun a w hf _ => by subst hb; simp [execOp, Op.unary, hf.eval hx]) k
theorem H.conv_int {s t : TypeId} {x : Operand} {i j : IntKind} {p z : Int} {ds : TypeDesc} [hs : Und P s ds] [ht : Und P t (.int j)] (hw : want? l L gd = true) (hx : ev? L x = some (.int i p)) (hz : j.wrap p = z) (hd : Nat.ble (d + 1) n = true)
    (k : H P base n ((d, .int j z) :: L) f A (.ops l rest q)) : H P base n L f A (.ops l (⟨some d, .convert s t x, ty, pos, af, gd⟩ :: rest) q) :=
  H.opV hw hd (fun a w hf _ => by
    subst hz
    have h1 := hs.run w
    have h2 := ht.run w
    simp only [execOp, convert, hf.eval hx, Sem.run_bind, h1, h2, Result.andThen_ok]
    cases ds <;> simp [Conv.intToInt]) k
def nthV : List Value → Nat → Option Value
  | [], _ => none
  | v :: _, 0 => some v
  | _ :: r, i + 1 => nthV r i
theorem nthV_eq : ∀ (l : List Value) (i : Nat), nthV l i = l[i]?
  | [], i => by simp [nthV]
  | o :: r, 0 => by simp [nthV]
  | o :: r, i + 1 => by simp [nthV, nthV_eq r i]
theorem H.extract {x : Operand} {i : Nat} {vs : List Value} {v : Value} (hw : want? l L gd = true) (hx : ev? L x = some (.tuple vs.toArray)) (hv : nthV vs i = some v) (hd : Nat.ble (d + 1) n = true)
    (k : H P base n ((d, v) :: L) f A (.ops l rest q)) : H P base n L f A (.ops l (⟨some d, .extract x i, ty, pos, af, gd⟩ :: rest) q) :=
  H.opV hw hd (fun a w hf _ => by
    rw [nthV_eq] at hv
    simp [execOp, Instr.extract, hf.eval hx, hv]) k

/-- Guards that are not known by their slot's value. -/
theorem H.gset {o : Oper} {j : Nat} {b : Bool} {c : Bool} {e : Nat} {p1 : Op} {t1 : TypeId} {q1 : String} {a1 : Array Edge} {g1 : Option (Nat × Bool)} (hg : o.guard = some (j, b)) (hj : getO l j = some ⟨some e, p1, t1, q1, a1, g1⟩) (hv : look? L e = some (.bool c)) (ht : c = true → H P base n ((e, .bool true) :: L) f A (.ops l (o :: rest) q))
    (hf : c = false → H P base n ((e, .bool false) :: L) f A (.ops l (o :: rest) q)) : H P base n L f A (.ops l (o :: rest) q) := by
  have _ := hg
  have _ := hj
  cases c with
  | true => exact H.know hv rfl (ht rfl)
  | false => exact H.know hv rfl (hf rfl)

theorem H.gdec {o : Oper} {j : Nat} {b : Bool} {e : Nat} {p1 : Op} {t1 : TypeId} {q1 : String} {a1 : Array Edge} {g1 : Option (Nat × Bool)} {p : Prop} {_ : Decidable p} (hg : o.guard = some (j, b)) (hj : getO l j = some ⟨some e, p1, t1, q1, a1, g1⟩) (hv : look? L e = some (.bool (decide p)))
    (ht : p → H P base n ((e, .bool true) :: L) f A (.ops l (o :: rest) q)) (hf : ¬ p → H P base n ((e, .bool false) :: L) f A (.ops l (o :: rest) q)) : H P base n L f A (.ops l (o :: rest) q) :=
  H.gset hg hj hv (fun h => ht (of_decide_eq_true h)) (fun h => hf (of_decide_eq_false h))
theorem H.gyes {o : Oper} {j : Nat} {b : Bool} {e : Nat} {p1 : Op} {t1 : TypeId} {q1 : String} {a1 : Array Edge} {g1 : Option (Nat × Bool)} {p : Prop} {_ : Decidable p} (hg : o.guard = some (j, b)) (hj : getO l j = some ⟨some e, p1, t1, q1, a1, g1⟩) (hv : look? L e = some (.bool (decide p)))
    (hp : p) (ht : H P base n ((e, .bool true) :: L) f A (.ops l (o :: rest) q)) : H P base n L f A (.ops l (o :: rest) q) :=
  H.gdec hg hj hv (fun _ => ht) (fun h => absurd hp h)
theorem H.gno {o : Oper} {j : Nat} {b : Bool} {e : Nat} {p1 : Op} {t1 : TypeId} {q1 : String} {a1 : Array Edge} {g1 : Option (Nat × Bool)} {p : Prop} {_ : Decidable p} (hg : o.guard = some (j, b)) (hj : getO l j = some ⟨some e, p1, t1, q1, a1, g1⟩) (hv : look? L e = some (.bool (decide p)))
    (hp : ¬ p) (hf : H P base n ((e, .bool false) :: L) f A (.ops l (o :: rest) q)) : H P base n L f A (.ops l (o :: rest) q) :=
  H.gdec hg hj hv (fun h => absurd h hp) (fun _ => hf)
theorem H.gtrue {o : Oper} {j : Nat} {b : Bool} {c : Bool} {e : Nat} {p1 : Op} {t1 : TypeId} {q1 : String} {a1 : Array Edge} {g1 : Option (Nat × Bool)} (hg : o.guard = some (j, b)) (hj : getO l j = some ⟨some e, p1, t1, q1, a1, g1⟩) (hv : look? L e = some (.bool c))
    (hp : c = true) (ht : H P base n ((e, .bool true) :: L) f A (.ops l (o :: rest) q)) : H P base n L f A (.ops l (o :: rest) q) :=
  H.gset hg hj hv (fun _ => ht) (fun h => by rw [hp] at h; cases h)
theorem H.gfalse {o : Oper} {j : Nat} {b : Bool} {c : Bool} {e : Nat} {p1 : Op} {t1 : TypeId} {q1 : String} {a1 : Array Edge} {g1 : Option (Nat × Bool)} (hg : o.guard = some (j, b)) (hj : getO l j = some ⟨some e, p1, t1, q1, a1, g1⟩) (hv : look? L e = some (.bool c))
    (hp : c = false) (ht : H P base n ((e, .bool false) :: L) f A (.ops l (o :: rest) q)) : H P base n L f A (.ops l (o :: rest) q) :=
  H.gset hg hj hv (fun h => by rw [hp] at h; cases h) (fun _ => ht)
theorem H.cond_yes {c : Operand} {x y : Code} {p : Prop} {_ : Decidable p} (hc : ev? L c = some (.bool (decide p))) (hp : p) (ht : H P base n L f A (.code x q)) : H P base n L f A (.code (.cond c x y) q) :=
  H.cond_dec hc (fun _ => ht) (fun h => absurd hp h)
theorem H.cond_no {c : Operand} {x y : Code} {p : Prop} {_ : Decidable p} (hc : ev? L c = some (.bool (decide p))) (hp : ¬ p) (ht : H P base n L f A (.code y q)) : H P base n L f A (.code (.cond c x y) q) :=
  H.cond_dec hc (fun h => absurd h hp) (fun _ => ht)
theorem H.cond_t {c : Operand} {x y : Code} {b : Bool} (hc : ev? L c = some (.bool b)) (hp : b = true) (ht : H P base n L f A (.code x q)) : H P base n L f A (.code (.cond c x y) q) :=
  H.cond hc (fun _ => ht) (fun h => by rw [hp] at h; cases h)
theorem H.cond_f {c : Operand} {x y : Code} {b : Bool} (hc : ev? L c = some (.bool b)) (hp : b = false) (ht : H P base n L f A (.code y q)) : H P base n L f A (.code (.cond c x y) q) :=
  H.cond hc (fun h => by rw [hp] at h; cases h) (fun _ => ht)

/-! A call, by its contract. -/

def Fn (P : Program) (fid : FuncId) (args : List Value) (f : Frag) (A : List HP) (R : Value → Frag → List HP → Prop) : Prop :=
  ∀ base w, Sat base w f A → Calls P fid args.toArray w fun e w' => ∃ v f' A', e = .returned v ∧ R v f' A' ∧ Sat base w' f' A'

theorem Fn.mono {fid : FuncId} {args : List Value} {R R' : Value → Frag → List HP → Prop} (h : Fn P fid args f A R) (hr : ∀ v f' A', R v f' A' → R' v f' A') : Fn P fid args f A R' :=
  fun base w s => (h base w s).mono fun _ _ ⟨v, f', A', e, r, s'⟩ => ⟨v, f', A', e, hr _ _ _ r, s'⟩

theorem H.call {fid : FuncId} {xs : List Operand} {vs : List Value} {ats : Array TypeId} {R : Value → Frag → List HP → Prop} [hfun : Fun P fid] (hw : want? l L gd = true) (hd : Nat.ble (d + 1) n = true)
    (hx : evs? L xs = some vs) (hc : Fn P fid vs f A R)
    (k : ∀ v f' A', R v f' A' → H P base n ((d, v) :: L) f' A' (.ops l rest q)) :
    H P base n L f A (.ops l (⟨some d, .call ⟨.value (.func fid), xs.toArray, ats⟩, ty, pos, af, gd⟩ :: rest) q) := .mk fun a w hf s => by
  show wpList P l.toArray (q.den P) _ a w
  unfold wpList
  rw [if_pos (hf.want (o := ⟨some d, _, ty, pos, af, gd⟩) hw)]
  refine .inl ?_
  have hrun := run_enter (P := P) (dd := some d) (ats := ats) (ty := ty) (pos := pos) (af := af) (gd := gd) (w := w) a (fid := fid) (hf.evals hx)
  simp only [Oper.wp, hrun, Oper.upon]
  refine (hc base w s).mono ?_
  rintro e w' ⟨v, f', A', rfl, hr, s'⟩
  exact (k v f' A' hr).out _ _ (hf.put (Nat.le_of_ble_eq_true hd) v) s'
theorem H.call0 {fid : FuncId} {xs : List Operand} {vs : List Value} {ats : Array TypeId} {R : Value → Frag → List HP → Prop} [hfun : Fun P fid] (hw : want? l L gd = true)
    (hx : evs? L xs = some vs) (hc : Fn P fid vs f A R)
    (k : ∀ v f' A', R v f' A' → H P base n L f' A' (.ops l rest q)) :
    H P base n L f A (.ops l (⟨none, .call ⟨.value (.func fid), xs.toArray, ats⟩, ty, pos, af, gd⟩ :: rest) q) := .mk fun a w hf s => by
  show wpList P l.toArray (q.den P) _ a w
  unfold wpList
  rw [if_pos (hf.want (o := ⟨none, _, ty, pos, af, gd⟩) hw)]
  refine .inl ?_
  have hrun := run_enter (P := P) (dd := none) (ats := ats) (ty := ty) (pos := pos) (af := af) (gd := gd) (w := w) a (fid := fid) (hf.evals hx)
  simp only [Oper.wp, hrun, Oper.upon]
  refine (hc base w s).mono ?_
  rintro e w' ⟨v, f', A', rfl, hr, s'⟩
  exact (k v f' A' hr).out _ _ hf s'

/-! A body. -/

def FnPost (P : Program) (fn : Func) (base : World) (R : Value → Frag → List HP → Prop) : Exit → Act → World → Prop :=
  bodyPost P fn fun e w' => ∃ v f' A', e = .returned v ∧ R v f' A' ∧ Sat base w' f' A'

def envOf : Nat → List Value → Env
  | _, [] => []
  | i, v :: r => (i, v) :: envOf (i + 1) r
theorem look?_envOf : ∀ (vs : List Value) (k i : Nat) (v : Value), look? (envOf k vs) i = some v → k ≤ i ∧ vs[i - k]? = some v
  | [], k, i, v, h => by simp [envOf, look?] at h
  | u :: r, k, i, v, h => by
    simp only [envOf] at h
    rw [look?_cons] at h
    by_cases e : k = i
    · subst e; simp at h; subst h; simp
    · simp [e] at h
      obtain ⟨h1, h2⟩ := look?_envOf r (k + 1) i v h
      refine ⟨by omega, ?_⟩
      have : i - k = (i - (k + 1)) + 1 := by omega
      rw [this]; simpa using h2

theorem Fn.enter {fid : FuncId} {fn : Func} {c : Code} {m : Nat} {args : List Value} {R : Value → Frag → List HP → Prop} (hf : P.funcs[fid]? = some fn) (hb : fn.body = some c) (hn : fn.ntmps = m) (hl : Nat.ble args.length m = true) {L : Env} (hL : SubE (envOf 0 args) L)
    (h : ∀ base, H P base m L f A (.code c (.fn (FnPost P fn base R)))) : Fn P fid args f A R := fun base w s => by
  have hl' := Nat.le_of_ble_eq_true hl
  refine calls_of_wp hf hb ?_
  refine (h base).out _ w ⟨by simp [hn]; omega, rfl, fun i v hi => ?_⟩ s
  obtain ⟨_, h2⟩ := look?_envOf args 0 i v (hL.get i v hi)
  simp only [Nat.sub_zero] at h2
  have hlt : i < args.length := by
    rcases Nat.lt_or_ge i args.length with h | h
    · exact h
    · simp [List.getElem?_eq_none h] at h2
  rw [Array.getElem?_append_left (by simpa using hlt)]
  simpa using h2

theorem H.ret1 {fn : Func} {R : Value → Frag → List HP → Prop} {t : Nat} {v : Value} {A' : List HP} (hr : fn.results = #[.tmp t]) (hv : look? L t = some v) (hA : ∀ x, stars A x → stars A' x) (h : R v f A') : H P base n L f A (.out .ret (.fn (FnPost P fn base R))) := .mk fun a w hf s => by
  show bodyPost P fn (fun e w' => ∃ v f' A', e = .returned v ∧ R v f' A' ∧ Sat base w' f' A') .ret a w
  exact bodyPost_ret (by rw [results_tmp hr]) hf.defers ⟨v, f, A', by simp [hf.get t v hv], h, s.imp hA⟩
theorem H.ret2 {fn : Func} {R : Value → Frag → List HP → Prop} {t u : Nat} {v x : Value} {A' : List HP} (hr : fn.results = #[.tmp t, .tmp u]) (hv : look? L t = some v) (hx : look? L u = some x) (hA : ∀ x, stars A x → stars A' x) (h : R (.tuple #[v, x]) f A') : H P base n L f A (.out .ret (.fn (FnPost P fn base R))) := .mk fun a w hf s => by
  show bodyPost P fn (fun e w' => ∃ v f' A', e = .returned v ∧ R v f' A' ∧ Sat base w' f' A') .ret a w
  exact bodyPost_ret (by rw [results_tmp2 hr]) hf.defers ⟨_, f, A', by simp [hf.get t v hv, hf.get u x hx], h, s.imp hA⟩
theorem H.ret0 {fn : Func} {R : Value → Frag → List HP → Prop} {A' : List HP} (hr : fn.results = #[]) (hA : ∀ x, stars A x → stars A' x) (h : R (.tuple #[]) f A') : H P base n L f A (.out .ret (.fn (FnPost P fn base R))) := .mk fun a w hf s => by
  show bodyPost P fn (fun e w' => ∃ v f' A', e = .returned v ∧ R v f' A' ∧ Sat base w' f' A') .ret a w
  exact bodyPost_ret (by rw [results_none hr]) hf.defers ⟨_, f, A', rfl, h, s.imp hA⟩
theorem H.end0 {fn : Func} {R : Value → Frag → List HP → Prop} {A' : List HP} (hr : fn.results = #[]) (hA : ∀ x, stars A x → stars A' x) (h : R (.tuple #[]) f A') : H P base n L f A (.out .normal (.fn (FnPost P fn base R))) := .mk fun a w hf s => by
  show bodyPost P fn (fun e w' => ∃ v f' A', e = .returned v ∧ R v f' A' ∧ Sat base w' f' A') .normal a w
  exact bodyPost_end (by rw [results_none hr]) hf.defers ⟨_, f, A', rfl, h, s.imp hA⟩
end rules
end Go.Proofs.Ytfplfddobjbbnaa
