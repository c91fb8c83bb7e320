/- The engine, part g: literals (structs, arrays, slices), slice expressions, '== nil' at slices and maps, other conversions. No program in sight; no conditions. -/
import Derived.Test.YtfplfddobjbbnaaEf
namespace Go.Proofs.Ytfplfddobjbbnaa
set_option linter.unusedSectionVars false
set_option linter.unusedSimpArgs false
set_option linter.unusedVariables false
open Go

def cellsL : Value → List Value
  | .agg cs => cs.toList
  | v => [v]
def spl : List Value → Nat → List Value → List Value
  | cs, 0, [] => cs
  | _ :: cs, 0, v :: vs => v :: spl cs 0 vs
  | c :: cs, n + 1, vs => c :: spl cs n vs
  | [], _, _ => []
def fillL (place : Nat → Option (Nat × Nat)) : List Value → List (Nat × Value) → Option (List Value)
  | cs, [] => some cs
  | cs, (i, v) :: r => match place i with
    | none => none
    | some (off, size) => match Nat.beq (cellsL v).length size && Nat.ble (off + size) cs.length with
      | true => fillL place (spl cs off (cellsL v)) r
      | false => none

theorem cellsL_eq (v : Value) : v.cells.toList = cellsL v := by cases v <;> rfl

theorem spl_get : ∀ (cs : List Value) (off : Nat) (vs : List Value), off + vs.length ≤ cs.length → ∀ i, (spl cs off vs)[i]? = if off ≤ i ∧ i < off + vs.length then vs[i - off]? else cs[i]?
  | [], off, vs, h, i => by
    have h' : off + vs.length ≤ 0 := h
    have h1 : off = 0 := by omega
    have h2 : vs = [] := List.eq_nil_of_length_eq_zero (by omega)
    subst h1; subst h2; simp [spl]
  | c :: cs, 0, [], _, i => by simp [spl]
  | c :: cs, 0, v :: vs, h, i => by
    simp only [List.length_cons] at h
    cases i with
    | zero => simp [spl]
    | succ i =>
      simp only [spl, List.getElem?_cons_succ]
      rw [spl_get cs 0 vs (by omega) i]
      simp
  | c :: cs, off + 1, vs, h, i => by
    simp only [List.length_cons] at h
    cases i with
    | zero => simp [spl]
    | succ i =>
      simp only [spl, List.getElem?_cons_succ]
      rw [spl_get cs off vs (by omega) i]
      have e1 : (off + 1 ≤ i + 1 ∧ i + 1 < off + 1 + vs.length) ↔ (off ≤ i ∧ i < off + vs.length) := by omega
      simp only [e1, Nat.reduceSubDiff]
theorem spl_length : ∀ (cs : List Value) (off : Nat) (vs : List Value), off + vs.length ≤ cs.length → (spl cs off vs).length = cs.length
  | [], off, vs, h => by
    have h' : off + vs.length ≤ 0 := h
    have h1 : off = 0 := by omega
    have h2 : vs = [] := List.eq_nil_of_length_eq_zero (by omega)
    subst h1; subst h2; rfl
  | c :: cs, 0, [], _ => rfl
  | c :: cs, 0, v :: vs, h => by simp only [List.length_cons] at h; simp [spl, spl_length cs 0 vs (by omega)]
  | c :: cs, off + 1, vs, h => by simp only [List.length_cons] at h; simp [spl, spl_length cs off vs (by omega)]
theorem spl_splice (cs : List Value) (off : Nat) (vs : List Value) (h : off + vs.length ≤ cs.length) : spl cs off vs = splice cs off vs := by
  apply List.ext_getElem?
  intro i
  rw [spl_get cs off vs h]
  unfold splice
  simp only [List.getElem?_append, List.length_append, List.length_take, List.getElem?_take, List.getElem?_drop]
  have e : min off cs.length = off := by omega
  rw [e]
  by_cases c1 : i < off
  · simp [c1, show ¬ off ≤ i by omega, show i < off + vs.length by omega]
  · by_cases c2 : i < off + vs.length
    · simp [c1, c2, show off ≤ i by omega]
    · have : off + vs.length + (i - (off + vs.length)) = i := by omega
      simp [c2, this]

theorem fold_spl (off : Nat) : ∀ (vs : List Value) (k : Nat) (cs : List Value), off + k + vs.length ≤ cs.length →
    (vs.zipIdx k).foldl (fun (cs : Array Value) (x : Value × Nat) => cs.setIfInBounds (off + x.2) x.1) cs.toArray = (splice cs (off + k) vs).toArray
  | [], k, cs, _ => by simp [splice_nil]
  | v :: vs, k, cs, h => by
    simp only [List.length_cons] at h
    simp only [List.zipIdx_cons, List.foldl_cons]
    have e : (cs.toArray.setIfInBounds (off + k) v) = (cs.set (off + k) v).toArray := by simp
    rw [e, fold_spl off vs (k + 1) _ (by simp; omega), ← splice_cons cs (off + k) v vs (by omega)]
    rfl

theorem fill_eq (place : Nat → Option (Nat × Nat)) : ∀ (parts : List (Nat × Value)) (cs out : List Value), fillL place cs parts = some out →
    Instr.fill place cs.toArray parts = some out.toArray
  | [], cs, out, h => by simp [fillL] at h; simp [Instr.fill, h]
  | (i, v) :: r, cs, out, h => by
    simp only [fillL] at h
    unfold Instr.fill
    cases hp : place i with
    | none => rw [hp] at h; cases h
    | some os =>
      obtain ⟨off, size⟩ := os
      rw [hp] at h
      simp only at h ⊢
      split at h
      · rename_i hb
        simp only [Bool.and_eq_true] at hb
        have h1 : (cellsL v).length = size := Nat.eq_of_beq_eq_true hb.1
        have h2 : off + size ≤ cs.length := Nat.le_of_ble_eq_true hb.2
        have h3 : v.cells.size = size := by rw [← h1, ← cellsL_eq]; simp
        have hc : ¬ (v.cells.size ≠ size ∨ off + v.cells.size > cs.toArray.size) := by rw [h3]; simp; omega
        simp only [Bool.or_eq_true, decide_eq_true_eq, ne_eq, hc, if_false]
        have hf : v.cells.zipIdx.foldl (fun (cs : Array Value) (x : Value × Nat) => cs.setIfInBounds (off + x.2) x.1) cs.toArray = (spl cs off (cellsL v)).toArray := by
          rw [spl_splice _ _ _ (by omega), ← cellsL_eq]
          have e := fold_spl off v.cells.toList 0 cs (by simp [h3]; omega)
          rw [Nat.add_zero] at e
          rw [← e, ← Array.foldl_toList]
          congr 1
          rw [Array.toList_zipIdx]
        have e2 : ∀ (a : Array Value), (v.cells.zipIdx.foldl (fun cs (x : Value × Nat) => match x with | (c, j) => cs.setIfInBounds (off + j) c) a) = v.cells.zipIdx.foldl (fun (cs : Array Value) (x : Value × Nat) => cs.setIfInBounds (off + x.2) x.1) a := fun a => rfl
        rw [e2, hf]
        exact fill_eq place r _ _ h
      · cases h

/-- Where the fields of a struct type lie. -/
class Plc (P : Program) (t : TypeId) (pl : outParam (List (Nat × Nat))) : Prop where
  eq : ∀ (fs : Array Field) (w : World), P.underlying t = some (.struct fs) → (fs.mapM fun (f : Field) => do pure (f.offset, ← sizeOf f.type)).run P w = .ok pl.toArray w

def nthP : List (Nat × Nat) → Nat → Option (Nat × Nat)
  | [], _ => none
  | v :: _, 0 => some v
  | _ :: r, i + 1 => nthP r i
theorem nthP_eq : ∀ (l : List (Nat × Nat)) (i : Nat), nthP l i = l[i]?
  | [], i => by simp [nthP]
  | o :: r, 0 => by simp [nthP]
  | o :: r, i + 1 => by simp [nthP, nthP_eq r i]
def evP (L : Env) : List (Nat × Operand) → Option (List (Nat × Value))
  | [] => some []
  | (i, x) :: r => (ev? L x).bind fun v => (evP L r).bind fun vs => some ((i, v) :: vs)
theorem Fr.evP {n : Nat} {a : Act} {L : Env} (h : Fr n a L) : ∀ {xs : List (Nat × Operand)} {vs : List (Nat × Value)}, evP L xs = some vs → xs.map (fun p => (p.1, a.eval p.2)) = vs
  | [], vs, hx => by simp [Proofs.Ytfplfddobjbbnaa.evP] at hx; simp [hx]
  | (i, x) :: xs, vs, hx => by
    simp only [Proofs.Ytfplfddobjbbnaa.evP, Option.bind_eq_some_iff, Option.some.injEq] at hx
    obtain ⟨v, hv, us, hus, rfl⟩ := hx
    simp [h.eval hv, h.evP hus]

/-- The cells of n elements, all zero. -/
def zeros (z : List Value) : Nat → List Value
  | 0 => []
  | n + 1 => z ++ zeros z n
theorem zeros_length (z : List Value) (n : Nat) : (zeros z n).length = n * z.length := by
  induction n with
  | zero => simp [zeros]
  | succ n ih => simp [zeros, ih, Nat.add_mul, Nat.add_comm]
theorem zeros_get (z : List Value) : ∀ (n i : Nat), i < n * z.length → (zeros z n)[i]? = z[i % z.length]?
  | 0, i, h => by simp at h
  | n + 1, i, h => by
    simp only [zeros]
    by_cases c : i < z.length
    · rw [List.getElem?_append_left c, Nat.mod_eq_of_lt c]
    · rw [List.getElem?_append_right (by omega), zeros_get z n _ (by rw [Nat.add_mul, Nat.one_mul] at h; omega), Nat.mod_eq_sub_mod (a := i) (by omega)]
theorem zeros_array (z : List Value) (n : Nat) (hz : 0 < z.length) : ((Array.range (n * z.length)).map (z.toArray[· % z.toArray.size]!)) = (zeros z n).toArray := by
  apply Array.ext_getElem?
  intro i
  by_cases h : i < n * z.length
  · have := Nat.mod_lt i hz
    simp [h, zeros_get z n i h, this]
  · simp [h, List.getElem?_eq_none (show (zeros z n).length ≤ i by rw [zeros_length]; omega)]

section rules
variable {P : Program} {base : World} {n : Nat} {L : Env} {f : Frag} {A : List HP} {q : Post}
variable {l rest : List Oper} {d : Nat} {ty : TypeId} {pos : String} {af : Array Edge} {gd : Option (Nat × Bool)}

theorem H.build {t : TypeId} {ps : List (Nat × Operand)} {vs : List (Nat × Value)} {fs : List Field} {pl : List (Nat × Nat)} {z : Value} {zs out : List Value} [hu : Und P t (.struct fs.toArray)] [hpl : Plc P t pl] [hz : Zer P t z] (hw : want? l L gd = true)
    (hx : evP L ps = some vs) (hzs : cellsL z = zs) (ho : fillL (nthP pl) zs vs = some out) (hd : Nat.ble (d + 1) n = true)
    (k : H P base n ((d, .agg out.toArray) :: L) f A (.ops l rest q)) : H P base n L f A (.ops l (⟨some d, .build t ps.toArray, ty, pos, af, gd⟩ :: rest) q) :=
  H.opV hw hd (fun a w hfr _ => by
    subst hzs
    have h1 := hpl.eq fs.toArray w hu.eq
    have h2 := fill_eq _ _ _ _ ho
    have h3 : (fun i => pl.toArray[i]?) = nthP pl := by funext i; rw [nthP_eq]; simp
    have h4 : z.cells = (cellsL z).toArray := by rw [← cellsL_eq]
    have h5 : (ps.toArray.map fun x : Nat × Operand => (x.1, a.eval x.2)).toList = vs := by rw [List.map_toArray]; exact hfr.evP hx
    show Sem.run P (Instr.build t (ps.toArray.map fun x => (x.1, a.eval x.2)) >>= fun v => pure (Next.value v)) w = _
    unfold Instr.build
    simp only [Sem.run_bind, hz.run, Result.andThen_ok, hu.run, h1, h3, h4, h5, h2, Sem.run_pure]) k
theorem H.buildA {t e : TypeId} {len sz : Nat} {ps : List (Nat × Operand)} {vs : List (Nat × Value)} {z : Value} {zs out : List Value} [hu : Und P t (.array len e)] [hsz : Siz P e sz] [hz : Zer P t z] (hw : want? l L gd = true)
    (hx : evP L ps = some vs) (hzs : cellsL z = zs) (ho : fillL (fun i => some (i * sz, sz)) zs vs = some out) (hd : Nat.ble (d + 1) n = true)
    (k : H P base n ((d, .agg out.toArray) :: L) f A (.ops l rest q)) : H P base n L f A (.ops l (⟨some d, .build t ps.toArray, ty, pos, af, gd⟩ :: rest) q) :=
  H.opV hw hd (fun a w hfr _ => by
    subst hzs
    have h2 := fill_eq _ _ _ _ ho
    have h4 : z.cells = (cellsL z).toArray := by rw [← cellsL_eq]
    have h5 : (ps.toArray.map fun x : Nat × Operand => (x.1, a.eval x.2)).toList = vs := by rw [List.map_toArray]; exact hfr.evP hx
    show Sem.run P (Instr.build t (ps.toArray.map fun x => (x.1, a.eval x.2)) >>= fun v => pure (Next.value v)) w = _
    unfold Instr.build
    simp only [Sem.run_bind, hz.run, Result.andThen_ok, hu.run, hsz.run, h4, h5, h2, Sem.run_pure]) k

theorem H.buildSlice {t e : TypeId} {len sz : Nat} {ps : List (Nat × Operand)} {vs : List (Nat × Value)} {z : Value} {zs out : List Value} [hu : Und P t (.slice e)] [hsz : Siz P e sz] [hz : Zer P e z] (hw : want? l L gd = true)
    (hx : evP L ps = some vs) (hzs : cellsL z = zs) (h0 : zs.length = sz) (h1 : 0 < sz) (hlen : len * sz ≤ 16777216) (ho : fillL (fun i => some (i * sz, sz)) (zeros zs len) vs = some out) (hd : Nat.ble (d + 1) n = true)
    (k : ∀ b, H P base n ((d, .slice (some ⟨b, 0, none⟩) len len) :: L) f (row b e out :: A) (.ops l rest q)) : H P base n L f A (.ops l (⟨some d, .buildSlice t len ps.toArray, ty, pos, af, gd⟩ :: rest) q) :=
  H.opE (fun b => .slice (some ⟨b, 0, none⟩) len len) (fun _ => f) (fun b => row b e out :: A) (fun _ => True) hw hd (fun a w hfr s => by
    subst hzs; subst h0
    have h2 := fill_eq _ _ _ _ ho
    have h4 : z.cells = (cellsL z).toArray := by rw [← cellsL_eq]
    have h5 : (ps.toArray.map fun x : Nat × Operand => (x.1, a.eval x.2)).toList = vs := by rw [List.map_toArray]; exact hfr.evP hx
    have h6 : ¬ (len * (cellsL z).length > 2 ^ 24) := by omega
    refine ⟨w.heap.size, w.alloc (.cells out.toArray e (0, 0)), trivial, ?_, s.alloc rfl rfl rfl rfl⟩
    show Sem.run P (Instr.buildSlice t len (ps.toArray.map fun x => (x.1, a.eval x.2)) >>= fun v => pure (Next.value v)) w = _
    unfold Instr.buildSlice newRow
    by_cases c : len * (cellsL z).length = 0
    · have c0 : len = 0 := by
        rcases Nat.mul_eq_zero.1 c with h | h
        · exact h
        · omega
      subst c0
      have e0 : (Array.range (0 * (cellsL z).length)).map ((#[] : Array Value)[· % (#[] : Array Value).size]!) = (zeros (cellsL z) 0).toArray := by simp [zeros]
      simp only [Sem.run_bind, hu.run, hsz.run, Result.andThen_ok, if_neg h6, if_pos c, Sem.run_pure, e0, h5, h2, run_newObj]
      rfl
    · have e1 := zeros_array (cellsL z) len h1
      simp only [Sem.run_bind, hu.run, hsz.run, hz.run, Result.andThen_ok, if_neg h6, if_neg c, Sem.run_pure, h4, e1, h5, h2, run_newObj]
      rfl) (fun b _ => k b)

def slP (p : Option Addr) (l m sz : Nat) : Option Addr := if m = l then p else p.map (·.add (l * sz))
def bnd (L : Env) (o : Option Operand) (i dflt : Nat) : Prop := match o with
  | none => i = dflt
  | some x => ∃ k z, ev? L x = some (.int k z) ∧ z = (i : Nat)

theorem run_bound {w : World} {k : IntKind} {i y : Nat} {c : BoundsCode} (h : i ≤ y) : (Instr.sliceBound (.int k (i : Nat)) y c).run P w = .ok i w := by
  unfold Instr.sliceBound
  have : (0 : Int) ≤ i ∧ (i : Int) ≤ y := by omega
  simp [asIntOf, h]
theorem run_bounds {w : World} {a : Act} (hfr : Fr n a L) {lo hi mx : Option Operand} {lv hv mv len cap : Nat} {isS : Bool} (h1 : bnd L lo lv 0) (h2 : bnd L hi hv len) (h3 : bnd L mx mv cap) (hmx : mx.isSome → hi.isSome)
    (a1 : lv ≤ hv) (a2 : hv ≤ mv) (a3 : mv ≤ cap) : (Instr.sliceBounds isS len cap (lo.map a.eval) (hi.map a.eval) (mx.map a.eval)).run P w = .ok (lv, hv, mv) w := by
  unfold Instr.sliceBounds
  cases lo with
  | none =>
    cases hi with
    | none =>
      cases mx with
      | none => simp only [bnd] at h1 h2 h3; subst h1; subst h2; subst h3; simp
      | some m => simp at hmx
    | some hh =>
      obtain ⟨kh, zh, eh, rfl⟩ := h2
      simp only [bnd] at h1; subst h1
      cases mx with
      | none => simp only [bnd] at h3; subst h3; simp [hfr.eval eh, run_bound a2]
      | some m =>
        obtain ⟨km, zm, em, rfl⟩ := h3
        simp [hfr.eval eh, hfr.eval em, run_bound a2, run_bound a3]
  | some ll =>
    obtain ⟨kl, zl, el, rfl⟩ := h1
    cases hi with
    | none =>
      cases mx with
      | none => simp only [bnd] at h2 h3; subst h2; subst h3; simp [hfr.eval el, run_bound a1]
      | some m => simp at hmx
    | some hh =>
      obtain ⟨kh, zh, eh, rfl⟩ := h2
      cases mx with
      | none => simp only [bnd] at h3; subst h3; simp [hfr.eval eh, hfr.eval el, run_bound a2, run_bound a1]
      | some m =>
        obtain ⟨km, zm, em, rfl⟩ := h3
        simp [hfr.eval eh, hfr.eval em, hfr.eval el, run_bound a2, run_bound a3, run_bound a1]

/-- 'x[lo:hi:mx]' at a slice. -/
theorem H.slice {t e : TypeId} {x : Operand} {lo hi mx : Option Operand} {p : Option Addr} {len cap lv hv mv sz : Nat} [hu : Und P t (.slice e)] [hs : Siz P e sz] (hw : want? l L gd = true)
    (hx : ev? L x = some (.slice p len cap)) (h1 : bnd L lo lv 0) (h2 : bnd L hi hv len) (h3 : bnd L mx mv cap) (hmx : mx.isSome → hi.isSome) (a1 : lv ≤ hv) (a2 : hv ≤ mv) (a3 : mv ≤ cap) (hd : Nat.ble (d + 1) n = true)
    (k : H P base n ((d, .slice (slP p lv mv sz) (hv - lv) (mv - lv)) :: L) f A (.ops l rest q)) : H P base n L f A (.ops l (⟨some d, .slice t x lo hi mx, ty, pos, af, gd⟩ :: rest) q) :=
  H.opV hw hd (fun a w hfr _ => by
    have hb := run_bounds (P := P) (w := w) (isS := true) hfr h1 h2 h3 hmx a1 a2 a3
    show Sem.run P (Instr.sliceAt t (a.eval x) (lo.map a.eval) (hi.map a.eval) (mx.map a.eval) >>= fun v => pure (Next.value v)) w = _
    unfold Instr.sliceAt Instr.slice
    simp only [Sem.run_bind, hu.run, Result.andThen_ok, hfr.eval hx, hb, hs.run, Sem.run_pure, slP]) k
/-- 'x[lo:hi:mx]' at an array. -/
theorem H.sliceArr {t e : TypeId} {x : Operand} {lo hi mx : Option Operand} {b off len lv hv mv sz : Nat} [hu : Und P t (.array len e)] [hs : Siz P e sz] (hw : want? l L gd = true)
    (hx : ev? L x = some (.pointer (some ⟨b, off, none⟩))) (h1 : bnd L lo lv 0) (h2 : bnd L hi hv len) (h3 : bnd L mx mv len) (hmx : mx.isSome → hi.isSome) (a1 : lv ≤ hv) (a2 : hv ≤ mv) (a3 : mv ≤ len) (hd : Nat.ble (d + 1) n = true)
    (k : H P base n ((d, .slice (slP (some ⟨b, off, none⟩) lv mv sz) (hv - lv) (mv - lv)) :: L) f A (.ops l rest q)) : H P base n L f A (.ops l (⟨some d, .slice t x lo hi mx, ty, pos, af, gd⟩ :: rest) q) :=
  H.opV hw hd (fun a w hfr _ => by
    have hb := run_bounds (P := P) (w := w) (isS := false) hfr h1 h2 h3 hmx a1 a2 a3
    show Sem.run P (Instr.sliceAt t (a.eval x) (lo.map a.eval) (hi.map a.eval) (mx.map a.eval) >>= fun v => pure (Next.value v)) w = _
    unfold Instr.sliceAt
    simp only [Sem.run_bind, hu.run, Result.andThen_ok, hfr.eval hx, hb, hs.run, Sem.run_pure, slP, Instr.sureAddr]
    split <;> rfl) k

theorem run_equal_sn {t e : TypeId} (hu : Und P t (.slice e)) (p : Option Addr) (m c : Nat) (w : World) : (Op.equal t (.slice p m c) (.slice none 0 0)).run P w = .ok p.isNone w := by
  have h : ∀ d, (Op.equalIn (d + 1) t (.slice p m c) (.slice none 0 0)).run P w = .ok p.isNone w := fun d => by
    cases p <;> simp [Op.equalIn, hu.run]
  exact h 9999
theorem run_guard_slice (op : BinOp) (t : TypeId) (x y : Operand) (p : Option Addr) (m c : Nat) (w : World) : (eqGuard op t x y (.slice p m c) (.slice none 0 0)).run P w = .ok () w := by
  cases op <;> rfl
theorem H.sliceNil {op : BinOp} {xt yt e : TypeId} {x y : Operand} {p : Option Addr} {m c : Nat} {b : Bool} [hu : Und P xt (.slice e)] (hw : want? l L gd = true) (hx : ev? L x = some (.slice p m c)) (hy : ev? L y = some (.slice none 0 0)) (hb : nilP op p = some b) (hd : Nat.ble (d + 1) n = true)
    (kk : H P base n ((d, .bool b) :: L) f A (.ops l rest q)) : H P base n L f A (.ops l (⟨some d, .binOp op xt x y yt, ty, pos, af, gd⟩ :: rest) q) :=
  H.opV hw hd (fun a w hf _ => by
    refine run_bin _ ?_ ?_
    · rw [hf.eval hx, hf.eval hy]; exact run_guard_slice _ _ _ _ _ _ _ _
    · rw [hf.eval hx, hf.eval hy]
      have e1 : Sem.run P (do pure (Value.bool (← Op.equal xt (.slice p m c) (.slice none 0 0)))) w = .ok (.bool p.isNone) w := by simp [run_equal_sn hu]
      have e2 : Sem.run P (do pure (Value.bool (!(← Op.equal xt (.slice p m c) (.slice none 0 0))))) w = .ok (.bool (!p.isNone)) w := by simp [run_equal_sn hu]
      cases op <;> cases p <;> simp only [nilP, Option.some.injEq, reduceCtorEq] at hb <;> subst hb <;> first | exact e1 | exact e2) kk
end rules
end Go.Proofs.Ytfplfddobjbbnaa
