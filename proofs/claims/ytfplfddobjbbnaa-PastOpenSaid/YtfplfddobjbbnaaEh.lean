/- The engine, part h: small laws: wraps, opening and closing what is owned. No program in sight; no conditions. -/
import Derived.Test.YtfplfddobjbbnaaEg
import Derived.IntWalk
namespace Go.Proofs.Ytfplfddobjbbnaa
set_option linter.unusedSectionVars false
set_option linter.unusedSimpArgs false
set_option linter.unusedVariables false
open Go

theorem wr_i64 {z : Int} (h : -9223372036854775808 ≤ z ∧ z ≤ 9223372036854775807) : IntKind.i64.wrap z = z := IntWalk.i64_in z h
theorem wr_u64 {z : Int} (h : 0 ≤ z ∧ z ≤ 18446744073709551615) : IntKind.u64.wrap z = z := IntWalk.u64_in z h
theorem wr_u8 {z : Int} (h : 0 ≤ z ∧ z ≤ 255) : IntKind.u8.wrap z = z := IntWalk.u8_in z h
theorem wr_u16 {z : Int} (h : 0 ≤ z ∧ z ≤ 65535) : IntKind.u16.wrap z = z := IntWalk.u16_in z h
theorem wr_u32 {z : Int} (h : 0 ≤ z ∧ z ≤ 4294967295) : IntKind.u32.wrap z = z := IntWalk.u32_in z h
theorem wr_i64_nn {a b : Nat} (h : a + b ≤ 9223372036854775807) : IntKind.i64.wrap ((a : Int) + (b : Int)) = ((a + b : Nat) : Int) := by
  rw [wr_i64 (by omega)]; omega
theorem wr_i64_n1 {a : Nat} (h : a + 1 ≤ 9223372036854775807) : IntKind.i64.wrap ((a : Int) + 1) = ((a + 1 : Nat) : Int) := by
  rw [wr_i64 (by omega)]; omega
theorem wr_i64_s1 {a : Nat} (h : a ≤ 9223372036854775807) : IntKind.i64.wrap (((a + 1 : Nat) : Int) - 1) = (a : Int) := by
  rw [wr_i64 (by omega)]; omega
theorem wr_u64_n1 {a : Nat} (h : a + 1 ≤ 18446744073709551615) : IntKind.u64.wrap ((a : Int) + 1) = ((a + 1 : Nat) : Int) := by
  rw [wr_u64 (by omega)]; omega

theorem fold_stars {p : HP} {B A : List HP} (h : ∀ x, stars B x → p x) : ∀ x, stars (B ++ A) x → stars (p :: A) x := by
  intro x hx
  rw [stars_append] at hx
  obtain ⟨m1, m2, d, e, a, b⟩ := hx
  exact ⟨m1, m2, d, e, h m1 a, b⟩
theorem unfold_stars {p : HP} {B A : List HP} (h : ∀ x, p x → stars B x) : ∀ x, stars (p :: A) x → stars (B ++ A) x := by
  rintro x ⟨m1, m2, d, e, a, b⟩
  rw [stars_append]
  exact ⟨m1, m2, d, e, h m1 a, b⟩
theorem keep_stars {p : HP} {B A : List HP} (h : ∀ x, stars B x → stars A x) : ∀ x, stars (p :: B) x → stars (p :: A) x := by
  rintro x ⟨m1, m2, d, e, a, b⟩
  exact ⟨m1, m2, d, e, a, h m2 b⟩
theorem pull_stars {p : HP} {B A : List HP} (h : Pull B p A) : ∀ x, stars B x → stars (p :: A) x := by
  intro x hx; rw [h.eq] at hx; exact hx
theorem stars_two {p q : HP} {A : List HP} {x : Frag} : stars (p :: q :: A) x → stars (q :: p :: A) x := by
  intro h; exact pull_stars (.there _ (.here _ _)) x h

theorem Fn.unfold {P : Program} {fid : FuncId} {args : List Value} {f : Frag} {A : List HP} {R : Value → Frag → List HP → Prop} {p : HP} {ι : Sort _} {B : ι → List HP} (hp : ∀ h, p h → ∃ i, stars (B i) h)
    (k : ∀ i, Fn P fid args f (B i ++ A) R) : Fn P fid args f (p :: A) R := fun base w s => by
  obtain ⟨a1, a2, a3, a4, a5, m, ⟨m1, m2, d, e, a, b⟩, hd, hw⟩ := s
  obtain ⟨i, hi⟩ := hp m1 a
  exact k i base w ⟨a1, a2, a3, a4, a5, m, by rw [stars_append]; exact ⟨m1, m2, d, e, hi, b⟩, hd, hw⟩
theorem H.unfold {P : Program} {base : World} {n : Nat} {L : Env} {f : Frag} {A : List HP} {K : Kont} {p : HP} {ι : Sort _} {B : ι → List HP} (hp : ∀ h, p h → ∃ i, stars (B i) h)
    (k : ∀ i, H P base n L f (B i ++ A) K) : H P base n L f (p :: A) K := .mk fun a w hf s => by
  obtain ⟨a1, a2, a3, a4, a5, m, ⟨m1, m2, d, e, aa, b⟩, hd, hw⟩ := s
  obtain ⟨i, hi⟩ := hp m1 aa
  exact (k i).out a w hf ⟨a1, a2, a3, a4, a5, m, by rw [stars_append]; exact ⟨m1, m2, d, e, hi, b⟩, hd, hw⟩
theorem Fn.imp {P : Program} {fid : FuncId} {args : List Value} {f : Frag} {A A' : List HP} {R : Value → Frag → List HP → Prop} (hx : ∀ x, stars A x → stars A' x) (k : Fn P fid args f A' R) : Fn P fid args f A R := fun base w s => k base w (s.imp hx)
theorem Fn.front {P : Program} {fid : FuncId} {args : List Value} {f : Frag} {A A' : List HP} {x : HP} {R : Value → Frag → List HP → Prop} (hp : Pull A x A') (k : Fn P fid args f (x :: A') R) : Fn P fid args f A R := fun base w s => k base w (s.front hp)

section rules
variable {P : Program} {base : World} {n : Nat} {L : Env} {f : Frag} {A V : List HP} {q : Post} {ξ : Ext} {tl : List Oper}
variable {l rest : List Oper} {d : Nat} {ty : TypeId} {pos : String} {af : Array Edge} {gd : Option (Nat × Bool)}
theorem HQ.build {t : TypeId} {ps : List (Nat × Operand)} {vs : List (Nat × Value)} {fs : List Field} {pl : List (Nat × Nat)} {z : Value} {zs out : List Value} [hu : Und P t (.struct fs.toArray)] [hpl : Plc P t pl] [hz : Zer P t z] (hw : want? l L gd = true)
    (hx : evP L ps = some vs) (hzs : cellsL z = zs) (ho : fillL (nthP pl) zs vs = some out) (hd : Nat.ble (d + 1) n = true) {lst : Lst} {ti : Nat} {tt : List (Nat × Bool)}
    (k : HQ V ⟨lst.setIfInBounds ti true, tt⟩ P base n ((d, .agg out.toArray) :: L) f A (.ops l rest q)) : HQ V ⟨lst, (ti, false) :: tt⟩ P base n L f A (.ops l (⟨some d, .build t ps.toArray, ty, pos, af, gd⟩ :: rest) q) :=
  HQ.opV hw hd (fun a w hfr _ => by
    subst hzs
    have h1 := hpl.eq fs.toArray w hu.eq
    have h2 := fill_eq _ _ _ _ ho
    have h3 : (fun i => pl.toArray[i]?) = nthP pl := by funext i; rw [nthP_eq]; simp
    have h4 : z.cells = (cellsL z).toArray := by rw [← cellsL_eq]
    have h5 : (ps.toArray.map fun x : Nat × Operand => (x.1, a.eval x.2)).toList = vs := by rw [List.map_toArray]; exact hfr.evP hx
    show Sem.run P (Instr.build t (ps.toArray.map fun x => (x.1, a.eval x.2)) >>= fun v => pure (Next.value v)) w = _
    unfold Instr.build
    simp only [Sem.run_bind, hz.run, Result.andThen_ok, hu.run, h1, h3, h4, h5, h2, Sem.run_pure]) k
theorem HQ.buildA {t e : TypeId} {len sz : Nat} {ps : List (Nat × Operand)} {vs : List (Nat × Value)} {z : Value} {zs out : List Value} [hu : Und P t (.array len e)] [hsz : Siz P e sz] [hz : Zer P t z] (hw : want? l L gd = true)
    (hx : evP L ps = some vs) (hzs : cellsL z = zs) (ho : fillL (fun i => some (i * sz, sz)) zs vs = some out) (hd : Nat.ble (d + 1) n = true) {lst : Lst} {ti : Nat} {tt : List (Nat × Bool)}
    (k : HQ V ⟨lst.setIfInBounds ti true, tt⟩ P base n ((d, .agg out.toArray) :: L) f A (.ops l rest q)) : HQ V ⟨lst, (ti, false) :: tt⟩ P base n L f A (.ops l (⟨some d, .build t ps.toArray, ty, pos, af, gd⟩ :: rest) q) :=
  HQ.opV hw hd (fun a w hfr _ => by
    subst hzs
    have h2 := fill_eq _ _ _ _ ho
    have h4 : z.cells = (cellsL z).toArray := by rw [← cellsL_eq]
    have h5 : (ps.toArray.map fun x : Nat × Operand => (x.1, a.eval x.2)).toList = vs := by rw [List.map_toArray]; exact hfr.evP hx
    show Sem.run P (Instr.build t (ps.toArray.map fun x => (x.1, a.eval x.2)) >>= fun v => pure (Next.value v)) w = _
    unfold Instr.build
    simp only [Sem.run_bind, hz.run, Result.andThen_ok, hu.run, hsz.run, h4, h5, h2, Sem.run_pure]) k
theorem HQ.slice {t e : TypeId} {x : Operand} {lo hi mx : Option Operand} {p : Option Addr} {len cap lv hv mv sz : Nat} [hu : Und P t (.slice e)] [hs : Siz P e sz] (hw : want? l L gd = true)
    (hx : ev? L x = some (.slice p len cap)) (h1 : bnd L lo lv 0) (h2 : bnd L hi hv len) (h3 : bnd L mx mv cap) (hmx : mx.isSome → hi.isSome) (a1 : lv ≤ hv) (a2 : hv ≤ mv) (a3 : mv ≤ cap) (hd : Nat.ble (d + 1) n = true) {lst : Lst} {ti : Nat} {tt : List (Nat × Bool)}
    (k : HQ V ⟨lst.setIfInBounds ti true, tt⟩ P base n ((d, .slice (slP p lv mv sz) (hv - lv) (mv - lv)) :: L) f A (.ops l rest q)) : HQ V ⟨lst, (ti, false) :: tt⟩ P base n L f A (.ops l (⟨some d, .slice t x lo hi mx, ty, pos, af, gd⟩ :: rest) q) :=
  HQ.opV hw hd (fun a w hfr _ => by
    have hb := run_bounds (P := P) (w := w) (isS := true) hfr h1 h2 h3 hmx a1 a2 a3
    show Sem.run P (Instr.sliceAt t (a.eval x) (lo.map a.eval) (hi.map a.eval) (mx.map a.eval) >>= fun v => pure (Next.value v)) w = _
    unfold Instr.sliceAt Instr.slice
    simp only [Sem.run_bind, hu.run, Result.andThen_ok, hfr.eval hx, hb, hs.run, Sem.run_pure, slP]) k
theorem HQ.sliceArr {t e : TypeId} {x : Operand} {lo hi mx : Option Operand} {b off len lv hv mv sz : Nat} [hu : Und P t (.array len e)] [hs : Siz P e sz] (hw : want? l L gd = true)
    (hx : ev? L x = some (.pointer (some ⟨b, off, none⟩))) (h1 : bnd L lo lv 0) (h2 : bnd L hi hv len) (h3 : bnd L mx mv len) (hmx : mx.isSome → hi.isSome) (a1 : lv ≤ hv) (a2 : hv ≤ mv) (a3 : mv ≤ len) (hd : Nat.ble (d + 1) n = true) {lst : Lst} {ti : Nat} {tt : List (Nat × Bool)}
    (k : HQ V ⟨lst.setIfInBounds ti true, tt⟩ P base n ((d, .slice (slP (some ⟨b, off, none⟩) lv mv sz) (hv - lv) (mv - lv)) :: L) f A (.ops l rest q)) : HQ V ⟨lst, (ti, false) :: tt⟩ P base n L f A (.ops l (⟨some d, .slice t x lo hi mx, ty, pos, af, gd⟩ :: rest) q) :=
  HQ.opV hw hd (fun a w hfr _ => by
    have hb := run_bounds (P := P) (w := w) (isS := false) hfr h1 h2 h3 hmx a1 a2 a3
    show Sem.run P (Instr.sliceAt t (a.eval x) (lo.map a.eval) (hi.map a.eval) (mx.map a.eval) >>= fun v => pure (Next.value v)) w = _
    unfold Instr.sliceAt
    simp only [Sem.run_bind, hu.run, Result.andThen_ok, hfr.eval hx, hb, hs.run, Sem.run_pure, slP, Instr.sureAddr]
    split <;> rfl) k
theorem HQ.sliceNil {op : BinOp} {xt yt e : TypeId} {x y : Operand} {p : Option Addr} {m c : Nat} {b : Bool} [hu : Und P xt (.slice e)] (hw : want? l L gd = true) (hx : ev? L x = some (.slice p m c)) (hy : ev? L y = some (.slice none 0 0)) (hb : nilP op p = some b) (hd : Nat.ble (d + 1) n = true) {lst : Lst} {ti : Nat} {tt : List (Nat × Bool)}
    (kk : HQ V ⟨lst.setIfInBounds ti true, tt⟩ P base n ((d, .bool b) :: L) f A (.ops l rest q)) : HQ V ⟨lst, (ti, false) :: tt⟩ P base n L f A (.ops l (⟨some d, .binOp op xt x y yt, ty, pos, af, gd⟩ :: rest) q) :=
  HQ.opV hw hd (fun a w hf _ => by
    refine run_bin _ ?_ ?_
    · rw [hf.eval hx, hf.eval hy]; exact run_guard_slice _ _ _ _ _ _ _ _
    · rw [hf.eval hx, hf.eval hy]
      have e1 : Sem.run P (do pure (Value.bool (← Op.equal xt (.slice p m c) (.slice none 0 0)))) w = .ok (.bool p.isNone) w := by simp [run_equal_sn hu]
      have e2 : Sem.run P (do pure (Value.bool (!(← Op.equal xt (.slice p m c) (.slice none 0 0))))) w = .ok (.bool (!p.isNone)) w := by simp [run_equal_sn hu]
      cases op <;> cases p <;> simp only [nilP, Option.some.injEq, reduceCtorEq] at hb <;> subst hb <;> first | exact e1 | exact e2) kk
theorem HS.build {t : TypeId} {ps : List (Nat × Operand)} {vs : List (Nat × Value)} {fs : List Field} {pl : List (Nat × Nat)} {z : Value} {zs out : List Value} [hu : Und P t (.struct fs.toArray)] [hpl : Plc P t pl] [hz : Zer P t z] (hw : want? l L gd = true)
    (hx : evP L ps = some vs) (hzs : cellsL z = zs) (ho : fillL (nthP pl) zs vs = some out) (hd : Nat.ble (d + 1) n = true)
    (k : HS tl P base n ((d, .agg out.toArray) :: L) f A (.ops l rest q)) : HS tl P base n L f A (.ops l (⟨some d, .build t ps.toArray, ty, pos, af, gd⟩ :: rest) q) :=
  HS.opV hw hd (fun a w hfr _ => by
    subst hzs
    have h1 := hpl.eq fs.toArray w hu.eq
    have h2 := fill_eq _ _ _ _ ho
    have h3 : (fun i => pl.toArray[i]?) = nthP pl := by funext i; rw [nthP_eq]; simp
    have h4 : z.cells = (cellsL z).toArray := by rw [← cellsL_eq]
    have h5 : (ps.toArray.map fun x : Nat × Operand => (x.1, a.eval x.2)).toList = vs := by rw [List.map_toArray]; exact hfr.evP hx
    show Sem.run P (Instr.build t (ps.toArray.map fun x => (x.1, a.eval x.2)) >>= fun v => pure (Next.value v)) w = _
    unfold Instr.build
    simp only [Sem.run_bind, hz.run, Result.andThen_ok, hu.run, h1, h3, h4, h5, h2, Sem.run_pure]) k
theorem HS.buildA {t e : TypeId} {len sz : Nat} {ps : List (Nat × Operand)} {vs : List (Nat × Value)} {z : Value} {zs out : List Value} [hu : Und P t (.array len e)] [hsz : Siz P e sz] [hz : Zer P t z] (hw : want? l L gd = true)
    (hx : evP L ps = some vs) (hzs : cellsL z = zs) (ho : fillL (fun i => some (i * sz, sz)) zs vs = some out) (hd : Nat.ble (d + 1) n = true)
    (k : HS tl P base n ((d, .agg out.toArray) :: L) f A (.ops l rest q)) : HS tl P base n L f A (.ops l (⟨some d, .build t ps.toArray, ty, pos, af, gd⟩ :: rest) q) :=
  HS.opV hw hd (fun a w hfr _ => by
    subst hzs
    have h2 := fill_eq _ _ _ _ ho
    have h4 : z.cells = (cellsL z).toArray := by rw [← cellsL_eq]
    have h5 : (ps.toArray.map fun x : Nat × Operand => (x.1, a.eval x.2)).toList = vs := by rw [List.map_toArray]; exact hfr.evP hx
    show Sem.run P (Instr.build t (ps.toArray.map fun x => (x.1, a.eval x.2)) >>= fun v => pure (Next.value v)) w = _
    unfold Instr.build
    simp only [Sem.run_bind, hz.run, Result.andThen_ok, hu.run, hsz.run, h4, h5, h2, Sem.run_pure]) k
theorem HS.slice {t e : TypeId} {x : Operand} {lo hi mx : Option Operand} {p : Option Addr} {len cap lv hv mv sz : Nat} [hu : Und P t (.slice e)] [hs : Siz P e sz] (hw : want? l L gd = true)
    (hx : ev? L x = some (.slice p len cap)) (h1 : bnd L lo lv 0) (h2 : bnd L hi hv len) (h3 : bnd L mx mv cap) (hmx : mx.isSome → hi.isSome) (a1 : lv ≤ hv) (a2 : hv ≤ mv) (a3 : mv ≤ cap) (hd : Nat.ble (d + 1) n = true)
    (k : HS tl P base n ((d, .slice (slP p lv mv sz) (hv - lv) (mv - lv)) :: L) f A (.ops l rest q)) : HS tl P base n L f A (.ops l (⟨some d, .slice t x lo hi mx, ty, pos, af, gd⟩ :: rest) q) :=
  HS.opV hw hd (fun a w hfr _ => by
    have hb := run_bounds (P := P) (w := w) (isS := true) hfr h1 h2 h3 hmx a1 a2 a3
    show Sem.run P (Instr.sliceAt t (a.eval x) (lo.map a.eval) (hi.map a.eval) (mx.map a.eval) >>= fun v => pure (Next.value v)) w = _
    unfold Instr.sliceAt Instr.slice
    simp only [Sem.run_bind, hu.run, Result.andThen_ok, hfr.eval hx, hb, hs.run, Sem.run_pure, slP]) k
theorem HS.sliceArr {t e : TypeId} {x : Operand} {lo hi mx : Option Operand} {b off len lv hv mv sz : Nat} [hu : Und P t (.array len e)] [hs : Siz P e sz] (hw : want? l L gd = true)
    (hx : ev? L x = some (.pointer (some ⟨b, off, none⟩))) (h1 : bnd L lo lv 0) (h2 : bnd L hi hv len) (h3 : bnd L mx mv len) (hmx : mx.isSome → hi.isSome) (a1 : lv ≤ hv) (a2 : hv ≤ mv) (a3 : mv ≤ len) (hd : Nat.ble (d + 1) n = true)
    (k : HS tl P base n ((d, .slice (slP (some ⟨b, off, none⟩) lv mv sz) (hv - lv) (mv - lv)) :: L) f A (.ops l rest q)) : HS tl P base n L f A (.ops l (⟨some d, .slice t x lo hi mx, ty, pos, af, gd⟩ :: rest) q) :=
  HS.opV hw hd (fun a w hfr _ => by
    have hb := run_bounds (P := P) (w := w) (isS := false) hfr h1 h2 h3 hmx a1 a2 a3
    show Sem.run P (Instr.sliceAt t (a.eval x) (lo.map a.eval) (hi.map a.eval) (mx.map a.eval) >>= fun v => pure (Next.value v)) w = _
    unfold Instr.sliceAt
    simp only [Sem.run_bind, hu.run, Result.andThen_ok, hfr.eval hx, hb, hs.run, Sem.run_pure, slP, Instr.sureAddr]
    split <;> rfl) k
theorem HS.sliceNil {op : BinOp} {xt yt e : TypeId} {x y : Operand} {p : Option Addr} {m c : Nat} {b : Bool} [hu : Und P xt (.slice e)] (hw : want? l L gd = true) (hx : ev? L x = some (.slice p m c)) (hy : ev? L y = some (.slice none 0 0)) (hb : nilP op p = some b) (hd : Nat.ble (d + 1) n = true)
    (kk : HS tl P base n ((d, .bool b) :: L) f A (.ops l rest q)) : HS tl P base n L f A (.ops l (⟨some d, .binOp op xt x y yt, ty, pos, af, gd⟩ :: rest) q) :=
  HS.opV hw hd (fun a w hf _ => by
    refine run_bin _ ?_ ?_
    · rw [hf.eval hx, hf.eval hy]; exact run_guard_slice _ _ _ _ _ _ _ _
    · rw [hf.eval hx, hf.eval hy]
      have e1 : Sem.run P (do pure (Value.bool (← Op.equal xt (.slice p m c) (.slice none 0 0)))) w = .ok (.bool p.isNone) w := by simp [run_equal_sn hu]
      have e2 : Sem.run P (do pure (Value.bool (!(← Op.equal xt (.slice p m c) (.slice none 0 0))))) w = .ok (.bool (!p.isNone)) w := by simp [run_equal_sn hu]
      cases op <;> cases p <;> simp only [nilP, Option.some.injEq, reduceCtorEq] at hb <;> subst hb <;> first | exact e1 | exact e2) kk
end rules

/-- It answers v, and leaves what is owned as A'. -/
def Ret (v : Value) (f : Frag) (A : List HP) : Value → Frag → List HP → Prop := fun u f' A' => u = v ∧ f' = f ∧ A' = A

section
variable {P : Program} {base : World} {n : Nat} {L : Env} {f f' : Frag} {A A' : List HP} {q : Post}
variable {l rest : List Oper} {d : Nat} {ty : TypeId} {pos : String} {af : Array Edge} {gd : Option (Nat × Bool)}
theorem H.callR {fid : FuncId} {xs : List Operand} {vs : List Value} {ats : Array TypeId} {v : Value} [hfun : Fun P fid] (hw : want? l L gd = true) (hd : Nat.ble (d + 1) n = true)
    (hx : evs? L xs = some vs) (hc : Fn P fid vs f A (Ret v f' A')) (k : H P base n ((d, v) :: L) f' A' (.ops l rest q)) :
    H P base n L f A (.ops l (⟨some d, .call ⟨.value (.func fid), xs.toArray, ats⟩, ty, pos, af, gd⟩ :: rest) q) :=
  H.call hw hd hx hc fun _ _ _ h => by obtain ⟨rfl, rfl, rfl⟩ := h; exact k
/-- One value of several. -/
def RetE {α : Type} (v : α → Value) (f : Frag) (A : α → List HP) : Value → Frag → List HP → Prop := fun u f' A' => ∃ i, u = v i ∧ f' = f ∧ A' = A i
theorem H.callE {α : Type} {fid : FuncId} {xs : List Operand} {vs : List Value} {ats : Array TypeId} {v : α → Value} {Ai : α → List HP} [hfun : Fun P fid] (hw : want? l L gd = true) (hd : Nat.ble (d + 1) n = true)
    (hx : evs? L xs = some vs) (hc : Fn P fid vs f A (RetE v f' Ai)) (k : ∀ i, H P base n ((d, v i) :: L) f' (Ai i) (.ops l rest q)) :
    H P base n L f A (.ops l (⟨some d, .call ⟨.value (.func fid), xs.toArray, ats⟩, ty, pos, af, gd⟩ :: rest) q) :=
  H.call hw hd hx hc fun _ _ _ h => by obtain ⟨i, rfl, rfl, rfl⟩ := h; exact k i
theorem H.callE2 {α β : Type} {fid : FuncId} {xs : List Operand} {vs : List Value} {ats : Array TypeId} {v : α → β → Value} {Ai : α → β → List HP} [hfun : Fun P fid] (hw : want? l L gd = true) (hd : Nat.ble (d + 1) n = true)
    (hx : evs? L xs = some vs) (hc : Fn P fid vs f A (fun u g B => ∃ i j, u = v i j ∧ g = f' ∧ B = Ai i j)) (k : ∀ i j, H P base n ((d, v i j) :: L) f' (Ai i j) (.ops l rest q)) :
    H P base n L f A (.ops l (⟨some d, .call ⟨.value (.func fid), xs.toArray, ats⟩, ty, pos, af, gd⟩ :: rest) q) :=
  H.call hw hd hx hc fun _ _ _ h => by obtain ⟨i, j, rfl, rfl, rfl⟩ := h; exact k i j
end
/-- A slice that is nil owns nothing. -/
theorem H.slc0 {P : Program} {base : World} {n : Nat} {L : Env} {f : Frag} {A : List HP} {K : Kont} (T : TypeId) (sz : Nat) (k : H P base n L f (slc none 0 0 T sz [] :: A) K) : H P base n L f A K :=
  H.imp (A' := slc none 0 0 T sz [] :: A) (fun h hh => ⟨nil0, h, (Dj.nil h).symm, (nil_un h).symm, slc_nil none T sz, hh⟩) k
end Go.Proofs.Ytfplfddobjbbnaa
