/- Parts of the proof, one behind the other, each under its own heading. No conditions. -/
import Derived.Test.YtdcjlgigcbinjaaGreatDoorZ01
import Derived.IntWalk
import Derived.ChangeKeysEq
import Derived.Laws.StructEq
import Derived.Test.YtdcjlgigcbinjaaGreatDoorProg
import Derived.Laws.IdiomStrings
import Derived.Laws.IdiomCopy
set_option linter.unusedSectionVars false
set_option linter.unusedSimpArgs false
set_option linter.unusedVariables false
/- The engine, part h: small laws: wraps, opening and closing what is owned. No program in sight; no conditions. -/
namespace Go.Proofs.YtdcjlgigcbinjaaGreatDoor
open Go
theorem wr_i64 {z : Int} (h : -9223372036854775808 ≤ z ∧ z ≤ 9223372036854775807) : IntKind.i64.wrap z = z := IntWalk.i64_in z h
theorem wr_u64 {z : Int} (h : 0 ≤ z ∧ z ≤ 18446744073709551615) : IntKind.u64.wrap z = z := IntWalk.u64_in z h
theorem wr_u8 {z : Int} (h : 0 ≤ z ∧ z ≤ 255) : IntKind.u8.wrap z = z := IntWalk.u8_in z h
theorem wr_u16 {z : Int} (h : 0 ≤ z ∧ z ≤ 65535) : IntKind.u16.wrap z = z := IntWalk.u16_in z h
theorem zav {a b : Nat} (h : a + b ≤ 9223372036854775807) : IntKind.i64.wrap ((a : Int) + (b : Int)) = ((a + b : Nat) : Int) := by
 rw [wr_i64 (by omega)]; omega
theorem zax {a : Nat} (h : a + 1 ≤ 9223372036854775807) : IntKind.i64.wrap ((a : Int) + 1) = ((a + 1 : Nat) : Int) := by
 rw [wr_i64 (by omega)]; omega
theorem zaw {a : Nat} (h : a ≤ 9223372036854775807) : IntKind.i64.wrap (((a + 1 : Nat) : Int) - 1) = (a : Int) := by
 rw [wr_i64 (by omega)]; omega
theorem fold_stars {p : HP} {B A : List HP} (h : ∀ x, stars B x → p x) : ∀ x, stars (B ++ A) x → stars (p :: A) x := by
 intro x hx
 rw [stars_append] at hx
 obtain ⟨m1, m2, d, e, a, b⟩ := hx
 exact ⟨m1, m2, d, e, h m1 a, b⟩
theorem keep_stars {p : HP} {B A : List HP} (h : ∀ x, stars B x → stars A x) : ∀ x, stars (p :: B) x → stars (p :: A) x := by
 rintro x ⟨m1, m2, d, e, a, b⟩
 exact ⟨m1, m2, d, e, a, h m2 b⟩
theorem pull_stars {p : HP} {B A : List HP} (h : Pull B p A) : ∀ x, stars B x → stars (p :: A) x := by
 intro x hx; rw [h.eq] at hx; exact hx
theorem stars_two {p q : HP} {A : List HP} {x : Frag} : stars (p :: q :: A) x → stars (q :: p :: A) x := by
 intro h; exact pull_stars (.there _ (.here _ _)) x h
theorem Fn.unfold {P : Program} {fid : FuncId} {args : List Value} {f : Frag} {A : List HP} {R : Value → Frag → List HP → Prop} {p : HP} {ι : Sort _} {B : ι → List HP} (hp : ∀ h, p h → ∃ i, stars (B i) h)
  (k : ∀ i, Fn P fid args f (B i ++ A) R) : Fn P fid args f (p :: A) R := fun base w s => by
 obtain ⟨a1, a2, a3, a4, a5, m, ⟨m1, m2, d, e, a, b⟩, hd, hw⟩ := s
 obtain ⟨i, hi⟩ := hp m1 a
 exact k i base w ⟨a1, a2, a3, a4, a5, m, by rw [stars_append]; exact ⟨m1, m2, d, e, hi, b⟩, hd, hw⟩
theorem H.unfold {P : Program} {base : World} {n : Nat} {L : Env} {f : Frag} {A : List HP} {K : Kont} {p : HP} {ι : Sort _} {B : ι → List HP} (hp : ∀ h, p h → ∃ i, stars (B i) h)
  (k : ∀ i, H P base n L f (B i ++ A) K) : H P base n L f (p :: A) K := .mk fun a w hf s => by
 obtain ⟨a1, a2, a3, a4, a5, m, ⟨m1, m2, d, e, aa, b⟩, hd, hw⟩ := s
 obtain ⟨i, hi⟩ := hp m1 aa
 exact (k i).out a w hf ⟨a1, a2, a3, a4, a5, m, by rw [stars_append]; exact ⟨m1, m2, d, e, hi, b⟩, hd, hw⟩
section rules
variable {P : Program} {base : World} {n : Nat} {L : Env} {f : Frag} {A V : List HP} {q : Post} {ξ : Ext} {tl : List Oper}
variable {l rest : List Oper} {d : Nat} {ty : TypeId} {pos : String} {af : Array Edge} {gd : Option (Nat × Bool)}
theorem HQ.Bc {t : TypeId} {ps : List (Nat × Operand)} {vs : List (Nat × Value)} {fs : List Field} {pl : List (Nat × Nat)} {z : Value} {zs out : List Value} [hu : Und P t (.struct fs.toArray)] [hpl : Plc P t pl] [hz : Zer P t z] (hw : want? l L gd = true)
  (hx : evP L ps = some vs) (hzs : cellsL z = zs) (ho : fillL (nthP pl) zs vs = some out) (hd : Nat.ble (d + 1) n = true) {lst : Lst} {ti : Nat} {tt : List (Nat × Bool)}
  (k : HQ V ⟨lst.setIfInBounds ti true, tt⟩ P base n ((d, .agg out.toArray) :: L) f A (.ops l rest q)) : HQ V ⟨lst, (ti, false) :: tt⟩ P base n L f A (.ops l (⟨some d, .build t ps.toArray, ty, pos, af, gd⟩ :: rest) q) :=
 HQ.opV hw hd (fun a w hfr _ => by
  subst hzs
  have h1 := hpl.eq fs.toArray w hu.eq
  have h2 := fill_eq _ _ _ _ ho
  have h3 : (fun i => pl.toArray[i]?) = nthP pl := by funext i; rw [nthP_eq]; simp
  have h4 : z.cells = (cellsL z).toArray := by rw [← cellsL_eq]
  have h5 : (ps.toArray.map fun x : Nat × Operand => (x.1, a.eval x.2)).toList = vs := by rw [List.map_toArray]; exact hfr.evP hx
  show Sem.run P (Instr.build t (ps.toArray.map fun x => (x.1, a.eval x.2)) >>= fun v => pure (Next.value v)) w = _
  unfold Instr.build
  simp only [Sem.run_bind, hz.run, Result.andThen_ok, hu.run, h1, h3, h4, h5, h2, Sem.run_pure]) k
theorem HQ.Cd {t e : TypeId} {x : Operand} {lo hi mx : Option Operand} {b off len lv hv mv sz : Nat} [hu : Und P t (.array len e)] [hs : Siz P e sz] (hw : want? l L gd = true)
  (hx : ev? L x = some (.pointer (some ⟨b, off, none⟩))) (h1 : bnd L lo lv 0) (h2 : bnd L hi hv len) (h3 : bnd L mx mv len) (hmx : mx.isSome → hi.isSome) (a1 : lv ≤ hv) (a2 : hv ≤ mv) (a3 : mv ≤ len) (hd : Nat.ble (d + 1) n = true) {lst : Lst} {ti : Nat} {tt : List (Nat × Bool)}
  (k : HQ V ⟨lst.setIfInBounds ti true, tt⟩ P base n ((d, .slice (slP (some ⟨b, off, none⟩) lv mv sz) (hv - lv) (mv - lv)) :: L) f A (.ops l rest q)) : HQ V ⟨lst, (ti, false) :: tt⟩ P base n L f A (.ops l (⟨some d, .slice t x lo hi mx, ty, pos, af, gd⟩ :: rest) q) :=
 HQ.opV hw hd (fun a w hfr _ => by
  have hb := run_bounds (P := P) (w := w) (isS := false) hfr h1 h2 h3 hmx a1 a2 a3
  show Sem.run P (Instr.sliceAt t (a.eval x) (lo.map a.eval) (hi.map a.eval) (mx.map a.eval) >>= fun v => pure (Next.value v)) w = _
  unfold Instr.sliceAt
  simp only [Sem.run_bind, hu.run, Result.andThen_ok, hfr.eval hx, hb, hs.run, Sem.run_pure, slP, Instr.sureAddr]
  split <;> rfl) k
end rules
def Ret (v : Value) (f : Frag) (A : List HP) : Value → Frag → List HP → Prop := fun u f' A' => u = v ∧ f' = f ∧ A' = A
section
variable {P : Program} {base : World} {n : Nat} {L : Env} {f f' : Frag} {A A' : List HP} {q : Post}
variable {l rest : List Oper} {d : Nat} {ty : TypeId} {pos : String} {af : Array Edge} {gd : Option (Nat × Bool)}
theorem H.Ad {fid : FuncId} {xs : List Operand} {vs : List Value} {ats : Array TypeId} {v : Value} [hfun : Fun P fid] (hw : want? l L gd = true) (hd : Nat.ble (d + 1) n = true)
  (hx : evs? L xs = some vs) (hc : Fn P fid vs f A (Ret v f' A')) (k : H P base n ((d, v) :: L) f' A' (.ops l rest q)) :
  H P base n L f A (.ops l (⟨some d, .call ⟨.value (.func fid), xs.toArray, ats⟩, ty, pos, af, gd⟩ :: rest) q) :=
 H.call hw hd hx hc fun _ _ _ h => by obtain ⟨rfl, rfl, rfl⟩ := h; exact k
def RetE {α : Type} (v : α → Value) (f : Frag) (A : α → List HP) : Value → Frag → List HP → Prop := fun u f' A' => ∃ i, u = v i ∧ f' = f ∧ A' = A i
theorem H.callE {α : Type} {fid : FuncId} {xs : List Operand} {vs : List Value} {ats : Array TypeId} {v : α → Value} {Ai : α → List HP} [hfun : Fun P fid] (hw : want? l L gd = true) (hd : Nat.ble (d + 1) n = true)
  (hx : evs? L xs = some vs) (hc : Fn P fid vs f A (RetE v f' Ai)) (k : ∀ i, H P base n ((d, v i) :: L) f' (Ai i) (.ops l rest q)) :
  H P base n L f A (.ops l (⟨some d, .call ⟨.value (.func fid), xs.toArray, ats⟩, ty, pos, af, gd⟩ :: rest) q) :=
 H.call hw hd hx hc fun _ _ _ h => by obtain ⟨i, rfl, rfl, rfl⟩ := h; exact k i
theorem H.Ar {α β : Type} {fid : FuncId} {xs : List Operand} {vs : List Value} {ats : Array TypeId} {v : α → β → Value} {Ai : α → β → List HP} [hfun : Fun P fid] (hw : want? l L gd = true) (hd : Nat.ble (d + 1) n = true)
  (hx : evs? L xs = some vs) (hc : Fn P fid vs f A (fun u g B => ∃ i j, u = v i j ∧ g = f' ∧ B = Ai i j)) (k : ∀ i j, H P base n ((d, v i j) :: L) f' (Ai i j) (.ops l rest q)) :
  H P base n L f A (.ops l (⟨some d, .call ⟨.value (.func fid), xs.toArray, ats⟩, ty, pos, af, gd⟩ :: rest) q) :=
 H.call hw hd hx hc fun _ _ _ h => by obtain ⟨i, j, rfl, rfl, rfl⟩ := h; exact k i j
end
theorem H.slc0 {P : Program} {base : World} {n : Nat} {L : Env} {f : Frag} {A : List HP} {K : Kont} (T : TypeId) (sz : Nat) (k : H P base n L f (slc none 0 0 T sz [] :: A) K) : H P base n L f A K :=
 H.imp (A' := slc none 0 0 T sz [] :: A) (fun h hh => ⟨nil0, h, (Dj.nil h).symm, (nil_un h).symm, slc_nil none T sz, hh⟩) k
structure PM where
 g : Int
 init : List (Int × Int)
 lv : Int
 ln : Int
namespace PM
def all (s : PM) : List (Int × Int) := s.init ++ [(s.lv, s.ln)]
def new : PM := ⟨0, [], 0, 0⟩
def isOpen (s : PM) (v : Int) : Bool := decide (v = s.g ∧ v = s.lv)
def changeOk (s : PM) (v : Int) : Bool := decide (s.g < v ∧ v < 1073741824)
def change (s : PM) (v : Int) : PM := if changeOk s v then { s with g := v } else s
def enterOk (s : PM) (v long : Int) : Bool := decide (s.lv < v ∧ s.g ≤ v ∧ v < 1073741824 ∧ 0 ≤ long)
def enter (s : PM) (v long : Int) : PM := if enterOk s v long then ⟨v, s.all, v, long⟩ else s
def prepare (s : PM) (v : Int) : PM := if isOpen s v then { s with ln := s.ln + 1 } else s
def commitOk (s : PM) (v k most : Int) : Bool := decide ((v = s.g ∧ v = s.lv) ∧ 0 ≤ most ∧ k ≤ most ∧ k = s.ln + 1)
def commit (s : PM) (v k most : Int) : PM := if commitOk s v k most then { s with ln := s.ln + 1 } else s
def voted : List (Int × Int) → Int → Option Int
 | [], _ => none
 | (w, n) :: r, v => if v = w then some n else voted r v
structure WF (s : PM) (B : Int) : Prop where
 rise : (s.all.map (·.1)).Pairwise (· < ·)
 low : ∀ p ∈ s.all, 0 ≤ p.1 ∧ p.1 < 1073741824 ∧ 0 ≤ p.2 ∧ p.2 ≤ B
 top : s.lv ≤ s.g
 g0 : 0 ≤ s.g
theorem new_wf : WF new 0 := ⟨by simp [new, all], by simp [new, all], by simp [new], by simp [new]⟩
theorem WF.last {s : PM} {B : Int} (h : WF s B) : 0 ≤ s.lv ∧ s.lv < 1073741824 ∧ 0 ≤ s.ln ∧ s.ln ≤ B := h.low (s.lv, s.ln) (by simp [all])
theorem WF.below {s : PM} {B : Int} (h : WF s B) : ∀ p ∈ s.init, p.1 < s.lv := by
 have := h.rise
 simp only [all, List.map_append, List.map_cons, List.map_nil, List.pairwise_append] at this
 intro p hp
 exact this.2.2 p.1 (List.mem_map.2 ⟨p, hp, rfl⟩) s.lv (by simp)
theorem WF.mono {s : PM} {B B' : Int} (h : WF s B) (hB : B ≤ B') : WF s B' := ⟨h.rise, fun p hp => by have := h.low p hp; omega, h.top, h.g0⟩
theorem WF.bump {s : PM} {B : Int} (h : WF s B) : WF { s with ln := s.ln + 1 } (B + 1) := by
 refine ⟨?_, ?_, h.top, h.g0⟩
 ·have := h.rise; simpa [all] using this
 ·intro p hp
  simp only [all, List.mem_append, List.mem_singleton] at hp
  rcases hp with hp | rfl
  ·have := h.low p (by simp [all, hp]); omega
  ·have := h.last; simp only; omega
theorem WF.change {s : PM} {B : Int} (h : WF s B) (v : Int) : WF (s.change v) B := by
 unfold PM.change
 split
 ·rename_i hc
  simp only [changeOk, decide_eq_true_eq] at hc
  refine ⟨h.rise, h.low, ?_, ?_⟩
  ·have := h.top; simp only; omega
  ·have := h.g0; simp only; omega
 ·exact h
theorem WF.enter {s : PM} {B : Int} (h : WF s B) (v long : Int) (hl : long ≤ B) : WF (s.enter v long) B := by
 unfold PM.enter
 split
 ·rename_i hc
  simp only [enterOk, decide_eq_true_eq] at hc
  refine ⟨?_, ?_, Int.le_refl _, ?_⟩
  ·show ((s.all ++ [(v, long)]).map (·.1)).Pairwise (· < ·)
   rw [List.map_append, List.pairwise_append]
   refine ⟨h.rise, by simp, ?_⟩
   intro a ha b hb
   simp at hb; subst hb
   obtain ⟨p, hp, rfl⟩ := List.mem_map.1 ha
   simp only [all, List.mem_append, List.mem_singleton] at hp
   rcases hp with hp | rfl
   ·have := h.below p hp; omega
   ·exact hc.1
  ·intro p hp
   simp only [all, List.mem_append, List.mem_singleton] at hp
   rcases hp with (hp | rfl) | rfl
   ·exact h.low p (by simp [all, hp])
   ·exact h.last
   ·have := h.last; simp only; omega
  ·have := h.last; simp only; omega
 ·exact h
theorem WF.prepare {s : PM} {B : Int} (h : WF s B) (v : Int) : WF (s.prepare v) (B + 1) := by
 unfold PM.prepare; split
 ·exact h.bump
 ·exact h.mono (by omega)
theorem WF.commit {s : PM} {B : Int} (h : WF s B) (v k most : Int) : WF (s.commit v k most) (B + 1) := by
 unfold PM.commit; split
 ·exact h.bump
 ·exact h.mono (by omega)
def kv (l : List (Int × Int)) : List (Int × Value) := l.map fun p => (p.1, .int .i64 p.2)
theorem kv_keys (l : List (Int × Int)) : (kv l).map (·.1) = l.map (·.1) := by simp [kv, Function.comp_def]
theorem getKV_kv (l : List (Int × Int)) (v : Int) : getKV (kv l) v = (voted l v).map (Value.int .i64) := by
 induction l with
 | nil => rfl
 | cons p r ih =>
  obtain ⟨w, n⟩ := p
  simp only [kv, List.map_cons, getKV, voted]
  split
  ·rfl
  ·exact ih
theorem put_absent {κ : Type} [DecidableEq κ] : ∀ (m : List (κ × Value)) (k : κ) (v : Value), k ∉ m.map (·.1) → putKV m k v = m ++ [(k, v)]
 | [], _, _, _ => rfl
 | (j, u) :: r, k, v, h => by
  have e : ¬ k = j := fun e => h (by simp [e])
  have := put_absent r k v (fun e => h (by simp at e ⊢; exact .inr e))
  simp [putKV, e, this]
theorem put_last {κ : Type} [DecidableEq κ] : ∀ (m : List (κ × Value)) (k : κ) (u v : Value), k ∉ m.map (·.1) → putKV (m ++ [(k, u)]) k v = m ++ [(k, v)]
 | [], k, u, v, _ => by simp [putKV]
 | (j, w) :: r, k, u, v, h => by
  have e : ¬ k = j := fun e => h (by simp [e])
  have := put_last r k u v (fun e => h (by simp at e ⊢; exact .inr e))
  simp [putKV, e, this]
theorem WF.not_init {s : PM} {B : Int} (h : WF s B) : s.lv ∉ s.init.map (·.1) := by
 intro hm
 obtain ⟨p, hp, e⟩ := List.mem_map.1 hm
 have := h.below p hp
 omega
theorem WF.kv_bump {s : PM} {B : Int} (h : WF s B) : putKV (kv s.all) s.lv (.int .i64 (s.ln + 1)) = kv ({ s with ln := s.ln + 1 } : PM).all := by
 have := put_last (kv s.init) s.lv (.int .i64 s.ln) (.int .i64 (s.ln + 1)) (by rw [kv_keys]; exact h.not_init)
 simpa [kv, all] using this
theorem WF.not_all {s : PM} {B v : Int} (h : WF s B) (hv : s.lv < v) : v ∉ s.all.map (·.1) := by
 intro hm
 obtain ⟨p, hp, e⟩ := List.mem_map.1 hm
 simp only [all, List.mem_append, List.mem_singleton] at hp
 rcases hp with hp | rfl
 ·have := h.below p hp; omega
 ·simp only at e; omega
theorem WF.kv_enter {s : PM} {B v long : Int} (h : WF s B) (hv : s.lv < v) : putKV (kv s.all) v (.int .i64 long) = kv (s.all ++ [(v, long)]) := by
 rw [put_absent _ _ _ (by rw [kv_keys]; exact h.not_all hv)]
 simp [kv]
theorem WF.kv_enter2 {s : PM} {B v long : Int} (h : WF s B) (hv : s.lv < v) (z : Value) : putKV (putKV (kv s.all) v z) v (.int .i64 long) = kv (s.all ++ [(v, long)]) := by
 rw [put_absent (kv s.all) _ _ (by rw [kv_keys]; exact h.not_all hv), put_last _ _ _ _ (by rw [kv_keys]; exact h.not_all hv)]
 simp [kv]
theorem voted_last {s : PM} {B : Int} (h : WF s B) : voted s.all s.lv = some s.ln := by
 have : ∀ l : List (Int × Int), s.lv ∉ l.map (·.1) → voted (l ++ [(s.lv, s.ln)]) s.lv = some s.ln := by
  intro l
  induction l with
  | nil => intro _; simp [voted]
  | cons p r ih =>
   intro hn
   obtain ⟨w, n⟩ := p
   have e : ¬ s.lv = w := fun e => hn (by simp [e])
   simp only [List.cons_append, voted, e, if_false]
   exact ih (fun e => hn (by simp at e ⊢; exact .inr e))
 exact this _ h.not_init
end PM
/-! ### Equality of structs and arrays -/
section
variable {P : Program}
def chunk (xs : List Value) (off c : Nat) : List Value := (xs.drop off).take c
def shp (P : Program) : Nat → TypeId → List Value → Bool
 | 0, _, _ => false
 | d + 1, t, cs => match P.underlying t with
  | some .bool => match cs with
   | [.bool _] => true
   | _ => false
  | some (.int q) => match cs with
   | [.int q' _] => decide (q' = q)
   | _ => false
  | some .string => match cs with
   | [.string _] => true
   | _ => false
  | some (.array n e) => (P.info? e).isSome && Nat.beq cs.length (n * P.cellsOf e) && (List.range' 0 n).all fun i => shp P d e (chunk cs (i * P.cellsOf e) (P.cellsOf e))
  | some (.struct fs) => !P.stoodInHeld t && Nat.beq cs.length (P.cellsOf t) && offs P fs.toList 0 cs.length && fs.toList.all fun f => shp P d f.type (chunk cs f.offset (P.cellsOf f.type))
  | _ => false
where offs (P : Program) : List Field → Nat → Nat → Bool
 | [], o, n => Nat.beq o n
 | f :: fs, o, n => (f.name != "_") && Nat.beq f.offset o && offs P fs (o + P.cellsOf f.type) n
def mkV (P : Program) (t : TypeId) (xs : List Value) : Value := match P.underlying t with
 | some (.array _ _) | some (.struct _) => .agg xs.toArray
 | _ => xs.headD undef
def eqv : Value → Value → Bool
 | .bool a, .bool b => a == b
 | .int _ a, .int _ b => a == b
 | .string a, .string b => a == b
 | _, _ => false
def eqC : List Value → List Value → Bool
 | [], [] => true
 | x :: xs, y :: ys => eqv x y && eqC xs ys
 | _, _ => false
theorem eqC_append : ∀ {a c : List Value} (b d : List Value), a.length = c.length → eqC (a ++ b) (c ++ d) = (eqC a c && eqC b d)
 | [], [], b, d, _ => by simp [eqC]
 | x :: a, y :: c, b, d, h => by
  simp only [List.cons_append, eqC]
  rw [eqC_append b d (by simpa using h), Bool.and_assoc]
theorem eqC_drop {xs ys : List Value} (h : xs.length = ys.length) (o c : Nat) : eqC (xs.drop o) (ys.drop o) = (eqC (chunk xs o c) (chunk ys o c) && eqC (xs.drop (o + c)) (ys.drop (o + c))) := by
 have e : ∀ l : List Value, l.drop o = chunk l o c ++ l.drop (o + c) := fun l => by
  unfold chunk
  rw [← List.drop_drop, List.take_append_drop]
 rw [e xs, e ys, eqC_append]
 unfold chunk
 simp [h]
theorem shp_plain {D : Nat} {t : TypeId} {cs : List Value} (h : shp P D t cs = true) (hp : ∀ n e, P.underlying t ≠ some (.array n e)) (hs : ∀ fs, P.underlying t ≠ some (.struct fs)) :
  P.plainKey t = true ∧ ∃ v, cs = [v] ∧ mkV P t cs = v ∧ ∀ D' ys, shp P D' t ys = true → ∃ u, ys = [u] ∧ mkV P t ys = u ∧ ∀ w d, (Op.equalIn (d + 1) t v u).run P w = .ok (eqC cs ys) w := by
 cases D with
 | zero => simp [shp] at h
 | succ D =>
  unfold shp at h
  cases hu : P.underlying t with
  | none => simp [hu] at h
  | some k =>
   cases k
   case bool =>
    rw [hu] at h
    simp only at h
    split at h
    ·rename_i a
     refine ⟨by simp [Program.plainKey, hu], _, rfl, by simp [mkV, hu], fun D' ys h' => ?_⟩
     cases D' with
     | zero => simp [shp] at h'
     | succ D' =>
      unfold shp at h'
      rw [hu] at h'
      simp only at h'
      split at h'
      ·rename_i b
       refine ⟨_, rfl, by simp [mkV, hu], fun w d => ?_⟩
       rw [run_equalIn_bool w d t a b hu]
       simp [eqC, eqv]
      ·cases h'
    ·cases h
   case int q =>
    rw [hu] at h
    simp only at h
    split at h
    ·rename_i q1 a
     refine ⟨by simp [Program.plainKey, hu], _, rfl, by simp [mkV, hu], fun D' ys h' => ?_⟩
     cases D' with
     | zero => simp [shp] at h'
     | succ D' =>
      unfold shp at h'
      rw [hu] at h'
      simp only at h'
      split at h'
      ·rename_i q2 b
       refine ⟨_, rfl, by simp [mkV, hu], fun w d => ?_⟩
       simp only [decide_eq_true_eq] at h h'
       subst h; subst h'
       rw [run_equalIn_int w d t _ _ _ _ hu]
       simp [eqC, eqv]
      ·cases h'
    ·cases h
   case string =>
    rw [hu] at h
    simp only at h
    split at h
    ·rename_i a
     refine ⟨by simp [Program.plainKey, hu], _, rfl, by simp [mkV, hu], fun D' ys h' => ?_⟩
     cases D' with
     | zero => simp [shp] at h'
     | succ D' =>
      unfold shp at h'
      rw [hu] at h'
      simp only at h'
      split at h'
      ·rename_i b
       refine ⟨_, rfl, by simp [mkV, hu], fun w d => ?_⟩
       rw [run_equalIn_string w d t a b hu]
       simp [eqC, eqv, beq_toListBytes]
      ·cases h'
    ·cases h
   case array n e => exact absurd hu (hp n e)
   case struct fs => exact absurd hu (hs fs)
   all_goals (simp [hu] at h; done)
theorem shp_len {D : Nat} {t : TypeId} {n : Nat} {e : TypeId} {cs : List Value} (hu : P.underlying t = some (.array n e)) (h : shp P D t cs = true) : (∃ i, P.info? e = some i) ∧ cs.length = n * P.cellsOf e ∧ ∃ D', D = D' + 1 ∧ ∀ i, i < n → shp P D' e (chunk cs (i * P.cellsOf e) (P.cellsOf e)) = true := by
 cases D with
 | zero => simp [shp] at h
 | succ D =>
  unfold shp at h
  rw [hu] at h
  simp only [Bool.and_eq_true, List.all_eq_true] at h
  exact ⟨Option.isSome_iff_exists.1 h.1.1, Nat.eq_of_beq_eq_true h.1.2, D, rfl, fun i hi => h.2 i (by simp [List.mem_range'_1, hi])⟩
theorem shp_str {D : Nat} {t : TypeId} {fs : Array Field} {cs : List Value} (hu : P.underlying t = some (.struct fs)) (h : shp P D t cs = true) :
  P.stoodInHeld t = false ∧ cs.length = P.cellsOf t ∧ shp.offs P fs.toList 0 cs.length = true ∧ ∃ D', D = D' + 1 ∧ ∀ f ∈ fs.toList, shp P D' f.type (chunk cs f.offset (P.cellsOf f.type)) = true := by
 cases D with
 | zero => simp [shp] at h
 | succ D =>
  unfold shp at h
  rw [hu] at h
  simp only [Bool.and_eq_true, List.all_eq_true, Bool.not_eq_true'] at h
  exact ⟨h.1.1.1, Nat.eq_of_beq_eq_true h.1.1.2, h.1.2, D, rfl, h.2⟩
theorem zba (w : World) {D : Nat} {e : TypeId} {xs : List Value} {off : Nat} (h : shp P D e (chunk xs off (P.cellsOf e)) = true) (hle : off + P.cellsOf e ≤ xs.length) :
  (part e xs.toArray off).run P w = .ok (mkV P e (chunk xs off (P.cellsOf e))) w := by
 have agg : (∃ n e', P.underlying e = some (.array n e')) ∨ (∃ fs, P.underlying e = some (.struct fs)) → (part e xs.toArray off).run P w = .ok (mkV P e (chunk xs off (P.cellsOf e))) w := by
  intro hk
  have hl : (xs.toArray.extract off (off + P.cellsOf e)) = (chunk xs off (P.cellsOf e)).toArray := by
   apply Array.ext'
   rw [Array.toList_extract]
   simp [List.extract, chunk]
  rcases hk with ⟨n, e', hu⟩ | ⟨fs, hu⟩
  ·obtain ⟨i, hi⟩ := info_of_underlying hu
   simp [part, isAgg, run_underlying hu, run_sizeOf w hi, mkV, hu, hl]
   rfl
  ·obtain ⟨i, hi⟩ := info_of_underlying hu
   simp [part, isAgg, run_underlying hu, run_sizeOf w hi, mkV, hu, hl]
   rfl
 by_cases h1 : ∃ n e', P.underlying e = some (.array n e')
 ·exact agg (.inl h1)
 ·by_cases h2 : ∃ fs, P.underlying e = some (.struct fs)
  ·exact agg (.inr h2)
  ·obtain ⟨hpk, v, hv, hmk, _⟩ := shp_plain h (fun n e' hu => h1 ⟨n, e', hu⟩) (fun fs hu => h2 ⟨fs, hu⟩)
   rw [hmk]
   have : xs.toArray[off]? = some v := getElem?_of_chunk (c := P.cellsOf e) (by simpa [chunk] using hv)
   exact run_part_plain w hpk this
theorem run_eqItems_shp (w : World) {d D D' : Nat} {e : TypeId} {xs ys : List Value} (hl : xs.length = ys.length)
  (IH : ∀ w D D' xs ys, shp P D e xs = true → shp P D' e ys = true → D ≤ d → (Op.equalIn d e (mkV P e xs) (mkV P e ys)).run P w = .ok (eqC xs ys) w) (hD : D ≤ d) :
  ∀ (m k : Nat), (k + m) * P.cellsOf e = xs.length → (∀ i, k ≤ i → i < k + m → shp P D e (chunk xs (i * P.cellsOf e) (P.cellsOf e)) = true ∧ shp P D' e (chunk ys (i * P.cellsOf e) (P.cellsOf e)) = true) →
  (Op.eqItems d e (P.cellsOf e) xs.toArray ys.toArray (List.range' k m)).run P w = .ok (eqC (xs.drop (k * P.cellsOf e)) (ys.drop (k * P.cellsOf e))) w
 | 0, k, hk, _ => by
  have h1 : xs.drop (k * P.cellsOf e) = [] := List.drop_eq_nil_of_le (by rw [← hk]; simp)
  have h2 : ys.drop (k * P.cellsOf e) = [] := List.drop_eq_nil_of_le (by rw [← hl, ← hk]; simp)
  rw [h1, h2]
  simp [Op.eqItems, eqC]
 | m + 1, k, hk, hs => by
  obtain ⟨a1, a2⟩ := hs k (Nat.le_refl _) (by omega)
  have hle : k * P.cellsOf e + P.cellsOf e ≤ xs.length := by
   rw [← hk]
   calc k * P.cellsOf e + P.cellsOf e = (k + 1) * P.cellsOf e := by rw [Nat.add_mul]; omega
    _ ≤ (k + (m + 1)) * P.cellsOf e := Nat.mul_le_mul_right _ (by omega)
  have p1 := zba w a1 hle
  have p2 := zba w a2 (by omega)
  have p3 := IH w D D' _ _ a1 a2 hD
  have ih := run_eqItems_shp w hl IH hD m (k + 1) (by rw [← hk]; congr 1; omega) (fun i h1 h2 => hs i (by omega) (by omega))
  rw [eqC_drop hl (k * P.cellsOf e) (P.cellsOf e)]
  rw [show k * P.cellsOf e + P.cellsOf e = (k + 1) * P.cellsOf e by rw [Nat.add_mul]; omega]
  simp only [List.range'_succ, Op.eqItems, Sem.run_bind, p1, p2, p3, Result.andThen_ok]
  cases eqC (chunk xs (k * P.cellsOf e) (P.cellsOf e)) (chunk ys (k * P.cellsOf e) (P.cellsOf e))
  ·simp
  ·simpa using ih
theorem run_eqFields_shp (w : World) {d D D' : Nat} {xs ys : List Value} (hl : xs.length = ys.length) (hD : D ≤ d) :
  ∀ (fs : List Field) (o : Nat), (∀ f ∈ fs, ∀ w D D' xs ys, shp P D f.type xs = true → shp P D' f.type ys = true → D ≤ d → (Op.equalIn d f.type (mkV P f.type xs) (mkV P f.type ys)).run P w = .ok (eqC xs ys) w) →
  shp.offs P fs o xs.length = true → (∀ f ∈ fs, shp P D f.type (chunk xs f.offset (P.cellsOf f.type)) = true ∧ shp P D' f.type (chunk ys f.offset (P.cellsOf f.type)) = true) →
  (Op.eqFields d xs.toArray ys.toArray fs).run P w = .ok (eqC (xs.drop o) (ys.drop o)) w ∧ o ≤ xs.length
 | [], o, _, ho, _ => by
  have e : o = xs.length := Nat.eq_of_beq_eq_true ho
  have h1 : xs.drop o = [] := List.drop_eq_nil_of_le (by omega)
  have h2 : ys.drop o = [] := List.drop_eq_nil_of_le (by omega)
  rw [h1, h2]
  exact ⟨by simp [Op.eqFields, eqC], by omega⟩
 | f :: fs, o, IH, ho, hs => by
  simp only [shp.offs, Bool.and_eq_true, bne_iff_ne, ne_eq] at ho
  obtain ⟨⟨hn, he⟩, hr⟩ := ho
  have he' : f.offset = o := Nat.eq_of_beq_eq_true he
  subst he'
  obtain ⟨ih, hle⟩ := run_eqFields_shp w hl hD fs (f.offset + P.cellsOf f.type) (fun g hg => IH g (by simp [hg])) hr (fun g hg => hs g (by simp [hg]))
  obtain ⟨a1, a2⟩ := hs f (by simp)
  have p1 := zba w a1 hle
  have p2 := zba w a2 (by omega)
  have p3 := IH f (by simp) w D D' _ _ a1 a2 hD
  refine ⟨?_, by omega⟩
  rw [eqC_drop hl f.offset (P.cellsOf f.type)]
  simp only [Op.eqFields, hn, ne_eq, not_false_eq_true, if_true, Sem.run_bind, p1, p2, p3, Result.andThen_ok]
  cases eqC (chunk xs f.offset (P.cellsOf f.type)) (chunk ys f.offset (P.cellsOf f.type))
  ·simp
  ·simpa using ih
theorem zaq : ∀ (d : Nat) (t : TypeId) (w : World) (D D' : Nat) (xs ys : List Value), shp P D t xs = true → shp P D' t ys = true → D ≤ d → (Op.equalIn d t (mkV P t xs) (mkV P t ys)).run P w = .ok (eqC xs ys) w
 | 0, t, w, D, D', xs, ys, hx, _, hd => by
  have : D = 0 := by omega
  subst this
  simp [shp] at hx
 | d + 1, t, w, D, D', xs, ys, hx, hy, hd => by
  by_cases h1 : ∃ n e', P.underlying t = some (.array n e')
  ·obtain ⟨n, e, hu⟩ := h1
   obtain ⟨⟨i, hi⟩, l1, D1, rfl, s1⟩ := shp_len hu hx
   obtain ⟨_, l2, D2, rfl, s2⟩ := shp_len hu hy
   have hm : mkV P t xs = .agg xs.toArray ∧ mkV P t ys = .agg ys.toArray := by simp [mkV, hu]
   rw [hm.1, hm.2, run_equalIn_array w d xs.toArray ys.toArray hu hi]
   have := run_eqItems_shp (P := P) w (d := d) (D := D1) (D' := D2) (e := e) (xs := xs) (ys := ys) (by omega) (fun w D D' xs ys => zaq d e w D D' xs ys) (by omega) n 0 (by rw [Nat.zero_add, l1]) (fun i _ h2 => ⟨s1 i (by omega), s2 i (by omega)⟩)
   rw [List.range_eq_range']
   simpa using this
  ·by_cases h2 : ∃ fs, P.underlying t = some (.struct fs)
   ·obtain ⟨fs, hu⟩ := h2
    obtain ⟨n1, l1, o1, D1, rfl, s1⟩ := shp_str hu hx
    obtain ⟨n2, l2, o2, D2, rfl, s2⟩ := shp_str hu hy
    have hm : mkV P t xs = .agg xs.toArray ∧ mkV P t ys = .agg ys.toArray := by simp [mkV, hu]
    have hfs : P.fieldsOf t = fs := by simp [Program.fieldsOf, hu]
    rw [hm.1, hm.2, run_equalIn_struct w d t xs.toArray ys.toArray (by rw [hfs]; exact hu) n1, hfs]
    have := (run_eqFields_shp (P := P) w (d := d) (D := D1) (D' := D2) (xs := xs) (ys := ys) (by omega) (by omega) fs.toList 0 (fun f _ w D D' xs ys => zaq d f.type w D D' xs ys) o1 (fun f hf => ⟨s1 f hf, s2 f hf⟩)).1
    simpa using this
   ·obtain ⟨_, v, rfl, hmk, hall⟩ := shp_plain hx (fun n e hu => h1 ⟨n, e, hu⟩) (fun fs hu => h2 ⟨fs, hu⟩)
    obtain ⟨u, rfl, hmk', hr⟩ := hall D' ys hy
    rw [hmk, hmk']
    exact hr w d
end
/-! ### Rules -/
def bitsI (op : BinOp) (k : IntKind) (x y : Int) : Option Int := match op with
 | .and => some (k.wrap (BitVec.ofInt k.bits x &&& BitVec.ofInt k.bits y).toNat)
 | .or => some (k.wrap (BitVec.ofInt k.bits x ||| BitVec.ofInt k.bits y).toNat)
 | .xor => some (k.wrap (BitVec.ofInt k.bits x ^^^ BitVec.ofInt k.bits y).toNat)
 | .andNot => some (k.wrap (BitVec.ofInt k.bits x &&& ~~~ BitVec.ofInt k.bits y).toNat)
 | _ => none
def shiftI (op : BinOp) (k : IntKind) (x y : Int) : Option Int := match op with
 | .shl => some (k.wrap (x * 2 ^ (min y.toNat k.bits)))
 | .shr => some (x.fdiv (2 ^ (min y.toNat k.bits)))
 | _ => none
section rules
variable {P : Program} {base : World} {n : Nat} {L : Env} {f : Frag} {A : List HP} {q : Post}
variable {l rest : List Oper} {d : Nat} {ty : TypeId} {pos : String} {af : Array Edge} {gd : Option (Nat × Bool)}
theorem H.Bj {op : BinOp} {xt yt : TypeId} {x y : Operand} {k : IntKind} {p p2 r z : Int} (hw : want? l L gd = true) (hx : ev? L x = some (.int k p)) (hy : ev? L y = some (.int k p2)) (hc : bitsI op k p p2 = some r) (hz : r = z) (hd : Nat.ble (d + 1) n = true)
  (kk : H P base n ((d, .int k z) :: L) f A (.ops l rest q)) : H P base n L f A (.ops l (⟨some d, .binOp op xt x y yt, ty, pos, af, gd⟩ :: rest) q) :=
 H.opV hw hd (fun a w hf _ => by
  cases op <;> simp only [bitsI, Option.some.injEq, reduceCtorEq] at hc <;> subst hc <;> subst hz <;>
   simp [execOp, eqGuard, binOp, Op.intBits, hf.eval hx, hf.eval hy]) kk
theorem H.shift {op : BinOp} {xt yt : TypeId} {x y : Operand} {k k2 : IntKind} {p p2 r z : Int} (hw : want? l L gd = true) (hx : ev? L x = some (.int k p)) (hy : ev? L y = some (.int k2 p2)) (hc : shiftI op k p p2 = some r) (h0 : 0 ≤ p2) (hz : r = z) (hd : Nat.ble (d + 1) n = true)
  (kk : H P base n ((d, .int k z) :: L) f A (.ops l rest q)) : H P base n L f A (.ops l (⟨some d, .binOp op xt x y yt, ty, pos, af, gd⟩ :: rest) q) :=
 H.opV hw hd (fun a w hf _ => by
  have h1 : ¬ p2 < 0 := by omega
  cases op <;> simp only [shiftI, Option.some.injEq, reduceCtorEq] at hc <;> subst hc <;> subst hz <;>
   simp [execOp, eqGuard, binOp, Op.shift, hf.eval hx, hf.eval hy, h1]) kk
theorem H.neg {x : Operand} {xt : TypeId} {k : IntKind} {p z : Int} (hw : want? l L gd = true) (hx : ev? L x = some (.int k p)) (hz : k.wrap (0 - p) = z) (hd : Nat.ble (d + 1) n = true)
  (kk : H P base n ((d, .int k z) :: L) f A (.ops l rest q)) : H P base n L f A (.ops l (⟨some d, .unOp .neg xt x, ty, pos, af, gd⟩ :: rest) q) :=
 H.opV hw hd (fun a w hf _ => by
  subst hz
  simp [execOp, Op.unary, Op.intArith, hf.eval hx]) kk
theorem H.max2 {x y : Operand} {ats : Array TypeId} {k : IntKind} {p p2 z : Int} (hw : want? l L gd = true) (hx : ev? L x = some (.int k p)) (hy : ev? L y = some (.int k p2)) (hz : (if p < p2 then p2 else p) = z) (hd : Nat.ble (d + 1) n = true)
  (kk : H P base n ((d, .int k z) :: L) f A (.ops l rest q)) : H P base n L f A (.ops l (⟨some d, .call ⟨.builtin .max, #[x, y], ats⟩, ty, pos, af, gd⟩ :: rest) q) :=
 H.opV hw hd (fun a w hf _ => by
  subst hz
  simp [execOp, resolve, invoke, builtin, Builtin.max_, Builtin.max2, hf.eval hx, hf.eval hy]) kk
theorem H.Cf {fn : Go.Fn} {xs cs : List Operand} {vs us : List Value} (hw : want? l L gd = true) (hx : evs? L xs = some vs) (hc : evs? L cs = some us) (hd : Nat.ble (d + 1) n = true)
  (k : H P base n ((d, .func fn vs.toArray us.toArray) :: L) f A (.ops l rest q)) : H P base n L f A (.ops l (⟨some d, .makeFunc fn xs.toArray cs.toArray, ty, pos, af, gd⟩ :: rest) q) :=
 H.opV hw hd (fun a w hf _ => by
  simp [execOp, Instr.makeFunc, hf.evals hx, hf.evals hc]) k
theorem H.aggEq {op : BinOp} {xt yt : TypeId} {x y : Operand} {xs ys : List Value} {D : Nat} {b : Bool} (hw : want? l L gd = true) (hx : ev? L x = some (.agg xs.toArray)) (hy : ev? L y = some (.agg ys.toArray)) (ho : op = .eql)
  (hg : P.eqGuardType P.depth xt = false) (h1 : shp P D xt xs = true) (h2 : shp P D xt ys = true) (hm : (match P.underlying xt with | some (.array _ _) | some (.struct _) => true | _ => false) = true) (hD : D ≤ 10000) (hb : eqC xs ys = b) (hd : Nat.ble (d + 1) n = true)
  (kk : H P base n ((d, .bool b) :: L) f A (.ops l rest q)) : H P base n L f A (.ops l (⟨some d, .binOp op xt x y yt, ty, pos, af, gd⟩ :: rest) q) :=
 H.opV hw hd (fun a w hf _ => by
  subst ho; subst hb
  have hmk : ∀ zs : List Value, mkV P xt zs = .agg zs.toArray := fun zs => by
   unfold mkV
   split at hm <;> simp_all
  have h3 := zaq 10000 xt w D D xs ys h1 h2 hD
  rw [hmk, hmk] at h3
  refine run_bin _ ?_ ?_
  ·rw [hf.eval hx, hf.eval hy]
   simp [eqGuard, hg]
  ·rw [hf.eval hx, hf.eval hy]
   show Sem.run P (do pure (Value.bool (← Op.equal xt (.agg xs.toArray) (.agg ys.toArray)))) w = _
   have h4 : Sem.run P (Op.equal xt (.agg xs.toArray) (.agg ys.toArray)) w = .ok (eqC xs ys) w := h3
   simp [h4]) kk
end rules
/-! A call of a function value. -/
theorem run_enterV {P : Program} {fid : FuncId} [hfun : Fun P fid] (a : Act) {dd : Option Tmp} {x : Operand} {xs : List Operand} {fs vs cs : List Value} {ats : Array TypeId} {ty : TypeId} {pos : String} {af : Array Edge} {gd : Option (Nat × Bool)} {w : World} (hx : a.eval x = .func (.func fid) fs.toArray cs.toArray) (hargs : xs.map a.eval = vs) :
  (execOp a.eval ⟨dd, .call ⟨.value x, xs.toArray, ats⟩, ty, pos, af, gd⟩).run P w = .ok (.enter fid (fs ++ vs ++ cs).toArray) w := by
 obtain ⟨fn, h1, h2, h3⟩ := hfun.eq
 have e1 : (fs.toArray ++ Array.map a.eval xs.toArray : Array Value) ++ cs.toArray = (fs ++ vs ++ cs).toArray := by simp [hargs]
 have e2 : (execOp a.eval ⟨dd, .call ⟨.value x, xs.toArray, ats⟩, ty, pos, af, gd⟩).run P w = Sem.run P (callFunc fid ((fs.toArray ++ Array.map a.eval xs.toArray) ++ cs.toArray)) w := by
  simp only [execOp, resolve, hx, Deferred.ofValue, Sem.run_bind, Sem.run_pure, Result.andThen_ok, invoke]
 rw [e2, e1]
 unfold callFunc
 simp only [Sem.run_bind, run_program, Result.andThen_ok, h1, h2, h3, Bool.false_eq_true, if_false, Sem.run_pure]
section
variable {P : Program} {base : World} {n : Nat} {L : Env} {f f' : Frag} {A A' : List HP} {q : Post}
variable {l rest : List Oper} {d : Nat} {ty : TypeId} {pos : String} {af : Array Edge} {gd : Option (Nat × Bool)}
theorem H.callV {fid : FuncId} {x : Operand} {xs : List Operand} {fs vs cs : List Value} {ats : Array TypeId} {R : Value → Frag → List HP → Prop} (hx : ev? L x = some (.func (.func fid) fs.toArray cs.toArray)) [hfun : Fun P fid] (hw : want? l L gd = true) (hd : Nat.ble (d + 1) n = true)
  (hxs : evs? L xs = some vs) (hc : Fn P fid (fs ++ vs ++ cs) f A R)
  (k : ∀ v f' A', R v f' A' → H P base n ((d, v) :: L) f' A' (.ops l rest q)) :
  H P base n L f A (.ops l (⟨some d, .call ⟨.value x, xs.toArray, ats⟩, ty, pos, af, gd⟩ :: rest) q) := .mk fun a w hf s => by
 show wpList P l.toArray (q.den P) _ a w
 unfold wpList
 rw [if_pos (hf.want (o := ⟨some d, _, ty, pos, af, gd⟩) hw)]
 refine .inl ?_
 have hrun := run_enterV (P := P) (dd := some d) (ats := ats) (ty := ty) (pos := pos) (af := af) (gd := gd) (w := w) a (fid := fid) (hf.eval hx) (hf.evals hxs)
 simp only [Oper.wp, hrun, Oper.upon]
 refine (hc base w s).mono ?_
 rintro e w' ⟨v, f', A', rfl, hr, s'⟩
 exact (k v f' A' hr).out _ _ (hf.put (Nat.le_of_ble_eq_true hd) v) s'
theorem H.callVR {fid : FuncId} {x : Operand} {xs : List Operand} {fs vs cs : List Value} {ats : Array TypeId} {v : Value} (hx : ev? L x = some (.func (.func fid) fs.toArray cs.toArray)) [hfun : Fun P fid] (hw : want? l L gd = true) (hd : Nat.ble (d + 1) n = true)
  (hxs : evs? L xs = some vs) (hc : Fn P fid (fs ++ vs ++ cs) f A (Ret v f' A')) (k : H P base n ((d, v) :: L) f' A' (.ops l rest q)) :
  H P base n L f A (.ops l (⟨some d, .call ⟨.value x, xs.toArray, ats⟩, ty, pos, af, gd⟩ :: rest) q) :=
 H.callV hx hw hd hxs hc fun _ _ _ h => by obtain ⟨rfl, rfl, rfl⟩ := h; exact k
end
section rules
variable {P : Program} {base : World} {n : Nat} {L : Env} {f : Frag} {A : List HP} {q : Post}
variable {l rest : List Oper} {d : Nat} {ty : TypeId} {pos : String} {af : Array Edge} {gd : Option (Nat × Bool)}
theorem H.Bq {t e : TypeId} {x : Operand} {p : Option Addr} {m c : Nat} [hu : Und P t (.slice e)] (hw : want? l L gd = true) (hx : ev? L x = some (.slice p m c)) (hd : Nat.ble (d + 1) n = true)
  (k : H P base n ((d, .int .i64 (c : Nat)) :: L) f A (.ops l rest q)) : H P base n L f A (.ops l (⟨some d, .call ⟨.builtin .cap, #[x], #[t]⟩, ty, pos, af, gd⟩ :: rest) q) :=
 H.opV hw hd (fun a w hfr _ => by
  simp [execOp, resolve, invoke, builtin, Builtin.cap_, hfr.eval hx, hu.run, goInt]) k
theorem H.slc_cap {A' : List HP} {p : Option Addr} {m c sz : Nat} {T : TypeId} {xs : List Value} {K : Kont} (h : At A (slc p m c T sz xs) A' (slc p m c T sz xs))
  (k : m ≤ c → c ≤ 9223372036854775807 → xs.length = m * sz → H P base n L f A K) : H P base n L f A K := .mk fun a w hf s => by
 obtain ⟨h1, h2, h3⟩ := s.slc_at h
 rcases h3 with ⟨rfl, rfl⟩ | ⟨b, sp, rfl, h4, _⟩
 ·exact (k (Nat.le_refl _) h2 h1).out a w hf s
 ·exact (k h4 h2 h1).out a w hf s
theorem slP0 (p : Option Addr) (mv sz : Nat) : slP p 0 mv sz = p := by
 unfold slP
 split
 ·rfl
 ·cases p <;> simp [Addr.add]
theorem H.sliceTo {t e : TypeId} {x y : Operand} {p : Option Addr} {len cap hv sz : Nat} {kk : IntKind} {z : Int} [hu : Und P t (.slice e)] [hs : Siz P e sz] (hw : want? l L gd = true)
  (hx : ev? L x = some (.slice p len cap)) (hy : ev? L y = some (.int kk z)) (hz : z = (hv : Nat)) (a2 : hv ≤ cap) (hd : Nat.ble (d + 1) n = true)
  (k : H P base n ((d, .slice p hv cap) :: L) f A (.ops l rest q)) : H P base n L f A (.ops l (⟨some d, .slice t x none (some y) none, ty, pos, af, gd⟩ :: rest) q) :=
 H.slice (hu := hu) (hs := hs) (lv := 0) (hv := hv) (mv := cap) hw hx rfl ⟨kk, z, hy, hz⟩ rfl (fun h => by cases h) (Nat.zero_le _) a2 (Nat.le_refl _) hd (by rw [slP0]; exact k)
theorem H.slc_full {B : List HP} {p : Option Addr} {m c sz : Nat} {T : TypeId} {xs : List Value} {K : Kont}
  (k : ∀ sp : List Value, (xs ++ sp).length = c * sz → m ≤ c → H P base n L f (slc p c c T sz (xs ++ sp) :: B) K) : H P base n L f (slc p m c T sz xs :: B) K := .mk fun a w hf s => by
 obtain ⟨mm, ⟨m1, m2, dj, e, ⟨h1, h2, h3⟩, r⟩, hd, hw⟩ := s.mem
 rcases h3 with ⟨rfl, rfl, hn⟩ | ⟨b, sp, rfl, h4, h5, hn⟩
 ·have : xs = [] := List.eq_nil_of_length_eq_zero (by simpa using h1)
  subst this
  exact (k [] (by simp) (Nat.le_refl _)).out a w hf ⟨s.os, s.tape, s.output, s.size, s.imm, mm, ⟨m1, m2, dj, e, ⟨by simp, h2, .inl ⟨rfl, rfl, hn⟩⟩, r⟩, hd, hw⟩
 ·exact (k sp h5 h4).out a w hf ⟨s.os, s.tape, s.output, s.size, s.imm, mm, ⟨m1, m2, dj, e, ⟨h5, h2, .inr ⟨b, [], rfl, Nat.le_refl _, by rw [List.append_nil]; exact h5, by rw [List.append_nil]; exact hn⟩⟩, r⟩, hd, hw⟩
theorem H.slc_trunc {B : List HP} {p : Option Addr} {m m' c sz : Nat} {T : TypeId} {xs ys : List Value} {K : Kont} (hm : m' ≤ m) (hc : m ≤ c) (hy : ys = xs.take (m' * sz))
  (k : H P base n L f (slc p m' c T sz ys :: B) K) : H P base n L f (slc p m c T sz xs :: B) K := .mk fun a w hf s => by
 subst hy
 obtain ⟨mm, ⟨m1, m2, dj, e, ⟨h1, h2, h3⟩, r⟩, hd, hw⟩ := s.mem
 have hlen : (xs.take (m' * sz)).length = m' * sz := by
  rw [List.length_take, h1]; exact Nat.min_eq_left (Nat.mul_le_mul_right _ hm)
 refine k.out a w hf ⟨s.os, s.tape, s.output, s.size, s.imm, mm, ⟨m1, m2, dj, e, ⟨hlen, h2, ?_⟩, r⟩, hd, hw⟩
 rcases h3 with ⟨rfl, rfl, hn⟩ | ⟨b, sp, rfl, h4, h5, hn⟩
 ·exact .inl ⟨by omega, rfl, hn⟩
 ·refine .inr ⟨b, xs.drop (m' * sz) ++ sp, rfl, by omega, ?_, ?_⟩
  ·rw [← List.append_assoc, List.take_append_drop]; exact h5
  ·rw [← List.append_assoc, List.take_append_drop]; exact hn
theorem run_append_zero_out {w : World} {t u e ty : TypeId} {p : Option Addr} {n c m : Nat} {z : Value} {i : TypeInfo} {olds : List Value}
  (hu : Und P t (.slice e)) (hu2 : Und P u (.int .i64)) (hi : P.info? e = some i) (hz : i.zero = some z) (hpos : 0 < m * i.size)
  (hold : (Builtin.firstCells i.size n (.slice p n c)).run P w.drew = .ok olds.toArray w.drew)
  (hg : c < n + m) (h63 : n + m ≤ 9223372036854775807) (hby : (n + m) * i.bytes ≤ 140737488355328) (hfit : Builtin.nextslicecap (n + m) c * i.bytes ≤ 281474976710656) :
  (Builtin.append_ #[t, u] ty #[.slice p n c, .int .i64 (m : Nat)]).run P w =
   .ok (.slice (some ⟨w.heap.size, 0, none⟩) (n + m) (grownCap w (n + m) c e)) (w.drew.alloc (.cells (olds.toArray ++ Builtin.zeroCells z.cells m ++ Builtin.zeroCells z.cells (grownCap w (n + m) c e - (n + m))) e)) := by
 have hn : ¬ (n + m ≤ c) := by omega
 have h63' : ¬ (9223372036854775807 < ((n : Int) + (m : Int))) := by omega
 have h48' : ¬ (281474976710656 < Builtin.nextslicecap (n + m) c * i.bytes) := by omega
 have hwr : IntKind.i64.wrap (m : Int) = (m : Int) := wr_i64 (by omega)
 have hm0 : ¬ ((m : Int) < 0) := by omega
 have hmb : m * i.bytes ≤ 281474976710656 := by
  have : m * i.bytes ≤ (n + m) * i.bytes := Nat.mul_le_mul_right _ (by omega)
  omega
 have hmb' : ¬ (281474976710656 < (m : Int) * (i.bytes : Int)) := by
  rw [← Int.natCast_mul]
  omega
 have hp : ¬ (m * i.size = 0) := by omega
 have hp2 : ¬ (m = 0 ∨ i.size = 0) := by
  rintro (h | h) <;> simp [h] at hpos
 simp [Builtin.append_, run_underlying hu.eq, run_underlying hu2.eq, sizeOf, typeInfo, zeroValue, hi, hz, hold, hn, h63', h48', hwr, hm0, hmb', hp, asInt, asIntOf, Question.forced, newRow, grownCap]
theorem run_append_zero {w : World} {A' : Option Addr → Nat → List HP} {t u e ty : TypeId} {p : Option Addr} {n c sz m bytes : Nat} {xs : List Value} {z : Value}
  (hu : Und P t (.slice e)) (hu2 : Und P u (.int .i64)) (hs : Siz P e sz) (hb : Byt P e bytes) (hz : Zer P e z)
  (s : Sat base w f A) (hA : ∀ p' c', At A (slc p n c e sz xs) (A' p' c') (slc p' (n + m) c' e sz (xs ++ (Builtin.zeroCells z.cells m).toList)))
  (hzs : z.cells.size = sz) (hpos : 0 < m * sz) (hg : c < n + m) (h63 : n + m ≤ 9223372036854775807) (hby : (n + m) * bytes ≤ 140737488355328) :
  ∃ p' c' w', (Builtin.append_ #[t, u] ty #[.slice p n c, .int .i64 (m : Nat)]).run P w = .ok (.slice p' (n + m) c') w' ∧ Sat base w' f (A' p' c') := by
 obtain ⟨i, hi, rfl, rfl, hiz⟩ := info_of hs hb hz
 obtain ⟨hl, hc, h3⟩ := s.slc_at (hA none 0)
 have hold : (Builtin.firstCells i.size n (.slice p n c)).run P w.drew = .ok xs.toArray w.drew := by
  rcases h3 with ⟨rfl, rfl⟩ | ⟨b, sp, rfl, hnc, hcs, hw⟩
  ·have hx : xs = [] := List.eq_nil_of_length_eq_zero (by simpa using hl)
   subst hx
   cases p with
   | none => exact run_firstCells_none w.drew i.size 0 0 0
   | some a => exact run_firstCells_some w.drew i.size 0 a 0 0 [] (by simp) (by simp)
  ·exact run_firstCells_some (P := P) w.drew i.size n ⟨b, 0, none⟩ n c xs hl (fun j v hj => by
    rw [zaj]
    have : j < xs.length := by
     rcases Nat.lt_or_ge j xs.length with h | h
     ·exact h
     ·simp [List.getElem?_eq_none h] at hj
    simp [World.cell?, show w.drew.heap = w.heap from rfl, hw, List.getElem?_append_left this, hj])
 have hr := run_append_zero_out (ty := ty) hu hu2 hi hiz hpos hold hg h63 hby (growslice_fits hg hby)
 have hlen : (xs ++ (Builtin.zeroCells z.cells m).toList).length = (n + m) * i.size := by
  rw [List.length_append, hl, Array.length_toList, size_zeroCells, hzs, Nat.add_mul]
 refine ⟨_, _, _, hr, s.fresh (hA _ _) rfl rfl rfl rfl ⟨hlen, ?_, .inr ⟨_, (Builtin.zeroCells z.cells (grownCap w (n + m) c e - (n + m))).toList, rfl, grownCap_ge _ _ _ _, ?_, ?_⟩⟩⟩
 ·have := grownCap_le_maxLen w (n + m) c e (by unfold maxLen; omega)
  unfold maxLen at this; omega
 ·have hge := grownCap_ge w (n + m) c e
  rw [List.length_append, hlen, Array.length_toList, size_zeroCells, hzs, ← Nat.add_mul]; congr 1; omega
 ·congr 2
  rw [← List.append_toArray, ← List.append_toArray, Array.toArray_toList, Array.toArray_toList]
theorem H.appendZ {A' : Option Addr → Nat → List HP} {t u e : TypeId} {x y : Operand} {p : Option Addr} {n0 c sz m bytes : Nat} {zi : Int} {xs : List Value} {z : Value}
  [hu : Und P t (.slice e)] [hu2 : Und P u (.int .i64)] [hs : Siz P e sz] [hb : Byt P e bytes] [hz : Zer P e z] (hw : want? l L gd = true) (hd : Nat.ble (d + 1) n = true) (hx : ev? L x = some (.slice p n0 c)) (hy : ev? L y = some (.int .i64 zi)) (hzi : zi = (m : Nat))
  (hA : ∀ p' c', At A (slc p n0 c e sz xs) (A' p' c') (slc p' (n0 + m) c' e sz (xs ++ (Builtin.zeroCells z.cells m).toList)))
  (hzs : z.cells.size = sz) (hpos : 0 < m * sz) (hg : c < n0 + m) (h63 : n0 + m ≤ 9223372036854775807) (hby : (n0 + m) * bytes ≤ 140737488355328)
  (k : ∀ p' c', H P base n ((d, .slice p' (n0 + m) c') :: L) f (A' p' c') (.ops l rest q)) :
  H P base n L f A (.ops l (⟨some d, .call ⟨.builtin .append, #[x, y], #[t, u]⟩, ty, pos, af, gd⟩ :: rest) q) :=
 H.opE (ι := Option Addr × Nat) (fun i => .slice i.1 (n0 + m) i.2) (fun _ => f) (fun i => A' i.1 i.2) (fun _ => True) hw hd (fun a w hfr s => by
  subst hzi
  obtain ⟨p', c', w', hr, s'⟩ := run_append_zero (ty := ty) hu hu2 hs hb hz s hA hzs hpos hg h63 hby
  exact ⟨(p', c'), w', trivial, run_builtin_append (by rw [hfr.eval hx, hfr.eval hy]; exact hr), s'⟩) (fun i _ => k i.1 i.2)
theorem Src.cons {y : HP} {x : Value} {sz m : Nat} {news : List Value} (h : Src P f A x sz m news) : Src P f (y :: A) x sz m news :=
 ⟨h.len, fun base w s => h.cells base w (s.drop (.here _ _)), h.size⟩
theorem Src.append {B : List HP} {x : Value} {sz m : Nat} {news : List Value} (h : Src P f A x sz m news) : Src P f (B ++ A) x sz m news := by
 induction B with
 | nil => exact h
 | cons b B ih => exact ih.cons
theorem results_cell {fn : Func} {p : Tmp} {ty : TypeId} {tmps : Array Value} {w : World} {b off : Nat} {v : Value} (h : fn.results = #[.cell p ty]) (hp : tmps.getD p undef = .pointer (some ⟨b, off, none⟩))
  (hl : (loadVar ty ⟨b, off, none⟩).run P w = .ok v w) : (results fn tmps).run P w = .ok v w := by
 have hp' : tmps[p]?.getD undef = .pointer (some ⟨b, off, none⟩) := by simpa using hp
 simp only [results, h]
 simp [Sem.run_bind, asAddr, hp', hl]
end rules
instance ty14 : Und Tryz.prog 3 (Go.TypeDesc.int Go.IntKind.i64) := ⟨Tryz.underlying3⟩
instance ty15 : Siz Tryz.prog 3 1 := ⟨by kernel_rfl⟩
instance ty17 : Zer Tryz.prog 3 (.int .i64 0) := ⟨by kernel_rfl⟩
instance ty18 : Und Tryz.prog 4 (Go.TypeDesc.bool) := ⟨Tryz.underlying4⟩
instance ty19 : Siz Tryz.prog 4 1 := ⟨by kernel_rfl⟩
instance ty21 : Zer Tryz.prog 4 (.bool false) := ⟨by kernel_rfl⟩
instance ty22 : Und Tryz.prog 5 (Go.TypeDesc.int Go.IntKind.u8) := ⟨Tryz.underlying5⟩
instance ty23 : Siz Tryz.prog 5 1 := ⟨by kernel_rfl⟩
instance ty24 : Byt Tryz.prog 5 1 := ⟨by kernel_rfl⟩
instance ty25 : Zer Tryz.prog 5 (.int .u8 0) := ⟨by kernel_rfl⟩
instance ty40 : Und Tryz.prog 9 (Go.TypeDesc.string) := ⟨Tryz.underlying9⟩
instance ty41 : Siz Tryz.prog 9 1 := ⟨by kernel_rfl⟩
instance ty43 : Zer Tryz.prog 9 (.string ByteArray.empty) := ⟨by kernel_rfl⟩
instance ty108 : Und Tryz.prog 25 (Go.TypeDesc.slice 5) := ⟨Tryz.underlying25⟩
instance ty109 : Siz Tryz.prog 25 1 := ⟨by kernel_rfl⟩
instance ty111 : Zer Tryz.prog 25 (.slice none 0 0) := ⟨by kernel_rfl⟩
instance ty177 : Und Tryz.prog 42 (Go.TypeDesc.int Go.IntKind.u64) := ⟨Tryz.underlying42⟩
instance ty178 : Siz Tryz.prog 42 1 := ⟨by kernel_rfl⟩
instance ty179 : Byt Tryz.prog 42 8 := ⟨by kernel_rfl⟩
instance ty180 : Zer Tryz.prog 42 (.int .u64 0) := ⟨by kernel_rfl⟩
instance ty185 : Und Tryz.prog 44 (Go.TypeDesc.array 11 42) := ⟨Tryz.underlying44⟩
instance ty186 : Siz Tryz.prog 44 11 := ⟨by kernel_rfl⟩
instance ty188 : Zer Tryz.prog 44 (.agg ((List.replicate 11 (.int .u64 0) : List Value)).toArray) := ⟨by kernel_rfl⟩
instance ty194 : Und Tryz.prog 46 (Go.TypeDesc.struct #[{ name := "Kind", type := 5, offset := 0, embedded := false, tag := "", pkgPath := "", byteOffset := 0 }, { name := "Key", type := 9, offset := 1, embedded := false, tag := "", pkgPath := "", byteOffset := 8 }, { name := "Value", type := 9, offset := 2, embedded := false, tag := "", pkgPath := "", byteOffset := 24 }, { name := "Old", type := 9, offset := 3, embedded := false, tag := "", pkgPath := "", byteOffset := 40 }, { name := "To", type := 9, offset := 4, embedded := false, tag := "", pkgPath := "", byteOffset := 56 }, { name := "Amount", type := 42, offset := 5, embedded := false, tag := "", pkgPath := "", byteOffset := 72 }]) := ⟨Tryz.underlying46⟩
instance ty195 : Siz Tryz.prog 46 6 := ⟨by kernel_rfl⟩
instance ty197 : Plc Tryz.prog 46 [(0, 1), (1, 1), (2, 1), (3, 1), (4, 1), (5, 1)] := ⟨fun fs w h => by rw [Tryz.underlying46] at h; cases h; kernel_rfl⟩
instance ty198 : Zer Tryz.prog 46 (.agg (([.int .u8 0, .string ByteArray.empty, .string ByteArray.empty, .string ByteArray.empty, .string ByteArray.empty, .int .u64 0] : List Value)).toArray) := ⟨by kernel_rfl⟩
instance ty199 : Und Tryz.prog 47 (Go.TypeDesc.array 32 5) := ⟨Tryz.underlying47⟩
instance ty200 : Siz Tryz.prog 47 32 := ⟨by kernel_rfl⟩
instance ty202 : Zer Tryz.prog 47 (.agg ((List.replicate 32 (.int .u8 0) : List Value)).toArray) := ⟨by kernel_rfl⟩
instance ty208 : Und Tryz.prog 49 (Go.TypeDesc.struct #[{ name := "Client", type := 3, offset := 0, embedded := false, tag := "", pkgPath := "", byteOffset := 0 }, { name := "Time", type := 42, offset := 1, embedded := false, tag := "", pkgPath := "", byteOffset := 8 }, { name := "Op", type := 46, offset := 2, embedded := false, tag := "", pkgPath := "", byteOffset := 16 }, { name := "Tag", type := 47, offset := 8, embedded := false, tag := "", pkgPath := "", byteOffset := 96 }]) := ⟨Tryz.underlying49⟩
instance ty209 : Siz Tryz.prog 49 40 := ⟨by kernel_rfl⟩
instance ty210 : Byt Tryz.prog 49 128 := ⟨by kernel_rfl⟩
instance ty211 : Plc Tryz.prog 49 [(0, 1), (1, 1), (2, 6), (8, 32)] := ⟨fun fs w h => by rw [Tryz.underlying49] at h; cases h; kernel_rfl⟩
instance ty212 : Zer Tryz.prog 49 (.agg (([.int .i64 0, .int .u64 0, .int .u8 0, .string ByteArray.empty, .string ByteArray.empty, .string ByteArray.empty, .string ByteArray.empty, .int .u64 0] : List Value) ++ (List.replicate 32 (.int .u8 0) : List Value)).toArray) := ⟨by kernel_rfl⟩
instance ty213 : Und Tryz.prog 50 (Go.TypeDesc.slice 88) := ⟨Tryz.underlying50⟩
instance ty214 : Siz Tryz.prog 50 1 := ⟨by kernel_rfl⟩
instance ty222 : Und Tryz.prog 52 (Go.TypeDesc.struct #[{ name := "Kind", type := 5, offset := 0, embedded := false, tag := "", pkgPath := "", byteOffset := 0 }, { name := "View", type := 42, offset := 1, embedded := false, tag := "", pkgPath := "", byteOffset := 8 }, { name := "K", type := 42, offset := 2, embedded := false, tag := "", pkgPath := "", byteOffset := 16 }, { name := "Request", type := 49, offset := 3, embedded := false, tag := "", pkgPath := "", byteOffset := 24 }, { name := "Q", type := 50, offset := 43, embedded := false, tag := "", pkgPath := "", byteOffset := 152 }, { name := "Digest", type := 47, offset := 44, embedded := false, tag := "", pkgPath := "", byteOffset := 176 }]) := ⟨Tryz.underlying52⟩
instance ty223 : Siz Tryz.prog 52 76 := ⟨by kernel_rfl⟩
instance ty225 : Plc Tryz.prog 52 [(0, 1), (1, 1), (2, 1), (3, 40), (43, 1), (44, 32)] := ⟨fun fs w h => by rw [Tryz.underlying52] at h; cases h; kernel_rfl⟩
instance ty226 : Zer Tryz.prog 52 (.agg (([.int .u8 0, .int .u64 0, .int .u64 0, .int .i64 0, .int .u64 0, .int .u8 0, .string ByteArray.empty, .string ByteArray.empty, .string ByteArray.empty, .string ByteArray.empty, .int .u64 0] : List Value) ++ (List.replicate 32 (.int .u8 0) : List Value) ++ ([.slice none 0 0] : List Value) ++ (List.replicate 32 (.int .u8 0) : List Value)).toArray) := ⟨by kernel_rfl⟩
instance ty232 : Und Tryz.prog 54 (Go.TypeDesc.struct #[{ name := "Origin", type := 3, offset := 0, embedded := false, tag := "", pkgPath := "", byteOffset := 0 }, { name := "Number", type := 42, offset := 1, embedded := false, tag := "", pkgPath := "", byteOffset := 8 }, { name := "Deps", type := 44, offset := 2, embedded := false, tag := "", pkgPath := "", byteOffset := 16 }, { name := "Body", type := 52, offset := 13, embedded := false, tag := "", pkgPath := "", byteOffset := 104 }, { name := "Tag", type := 47, offset := 89, embedded := false, tag := "", pkgPath := "", byteOffset := 312 }]) := ⟨Tryz.underlying54⟩
instance ty233 : Siz Tryz.prog 54 121 := ⟨by kernel_rfl⟩
instance ty235 : Plc Tryz.prog 54 [(0, 1), (1, 1), (2, 11), (13, 76), (89, 32)] := ⟨fun fs w h => by rw [Tryz.underlying54] at h; cases h; kernel_rfl⟩
instance ty236 : Zer Tryz.prog 54 (.agg (([.int .i64 0, .int .u64 0] : List Value) ++ (List.replicate 11 (.int .u64 0) : List Value) ++ ([.int .u8 0, .int .u64 0, .int .u64 0, .int .i64 0, .int .u64 0, .int .u8 0, .string ByteArray.empty, .string ByteArray.empty, .string ByteArray.empty, .string ByteArray.empty, .int .u64 0] : List Value) ++ (List.replicate 32 (.int .u8 0) : List Value) ++ ([.slice none 0 0] : List Value) ++ (List.replicate 32 (.int .u8 0) : List Value) ++ (List.replicate 32 (.int .u8 0) : List Value)).toArray) := ⟨by kernel_rfl⟩
instance ty277 : Und Tryz.prog 66 (Go.TypeDesc.pointer 127) := ⟨Tryz.underlying66⟩
instance ty317 : Und Tryz.prog 79 (Go.TypeDesc.slice 49) := ⟨Tryz.underlying79⟩
instance ty318 : Siz Tryz.prog 79 1 := ⟨by kernel_rfl⟩
instance ty326 : Und Tryz.prog 82 (Go.TypeDesc.slice 42) := ⟨Tryz.underlying82⟩
instance ty327 : Siz Tryz.prog 82 1 := ⟨by kernel_rfl⟩
instance ty351 : Und Tryz.prog 88 (Go.TypeDesc.struct #[{ name := "Replica", type := 3, offset := 0, embedded := false, tag := "", pkgPath := "", byteOffset := 0 }, { name := "Number", type := 42, offset := 1, embedded := false, tag := "", pkgPath := "", byteOffset := 8 }]) := ⟨Tryz.underlying88⟩
instance ty352 : Siz Tryz.prog 88 2 := ⟨by kernel_rfl⟩
instance ty353 : Byt Tryz.prog 88 16 := ⟨by kernel_rfl⟩
instance ty354 : Plc Tryz.prog 88 [(0, 1), (1, 1)] := ⟨fun fs w h => by rw [Tryz.underlying88] at h; cases h; kernel_rfl⟩
instance ty355 : Zer Tryz.prog 88 (.agg (([.int .i64 0, .int .u64 0] : List Value)).toArray) := ⟨by kernel_rfl⟩
instance ty422 : Und Tryz.prog 106 (Go.TypeDesc.int Go.IntKind.u64) := ⟨Tryz.underlying106⟩
instance ty426 : Und Tryz.prog 107 (Go.TypeDesc.int Go.IntKind.u32) := ⟨Tryz.underlying107⟩
instance ty427 : Siz Tryz.prog 107 1 := ⟨by kernel_rfl⟩
instance ty430 : Und Tryz.prog 108 (Go.TypeDesc.array 8 107) := ⟨Tryz.underlying108⟩
instance ty431 : Siz Tryz.prog 108 8 := ⟨by kernel_rfl⟩
instance ty433 : Zer Tryz.prog 108 (.agg ((List.replicate 8 (.int .u32 0) : List Value)).toArray) := ⟨by kernel_rfl⟩
instance ty438 : Und Tryz.prog 110 (Go.TypeDesc.array 64 5) := ⟨Tryz.underlying110⟩
instance ty439 : Siz Tryz.prog 110 64 := ⟨by kernel_rfl⟩
instance ty441 : Zer Tryz.prog 110 (.agg ((List.replicate 64 (.int .u8 0) : List Value)).toArray) := ⟨by kernel_rfl⟩
instance ty478 : Und Tryz.prog 119 (Go.TypeDesc.pointer 122) := ⟨Tryz.underlying119⟩
instance ty481 : Zer Tryz.prog 119 (.pointer none) := ⟨by kernel_rfl⟩
instance ty482 : Und Tryz.prog 120 (Go.TypeDesc.map 154 4) := ⟨Tryz.underlying120⟩
instance ty483 : Siz Tryz.prog 120 1 := ⟨by kernel_rfl⟩
instance ty491 : Und Tryz.prog 122 (Go.TypeDesc.struct #[{ name := "number", type := 42, offset := 0, embedded := false, tag := "", pkgPath := "ratchet/log", byteOffset := 0 }, { name := "s", type := 3, offset := 1, embedded := false, tag := "", pkgPath := "ratchet/log", byteOffset := 8 }, { name := "log", type := 79, offset := 2, embedded := false, tag := "", pkgPath := "ratchet/log", byteOffset := 16 }, { name := "numbers", type := 82, offset := 3, embedded := false, tag := "", pkgPath := "ratchet/log", byteOffset := 40 }, { name := "held", type := 120, offset := 4, embedded := false, tag := "", pkgPath := "ratchet/log", byteOffset := 64 }]) := ⟨Tryz.underlying122⟩
instance ty494 : Plc Tryz.prog 122 [(0, 1), (1, 1), (2, 1), (3, 1), (4, 1)] := ⟨fun fs w h => by rw [Tryz.underlying122] at h; cases h; kernel_rfl⟩
instance ty495 : Zer Tryz.prog 122 (.agg (([.int .u64 0, .int .i64 0, .slice none 0 0, .slice none 0 0, .map none] : List Value)).toArray) := ⟨by kernel_rfl⟩
instance ty496 : Und Tryz.prog 123 (Go.TypeDesc.map 42 119) := ⟨Tryz.underlying123⟩
instance ty497 : Siz Tryz.prog 123 1 := ⟨by kernel_rfl⟩
instance ty500 : Und Tryz.prog 124 (Go.TypeDesc.slice 158) := ⟨Tryz.underlying124⟩
instance ty504 : Und Tryz.prog 125 (Go.TypeDesc.slice 128) := ⟨Tryz.underlying125⟩
instance ty505 : Siz Tryz.prog 125 1 := ⟨by kernel_rfl⟩
instance ty513 : Und Tryz.prog 127 (Go.TypeDesc.struct #[{ name := "n", type := 3, offset := 0, embedded := false, tag := "", pkgPath := "ratchet/log", byteOffset := 0 }, { name := "known", type := 44, offset := 1, embedded := false, tag := "", pkgPath := "ratchet/log", byteOffset := 8 }, { name := "views", type := 123, offset := 12, embedded := false, tag := "", pkgPath := "ratchet/log", byteOffset := 96 }, { name := "pasts", type := 125, offset := 13, embedded := false, tag := "", pkgPath := "ratchet/log", byteOffset := 104 }, { name := "changes", type := 124, offset := 14, embedded := false, tag := "", pkgPath := "ratchet/log", byteOffset := 128 }]) := ⟨Tryz.underlying127⟩
instance ty516 : Plc Tryz.prog 127 [(0, 1), (1, 11), (12, 1), (13, 1), (14, 1)] := ⟨fun fs w h => by rw [Tryz.underlying127] at h; cases h; kernel_rfl⟩
instance ty517 : Zer Tryz.prog 127 (.agg (([.int .i64 0] : List Value) ++ (List.replicate 11 (.int .u64 0) : List Value) ++ ([.map none, .slice none 0 0, .slice none 0 0] : List Value)).toArray) := ⟨by kernel_rfl⟩
instance ty518 : Und Tryz.prog 128 (Go.TypeDesc.pointer 177) := ⟨Tryz.underlying128⟩
instance ty519 : Siz Tryz.prog 128 1 := ⟨by kernel_rfl⟩
instance ty520 : Byt Tryz.prog 128 8 := ⟨by kernel_rfl⟩
instance ty521 : Zer Tryz.prog 128 (.pointer none) := ⟨by kernel_rfl⟩
instance ty627 : Und Tryz.prog 154 (Go.TypeDesc.struct #[{ name := "client", type := 3, offset := 0, embedded := false, tag := "", pkgPath := "ratchet/log", byteOffset := 0 }, { name := "time", type := 42, offset := 1, embedded := false, tag := "", pkgPath := "ratchet/log", byteOffset := 8 }]) := ⟨Tryz.underlying154⟩
instance ty630 : Plc Tryz.prog 154 [(0, 1), (1, 1)] := ⟨fun fs w h => by rw [Tryz.underlying154] at h; cases h; kernel_rfl⟩
instance ty631 : Zer Tryz.prog 154 (.agg (([.int .i64 0, .int .u64 0] : List Value)).toArray) := ⟨by kernel_rfl⟩
instance ty647 : Siz Tryz.prog 158 1 := ⟨by kernel_rfl⟩
instance ty648 : Byt Tryz.prog 158 24 := ⟨by kernel_rfl⟩
instance ty649 : Zer Tryz.prog 158 (.slice none 0 0) := ⟨by kernel_rfl⟩
instance ty676 : Und Tryz.prog 165 (Go.TypeDesc.array 64 107) := ⟨Tryz.underlying165⟩
instance ty677 : Siz Tryz.prog 165 64 := ⟨by kernel_rfl⟩
instance ty679 : Zer Tryz.prog 165 (.agg ((List.replicate 64 (.int .u32 0) : List Value)).toArray) := ⟨by kernel_rfl⟩
instance ty692 : Und Tryz.prog 169 (Go.TypeDesc.func #[52] #[4] false) := ⟨Tryz.underlying169⟩
instance ty693 : Siz Tryz.prog 169 1 := ⟨by kernel_rfl⟩
instance ty696 : Und Tryz.prog 170 (Go.TypeDesc.pointer 212) := ⟨Tryz.underlying170⟩
instance ty716 : Und Tryz.prog 175 (Go.TypeDesc.map 42 3) := ⟨Tryz.underlying175⟩
instance ty717 : Siz Tryz.prog 175 1 := ⟨by kernel_rfl⟩
instance ty725 : Und Tryz.prog 177 (Go.TypeDesc.struct #[{ name := "great", type := 42, offset := 0, embedded := false, tag := "", pkgPath := "ratchet/past", byteOffset := 0 }, { name := "entered", type := 82, offset := 1, embedded := false, tag := "", pkgPath := "ratchet/past", byteOffset := 8 }, { name := "voted", type := 175, offset := 2, embedded := false, tag := "", pkgPath := "ratchet/past", byteOffset := 32 }]) := ⟨Tryz.underlying177⟩
instance ty728 : Plc Tryz.prog 177 [(0, 1), (1, 1), (2, 1)] := ⟨fun fs w h => by rw [Tryz.underlying177] at h; cases h; kernel_rfl⟩
instance ty729 : Zer Tryz.prog 177 (.agg (([.int .u64 0, .slice none 0 0, .map none] : List Value)).toArray) := ⟨by kernel_rfl⟩
instance ty820 : Und Tryz.prog 199 (Go.TypeDesc.func #[25, 52] #[25] false) := ⟨Tryz.underlying199⟩
instance ty821 : Siz Tryz.prog 199 1 := ⟨by kernel_rfl⟩
instance ty824 : Und Tryz.prog 200 (Go.TypeDesc.func #[206, 208] #[] false) := ⟨Tryz.underlying200⟩
instance ty825 : Siz Tryz.prog 200 1 := ⟨by kernel_rfl⟩
instance ty833 : Und Tryz.prog 202 (Go.TypeDesc.struct #[{ name := "put", type := 199, offset := 0, embedded := false, tag := "", pkgPath := "ratchet/message", byteOffset := 0 }, { name := "get", type := 200, offset := 1, embedded := false, tag := "", pkgPath := "ratchet/message", byteOffset := 8 }, { name := "may", type := 169, offset := 2, embedded := false, tag := "", pkgPath := "ratchet/message", byteOffset := 16 }]) := ⟨Tryz.underlying202⟩
instance ty834 : Siz Tryz.prog 202 3 := ⟨by kernel_rfl⟩
instance ty836 : Plc Tryz.prog 202 [(0, 1), (1, 1), (2, 1)] := ⟨fun fs w h => by rw [Tryz.underlying202] at h; cases h; kernel_rfl⟩
instance ty837 : Zer Tryz.prog 202 (.agg (([.nilFunc, .nilFunc, .nilFunc] : List Value)).toArray) := ⟨by kernel_rfl⟩
instance ty839 : Und Tryz.prog 204 (Go.TypeDesc.map 5 202) := ⟨Tryz.underlying204⟩
instance ty847 : Und Tryz.prog 206 (Go.TypeDesc.pointer 233) := ⟨Tryz.underlying206⟩
instance ty872 : Und Tryz.prog 212 (Go.TypeDesc.struct #[{ name := "s", type := 108, offset := 0, embedded := false, tag := "", pkgPath := "ratchet/sha", byteOffset := 0 }, { name := "part", type := 110, offset := 8, embedded := false, tag := "", pkgPath := "ratchet/sha", byteOffset := 32 }, { name := "n", type := 3, offset := 72, embedded := false, tag := "", pkgPath := "ratchet/sha", byteOffset := 96 }, { name := "all", type := 42, offset := 73, embedded := false, tag := "", pkgPath := "ratchet/sha", byteOffset := 104 }]) := ⟨Tryz.underlying212⟩
instance ty873 : Siz Tryz.prog 212 74 := ⟨by kernel_rfl⟩
instance ty875 : Plc Tryz.prog 212 [(0, 8), (8, 64), (72, 1), (73, 1)] := ⟨fun fs w h => by rw [Tryz.underlying212] at h; cases h; kernel_rfl⟩
instance ty876 : Zer Tryz.prog 212 (.agg ((List.replicate 8 (.int .u32 0) : List Value) ++ (List.replicate 64 (.int .u8 0) : List Value) ++ ([.int .i64 0, .int .u64 0] : List Value)).toArray) := ⟨by kernel_rfl⟩
instance ty955 : Und Tryz.prog 233 (Go.TypeDesc.struct #[{ name := "b", type := 25, offset := 0, embedded := false, tag := "", pkgPath := "ratchet/octet", byteOffset := 0 }, { name := "spoil", type := 4, offset := 1, embedded := false, tag := "", pkgPath := "ratchet/octet", byteOffset := 24 }]) := ⟨Tryz.underlying233⟩
instance ty958 : Plc Tryz.prog 233 [(0, 1), (1, 1)] := ⟨fun fs w h => by rw [Tryz.underlying233] at h; cases h; kernel_rfl⟩
instance ty959 : Zer Tryz.prog 233 (.agg (([.slice none 0 0, .bool false] : List Value)).toArray) := ⟨by kernel_rfl⟩
instance ty1029 : Und Tryz.prog 252 (Go.TypeDesc.int Go.IntKind.u16) := ⟨Tryz.underlying252⟩
instance ty1033 : Und Tryz.prog 253 (Go.TypeDesc.slice 9) := ⟨Tryz.underlying253⟩
instance ty1045 : Und Tryz.prog 256 (Go.TypeDesc.slice 107) := ⟨Tryz.underlying256⟩
instance ty1102 : Und Tryz.prog 271 (Go.TypeDesc.slice 25) := ⟨Tryz.underlying271⟩
instance ty1189 : Fun Tryz.prog 16 := ⟨Tryz.f16, Tryz.func16, by kernel_rfl, by kernel_rfl⟩
instance ty1197 : Fun Tryz.prog 24 := ⟨Tryz.f24, Tryz.func24, by kernel_rfl, by kernel_rfl⟩
instance ty1200 : Fun Tryz.prog 27 := ⟨Tryz.f27, Tryz.func27, by kernel_rfl, by kernel_rfl⟩
instance ty1201 : Fun Tryz.prog 28 := ⟨Tryz.f28, Tryz.func28, by kernel_rfl, by kernel_rfl⟩
instance ty1202 : Fun Tryz.prog 29 := ⟨Tryz.f29, Tryz.func29, by kernel_rfl, by kernel_rfl⟩
instance ty1203 : Fun Tryz.prog 30 := ⟨Tryz.f30, Tryz.func30, by kernel_rfl, by kernel_rfl⟩
instance ty1204 : Fun Tryz.prog 31 := ⟨Tryz.f31, Tryz.func31, by kernel_rfl, by kernel_rfl⟩
instance ty1209 : Fun Tryz.prog 36 := ⟨Tryz.f36, Tryz.func36, by kernel_rfl, by kernel_rfl⟩
instance ty1211 : Fun Tryz.prog 38 := ⟨Tryz.f38, Tryz.func38, by kernel_rfl, by kernel_rfl⟩
instance ty1212 : Fun Tryz.prog 39 := ⟨Tryz.f39, Tryz.func39, by kernel_rfl, by kernel_rfl⟩
instance ty1216 : Fun Tryz.prog 43 := ⟨Tryz.f43, Tryz.func43, by kernel_rfl, by kernel_rfl⟩
instance ty1217 : Fun Tryz.prog 44 := ⟨Tryz.f44, Tryz.func44, by kernel_rfl, by kernel_rfl⟩
instance ty1218 : Fun Tryz.prog 45 := ⟨Tryz.f45, Tryz.func45, by kernel_rfl, by kernel_rfl⟩
instance ty1219 : Fun Tryz.prog 46 := ⟨Tryz.f46, Tryz.func46, by kernel_rfl, by kernel_rfl⟩
instance ty1220 : Fun Tryz.prog 47 := ⟨Tryz.f47, Tryz.func47, by kernel_rfl, by kernel_rfl⟩
instance ty1222 : Fun Tryz.prog 49 := ⟨Tryz.f49, Tryz.func49, by kernel_rfl, by kernel_rfl⟩
instance ty1223 : Fun Tryz.prog 50 := ⟨Tryz.f50, Tryz.func50, by kernel_rfl, by kernel_rfl⟩
instance ty1224 : Fun Tryz.prog 51 := ⟨Tryz.f51, Tryz.func51, by kernel_rfl, by kernel_rfl⟩
instance ty1225 : Fun Tryz.prog 52 := ⟨Tryz.f52, Tryz.func52, by kernel_rfl, by kernel_rfl⟩
instance ty1226 : Fun Tryz.prog 53 := ⟨Tryz.f53, Tryz.func53, by kernel_rfl, by kernel_rfl⟩
instance ty1227 : Fun Tryz.prog 54 := ⟨Tryz.f54, Tryz.func54, by kernel_rfl, by kernel_rfl⟩
instance ty1228 : Fun Tryz.prog 55 := ⟨Tryz.f55, Tryz.func55, by kernel_rfl, by kernel_rfl⟩
instance ty1229 : Fun Tryz.prog 56 := ⟨Tryz.f56, Tryz.func56, by kernel_rfl, by kernel_rfl⟩
instance ty1230 : Fun Tryz.prog 57 := ⟨Tryz.f57, Tryz.func57, by kernel_rfl, by kernel_rfl⟩
instance ty1239 : Fun Tryz.prog 66 := ⟨Tryz.f66, Tryz.func66, by kernel_rfl, by kernel_rfl⟩
instance ty1241 : Fun Tryz.prog 68 := ⟨Tryz.f68, Tryz.func68, by kernel_rfl, by kernel_rfl⟩
instance ty1242 : Fun Tryz.prog 69 := ⟨Tryz.f69, Tryz.func69, by kernel_rfl, by kernel_rfl⟩
instance ty1243 : Fun Tryz.prog 70 := ⟨Tryz.f70, Tryz.func70, by kernel_rfl, by kernel_rfl⟩
instance ty1244 : Fun Tryz.prog 71 := ⟨Tryz.f71, Tryz.func71, by kernel_rfl, by kernel_rfl⟩
instance ty1245 : Fun Tryz.prog 72 := ⟨Tryz.f72, Tryz.func72, by kernel_rfl, by kernel_rfl⟩
instance ty1246 : Fun Tryz.prog 73 := ⟨Tryz.f73, Tryz.func73, by kernel_rfl, by kernel_rfl⟩
instance ty1247 : Fun Tryz.prog 74 := ⟨Tryz.f74, Tryz.func74, by kernel_rfl, by kernel_rfl⟩
instance ty1248 : Fun Tryz.prog 75 := ⟨Tryz.f75, Tryz.func75, by kernel_rfl, by kernel_rfl⟩
instance ty1249 : Fun Tryz.prog 76 := ⟨Tryz.f76, Tryz.func76, by kernel_rfl, by kernel_rfl⟩
instance ty1250 : Fun Tryz.prog 77 := ⟨Tryz.f77, Tryz.func77, by kernel_rfl, by kernel_rfl⟩
instance ty1251 : Fun Tryz.prog 78 := ⟨Tryz.f78, Tryz.func78, by kernel_rfl, by kernel_rfl⟩
instance ty1252 : Fun Tryz.prog 79 := ⟨Tryz.f79, Tryz.func79, by kernel_rfl, by kernel_rfl⟩
instance ty1256 : Fun Tryz.prog 83 := ⟨Tryz.f83, Tryz.func83, by kernel_rfl, by kernel_rfl⟩
instance ty1257 : Fun Tryz.prog 84 := ⟨Tryz.f84, Tryz.func84, by kernel_rfl, by kernel_rfl⟩
instance ty1272 : Fun Tryz.prog 99 := ⟨Tryz.f99, Tryz.func99, by kernel_rfl, by kernel_rfl⟩
instance ty1273 : Fun Tryz.prog 100 := ⟨Tryz.f100, Tryz.func100, by kernel_rfl, by kernel_rfl⟩
instance ty1274 : Fun Tryz.prog 101 := ⟨Tryz.f101, Tryz.func101, by kernel_rfl, by kernel_rfl⟩
instance ty1275 : Fun Tryz.prog 102 := ⟨Tryz.f102, Tryz.func102, by kernel_rfl, by kernel_rfl⟩
instance ty1276 : Fun Tryz.prog 103 := ⟨Tryz.f103, Tryz.func103, by kernel_rfl, by kernel_rfl⟩
instance ty1277 : Fun Tryz.prog 104 := ⟨Tryz.f104, Tryz.func104, by kernel_rfl, by kernel_rfl⟩
instance ty1278 : Fun Tryz.prog 105 := ⟨Tryz.f105, Tryz.func105, by kernel_rfl, by kernel_rfl⟩
instance ty1279 : Fun Tryz.prog 106 := ⟨Tryz.f106, Tryz.func106, by kernel_rfl, by kernel_rfl⟩
instance ty1280 : Fun Tryz.prog 107 := ⟨Tryz.f107, Tryz.func107, by kernel_rfl, by kernel_rfl⟩
instance ty1281 : Fun Tryz.prog 108 := ⟨Tryz.f108, Tryz.func108, by kernel_rfl, by kernel_rfl⟩
instance ty1282 : Fun Tryz.prog 109 := ⟨Tryz.f109, Tryz.func109, by kernel_rfl, by kernel_rfl⟩
instance ty1283 : Fun Tryz.prog 110 := ⟨Tryz.f110, Tryz.func110, by kernel_rfl, by kernel_rfl⟩
instance ty1284 : Fun Tryz.prog 111 := ⟨Tryz.f111, Tryz.func111, by kernel_rfl, by kernel_rfl⟩
instance ty1286 : Fun Tryz.prog 113 := ⟨Tryz.f113, Tryz.func113, by kernel_rfl, by kernel_rfl⟩
instance ty1290 : Fun Tryz.prog 117 := ⟨Tryz.f117, Tryz.func117, by kernel_rfl, by kernel_rfl⟩
instance ty1291 : Fun Tryz.prog 118 := ⟨Tryz.f118, Tryz.func118, by kernel_rfl, by kernel_rfl⟩
instance ty1292 : Fun Tryz.prog 119 := ⟨Tryz.f119, Tryz.func119, by kernel_rfl, by kernel_rfl⟩
instance ty1293 : Fun Tryz.prog 120 := ⟨Tryz.f120, Tryz.func120, by kernel_rfl, by kernel_rfl⟩
instance ty1294 : Fun Tryz.prog 121 := ⟨Tryz.f121, Tryz.func121, by kernel_rfl, by kernel_rfl⟩
instance ty1301 : Fun Tryz.prog 128 := ⟨Tryz.f128, Tryz.func128, by kernel_rfl, by kernel_rfl⟩
instance ty1302 : Fun Tryz.prog 129 := ⟨Tryz.f129, Tryz.func129, by kernel_rfl, by kernel_rfl⟩
instance ty1303 : Fun Tryz.prog 130 := ⟨Tryz.f130, Tryz.func130, by kernel_rfl, by kernel_rfl⟩
instance ty1304 : Fun Tryz.prog 131 := ⟨Tryz.f131, Tryz.func131, by kernel_rfl, by kernel_rfl⟩
instance ty1305 : Fun Tryz.prog 132 := ⟨Tryz.f132, Tryz.func132, by kernel_rfl, by kernel_rfl⟩
instance ty1306 : Fun Tryz.prog 133 := ⟨Tryz.f133, Tryz.func133, by kernel_rfl, by kernel_rfl⟩
instance ty1307 : Fun Tryz.prog 134 := ⟨Tryz.f134, Tryz.func134, by kernel_rfl, by kernel_rfl⟩
instance ty1308 : Fun Tryz.prog 135 := ⟨Tryz.f135, Tryz.func135, by kernel_rfl, by kernel_rfl⟩
instance ty1309 : Fun Tryz.prog 136 := ⟨Tryz.f136, Tryz.func136, by kernel_rfl, by kernel_rfl⟩
instance ty1310 : Fun Tryz.prog 137 := ⟨Tryz.f137, Tryz.func137, by kernel_rfl, by kernel_rfl⟩
instance ty1311 : Fun Tryz.prog 138 := ⟨Tryz.f138, Tryz.func138, by kernel_rfl, by kernel_rfl⟩
instance ty1312 : Fun Tryz.prog 139 := ⟨Tryz.f139, Tryz.func139, by kernel_rfl, by kernel_rfl⟩
instance ty1313 : Fun Tryz.prog 140 := ⟨Tryz.f140, Tryz.func140, by kernel_rfl, by kernel_rfl⟩
instance ty1314 : Fun Tryz.prog 141 := ⟨Tryz.f141, Tryz.func141, by kernel_rfl, by kernel_rfl⟩
instance ty1315 : Fun Tryz.prog 142 := ⟨Tryz.f142, Tryz.func142, by kernel_rfl, by kernel_rfl⟩
instance ty1316 : Fun Tryz.prog 143 := ⟨Tryz.f143, Tryz.func143, by kernel_rfl, by kernel_rfl⟩
instance ty1317 : Fun Tryz.prog 144 := ⟨Tryz.f144, Tryz.func144, by kernel_rfl, by kernel_rfl⟩
instance ty1318 : Fun Tryz.prog 145 := ⟨Tryz.f145, Tryz.func145, by kernel_rfl, by kernel_rfl⟩
instance ty1319 : Fun Tryz.prog 146 := ⟨Tryz.f146, Tryz.func146, by kernel_rfl, by kernel_rfl⟩
instance ty1320 : Fun Tryz.prog 147 := ⟨Tryz.f147, Tryz.func147, by kernel_rfl, by kernel_rfl⟩
instance ty1321 : Fun Tryz.prog 148 := ⟨Tryz.f148, Tryz.func148, by kernel_rfl, by kernel_rfl⟩
instance ty1322 : Fun Tryz.prog 149 := ⟨Tryz.f149, Tryz.func149, by kernel_rfl, by kernel_rfl⟩
instance ty1323 : Fun Tryz.prog 150 := ⟨Tryz.f150, Tryz.func150, by kernel_rfl, by kernel_rfl⟩
instance ty1324 : Fun Tryz.prog 151 := ⟨Tryz.f151, Tryz.func151, by kernel_rfl, by kernel_rfl⟩
instance ty1325 : Fun Tryz.prog 152 := ⟨Tryz.f152, Tryz.func152, by kernel_rfl, by kernel_rfl⟩
instance ty1326 : Fun Tryz.prog 153 := ⟨Tryz.f153, Tryz.func153, by kernel_rfl, by kernel_rfl⟩
instance ty1327 : Fun Tryz.prog 154 := ⟨Tryz.f154, Tryz.func154, by kernel_rfl, by kernel_rfl⟩
instance ty1328 : Fun Tryz.prog 155 := ⟨Tryz.f155, Tryz.func155, by kernel_rfl, by kernel_rfl⟩
instance ty1329 : Fun Tryz.prog 156 := ⟨Tryz.f156, Tryz.func156, by kernel_rfl, by kernel_rfl⟩
instance ty1330 : Fun Tryz.prog 157 := ⟨Tryz.f157, Tryz.func157, by kernel_rfl, by kernel_rfl⟩
instance ty1334 : Fun Tryz.prog 161 := ⟨Tryz.f161, Tryz.func161, by kernel_rfl, by kernel_rfl⟩
instance ty1335 : Fun Tryz.prog 162 := ⟨Tryz.f162, Tryz.func162, by kernel_rfl, by kernel_rfl⟩
instance ty1336 : Fun Tryz.prog 163 := ⟨Tryz.f163, Tryz.func163, by kernel_rfl, by kernel_rfl⟩
instance ty1337 : Fun Tryz.prog 164 := ⟨Tryz.f164, Tryz.func164, by kernel_rfl, by kernel_rfl⟩
instance ty1338 : Fun Tryz.prog 165 := ⟨Tryz.f165, Tryz.func165, by kernel_rfl, by kernel_rfl⟩
instance ty1345 : Fun Tryz.prog 172 := ⟨Tryz.f172, Tryz.func172, by kernel_rfl, by kernel_rfl⟩
instance ty1350 : Fun Tryz.prog 177 := ⟨Tryz.f177, Tryz.func177, by kernel_rfl, by kernel_rfl⟩
instance ty1351 : Fun Tryz.prog 178 := ⟨Tryz.f178, Tryz.func178, by kernel_rfl, by kernel_rfl⟩
instance ty1352 : Fun Tryz.prog 179 := ⟨Tryz.f179, Tryz.func179, by kernel_rfl, by kernel_rfl⟩
instance ty1353 : Fun Tryz.prog 180 := ⟨Tryz.f180, Tryz.func180, by kernel_rfl, by kernel_rfl⟩
instance ty1354 : Fun Tryz.prog 181 := ⟨Tryz.f181, Tryz.func181, by kernel_rfl, by kernel_rfl⟩
instance ty1355 : Fun Tryz.prog 182 := ⟨Tryz.f182, Tryz.func182, by kernel_rfl, by kernel_rfl⟩
instance ty1356 : Fun Tryz.prog 183 := ⟨Tryz.f183, Tryz.func183, by kernel_rfl, by kernel_rfl⟩
instance ty1357 : Fun Tryz.prog 184 := ⟨Tryz.f184, Tryz.func184, by kernel_rfl, by kernel_rfl⟩
instance ty1358 : Fun Tryz.prog 185 := ⟨Tryz.f185, Tryz.func185, by kernel_rfl, by kernel_rfl⟩
instance ty1359 : Fun Tryz.prog 186 := ⟨Tryz.f186, Tryz.func186, by kernel_rfl, by kernel_rfl⟩
instance ty1360 : Fun Tryz.prog 187 := ⟨Tryz.f187, Tryz.func187, by kernel_rfl, by kernel_rfl⟩
instance ty1363 : Fun Tryz.prog 190 := ⟨Tryz.f190, Tryz.func190, by kernel_rfl, by kernel_rfl⟩
instance ty1364 : Fun Tryz.prog 191 := ⟨Tryz.f191, Tryz.func191, by kernel_rfl, by kernel_rfl⟩
instance ty1365 : Fun Tryz.prog 192 := ⟨Tryz.f192, Tryz.func192, by kernel_rfl, by kernel_rfl⟩
instance ty1371 : Fun Tryz.prog 198 := ⟨Tryz.f198, Tryz.func198, by kernel_rfl, by kernel_rfl⟩
instance ty1372 : Fun Tryz.prog 199 := ⟨Tryz.f199, Tryz.func199, by kernel_rfl, by kernel_rfl⟩
instance ty1373 : Fun Tryz.prog 200 := ⟨Tryz.f200, Tryz.func200, by kernel_rfl, by kernel_rfl⟩
instance ty1374 : Fun Tryz.prog 201 := ⟨Tryz.f201, Tryz.func201, by kernel_rfl, by kernel_rfl⟩
instance ty1375 : Fun Tryz.prog 202 := ⟨Tryz.f202, Tryz.func202, by kernel_rfl, by kernel_rfl⟩
instance ty1376 : Fun Tryz.prog 203 := ⟨Tryz.f203, Tryz.func203, by kernel_rfl, by kernel_rfl⟩
instance ty1377 : Fun Tryz.prog 204 := ⟨Tryz.f204, Tryz.func204, by kernel_rfl, by kernel_rfl⟩
instance ty1379 : Fun Tryz.prog 206 := ⟨Tryz.f206, Tryz.func206, by kernel_rfl, by kernel_rfl⟩
def byteAt (n : Int) (i : Nat) : UInt8 := UInt8.ofNat ((n.fdiv (2 ^ (8 * i))) % 256).toNat
def beTop (k : Nat) (n : Int) : Nat → List UInt8
 | 0 => []
 | i + 1 => beTop k n i ++ [byteAt n (k - 1 - i)]
def be (k : Nat) (n : Int) : List UInt8 := beTop k n k
theorem beTop_len (k : Nat) (n : Int) : ∀ i, (beTop k n i).length = i
 | 0 => rfl
 | i + 1 => by simp [beTop, beTop_len k n i]
theorem be_len (k : Nat) (n : Int) : (be k n).length = k := beTop_len k n k
theorem byteAt_wrap (n : Int) (i : Nat) : IntKind.u8.wrap (n.fdiv (2 ^ (8 * i))) = ((byteAt n i).toNat : Int) := by
 have h : IntKind.u8.wrap (n.fdiv (2 ^ (8 * i))) = (n.fdiv (2 ^ (8 * i))) % 256 := by
  simp [IntKind.wrap, IntKind.signed, IntKind.bits]
 rw [h]
 unfold byteAt
 have h1 : 0 ≤ (n.fdiv (2 ^ (8 * i))) % 256 := Int.emod_nonneg _ (by decide)
 have h2 : (n.fdiv (2 ^ (8 * i))) % 256 < 256 := Int.emod_lt_of_pos _ (by decide)
 generalize (n.fdiv (2 ^ (8 * i))) % 256 = z at h1 h2
 rw [UInt8.toNat_ofNat']
 omega
theorem zaf (l : List UInt8) : (bytesV l).length = l.length := by simp [bytesV]
theorem zag (a b : List UInt8) : bytesV (a ++ b) = bytesV a ++ bytesV b := by simp [bytesV]
theorem zah (l : List UInt8) : ∀ v ∈ bytesV l, one v = true := by
 intro v hv
 obtain ⟨b, _, rfl⟩ := List.mem_map.1 hv
 rfl
theorem Fn.slc_cap {P : Program} {fid : FuncId} {args : List Value} {f : Frag} {A A' : List HP} {R : Value → Frag → List HP → Prop} {p : Option Addr} {m c sz : Nat} {T : TypeId} {xs : List Value} (h : At A (slc p m c T sz xs) A' (slc p m c T sz xs))
  (k : m ≤ c → c ≤ 9223372036854775807 → xs.length = m * sz → Fn P fid args f A R) : Fn P fid args f A R := fun base w s => by
 obtain ⟨h1, h2, h3⟩ := s.slc_at h
 rcases h3 with ⟨rfl, rfl⟩ | ⟨b, sp, rfl, h4, _⟩
 ·exact k (Nat.le_refl _) h2 h1 base w s
 ·exact k h4 h2 h1 base w s
def BytesR (l : List UInt8) (f : Frag) (A : List HP) : Value → Frag → List HP → Prop := fun v f' A' => ∃ p c, v = .slice p l.length c ∧ f' = f ∧ A' = slc p l.length c 5 1 (bytesV l) :: A
section
variable (f : Frag) (A : List HP)
theorem cloneB_fn {p : Option Addr} {c : Nat} {l : List UInt8} (hs : Src Tryz.prog f A (.slice p l.length c) 1 l.length (bytesV l)) (hn : p = none → l = []) (hl : l.length ≤ 100000000000) :
  Fn Tryz.prog 153 [.slice p l.length c] f A (BytesR l f A) := by
 cases p with
 | none =>
  have := hn rfl
  subst this
  refine Fn.enter Tryz.func153 rfl Tryz.ntmps153 rfl (L := [(0, _)]) ⟨rfl, trivial⟩ fun base => ?_
  refine gW ?_
  refine H.slc0 5 1 ?_
  exact H.Ac rfl rfl (fun _ h => h) ⟨none, 0, rfl, rfl, rfl⟩
 | some a =>
  refine Fn.enter Tryz.func153 rfl Tryz.ntmps153 rfl (L := [(0, _)]) ⟨rfl, trivial⟩ fun base => ?_
  repeat (first | ((first | apply H.Ah | apply H.Ak); (iterate 3 exact rfl)) | (first | apply H.seq | apply H.Al | apply H.nil | apply H.Am) | ((apply H.sliceNil); (iterate 5 exact rfl)) | (apply H.Cg; exact rfl) | (apply H.Bh))
  refine H.Bd rfl rfl rfl rfl (by decide) (by decide) rfl rfl fun eb => ?_
  repeat (((apply H.Ah); (iterate 3 exact rfl)))
  refine H.imp (A' := slc (some ⟨eb, 0, none⟩) 0 0 5 1 [] :: A) ?_ ?_
  ·rintro x ⟨m1, m2, d, e, a, r⟩
   exact ⟨m1, m2, d, e, row_slc (by rfl) (by decide) a, r⟩
  refine H.Bf rfl rfl rfl rfl rfl (fun p' c' => .here _ _ _) hs.cons (zah l) rfl (by omega) (by omega) fun p' c' => ?_
  refine ga ?_
  refine H.Ac rfl rfl (A' := slc p' l.length c' 5 1 (bytesV l) :: A) ?_ ⟨p', c', by rw [Nat.zero_add], rfl, rfl⟩
  simp only [List.nil_append, Nat.zero_add]
  exact fun _ h => h
theorem growB_fn {p : Option Addr} {c m : Nat} {l : List UInt8} (hl : l.length ≤ 100000000000) (hm : m ≤ 1000000) :
  Fn Tryz.prog 200 [.slice p l.length c, .int .i64 (m : Nat)] f (slc p l.length c 5 1 (bytesV l) :: A) (BytesR l f A) := by
 refine Fn.slc_cap (.here _ _ _) fun hc hcm _ => ?_
 by_cases hg : c < l.length + m
 ·refine Fn.enter Tryz.func200 rfl Tryz.ntmps200 rfl (L := [(0, _), (1, _)]) ⟨rfl, rfl, trivial⟩ fun base => ?_
  refine gP ?_
  skip
  refine H.slc_full fun sp hsp _ => ?_
  refine H.sliceTo rfl rfl rfl rfl (Nat.le_refl _) rfl ?_
  refine gU ?_
  refine H.appendZ (m := m - (c - l.length)) rfl rfl rfl rfl (by omega) (fun p' c' => .here _ _ _) rfl (by omega) (by omega) (by omega) (by omega) fun p' c' => ?_
  repeat (((first | apply H.Ah | apply H.Bg); (iterate 3 exact rfl)))
  refine H.slc_cap (.here _ _ _) fun hc' _ _ => ?_
  refine H.sliceTo rfl rfl rfl rfl (by omega) rfl ?_
  refine H.slc_trunc (m' := l.length) (ys := bytesV l) (by omega) hc' ?_ ?_
  ·rw [List.append_assoc, Nat.mul_one, List.take_append_of_le_length (by rw [zaf]; exact Nat.le_refl _), List.take_of_length_le (by rw [zaf]; exact Nat.le_refl _)]
  refine ga ?_
  exact H.Ac rfl rfl (fun _ h => h) ⟨p', c', rfl, rfl, rfl⟩
 ·refine Fn.enter Tryz.func200 rfl Tryz.ntmps200 rfl (L := [(0, _), (1, _)]) ⟨rfl, rfl, trivial⟩ fun base => ?_
  refine gP ?_
  skip
  exact H.Ac rfl rfl (fun _ h => h) ⟨p, c, rfl, rfl, rfl⟩
theorem put_fn {p : Option Addr} {c k : Nat} {l : List UInt8} {n : Int} (hs : Src Tryz.prog f A (.slice p l.length c) 1 l.length (bytesV l)) (hn : p = none → l = []) (hl : l.length ≤ 10000000000) (hk : k ≤ 8) :
  Fn Tryz.prog 179 [.slice p l.length c, .int .u64 n, .int .i64 (k : Nat)] f A (BytesR (l ++ be k n) f A) := by
 refine Fn.enter Tryz.func179 rfl Tryz.ntmps179 rfl (L := [(0, _), (1, _), (2, _)]) ⟨rfl, rfl, rfl, trivial⟩ fun base => ?_
 refine gU ?_
 refine H.Ar rfl rfl rfl (cloneB_fn f A hs hn (by omega)) fun p1 c1 => ?_
 refine gU ?_
 refine H.Ar rfl rfl rfl (growB_fn f A (by omega) (by omega)) fun p2 c2 => ?_
 refine gK ?_
 refine H.Ax (ι := Nat × Option Addr × Nat) (fun i => [(8, .int .i64 ((k : Int) - 1 - (i.1 : Int))), (7, .slice i.2.1 (l ++ beTop k n i.1).length i.2.2), (1, .int .u64 n)]) (fun _ => f)
  (fun i => slc i.2.1 (l ++ beTop k n i.1).length i.2.2 5 1 (bytesV (l ++ beTop k n i.1)) :: A) (fun i => i.1 ≤ k) (fun i => k - i.1) (0, p2, c2) (Nat.zero_le _) ?_ rfl ?_ fun i hi => ?_
 ·refine ⟨?_, ?_, rfl, trivial⟩
  ·show some (Value.int .i64 ((k : Int) - 1)) = some (Value.int .i64 ((k : Int) - 1 - ((0 : Nat) : Int)))
   simp
  ·show some (Value.slice p2 l.length c2) = some (Value.slice p2 (l ++ []).length c2)
   simp
 ·show slc p2 l.length c2 _ 1 (bytesV l) :: A = slc p2 (l ++ []).length c2 _ 1 (bytesV (l ++ [])) :: A
  simp
 ·obtain ⟨i, p', c'⟩ := i
  have hi : i ≤ k := hi
  show H _ _ _ [(8, .int .i64 ((k : Int) - 1 - (i : Int))), (7, .slice p' (l ++ beTop k n i).length c'), (1, .int .u64 n)] _ (slc p' (l ++ beTop k n i).length c' _ 1 (bytesV (l ++ beTop k n i)) :: A) _
  generalize hacc : l ++ beTop k n i = acc
  have hlen : acc.length = l.length + i := by rw [← hacc, List.length_append, beTop_len]
  by_cases hlt : i < k
  ·have hexp : min (8 * ((k : Int) - 1 - (i : Int))).toNat IntKind.u64.bits = 8 * (k - 1 - i) := by simp only [IntKind.bits]; omega
   have hsh : n.fdiv (2 ^ (min (8 * ((k : Int) - 1 - (i : Int))).toNat IntKind.u64.bits)) = n.fdiv (2 ^ (8 * (k - 1 - i))) := by rw [hexp]
   refine gQ ?_
   refine H.shift rfl rfl rfl rfl (by omega) hsh rfl ?_
   refine H.Bn rfl rfl (byteAt_wrap n (k - 1 - i)) rfl ?_
   refine H.Bd rfl rfl rfl rfl (by decide) (by decide) rfl rfl fun tb => ?_
   refine H.Bf (m := 1) rfl rfl rfl rfl rfl (fun p' c' => (by repeat constructor)) (Src.slice (Rd.ofRow (by repeat constructor)) rfl) (zae rfl) rfl (by omega) (by omega) fun p'' c'' => ?_
   refine gK ?_
   refine H.Ab (.here _ _) ?_
   have e1 : l ++ beTop k n (i + 1) = acc ++ [byteAt n (k - 1 - i)] := by rw [← hacc]; simp [beTop]
   refine H.know (d := 8) (u := .int .i64 ((k : Int) - 1 - ((i + 1 : Nat) : Int))) rfl (congrArg (Value.int .i64) (by omega)) ?_
   refine H.Au (i + 1, p'', c'') (by show i + 1 ≤ k; omega) (by show k - (i + 1) < k - i; omega) ⟨rfl, ?_, rfl, trivial⟩ rfl ?_
   ·show some _ = some (Value.slice p'' (l ++ beTop k n (i + 1)).length c'')
    rw [e1, List.length_append]
    exact rfl
   ·show _ = slc p'' (l ++ beTop k n (i + 1)).length c'' _ 1 (bytesV (l ++ beTop k n (i + 1))) :: A
    rw [e1, List.length_append, zag]
    rfl
  ·have : i = k := by omega
   subst this
   subst hacc
   refine gV ?_
   exact H.Ac rfl rfl (fun _ h => h) ⟨p', c', rfl, rfl, rfl⟩
theorem putH_fn {p : Option Addr} {c k : Nat} {l : List UInt8} {n : Int} (hs : Src Tryz.prog f A (.slice p l.length c) 1 l.length (bytesV l)) (hn : p = none → l = []) (hl : l.length ≤ 10000000000) (hk : k ≤ 2) :
  Fn Tryz.prog 206 [.slice p l.length c, .int .u16 n, .int .i64 (k : Nat)] f A (BytesR (l ++ be k n) f A) := by
 refine Fn.enter Tryz.func206 rfl Tryz.ntmps206 rfl (L := [(0, _), (1, _), (2, _)]) ⟨rfl, rfl, rfl, trivial⟩ fun base => ?_
 refine gU ?_
 refine H.Ar rfl rfl rfl (cloneB_fn f A hs hn (by omega)) fun p1 c1 => ?_
 refine gU ?_
 refine H.Ar rfl rfl rfl (growB_fn f A (by omega) (by omega)) fun p2 c2 => ?_
 refine gK ?_
 refine H.Ax (ι := Nat × Option Addr × Nat) (fun i => [(8, .int .i64 ((k : Int) - 1 - (i.1 : Int))), (7, .slice i.2.1 (l ++ beTop k n i.1).length i.2.2), (1, .int .u16 n)]) (fun _ => f)
  (fun i => slc i.2.1 (l ++ beTop k n i.1).length i.2.2 5 1 (bytesV (l ++ beTop k n i.1)) :: A) (fun i => i.1 ≤ k) (fun i => k - i.1) (0, p2, c2) (Nat.zero_le _) ?_ rfl ?_ fun i hi => ?_
 ·refine ⟨?_, ?_, rfl, trivial⟩
  ·show some (Value.int .i64 ((k : Int) - 1)) = some (Value.int .i64 ((k : Int) - 1 - ((0 : Nat) : Int)))
   simp
  ·show some (Value.slice p2 l.length c2) = some (Value.slice p2 (l ++ []).length c2)
   simp
 ·show slc p2 l.length c2 _ 1 (bytesV l) :: A = slc p2 (l ++ []).length c2 _ 1 (bytesV (l ++ [])) :: A
  simp
 ·obtain ⟨i, p', c'⟩ := i
  have hi : i ≤ k := hi
  show H _ _ _ [(8, .int .i64 ((k : Int) - 1 - (i : Int))), (7, .slice p' (l ++ beTop k n i).length c'), (1, .int .u16 n)] _ (slc p' (l ++ beTop k n i).length c' _ 1 (bytesV (l ++ beTop k n i)) :: A) _
  generalize hacc : l ++ beTop k n i = acc
  have hlen : acc.length = l.length + i := by rw [← hacc, List.length_append, beTop_len]
  by_cases hlt : i < k
  ·have hexp : min (8 * ((k : Int) - 1 - (i : Int))).toNat IntKind.u16.bits = 8 * (k - 1 - i) := by simp only [IntKind.bits]; omega
   have hsh : n.fdiv (2 ^ (min (8 * ((k : Int) - 1 - (i : Int))).toNat IntKind.u16.bits)) = n.fdiv (2 ^ (8 * (k - 1 - i))) := by rw [hexp]
   refine gQ ?_
   refine H.shift rfl rfl rfl rfl (by omega) hsh rfl ?_
   refine H.Bn rfl rfl (byteAt_wrap n (k - 1 - i)) rfl ?_
   refine H.Bd rfl rfl rfl rfl (by decide) (by decide) rfl rfl fun tb => ?_
   refine H.Bf (m := 1) rfl rfl rfl rfl rfl (fun p' c' => (by repeat constructor)) (Src.slice (Rd.ofRow (by repeat constructor)) rfl) (zae rfl) rfl (by omega) (by omega) fun p'' c'' => ?_
   refine gK ?_
   refine H.Ab (.here _ _) ?_
   have e1 : l ++ beTop k n (i + 1) = acc ++ [byteAt n (k - 1 - i)] := by rw [← hacc]; simp [beTop]
   refine H.know (d := 8) (u := .int .i64 ((k : Int) - 1 - ((i + 1 : Nat) : Int))) rfl (congrArg (Value.int .i64) (by omega)) ?_
   refine H.Au (i + 1, p'', c'') (by show i + 1 ≤ k; omega) (by show k - (i + 1) < k - i; omega) ⟨rfl, ?_, rfl, trivial⟩ rfl ?_
   ·show some _ = some (Value.slice p'' (l ++ beTop k n (i + 1)).length c'')
    rw [e1, List.length_append]
    exact rfl
   ·show _ = slc p'' (l ++ beTop k n (i + 1)).length c'' _ 1 (bytesV (l ++ beTop k n (i + 1))) :: A
    rw [e1, List.length_append, zag]
    rfl
  ·have : i = k := by omega
   subst this
   subst hacc
   refine gV ?_
   exact H.Ac rfl rfl (fun _ h => h) ⟨p', c', rfl, rfl, rfl⟩
theorem rput_fn {p : Option Addr} {c k : Nat} {l : List UInt8} {n : Int} (hs : Src Tryz.prog f A (.slice p l.length c) 1 l.length (bytesV l)) (hl : l.length ≤ 10000000000) (hk : k ≤ 8) :
  Fn Tryz.prog 130 [.slice p l.length c, .int .u64 n, .int .i64 (k : Nat)] f A (BytesR (l ++ be k n) f A) := by
 refine Fn.enter Tryz.func130 rfl Tryz.ntmps130 rfl (L := [(0, _), (1, _), (2, _)]) ⟨rfl, rfl, rfl, trivial⟩ fun base => ?_
 repeat (first | ((apply H.Ak); (iterate 3 exact rfl)) | (first | apply H.seq | apply H.Al | apply H.nil | apply H.Am))
 refine H.Bd rfl rfl rfl rfl (by decide) (by decide) rfl rfl fun eb => ?_
 repeat (((apply H.Ah); (iterate 3 exact rfl)))
 refine H.imp (A' := slc (some ⟨eb, 0, none⟩) 0 0 5 1 [] :: A) ?_ ?_
 ·rintro x ⟨m1, m2, d, e, a, r⟩
  exact ⟨m1, m2, d, e, row_slc (by rfl) (by decide) a, r⟩
 refine H.Bf rfl rfl rfl rfl rfl (fun p' c' => .here _ _ _) hs.cons (zah l) rfl (by omega) (by omega) fun p2 c2 => ?_
 rw [Nat.zero_add, List.nil_append]
 refine gK ?_
 refine H.Ax (ι := Nat × Option Addr × Nat) (fun i => [(8, .int .i64 ((k : Int) - 1 - (i.1 : Int))), (7, .slice i.2.1 (l ++ beTop k n i.1).length i.2.2), (1, .int .u64 n)]) (fun _ => f)
  (fun i => slc i.2.1 (l ++ beTop k n i.1).length i.2.2 5 1 (bytesV (l ++ beTop k n i.1)) :: A) (fun i => i.1 ≤ k) (fun i => k - i.1) (0, p2, c2) (Nat.zero_le _) ?_ rfl ?_ fun i hi => ?_
 ·refine ⟨?_, ?_, rfl, trivial⟩
  ·show some (Value.int .i64 ((k : Int) - 1)) = some (Value.int .i64 ((k : Int) - 1 - ((0 : Nat) : Int)))
   simp
  ·show some (Value.slice p2 l.length c2) = some (Value.slice p2 (l ++ []).length c2)
   simp
 ·show slc p2 l.length c2 _ 1 (bytesV l) :: A = slc p2 (l ++ []).length c2 _ 1 (bytesV (l ++ [])) :: A
  simp
 ·obtain ⟨i, p', c'⟩ := i
  have hi : i ≤ k := hi
  show H _ _ _ [(8, .int .i64 ((k : Int) - 1 - (i : Int))), (7, .slice p' (l ++ beTop k n i).length c'), (1, .int .u64 n)] _ (slc p' (l ++ beTop k n i).length c' _ 1 (bytesV (l ++ beTop k n i)) :: A) _
  generalize hacc : l ++ beTop k n i = acc
  have hlen : acc.length = l.length + i := by rw [← hacc, List.length_append, beTop_len]
  by_cases hlt : i < k
  ·have hexp : min (8 * ((k : Int) - 1 - (i : Int))).toNat IntKind.u64.bits = 8 * (k - 1 - i) := by simp only [IntKind.bits]; omega
   have hsh : n.fdiv (2 ^ (min (8 * ((k : Int) - 1 - (i : Int))).toNat IntKind.u64.bits)) = n.fdiv (2 ^ (8 * (k - 1 - i))) := by rw [hexp]
   refine gQ ?_
   refine H.shift rfl rfl rfl rfl (by omega) hsh rfl ?_
   refine H.Bn rfl rfl (byteAt_wrap n (k - 1 - i)) rfl ?_
   refine H.Bd rfl rfl rfl rfl (by decide) (by decide) rfl rfl fun tb => ?_
   refine H.Bf (m := 1) rfl rfl rfl rfl rfl (fun p' c' => (by repeat constructor)) (Src.slice (Rd.ofRow (by repeat constructor)) rfl) (zae rfl) rfl (by omega) (by omega) fun p'' c'' => ?_
   refine gK ?_
   refine H.Ab (.here _ _) ?_
   have e1 : l ++ beTop k n (i + 1) = acc ++ [byteAt n (k - 1 - i)] := by rw [← hacc]; simp [beTop]
   refine H.know (d := 8) (u := .int .i64 ((k : Int) - 1 - ((i + 1 : Nat) : Int))) rfl (congrArg (Value.int .i64) (by omega)) ?_
   refine H.Au (i + 1, p'', c'') (by show i + 1 ≤ k; omega) (by show k - (i + 1) < k - i; omega) ⟨rfl, ?_, rfl, trivial⟩ rfl ?_
   ·show some _ = some (Value.slice p'' (l ++ beTop k n (i + 1)).length c'')
    rw [e1, List.length_append]
    exact rfl
   ·show _ = slc p'' (l ++ beTop k n (i + 1)).length c'' _ 1 (bytesV (l ++ beTop k n (i + 1))) :: A
    rw [e1, List.length_append, zag]
    rfl
  ·have : i = k := by omega
   subst this
   subst hacc
   refine gV ?_
   exact H.Ac rfl rfl (fun _ h => h) ⟨p', c', rfl, rfl, rfl⟩
theorem word_fn {p : Option Addr} {c : Nat} {l : List UInt8} {n : Int} (hs : Src Tryz.prog f A (.slice p l.length c) 1 l.length (bytesV l)) (hn : p = none → l = []) (hl : l.length ≤ 10000000000) :
  Fn Tryz.prog 134 [.slice p l.length c, .int .u64 n] f A (BytesR (l ++ be 8 n) f A) := by
 refine Fn.enter Tryz.func134 rfl Tryz.ntmps134 rfl (L := [(0, _), (1, _)]) ⟨rfl, rfl, trivial⟩ fun base => ?_
 refine gU ?_
 refine H.Ar rfl rfl rfl (put_fn (k := 8) f A hs hn hl (by decide)) fun p1 c1 => ?_
 refine ga ?_
 exact H.Ac rfl rfl (fun _ h => h) ⟨p1, c1, rfl, rfl, rfl⟩
theorem half_fn {p : Option Addr} {c : Nat} {l : List UInt8} {n : Int} (hs : Src Tryz.prog f A (.slice p l.length c) 1 l.length (bytesV l)) (hn : p = none → l = []) (hl : l.length ≤ 10000000000) :
  Fn Tryz.prog 199 [.slice p l.length c, .int .u16 n] f A (BytesR (l ++ be 2 n) f A) := by
 refine Fn.enter Tryz.func199 rfl Tryz.ntmps199 rfl (L := [(0, _), (1, _)]) ⟨rfl, rfl, trivial⟩ fun base => ?_
 refine gU ?_
 refine H.Ar rfl rfl rfl (putH_fn (k := 2) f A hs hn hl (by decide)) fun p1 c1 => ?_
 refine ga ?_
 exact H.Ac rfl rfl (fun _ h => h) ⟨p1, c1, rfl, rfl, rfl⟩
theorem zau {p : Option Addr} {c : Nat} {l : List UInt8} {n : Int} (hs : Src Tryz.prog f A (.slice p l.length c) 1 l.length (bytesV l)) (hl : l.length ≤ 10000000000) :
  Fn Tryz.prog 101 [.slice p l.length c, .int .u64 n] f A (BytesR (l ++ be 8 n) f A) := by
 refine Fn.enter Tryz.func101 rfl Tryz.ntmps101 rfl (L := [(0, _), (1, _)]) ⟨rfl, rfl, trivial⟩ fun base => ?_
 refine gU ?_
 refine H.Ar rfl rfl rfl (rput_fn (k := 8) f A hs hl (by decide)) fun p1 c1 => ?_
 refine ga ?_
 exact H.Ac rfl rfl (fun _ h => h) ⟨p1, c1, rfl, rfl, rfl⟩
theorem rhalf_fn {p : Option Addr} {c : Nat} {l : List UInt8} {n : Int} (hs : Src Tryz.prog f A (.slice p l.length c) 1 l.length (bytesV l)) (hl : l.length ≤ 10000000000) (h0 : 0 ≤ n ∧ n ≤ 65535) :
  Fn Tryz.prog 177 [.slice p l.length c, .int .u16 n] f A (BytesR (l ++ be 2 n) f A) := by
 refine Fn.enter Tryz.func177 rfl Tryz.ntmps177 rfl (L := [(0, _), (1, _)]) ⟨rfl, rfl, trivial⟩ fun base => ?_
 refine gK ?_
 refine H.Ar rfl rfl rfl (rput_fn (k := 2) f A hs hl (by decide)) fun p1 c1 => ?_
 refine ga ?_
 exact H.Ac rfl rfl (fun _ h => h) ⟨p1, c1, rfl, rfl, rfl⟩
end
def BytesR2 (l : List UInt8) (e : Int) (f : Frag) (A : List HP) : Value → Frag → List HP → Prop := fun v f' A' => ∃ p c, v = .tuple #[.slice p l.length c, .int .i64 e] ∧ f' = f ∧ A' = slc p l.length c 5 1 (bytesV l) :: A
def textB (s : ByteArray) : List UInt8 := be 2 (s.size : Nat) ++ s.data.toList
section
variable (f : Frag) (A : List HP)
theorem zap (s : ByteArray) : s.data.toList.length = s.size := by rw [Array.length_toList]; rfl
theorem text_fn {p : Option Addr} {c : Nat} {l : List UInt8} {s : ByteArray} (hs : Src Tryz.prog f A (.slice p l.length c) 1 l.length (bytesV l)) (hn : p = none → l = []) (hl : l.length ≤ 10000000000) (hz : s.size < 65536) :
  Fn Tryz.prog 178 [.slice p l.length c, .string s] f A (BytesR2 (l ++ textB s) 0 f A) := by
 refine Fn.enter Tryz.func178 rfl Tryz.ntmps178 rfl (L := [(0, _), (1, _)]) ⟨rfl, rfl, trivial⟩ fun base => ?_
 refine gQ ?_
 skip
 skip
 refine H.Ar rfl rfl rfl (half_fn f A hs hn hl) fun p1 c1 => ?_
 refine gU ?_
 have h1 : (l ++ be 2 (s.size : Nat)).length = l.length + 2 := by rw [List.length_append, be_len]
 refine H.Bf rfl rfl rfl rfl rfl (fun p' c' => .here _ _ _) Src.string (zah _) rfl (by omega) (by omega) fun p2 c2 => ?_
 refine ga ?_
 have h2 : (l ++ textB s).length = (l ++ be 2 (s.size : Nat)).length + s.size := by
  unfold textB; rw [← List.append_assoc, List.length_append, zap]
 have h3 : bytesV (l ++ textB s) = bytesV (l ++ be 2 (s.size : Nat)) ++ bytesV s.data.toList := by
  unfold textB; rw [← List.append_assoc, zag]
 refine H.ret2 rfl rfl rfl (fun _ h => h) ⟨p2, c2, ?_, rfl, ?_⟩
 ·rw [h2]
 ·rw [h2, h3]
theorem rtext_fn {p : Option Addr} {c : Nat} {l : List UInt8} {s : ByteArray} (hs : Src Tryz.prog f A (.slice p l.length c) 1 l.length (bytesV l)) (hl : l.length ≤ 10000000000) (hz : s.size < 65536) :
  Fn Tryz.prog 131 [.slice p l.length c, .string s] f A (BytesR2 (l ++ textB s) 0 f A) := by
 refine Fn.enter Tryz.func131 rfl Tryz.ntmps131 rfl (L := [(0, _), (1, _)]) ⟨rfl, rfl, trivial⟩ fun base => ?_
 refine gQ ?_
 skip
 skip
 refine H.Ar rfl rfl rfl (rhalf_fn f A hs hl (by omega)) fun p1 c1 => ?_
 refine gU ?_
 have h1 : (l ++ be 2 (s.size : Nat)).length = l.length + 2 := by rw [List.length_append, be_len]
 refine H.Bf rfl rfl rfl rfl rfl (fun p' c' => .here _ _ _) Src.string (zah _) rfl (by omega) (by omega) fun p2 c2 => ?_
 refine ga ?_
 have h2 : (l ++ textB s).length = (l ++ be 2 (s.size : Nat)).length + s.size := by
  unfold textB; rw [← List.append_assoc, List.length_append, zap]
 have h3 : bytesV (l ++ textB s) = bytesV (l ++ be 2 (s.size : Nat)) ++ bytesV s.data.toList := by
  unfold textB; rw [← List.append_assoc, zag]
 refine H.ret2 rfl rfl rfl (fun _ h => h) ⟨p2, c2, ?_, rfl, ?_⟩
 ·rw [h2]
 ·rw [h2, h3]
end
def BAt (f : Frag) (p : Option Addr) (l : List UInt8) : Prop :=
 l = [] ∨ ∃ b off cs T fr, p = some ⟨b, off, none⟩ ∧ f b = some (.cells cs T fr) ∧ ∀ i, i < l.length → cs[off + i]? = (bytesV l)[i]?
theorem BAt.take {f : Frag} {p : Option Addr} {l : List UInt8} (h : BAt f p l) (n : Nat) : BAt f p (l.take n) := by
 rcases h with rfl | ⟨b, off, cs, T, fr, h1, h2, h3⟩
 ·exact .inl (by simp)
 ·refine .inr ⟨b, off, cs, T, fr, h1, h2, fun i hi => ?_⟩
  rw [List.length_take] at hi
  rw [h3 i (by omega)]
  simp only [bytesV, List.map_take]
  rw [List.getElem?_take, if_pos (by omega)]
theorem BAt.drop {f : Frag} {p : Option Addr} {l : List UInt8} (h : BAt f p l) {n c : Nat} (hn : n ≤ l.length) (hc : l.length ≤ c) : BAt f (slP p n c 1) (l.drop n) := by
 unfold slP
 split
 ·rename_i e
  subst e
  exact .inl (List.drop_eq_nil_of_le hc)
 ·rcases h with rfl | ⟨b, off, cs, T, fr, rfl, h2, h3⟩
  ·exact .inl (by simp)
  ·refine .inr ⟨b, off + n, cs, T, fr, ?_, h2, fun i hi => ?_⟩
   ·rw [Option.map_some, zaj, Nat.mul_one]
   ·rw [List.length_drop] at hi
    rw [Nat.add_assoc, h3 (n + i) (by omega)]
    simp only [bytesV, List.map_drop]
    rw [List.getElem?_drop]
theorem BAt.src {P : Program} {f : Frag} {A : List HP} {p : Option Addr} {c : Nat} {l : List UInt8} (h : BAt f p l) : Src P f A (.slice p l.length c) 1 l.length (bytesV l) := by
 rcases h with rfl | ⟨b, off, cs, T, fr, rfl, h2, h3⟩
 ·refine ⟨fun w => rfl, fun base w s => ?_, rfl⟩
  cases p with
  | none => exact run_firstCells_none w 1 0 0 c
  | some a => exact run_firstCells_some w 1 0 a 0 c [] (by simp) (by simp)
 ·exact Src.slice (Rd.imm h2 (fun i hi => h3 i (by rwa [zaf] at hi))) (by rw [zaf, Nat.mul_one])
def cutL (cb : Nat) (p : Option Addr) (c : Nat) (l : List UInt8) (sp : Bool) : HP := row cb 233 [.slice p l.length c, .bool sp]
def cutH (f : Frag) (cb : Nat) (l : List UInt8) (sp : Bool) : HP := fun h => ∃ i : Option Addr × Nat, stars [fact (BAt f i.1 l ∧ l.length ≤ i.2), cutL cb i.1 i.2 l sp] h
theorem zal {f : Frag} {cb : Nat} {p : Option Addr} {c : Nat} {l : List UInt8} {sp : Bool} {F : List HP} (hb : BAt f p l) (hc : l.length ≤ c) : ∀ x, stars (cutL cb p c l sp :: F) x → stars (cutH f cb l sp :: F) x := by
 intro x hx
 obtain ⟨m1, m2, d, e, a, r⟩ := hx
 refine ⟨m1, m2, d, e, ⟨(p, c), ?_⟩, r⟩
 exact ⟨nil0, m1, (Dj.nil m1).symm, (nil_un m1).symm, ⟨⟨hb, hc⟩, rfl⟩, m1, nil0, Dj.nil m1, (un_nil m1).symm, a, rfl⟩
theorem cutH_open {fid : FuncId} {args : List Value} {f : Frag} {R : Value → Frag → List HP → Prop} {cb : Nat} {l : List UInt8} {sp : Bool} {F : List HP}
  (k : ∀ p c, BAt f p l → l.length ≤ c → Fn Tryz.prog fid args f (row cb 233 [.slice p l.length c, .bool sp] :: F) R) : Fn Tryz.prog fid args f (cutH f cb l sp :: F) R := fun base w s => by
 obtain ⟨m, hm, hd, hw⟩ := s.mem
 obtain ⟨m1, m2, d, rfl, ⟨⟨p, c⟩, hh⟩, r⟩ := hm
 obtain ⟨n1, n2, dd, rfl, ⟨⟨hb, hc⟩, rfl⟩, n3, n4, d3, rfl, h4, h5⟩ := hh
 refine k p c hb hc base w ⟨s.os, s.tape, s.output, s.size, s.imm, _, ?_, hd, hw⟩
 have e5 : n4 = nil0 := h5
 subst e5
 rw [nil_un, un_nil]
 rw [nil_un, un_nil] at d
 exact ⟨n3, m2, d, rfl, h4, r⟩
def RetP {α : Type} (φ : α → Prop) (v : α → Value) (f : Frag) (A : α → List HP) : Value → Frag → List HP → Prop := fun u f' A' => ∃ i, φ i ∧ u = v i ∧ f' = f ∧ A' = A i
section
variable {P : Program} {base : World} {n : Nat} {L : Env} {f f' : Frag} {A : List HP} {q : Post}
variable {l rest : List Oper} {d : Nat} {ty : TypeId} {pos : String} {af : Array Edge} {gd : Option (Nat × Bool)}
theorem H.callP {α : Type} {φ : α → Prop} {fid : FuncId} {xs : List Operand} {vs : List Value} {ats : Array TypeId} {v : α → Value} {Ai : α → List HP} [hfun : Fun P fid] (hw : want? l L gd = true) (hd : Nat.ble (d + 1) n = true)
  (hx : evs? L xs = some vs) (hc : Fn P fid vs f A (RetP φ v f' Ai)) (k : ∀ i, φ i → H P base n ((d, v i) :: L) f' (Ai i) (.ops l rest q)) :
  H P base n L f A (.ops l (⟨some d, .call ⟨.value (.func fid), xs.toArray, ats⟩, ty, pos, af, gd⟩ :: rest) q) :=
 H.call hw hd hx hc fun _ _ _ h => by obtain ⟨i, hp, rfl, rfl, rfl⟩ := h; exact k i hp
theorem H.callVP {α : Type} {φ : α → Prop} {fid : FuncId} {x : Operand} {xs : List Operand} {fs vs cs : List Value} {ats : Array TypeId} {v : α → Value} {Ai : α → List HP} (hx : ev? L x = some (.func (.func fid) fs.toArray cs.toArray)) [hfun : Fun P fid] (hw : want? l L gd = true) (hd : Nat.ble (d + 1) n = true)
  (hxs : evs? L xs = some vs) (hc : Fn P fid (fs ++ vs ++ cs) f A (RetP φ v f' Ai)) (k : ∀ i, φ i → H P base n ((d, v i) :: L) f' (Ai i) (.ops l rest q)) :
  H P base n L f A (.ops l (⟨some d, .call ⟨.value x, xs.toArray, ats⟩, ty, pos, af, gd⟩ :: rest) q) :=
 H.callV hx hw hd hxs hc fun _ _ _ h => by obtain ⟨i, hp, rfl, rfl, rfl⟩ := h; exact k i hp
end
section
variable (f : Frag) (F : List HP) (cb : Nat)
theorem take_no {l : List UInt8} {sp : Bool} {n : Int} (h : sp = true ∨ n < 0 ∨ (l.length : Int) < n) :
  Fn Tryz.prog 180 [.pointer (some ⟨cb, 0, none⟩), .int .i64 n] f (cutH f cb l sp :: F) (Ret (.slice none 0 0) f (cutH f cb l true :: F)) := by
 refine cutH_open fun p c hb hc => ?_
 have fin : ∀ x, stars (row cb 233 [.slice p l.length c, .bool true] :: F) x → stars (cutH f cb l true :: F) x := zal hb hc
 cases sp with
 | true =>
  refine Fn.enter Tryz.func180 rfl Tryz.ntmps180 rfl (L := [(0, _), (1, _)]) ⟨rfl, rfl, trivial⟩ fun base => ?_
  refine gI ?_
  exact H.Ac rfl rfl fin ⟨rfl, rfl, rfl⟩
 | false =>
  by_cases h0 : n < 0
  ·refine Fn.enter Tryz.func180 rfl Tryz.ntmps180 rfl (L := [(0, _), (1, _)]) ⟨rfl, rfl, trivial⟩ fun base => ?_
   refine gI ?_
   exact H.Ac rfl rfl fin ⟨rfl, rfl, rfl⟩
  ·have h1 : (l.length : Int) < n := by simp at h; omega
   refine Fn.enter Tryz.func180 rfl Tryz.ntmps180 rfl (L := [(0, _), (1, _)]) ⟨rfl, rfl, trivial⟩ fun base => ?_
   refine gI ?_
   rw [decide_eq_true h1]
   exact H.Ac rfl rfl fin ⟨rfl, rfl, rfl⟩
theorem take_yes {l : List UInt8} {n : Nat} (hn : n ≤ l.length) (hl : l.length ≤ 1000000000000) :
  Fn Tryz.prog 180 [.pointer (some ⟨cb, 0, none⟩), .int .i64 (n : Nat)] f (cutH f cb l false :: F)
   (RetP (fun i : Option Addr × Nat => BAt f i.1 (l.take n)) (fun i => .slice i.1 n i.2) f (fun _ => cutH f cb (l.drop n) false :: F)) := by
 refine cutH_open fun p c hb hc => ?_
 have fin : ∀ x, stars (row cb 233 [.slice (slP p n c 1) (l.length - n) (c - n), .bool false] :: F) x → stars (cutH f cb (l.drop n) false :: F) x := by
  have := zal (cb := cb) (sp := false) (F := F) (hb.drop hn hc) (c := c - n) (by rw [List.length_drop]; omega)
  rw [show cutL cb (slP p n c 1) (c - n) (l.drop n) false = row cb 233 [.slice (slP p n c 1) (l.length - n) (c - n), .bool false] by unfold cutL; rw [List.length_drop]] at this
  exact this
 refine Fn.enter Tryz.func180 rfl Tryz.ntmps180 rfl (L := [(0, _), (1, _)]) ⟨rfl, rfl, trivial⟩ fun base => ?_
 refine gI ?_
 rw [decide_eq_false (show ¬ ((l.length : Int) < (n : Int)) by omega)]
 skip
 refine H.sliceTo rfl rfl rfl rfl (by omega) rfl ?_
 refine gM ?_
 refine H.slice (lv := n) (hv := l.length) (mv := c) rfl rfl ⟨_, _, rfl, rfl⟩ rfl rfl (fun h => by cases h) hn hc (Nat.le_refl _) rfl ?_
 refine gL ?_
 exact H.Ac rfl rfl fin ⟨(p, c), hb.take n, rfl, rfl, rfl⟩
end
def numB (l : List UInt8) : Nat := l.foldl (fun n b => n * 256 + b.toNat) 0
theorem numB_snoc (l : List UInt8) (b : UInt8) : numB (l ++ [b]) = numB l * 256 + b.toNat := by simp [numB]
theorem numB_acc : ∀ (l : List UInt8) (a k : Nat), a < 256 ^ k → l.foldl (fun n b => n * 256 + b.toNat) a < 256 ^ (k + l.length)
 | [], a, k, h => h
 | b :: l, a, k, h => by
  have hb := b.toNat_lt
  have := numB_acc l (a * 256 + b.toNat) (k + 1) (by rw [Nat.pow_succ]; omega)
  rw [List.length_cons, show k + (l.length + 1) = k + 1 + l.length by omega]
  exact this
theorem numB_lt (l : List UInt8) : numB l < 256 ^ l.length := by
 have := numB_acc l 0 0 (by decide)
 rwa [Nat.zero_add] at this
theorem or_byte {n : Nat} {b : UInt8} (hn : n < 72057594037927936) : bitsI .or .u64 (IntKind.u64.wrap ((n : Int) * 2 ^ 8)) ((b.toNat : Nat) : Int) = some ((n * 256 + b.toNat : Nat) : Int) := by
 have hb := b.toNat_lt
 have h1 : IntKind.u64.wrap ((n : Int) * 2 ^ 8) = ((n * 256 : Nat) : Int) := by
  rw [wr_u64 (by omega)]; omega
 rw [h1]
 simp only [bitsI, Option.some.injEq]
 have e1 : (BitVec.ofInt IntKind.u64.bits ((n * 256 : Nat) : Int) ||| BitVec.ofInt IntKind.u64.bits ((b.toNat : Nat) : Int)).toNat = n * 256 + b.toNat := by
  rw [BitVec.toNat_or]
  simp only [BitVec.ofInt_natCast, BitVec.toNat_ofNat, IntKind.bits]
  rw [Nat.mod_eq_of_lt (by omega), Nat.mod_eq_of_lt (by omega)]
  have := Nat.shiftLeft_add_eq_or_of_lt (i := 8) (b := b.toNat) (by simpa using hb) n
  rw [Nat.shiftLeft_eq, show n * 2 ^ 8 = n * 256 from rfl] at this
  omega
 rw [e1, wr_u64 (by omega)]
section
variable (f : Frag) (F : List HP) (cb : Nat)
abbrev takeV (cb : Nat) : Value := .func (.func 180) #[.pointer (some ⟨cb, 0, none⟩)] #[]
theorem sum_no {l : List UInt8} {sp : Bool} {n : Int} (h : sp = true ∨ n < 0 ∨ (l.length : Int) < n) :
  Fn Tryz.prog 181 [takeV cb, .int .i64 n] f (cutH f cb l sp :: F) (Ret (.int .u64 0) f (cutH f cb l true :: F)) := by
 refine Fn.enter Tryz.func181 rfl Tryz.ntmps181 rfl (L := [(0, _), (1, _)]) ⟨rfl, rfl, trivial⟩ fun base => ?_
 refine gU ?_
 refine H.callVR (fs := [_]) (cs := []) rfl rfl rfl rfl (take_no f F cb h) ?_
 refine ga ?_
 refine H.Ax (ι := Unit) (fun _ => [(4, .int .u64 0), (9, .slice none 0 0), (10, .int .i64 ((0 : Nat) : Int)), (11, .int .i64 0)]) (fun _ => f) (fun _ => cutH f cb l true :: F) (fun _ => True) (fun _ => 0) () trivial ⟨rfl, rfl, rfl, rfl, trivial⟩ rfl rfl fun _ _ => ?_
 refine gH ?_
 exact H.Ac rfl rfl (fun _ h => h) ⟨rfl, rfl, rfl⟩
theorem sum_yes {l : List UInt8} {k : Nat} (hn : k ≤ l.length) (hk : k ≤ 8) (hl : l.length ≤ 1000000000000) :
  Fn Tryz.prog 181 [takeV cb, .int .i64 (k : Nat)] f (cutH f cb l false :: F) (Ret (.int .u64 (numB (l.take k) : Nat)) f (cutH f cb (l.drop k) false :: F)) := by
 refine Fn.enter Tryz.func181 rfl Tryz.ntmps181 rfl (L := [(0, _), (1, _)]) ⟨rfl, rfl, trivial⟩ fun base => ?_
 refine gU ?_
 refine H.callVP (fs := [_]) (cs := []) rfl rfl rfl rfl (take_yes f F cb hn hl) fun i hb => ?_
 obtain ⟨p, c⟩ := i
 have hb : BAt f p (l.take k) := hb
 refine ga ?_
 have hlen : (l.take k).length = k := by rw [List.length_take]; omega
 refine H.Ax (ι := Nat) (fun i => [(4, .int .u64 (numB ((l.take k).take i) : Nat)), (9, .slice p k c), (10, .int .i64 ((k : Nat) : Int)), (11, .int .i64 (i : Int))]) (fun _ => f) (fun _ => cutH f cb (l.drop k) false :: F) (fun i => i ≤ k) (fun i => k - i) 0 (Nat.zero_le _) ⟨rfl, rfl, rfl, rfl, trivial⟩ rfl rfl fun i hi => ?_
 have hi : i ≤ k := hi
 refine gH ?_
 by_cases hlt : i < k
 ·obtain ⟨x, hx⟩ : ∃ x, (l.take k)[i]? = some x := ⟨(l.take k)[i]'(by omega), List.getElem?_eq_getElem (by omega)⟩
  have hsrc : (l.take k).take (i + 1) = (l.take k).take i ++ [x] := by rw [List.take_add_one, hx]; rfl
  have hm : numB ((l.take k).take i) < 72057594037927936 := by
   have h1 := numB_lt ((l.take k).take i)
   have h2 : ((l.take k).take i).length = i := by rw [List.length_take]; omega
   rw [h2] at h1
   have h3 : 256 ^ i ≤ 256 ^ 7 := Nat.pow_le_pow_right (by decide) (by omega)
   have h4 : (256 : Nat) ^ 7 = 72057594037927936 := by decide
   omega
  rcases hb with hnil | ⟨b, off, cs, T, fr, rfl, h2, h3⟩
  ·rw [hnil] at hlen; simp at hlen; omega
  have rd : ∀ A, Rd f A b off (bytesV (l.take k)) := fun A => Rd.imm h2 (fun j hj => h3 j (by rwa [zaf] at hj))
  have hv : (bytesV (l.take k))[i]? = some (.int .u8 (x.toNat : Nat)) := by unfold bytesV; rw [List.getElem?_map, hx]; rfl
  refine gG ?_
  refine H.index1 rfl rfl rfl rfl hlt rfl ?_
  refine H.Ag rfl rfl rfl (.of (rd _) hv) rfl ?_
  refine gU ?_
  have hxl := x.toNat_lt
  refine H.shift rfl rfl rfl rfl (by decide) rfl rfl ?_
  refine gK ?_
  refine H.Bj rfl rfl rfl (or_byte hm) rfl rfl ?_
  refine gK ?_
  refine H.Au (i + 1) (by show i + 1 ≤ k; omega) (by show k - (i + 1) < k - i; omega) ⟨?_, rfl, rfl, rfl, trivial⟩ rfl rfl
  show some _ = some (Value.int .u64 (numB ((l.take k).take (i + 1)) : Nat))
  rw [hsrc, numB_snoc]
 ·have : i = k := by omega
  subst this
  rw [List.take_of_length_le (by omega)]
  refine gV ?_
  exact H.Ac rfl rfl (fun _ h => h) ⟨rfl, rfl, rfl⟩
theorem cutWord_no {l : List UInt8} {sp : Bool} (h : sp = true ∨ l.length < 8) :
  Fn Tryz.prog 136 [.pointer (some ⟨cb, 0, none⟩)] f (cutH f cb l sp :: F) (Ret (.int .u64 0) f (cutH f cb l true :: F)) := by
 refine Fn.enter Tryz.func136 rfl Tryz.ntmps136 rfl (L := [(0, _)]) ⟨rfl, trivial⟩ fun base => ?_
 refine gX ?_
 refine H.Ad rfl rfl rfl (sum_no f F cb (n := 8) (h.elim .inl fun h => .inr (.inr (by omega)))) ?_
 refine ga ?_
 exact H.Ac rfl rfl (fun _ h => h) ⟨rfl, rfl, rfl⟩
theorem cutWord_yes {l : List UInt8} (h : 8 ≤ l.length) (hl : l.length ≤ 1000000000000) :
  Fn Tryz.prog 136 [.pointer (some ⟨cb, 0, none⟩)] f (cutH f cb l false :: F) (Ret (.int .u64 (numB (l.take 8) : Nat)) f (cutH f cb (l.drop 8) false :: F)) := by
 have hb := numB_lt (l.take 8)
 rw [show (l.take 8).length = 8 by rw [List.length_take]; omega] at hb
 have e : (256 : Nat) ^ 8 = 18446744073709551616 := by decide
 rw [e] at hb
 clear e
 refine Fn.enter Tryz.func136 rfl Tryz.ntmps136 rfl (L := [(0, _)]) ⟨rfl, trivial⟩ fun base => ?_
 refine gX ?_
 refine H.Ad rfl rfl rfl (sum_yes f F cb (k := 8) h (by decide) hl) ?_
 refine ga ?_
 exact H.Ac rfl rfl (fun _ h => h) ⟨rfl, rfl, rfl⟩
theorem cutHalf_no {l : List UInt8} {sp : Bool} (h : sp = true ∨ l.length < 2) :
  Fn Tryz.prog 201 [.pointer (some ⟨cb, 0, none⟩)] f (cutH f cb l sp :: F) (Ret (.int .u16 0) f (cutH f cb l true :: F)) := by
 refine Fn.enter Tryz.func201 rfl Tryz.ntmps201 rfl (L := [(0, _)]) ⟨rfl, trivial⟩ fun base => ?_
 refine gX ?_
 refine H.Ad rfl rfl rfl (sum_no f F cb (n := 2) (h.elim .inl fun h => .inr (.inr (by omega)))) ?_
 refine gK ?_
 exact H.Ac rfl rfl (fun _ h => h) ⟨rfl, rfl, rfl⟩
theorem cutHalf_yes {l : List UInt8} (h : 2 ≤ l.length) (hl : l.length ≤ 1000000000000) :
  Fn Tryz.prog 201 [.pointer (some ⟨cb, 0, none⟩)] f (cutH f cb l false :: F) (Ret (.int .u16 (numB (l.take 2) : Nat)) f (cutH f cb (l.drop 2) false :: F)) := by
 have hb := numB_lt (l.take 2)
 rw [show (l.take 2).length = 2 by rw [List.length_take]; omega] at hb
 have e : (256 : Nat) ^ 2 = 65536 := by decide
 rw [e] at hb
 clear e
 refine Fn.enter Tryz.func201 rfl Tryz.ntmps201 rfl (L := [(0, _)]) ⟨rfl, trivial⟩ fun base => ?_
 refine gX ?_
 refine H.Ad rfl rfl rfl (sum_yes f F cb (k := 2) h (by decide) hl) ?_
 refine gK ?_
 exact H.Ac rfl rfl (fun _ h => h) ⟨rfl, rfl, rfl⟩
theorem cutByte_no {l : List UInt8} {sp : Bool} (h : sp = true ∨ l.length < 1) :
  Fn Tryz.prog 146 [.pointer (some ⟨cb, 0, none⟩)] f (cutH f cb l sp :: F) (Ret (.int .u8 0) f (cutH f cb l true :: F)) := by
 refine Fn.enter Tryz.func146 rfl Tryz.ntmps146 rfl (L := [(0, _)]) ⟨rfl, trivial⟩ fun base => ?_
 refine gX ?_
 refine H.Ad rfl rfl rfl (sum_no f F cb (n := 1) (h.elim .inl fun h => .inr (.inr (by omega)))) ?_
 refine gK ?_
 exact H.Ac rfl rfl (fun _ h => h) ⟨rfl, rfl, rfl⟩
theorem cutByte_yes {l : List UInt8} (h : 1 ≤ l.length) (hl : l.length ≤ 1000000000000) :
  Fn Tryz.prog 146 [.pointer (some ⟨cb, 0, none⟩)] f (cutH f cb l false :: F) (Ret (.int .u8 (numB (l.take 1) : Nat)) f (cutH f cb (l.drop 1) false :: F)) := by
 have hb := numB_lt (l.take 1)
 rw [show (l.take 1).length = 1 by rw [List.length_take]; omega] at hb
 have e : (256 : Nat) ^ 1 = 256 := by decide
 rw [e] at hb
 clear e
 refine Fn.enter Tryz.func146 rfl Tryz.ntmps146 rfl (L := [(0, _)]) ⟨rfl, trivial⟩ fun base => ?_
 refine gX ?_
 refine H.Ad rfl rfl rfl (sum_yes f F cb (k := 1) h (by decide) hl) ?_
 refine gK ?_
 exact H.Ac rfl rfl (fun _ h => h) ⟨rfl, rfl, rfl⟩
end
section
variable (f : Frag) (F : List HP) (cb : Nat)
theorem cutLeft_fn {l : List UInt8} {sp : Bool} : Fn Tryz.prog 147 [.pointer (some ⟨cb, 0, none⟩)] f (cutH f cb l sp :: F) (Ret (.bool (!sp)) f (cutH f cb l sp :: F)) := by
 refine cutH_open fun p c hb hc => ?_
 refine Fn.enter Tryz.func147 rfl Tryz.ntmps147 rfl (L := [(0, _)]) ⟨rfl, trivial⟩ fun base => ?_
 refine gN ?_
 exact H.Ac rfl rfl (zal hb hc) ⟨rfl, rfl, rfl⟩
theorem raw_no {l : List UInt8} {sp : Bool} {n : Int} (h : sp = true ∨ n < 0 ∨ (l.length : Int) < n) :
  Fn Tryz.prog 186 [.pointer (some ⟨cb, 0, none⟩), .int .i64 n] f (cutH f cb l sp :: F) (BytesR [] f (cutH f cb l true :: F)) := by
 refine Fn.enter Tryz.func186 rfl Tryz.ntmps186 rfl (L := [(0, _), (1, _)]) ⟨rfl, rfl, trivial⟩ fun base => ?_
 refine gU ?_
 refine H.Ad rfl rfl rfl (take_no f F cb h) ?_
 skip
 refine H.Ar rfl rfl rfl (cloneB_fn (l := []) f _ Src.nil (fun _ => rfl) (by decide)) fun p c => ?_
 refine ga ?_
 exact H.Ac rfl rfl (fun _ h => h) ⟨p, c, rfl, rfl, rfl⟩
theorem raw_yes {l : List UInt8} {n : Nat} (hn : n ≤ l.length) (hl : l.length ≤ 10000000000) :
  Fn Tryz.prog 186 [.pointer (some ⟨cb, 0, none⟩), .int .i64 (n : Nat)] f (cutH f cb l false :: F) (BytesR (l.take n) f (cutH f cb (l.drop n) false :: F)) := by
 have hlen : (l.take n).length = n := by rw [List.length_take]; omega
 refine Fn.enter Tryz.func186 rfl Tryz.ntmps186 rfl (L := [(0, _), (1, _)]) ⟨rfl, rfl, trivial⟩ fun base => ?_
 refine gU ?_
 refine H.callP rfl rfl rfl (take_yes f F cb hn (by omega)) fun i hb => ?_
 obtain ⟨p, c⟩ := i
 have hb : BAt f p (l.take n) := hb
 skip
 have hs : Src Tryz.prog f (cutH f cb (l.drop n) false :: F) (.slice p (l.take n).length c) 1 (l.take n).length (bytesV (l.take n)) := hb.src
 have hc := cloneB_fn f _ hs (fun hp => by rcases hb with h | ⟨b, off, cs, T, fr, h, _⟩; exact h; rw [hp] at h; cases h) (by omega)
 rw [hlen] at hc
 refine H.Ar rfl rfl rfl hc fun p1 c1 => ?_
 refine ga ?_
 exact H.Ac rfl rfl (fun _ h => h) ⟨p1, c1, rfl, rfl, rfl⟩
theorem slc_bat {p : Option Addr} {c : Nat} {l : List UInt8} {T : TypeId} {g : Frag} (h : slc p l.length c T 1 (bytesV l) g) (hd : Dj f g) : BAt (un f g) p l := by
 obtain ⟨_, _, h3⟩ := h
 rcases h3 with ⟨h0, _, _⟩ | ⟨b, sp, rfl, h4, h5, rfl⟩
 ·exact .inl (List.eq_nil_of_length_eq_zero h0)
 ·refine .inr ⟨b, 0, (bytesV l ++ sp).toArray, T, (0, 0), rfl, ?_, fun i hi => ?_⟩
  ·show (f b).or (sing b _ b) = _
   have : f b = none := by
    rcases hd b with h | h
    ·exact h
    ·simp [sing] at h
   rw [this]
   simp [sing]
  ·rw [Nat.zero_add]
   simp only [List.getElem?_toArray]
   rw [List.getElem?_append_left (by rw [zaf]; exact hi)]
theorem octNew_fn {p0 : Option Addr} {c0 : Nat} {l : List UInt8} (hs : Src Tryz.prog f F (.slice p0 l.length c0) 1 l.length (bytesV l)) (hn : p0 = none → l = []) (hl : l.length ≤ 100000000000) :
  Fn Tryz.prog 104 [.slice p0 l.length c0] f F (fun v f' A' => ∃ g cb p c, v = .pointer (some ⟨cb, 0, none⟩) ∧ slc p l.length c 5 1 (bytesV l) g ∧ Dj f g ∧ f' = un f g ∧ A' = cutH (un f g) cb l false :: F) := by
 refine Fn.enter Tryz.func104 rfl Tryz.ntmps104 rfl (L := [(0, _)]) ⟨rfl, trivial⟩ fun base => ?_
 refine gU ?_
 refine H.Ar rfl rfl rfl (cloneB_fn f F hs hn hl) fun p c => ?_
 refine H.slc_cap (.here _ _ _) fun hc _ _ => ?_
 refine H.freeze (.here _ _) fun g hg hd => ?_
 refine gH ?_
 refine H.box (ls := [.slice p l.length c, .bool false]) rfl rfl rfl rfl fun cb => ?_
 refine ga ?_
 exact H.Ac rfl rfl (zal (slc_bat f hg hd) hc) ⟨g, cb, p, c, rfl, hg, hd, rfl, rfl⟩
end
structure Cs where
 l : List UInt8
 bad : Bool
def Cs.ok (s : Cs) (n : Nat) : Bool := !s.bad && Nat.ble n s.l.length
def Cs.num (s : Cs) (n : Nat) : Nat := if s.ok n then numB (s.l.take n) else 0
def Cs.skip (s : Cs) (n : Nat) : Cs := if s.ok n then ⟨s.l.drop n, false⟩ else ⟨s.l, true⟩
def Cs.raw (s : Cs) (n : Nat) : List UInt8 := if s.ok n then s.l.take n else []
def Cs.tok (s : Cs) (most : Nat) : Bool := s.ok 2 && Nat.ble (s.num 2) most && Nat.ble (2 + s.num 2) s.l.length
def Cs.text (s : Cs) (most : Nat) : List UInt8 := if s.tok most then (s.l.drop 2).take (s.num 2) else []
def Cs.textS (s : Cs) (most : Nat) : Cs := if s.tok most then ⟨s.l.drop (2 + s.num 2), false⟩ else ⟨s.l, true⟩
theorem Cs.ok_iff (s : Cs) (n : Nat) : s.ok n = true ↔ s.bad = false ∧ n ≤ s.l.length := by
 simp [Cs.ok]
theorem Cs.skip_len (s : Cs) (n : Nat) : (s.skip n).l.length ≤ s.l.length := by
 unfold Cs.skip; split
 ·simp
 ·exact Nat.le_refl _
theorem Cs.textS_len (s : Cs) (n : Nat) : (s.textS n).l.length ≤ s.l.length := by
 unfold Cs.textS; split
 ·simp
 ·exact Nat.le_refl _
theorem Cs.num_lt (s : Cs) (n : Nat) : s.num n < 256 ^ n := by
 unfold Cs.num
 split
 ·rename_i h
  have h1 := numB_lt (s.l.take n)
  have h2 := ((Cs.ok_iff s n).1 h).2
  rw [List.length_take, Nat.min_eq_left h2] at h1
  exact h1
 ·exact Nat.pow_pos (by decide)
theorem Cs.num1_lt (s : Cs) : s.num 1 < 256 := s.num_lt 1
theorem Cs.num2_lt (s : Cs) : s.num 2 < 65536 := s.num_lt 2
def cutC (f : Frag) (cb : Nat) (s : Cs) : HP := cutH f cb s.l s.bad
section
variable (f : Frag) (F : List HP) (cb : Nat) (s : Cs)
theorem Cs.no {n : Nat} (h : ¬ s.ok n = true) : s.bad = true ∨ s.l.length < n := by
 rw [Cs.ok_iff] at h
 cases hb : s.bad with
 | true => exact .inl rfl
 | false => refine .inr ?_; simp [hb] at h; omega
theorem word_cs (hl : s.l.length ≤ 1000000000000) :
  Fn Tryz.prog 136 [.pointer (some ⟨cb, 0, none⟩)] f (cutC f cb s :: F) (Ret (.int .u64 (s.num 8 : Nat)) f (cutC f cb (s.skip 8) :: F)) := by
 unfold Cs.num Cs.skip cutC
 by_cases h : s.ok 8 = true
 ·rw [if_pos h, if_pos h]
  obtain ⟨h1, h2⟩ := (Cs.ok_iff _ _).1 h
  rw [h1]
  exact cutWord_yes f F cb h2 hl
 ·rw [if_neg h, if_neg h]
  exact cutWord_no f F cb (s.no h)
theorem half_cs (hl : s.l.length ≤ 1000000000000) :
  Fn Tryz.prog 201 [.pointer (some ⟨cb, 0, none⟩)] f (cutC f cb s :: F) (Ret (.int .u16 (s.num 2 : Nat)) f (cutC f cb (s.skip 2) :: F)) := by
 unfold Cs.num Cs.skip cutC
 by_cases h : s.ok 2 = true
 ·rw [if_pos h, if_pos h]
  obtain ⟨h1, h2⟩ := (Cs.ok_iff _ _).1 h
  rw [h1]
  exact cutHalf_yes f F cb h2 hl
 ·rw [if_neg h, if_neg h]
  exact cutHalf_no f F cb (s.no h)
theorem byte_cs (hl : s.l.length ≤ 1000000000000) :
  Fn Tryz.prog 146 [.pointer (some ⟨cb, 0, none⟩)] f (cutC f cb s :: F) (Ret (.int .u8 (s.num 1 : Nat)) f (cutC f cb (s.skip 1) :: F)) := by
 unfold Cs.num Cs.skip cutC
 by_cases h : s.ok 1 = true
 ·rw [if_pos h, if_pos h]
  obtain ⟨h1, h2⟩ := (Cs.ok_iff _ _).1 h
  rw [h1]
  exact cutByte_yes f F cb h2 hl
 ·rw [if_neg h, if_neg h]
  exact cutByte_no f F cb (s.no h)
theorem raw_cs (n : Nat) (hl : s.l.length ≤ 10000000000) :
  Fn Tryz.prog 186 [.pointer (some ⟨cb, 0, none⟩), .int .i64 (n : Nat)] f (cutC f cb s :: F) (BytesR (s.raw n) f (cutC f cb (s.skip n) :: F)) := by
 unfold Cs.raw Cs.skip cutC
 by_cases h : s.ok n = true
 ·rw [if_pos h, if_pos h]
  obtain ⟨h1, h2⟩ := (Cs.ok_iff _ _).1 h
  rw [h1]
  exact raw_yes f F cb h2 hl
 ·rw [if_neg h, if_neg h]
  exact raw_no f F cb ((s.no h).elim .inl fun h => .inr (.inr (by omega)))
theorem ok_cs : Fn Tryz.prog 147 [.pointer (some ⟨cb, 0, none⟩)] f (cutC f cb s :: F) (Ret (.bool (!s.bad)) f (cutC f cb s :: F)) := cutLeft_fn f F cb
end
def w32 (x : UInt32) : Value := .int .u32 (x.toNat : Nat)
theorem u32_wrap (z : Int) : IntKind.u32.wrap z = z % 4294967296 := by simp [IntKind.wrap, IntKind.signed, IntKind.bits]
theorem u32_bv (x : UInt32) : BitVec.ofInt 32 (x.toNat : Int) = x.toBitVec := by
 simp [BitVec.ofInt_natCast]
theorem u32_wrapN (x : UInt32) : IntKind.u32.wrap ((x.toNat : Nat) : Int) = (x.toNat : Int) := by
 rw [u32_wrap]; have := x.toNat_lt; omega
theorem zao (x y : UInt32) : bitsI .xor .u32 (x.toNat : Int) (y.toNat : Int) = some (((x ^^^ y).toNat : Nat) : Int) := by
 have e : (BitVec.ofInt 32 (x.toNat : Int) ^^^ BitVec.ofInt 32 (y.toNat : Int)).toNat = (x ^^^ y).toNat := by rw [u32_bv, u32_bv]; rfl
 show some (IntKind.u32.wrap ((BitVec.ofInt 32 (x.toNat : Int) ^^^ BitVec.ofInt 32 (y.toNat : Int)).toNat : Int)) = _
 rw [e, u32_wrapN]
theorem u32_and (x y : UInt32) : bitsI .and .u32 (x.toNat : Int) (y.toNat : Int) = some (((x &&& y).toNat : Nat) : Int) := by
 have e : (BitVec.ofInt 32 (x.toNat : Int) &&& BitVec.ofInt 32 (y.toNat : Int)).toNat = (x &&& y).toNat := by rw [u32_bv, u32_bv]; rfl
 show some (IntKind.u32.wrap ((BitVec.ofInt 32 (x.toNat : Int) &&& BitVec.ofInt 32 (y.toNat : Int)).toNat : Int)) = _
 rw [e, u32_wrapN]
theorem u32_or (x y : UInt32) : bitsI .or .u32 (x.toNat : Int) (y.toNat : Int) = some (((x ||| y).toNat : Nat) : Int) := by
 have e : (BitVec.ofInt 32 (x.toNat : Int) ||| BitVec.ofInt 32 (y.toNat : Int)).toNat = (x ||| y).toNat := by rw [u32_bv, u32_bv]; rfl
 show some (IntKind.u32.wrap ((BitVec.ofInt 32 (x.toNat : Int) ||| BitVec.ofInt 32 (y.toNat : Int)).toNat : Int)) = _
 rw [e, u32_wrapN]
theorem u32_not (x : UInt32) : bitsI .xor .u32 (if IntKind.u32.signed then -1 else IntKind.u32.max) (x.toNat : Int) = some (((~~~ x).toNat : Nat) : Int) := by
 have h : (if IntKind.u32.signed then -1 else IntKind.u32.max) = (((0xffffffff : UInt32).toNat : Nat) : Int) := by decide
 rw [h, zao]
 congr 3
theorem u32_shr (x : UInt32) (n : Nat) (hn : n < 32) : shiftI .shr .u32 (x.toNat : Int) (n : Int) = some (((x >>> (UInt32.ofNat n)).toNat : Nat) : Int) := by
 simp only [shiftI, Option.some.injEq, IntKind.bits]
 rw [UInt32.toNat_shiftRight]
 have h1 : (UInt32.ofNat n).toNat % 32 = n := by
  rw [UInt32.toNat_ofNat']; omega
 rw [h1, Nat.shiftRight_eq_div_pow]
 have h2 : min ((n : Int).toNat) 32 = n := by omega
 rw [h2]
 rw [show ((2 : Int) ^ n) = ((2 ^ n : Nat) : Int) by simp]
 rw [Int.fdiv_eq_ediv_of_nonneg _ (Int.natCast_nonneg _)]
 exact (Int.natCast_ediv _ _).symm
theorem u32_shl (x : UInt32) (n : Nat) (hn : n < 32) : shiftI .shl .u32 (x.toNat : Int) (n : Int) = some (((x <<< (UInt32.ofNat n)).toNat : Nat) : Int) := by
 simp only [shiftI, Option.some.injEq, IntKind.bits]
 rw [UInt32.toNat_shiftLeft]
 have h1 : (UInt32.ofNat n).toNat % 32 = n := by
  rw [UInt32.toNat_ofNat']; omega
 rw [h1, Nat.shiftLeft_eq]
 have h2 : min ((n : Int).toNat) 32 = n := by omega
 rw [h2, u32_wrap]
 rw [show ((2 : Int) ^ n) = ((2 ^ n : Nat) : Int) by simp]
 rw [← Int.natCast_mul]
 omega
theorem u32_shl24 (x : UInt32) : shiftI .shl .u32 (x.toNat : Int) 24 = some (((x <<< (UInt32.ofNat 24)).toNat : Nat) : Int) := u32_shl x 24 (by decide)
theorem u32_shl16 (x : UInt32) : shiftI .shl .u32 (x.toNat : Int) 16 = some (((x <<< (UInt32.ofNat 16)).toNat : Nat) : Int) := u32_shl x 16 (by decide)
theorem u32_shl8 (x : UInt32) : shiftI .shl .u32 (x.toNat : Int) 8 = some (((x <<< (UInt32.ofNat 8)).toNat : Nat) : Int) := u32_shl x 8 (by decide)
theorem u32_shr3 (x : UInt32) : shiftI .shr .u32 (x.toNat : Int) 3 = some (((x >>> (UInt32.ofNat 3)).toNat : Nat) : Int) := u32_shr x 3 (by decide)
theorem u32_shr10 (x : UInt32) : shiftI .shr .u32 (x.toNat : Int) 10 = some (((x >>> (UInt32.ofNat 10)).toNat : Nat) : Int) := u32_shr x 10 (by decide)
theorem u32_ofByte (b : UInt8) : IntKind.u32.wrap ((b.toNat : Nat) : Int) = ((b.toUInt32.toNat : Nat) : Int) := by
 rw [u32_wrap, UInt8.toNat_toUInt32]; have := b.toNat_lt; omega
theorem u8_ofU32 (x : UInt32) : IntKind.u8.wrap ((x.toNat : Nat) : Int) = ((x.toUInt8.toNat : Nat) : Int) := by
 have h : IntKind.u8.wrap ((x.toNat : Nat) : Int) = (x.toNat : Int) % 256 := by simp [IntKind.wrap, IntKind.signed, IntKind.bits]
 rw [h, UInt32.toNat_toUInt8]; omega
namespace Sha
def rot (x : UInt32) (n : Nat) : UInt32 := x >>> (UInt32.ofNat n) ||| x <<< (UInt32.ofNat (32 - n))
def word (b : List UInt8) (i : Nat) : UInt32 :=
 (b.getD (4 * i) 0).toUInt32 <<< (UInt32.ofNat 24) ||| (b.getD (4 * i + 1) 0).toUInt32 <<< (UInt32.ofNat 16) ||| (b.getD (4 * i + 2) 0).toUInt32 <<< (UInt32.ofNat 8) ||| (b.getD (4 * i + 3) 0).toUInt32
def words (b : List UInt8) : Nat → List UInt32
 | 0 => []
 | i + 1 => words b i ++ [word b i]
def s0 (x : UInt32) : UInt32 := rot x 7 ^^^ rot x 18 ^^^ x >>> (UInt32.ofNat 3)
def s1 (x : UInt32) : UInt32 := rot x 17 ^^^ rot x 19 ^^^ x >>> (UInt32.ofNat 10)
def next (w : List UInt32) : UInt32 := w.getD (w.length - 16) 0 + s0 (w.getD (w.length - 15) 0) + w.getD (w.length - 7) 0 + s1 (w.getD (w.length - 2) 0)
def ext (w : List UInt32) : Nat → List UInt32
 | 0 => w
 | i + 1 => ext w i ++ [next (ext w i)]
def sched (b : List UInt8) : List UInt32 := ext (words b 16) 48
def k : List UInt32 := [
 0x428a2f98, 0x71374491, 0xb5c0fbcf, 0xe9b5dba5, 0x3956c25b, 0x59f111f1, 0x923f82a4, 0xab1c5ed5,
 0xd807aa98, 0x12835b01, 0x243185be, 0x550c7dc3, 0x72be5d74, 0x80deb1fe, 0x9bdc06a7, 0xc19bf174,
 0xe49b69c1, 0xefbe4786, 0x0fc19dc6, 0x240ca1cc, 0x2de92c6f, 0x4a7484aa, 0x5cb0a9dc, 0x76f988da,
 0x983e5152, 0xa831c66d, 0xb00327c8, 0xbf597fc7, 0xc6e00bf3, 0xd5a79147, 0x06ca6351, 0x14292967,
 0x27b70a85, 0x2e1b2138, 0x4d2c6dfc, 0x53380d13, 0x650a7354, 0x766a0abb, 0x81c2c92e, 0x92722c85,
 0xa2bfe8a1, 0xa81a664b, 0xc24b8b70, 0xc76c51a3, 0xd192e819, 0xd6990624, 0xf40e3585, 0x106aa070,
 0x19a4c116, 0x1e376c08, 0x2748774c, 0x34b0bcb5, 0x391c0cb3, 0x4ed8aa4a, 0x5b9cca4f, 0x682e6ff3,
 0x748f82ee, 0x78a5636f, 0x84c87814, 0x8cc70208, 0x90befffa, 0xa4506ceb, 0xbef9a3f7, 0xc67178f2]
structure S8 where
 a : UInt32
 b : UInt32
 c : UInt32
 d : UInt32
 e : UInt32
 f : UInt32
 g : UInt32
 h : UInt32
def S8.vals (s : S8) : List Value := [w32 s.a, w32 s.b, w32 s.c, w32 s.d, w32 s.e, w32 s.f, w32 s.g, w32 s.h]
def start : S8 := ⟨0x6a09e667, 0xbb67ae85, 0x3c6ef372, 0xa54ff53a, 0x510e527f, 0x9b05688c, 0x1f83d9ab, 0x5be0cd19⟩
def t1 (k w : UInt32) (v : S8) : UInt32 := v.h + (rot v.e 6 ^^^ rot v.e 11 ^^^ rot v.e 25) + (v.e &&& v.f ^^^ ~~~ v.e &&& v.g) + k + w
def t2 (v : S8) : UInt32 := (rot v.a 2 ^^^ rot v.a 13 ^^^ rot v.a 22) + (v.a &&& v.b ^^^ v.a &&& v.c ^^^ v.b &&& v.c)
def round (k w : UInt32) (v : S8) : S8 := ⟨t1 k w v + t2 v, v.a, v.b, v.c, v.d + t1 k w v, v.e, v.f, v.g⟩
def rounds (w : List UInt32) (v : S8) : Nat → S8
 | 0 => v
 | i + 1 => round (k.getD i 0) (w.getD i 0) (rounds w v i)
def S8.add (v s : S8) : S8 := ⟨v.a + s.a, v.b + s.b, v.c + s.c, v.d + s.d, v.e + s.e, v.f + s.f, v.g + s.g, v.h + s.h⟩
def block (s : S8) (b : List UInt8) : S8 := (rounds (sched b) s 64).add s
def blocks (s : S8) (b : List UInt8) : Nat → S8
 | 0 => s
 | i + 1 => block (blocks s b i) ((b.drop (64 * i)).take 64)
def padZ (n : Nat) : Nat := (119 - n % 64) % 64
def padded (b : List UInt8) : List UInt8 := b ++ [0x80] ++ List.replicate (padZ b.length) 0 ++ be 8 ((b.length * 8 : Nat) : Int)
def S8.get (s : S8) : Nat → UInt32
 | 0 => s.a
 | 1 => s.b
 | 2 => s.c
 | 3 => s.d
 | 4 => s.e
 | 5 => s.f
 | 6 => s.g
 | _ => s.h
def S8.out (s : S8) (i : Nat) : UInt8 := (s.get (i / 4) >>> (UInt32.ofNat (24 - 8 * (i % 4)))).toUInt8
def sum (b : List UInt8) : Nat → UInt8 := (blocks start (padded b) ((padded b).length / 64)).out
end Sha
section rules
variable {P : Program} {base : World} {n : Nat} {L : Env} {f : Frag} {A : List HP} {q : Post}
variable {l rest : List Oper} {d : Nat} {ty : TypeId} {pos : String} {af : Array Edge} {gd : Option (Nat × Bool)}
theorem H.convBS {s t e : TypeId} {x : Operand} {p : Option Addr} {c : Nat} {bs : List UInt8} [hs : Und P s (.slice e)] [he : Und P e (.int .u8)] [ht : Und P t .string] (hw : want? l L gd = true) (hx : ev? L x = some (.slice p bs.length c))
  (hsrc : Src P f A (.slice p bs.length c) 1 bs.length (bytesV bs)) (hn : p = none → bs = []) (hd : Nat.ble (d + 1) n = true)
  (k : H P base n ((d, .string ⟨bs.toArray⟩) :: L) f A (.ops l rest q)) : H P base n L f A (.ops l (⟨some d, .convert s t x, ty, pos, af, gd⟩ :: rest) q) :=
 H.opV hw hd (fun a w hf s' => by
  have h1 := hsrc.cells base w s'
  have h2 : (convert s t (.slice p bs.length c)).run P w = .ok (.string ⟨bs.toArray⟩) w := by
   rw [run_convert_bytes_string w s t e p bs.length c hs.eq he.eq ht.eq]
   cases p with
   | none =>
    have := hn rfl
    subst this
    simp [Conv.bytesToString]
    rfl
   | some a =>
    have h3 : (loadCells a bs.length).run P w = .ok ((bs.map (fun b => (b.toNat : Int))).map (Value.int .u8)).toArray w := by
     have h4 : (Builtin.firstCells 1 bs.length (.slice (some a) bs.length c)).run P w = (loadCells a (bs.length * 1)).run P w := rfl
     rw [Nat.mul_one] at h4
     rw [← h4, h1]
     unfold bytesV
     rw [List.map_map]
     rfl
    rw [run_bytesToString w a bs.length c _ h3, foldl_push_byteCells]
    have he0 : ByteArray.empty.data = #[] := rfl
    rw [he0]
    simp
  simp only [execOp, hf.eval hx, Sem.run_bind, h2, Result.andThen_ok, Sem.run_pure]) k
def strRow (b : Nat) (s : ByteArray) (c : Nat) (e : TypeId) : HP := pts b (.cells (bytesRow s c) e ((bytesRow s c).size, (bytesRow s c).size + 1))
theorem bytesRow_get (s : ByteArray) (c : Nat) {i : Nat} (h : i < s.size) : (bytesRow s c)[i]? = (bytesV s.data.toList)[i]? := by
 unfold bytesRow bytesV
 have h' : i < s.data.size := h
 rw [Array.getElem?_append_left (by simpa using h')]
 rw [List.getElem?_map, Array.getElem?_map, Array.getElem?_toList]
theorem Src.strRow {A' : List HP} {b c c' : Nat} {s : ByteArray} {e : TypeId} (h : At A (strRow b s c e) A' (strRow b s c e)) : Src P f A (.slice (some ⟨b, 0, none⟩) s.size c') 1 s.size (bytesV s.data.toList) := by
 have hl : (bytesV s.data.toList).length = s.size * 1 := by unfold bytesV; rw [List.length_map, Array.length_toList, Nat.mul_one]; rfl
 refine Src.slice (fun base w sa => ⟨_, _, _, sa.got h, fun i hi => ?_⟩) hl
 rw [hl, Nat.mul_one] at hi
 rw [Nat.zero_add]
 exact bytesRow_get s c hi
theorem H.convSB {s t e : TypeId} {x : Operand} {bs : ByteArray} [hs : Und P s .string] [ht : Und P t (.slice e)] [he : Und P e (.int .u8)] (hw : want? l L gd = true) (hx : ev? L x = some (.string bs)) (hd : Nat.ble (d + 1) n = true)
  (k : ∀ b c, H P base n ((d, .slice (some ⟨b, 0, none⟩) bs.size c) :: L) f (strRow b bs c e :: A) (.ops l rest q)) : H P base n L f A (.ops l (⟨some d, .convert s t x, ty, pos, af, gd⟩ :: rest) q) :=
 H.opE (ι := Nat × Nat) (fun i => .slice (some ⟨i.1, 0, none⟩) bs.size i.2) (fun _ => f) (fun i => strRow i.1 bs i.2 e :: A) (fun _ => True) hw hd (fun a w hfr s' => by
  have h1 := run_bytes_of_string (P := P) w s t e bs hs.eq ht.eq he.eq
  have h2 : (execOp a.eval ⟨some d, .convert s t x, ty, pos, af, gd⟩).run P w = .ok (.value (.slice (some ⟨w.heap.size, 0, none⟩) bs.size (grownCap w bs.size 0 e))) (w.drew.alloc (.cells (bytesRow bs (grownCap w bs.size 0 e)) e ((bytesRow bs (grownCap w bs.size 0 e)).size, (bytesRow bs (grownCap w bs.size 0 e)).size + 1))) := by
   simp only [execOp, hfr.eval hx, Sem.run_bind, h1, Result.andThen_ok, Sem.run_pure]
  exact ⟨(w.heap.size, grownCap w bs.size 0 e), _, trivial, h2, Sat.alloc (w := w) s' rfl rfl rfl rfl⟩) (fun i _ => k i.1 i.2)
theorem run_copy_own {w : World} {dT sT ty elem : TypeId} {b o dl dc m : Nat} {xv : Value} {cur : Array Value} {T : TypeId} {cs : List Value} (hu : Und P dT (.slice elem)) (hs : Siz P elem 1)
  (hg : w.heap[b]? = some (.cells cur T (0, 0))) (hlen : (Builtin.lenOf xv).run P w = .ok m w) (hcs : (Builtin.firstCells 1 (Nat.min m dl) xv).run P w = .ok cs.toArray w) (hfit : o + cs.length ≤ cur.size) (h1 : ∀ v ∈ cs, v.oneCell' = true) :
  (Builtin.copy_ #[dT, sT] ty #[.slice (some ⟨b, o, none⟩) dl dc, xv]).run P w = .ok (goInt (Nat.min m dl)) (w.setRow b (cur.toList.take o ++ cs ++ cur.toList.drop (o + cs.length)).toArray) := by
 have hst := run_storeCells_at P b o T cs 0 cur w hg (by simpa using hfit) h1
 simp only [Nat.add_zero] at hst
 simp [Builtin.copy_, run_underlying hu.eq, hlen, hs.run, hcs, hst]
theorem run_builtin_copy {t u ty : TypeId} {x y : Operand} {a : Act} {w w' : World} {dd : Option Tmp} {v : Value} (h : (Builtin.copy_ #[t, u] ty #[a.eval x, a.eval y]).run P w = .ok v w') :
  (execOp a.eval ⟨dd, .call ⟨.builtin .copy, #[x, y], #[t, u]⟩, ty, pos, af, gd⟩).run P w = .ok (.value v) w' := by
 simp only [execOp, resolve, invoke, builtin, Sem.run_bind, Sem.run_pure, Result.andThen_ok, List.map_toArray, List.map_cons, List.map_nil, h]
theorem H.copy {dT sT e : TypeId} {x y : Operand} {b o dl dc m k0 : Nat} {xv : Value} {T : TypeId} {ls ls' cs : List Value} {A' : List HP} [hu : Und P dT (.slice e)] [hs : Siz P e 1] (hw : want? l L gd = true) (hd : Nat.ble (d + 1) n = true)
  (hx : ev? L x = some (.slice (some ⟨b, o, none⟩) dl dc)) (hy : ev? L y = some xv) (hlen : ∀ w, (Builtin.lenOf xv).run P w = .ok m w) (hk : Nat.min m dl = k0) (hcs : ∀ base w, Sat base w f A → (Builtin.firstCells 1 k0 xv).run P w = .ok cs.toArray w)
  (hset : splice ls o cs = ls') (hfit : o + cs.length ≤ ls.length) (h1 : ∀ v ∈ cs, one v = true) (hA : At A (row b T ls) A' (row b T ls'))
  (k : H P base n ((d, .int .i64 (k0 : Nat)) :: L) f A' (.ops l rest q)) : H P base n L f A (.ops l (⟨some d, .call ⟨.builtin .copy, #[x, y], #[dT, sT]⟩, ty, pos, af, gd⟩ :: rest) q) :=
 H.opE (ι := Unit) (fun _ => .int .i64 (k0 : Nat)) (fun _ => f) (fun _ => A') (fun _ => True) hw hd (fun a w hfr s' => by
  subst hset; subst hk
  have hb := s'.got hA
  have hr := run_copy_own (P := P) (ty := ty) (sT := sT) (dc := dc) hu hs hb (hlen w) (hcs base w s') (by simpa using hfit) (fun v hv => by rw [one_eq]; exact h1 v hv)
  refine ⟨(), _, trivial, run_builtin_copy (by rw [hfr.eval hx, hfr.eval hy]; exact hr), ?_⟩
  exact s'.set hA rfl rfl rfl (setRow_is hb)) (fun _ _ => k)
theorem Src.copy {xv : Value} {m : Nat} {cs : List Value} (h : Src P f A xv 1 m cs) : ∀ base w, Sat base w f A → (Builtin.firstCells 1 m xv).run P w = .ok cs.toArray w := h.cells
theorem firstCells_part {b off m c k0 : Nat} {news : List Value} (h : Rd f A b off news) (hk : k0 ≤ news.length) : ∀ base w, Sat base w f A → (Builtin.firstCells 1 k0 (.slice (some ⟨b, off, none⟩) m c)).run P w = .ok (news.take k0).toArray w := fun base w s => by
 refine run_firstCells_some w 1 k0 ⟨b, off, none⟩ m c (news.take k0) (by simp; omega) (fun j v hj => ?_)
 rw [zaj]
 rw [List.getElem?_take] at hj
 split at hj
 ·exact (h base w s).cell hj
 ·cases hj
end rules
theorem Le.un (f g : Frag) : Le f (un f g) := fun k o h => by simp [Proofs.YtdcjlgigcbinjaaGreatDoor.un, h]
theorem Sat.weak {base w : World} {f g : Frag} {A : List HP} (h : Le f g) (s : Sat base w g A) : Sat base w f A := by
 obtain ⟨a, b, c, d, e, m, hm, hd, hw⟩ := s
 refine ⟨a, b, c, d, fun k o hk => e k o (h k o hk), m, hm, fun k => ?_, hw⟩
 rcases hd k with h1 | h1
 ·refine .inl ?_
  cases hf : f k with
  | none => rfl
  | some o => rw [h k o hf] at h1; cases h1
 ·exact .inr h1
theorem wpAnyC_mono {P : Program} {C C' : World → Prop} {ops : Array Oper} {Q : Exit → Act → World → Prop} {cut : Array Bool} (hC : ∀ w, C w → C' w) : ∀ (fuel : Nat) (listed : Array Bool) (a : Act) (w : World), wpAnyC P C ops Q cut fuel listed a w → wpAnyC P C' ops Q cut fuel listed a w
 | 0, _, _, _, h => ⟨hC _ h.1, h.2⟩
 | fuel + 1, listed, a, w, h => by
  refine ⟨hC _ h.1, ?_⟩
  have h2 := h.2
  split at h2
  ·rename_i hc; rw [if_pos hc]; exact h2
  ·rename_i hc; rw [if_neg hc]; exact ⟨h2.1, fun i hi => wpOp_mono (fun a w => wpAnyC_mono hC fuel _ a w) (h2.2 i hi)⟩
structure HB (S V : List HP) (cut listed : Array Bool) (fuel : Nat) (P : Program) (base : World) (n : Nat) (L : Env) (f : Frag) (K : Kont) : Prop where
 out : ∀ l q, K = .ops l [] q → Region.noSelect l.toArray = true → q.blind P → ∀ a w, Fr n a L → Sat base w f (S ++ V) →
  wpAnyC P (fun w => ∃ V, Sat base w f (S ++ V)) l.toArray (q.den P) cut fuel listed a w
def bPost (P : Program) (base : World) (f : Frag) (S : List HP) (cut listed : Array Bool) (fuel : Nat) (l : List Oper) (q : Post) (e : Exit) (a : Act) (w : World) : Prop :=
 Region.noSelect l.toArray = true → q.blind P → match e with
  | .normal => wpAnyC P (fun w => ∃ V, Sat base w f (S ++ V)) l.toArray (q.den P) cut fuel listed a w
  | e => q.den P e a w
section rules
variable {P : Program} {base : World} {n : Nat} {L : Env} {f : Frag} {A S V : List HP} {q : Post} {cut listed : Array Bool} {fuel : Nat} {ξ : Ext} {tl : List Oper}
variable {l rest : List Oper} {d : Nat} {ty : TypeId} {pos : String} {af : Array Edge} {gd : Option (Nat × Bool)}
theorem HB.Af (todo : List (Nat × Bool)) (left : Nat) (hn : (ordOK l.toArray ⟨listed, cut, left, true⟩ todo && todo.all (fun t => (getO l t.1).isSome) && Nat.beq fuel (todo.length + left)) = true)
  (k : HQ V ⟨⟨listed, cut, left, true⟩, todo⟩ P base n L f S (.ops l (pickOps l todo) q)) : HB S V cut listed fuel P base n L f (.ops l [] q) := .mk fun l' q' hK hs hb a w hf s => by
 simp only [Kont.ops.injEq] at hK
 obtain ⟨rfl, _, rfl⟩ := hK
 simp only [Bool.and_eq_true, List.all_eq_true] at hn
 obtain ⟨⟨h1, h2⟩, h3⟩ := hn
 have h4 : fuel = todo.length + left := Nat.eq_of_beq_eq_true h3
 subst h4
 exact k.out l q rfl hs hb h1 h2 a w hf s
theorem HQ.Ae {ls : Lst} (h0 : ls.opn = true) (k : HB A V ls.cut ls.a ls.left P base n L f (.ops l [] q)) : HQ V ⟨ls, []⟩ P base n L f A (.ops l [] q) := .mk fun l' q' hK hs hb ho hg a w hf s => by
 simp only [Kont.ops.injEq] at hK
 obtain ⟨rfl, _, rfl⟩ := hK
 have _ := h0
 have := k.out l q rfl hs hb a w hf s
 simp only [List.length_nil, Nat.zero_add]
 exact this
theorem HB.Aq (h0 : (Nat.beq fuel 0 && Region.ready .any l.toArray listed == []) = true) (k : H P base n L f (S ++ V) (.out .normal q)) : HB S V cut listed fuel P base n L f (.ops l [] q) := .mk fun l' q' hK hs hb a w hf s => by
 simp only [Kont.ops.injEq] at hK
 obtain ⟨rfl, _, rfl⟩ := hK
 simp only [Bool.and_eq_true, beq_iff_eq] at h0
 have h1 : fuel = 0 := Nat.eq_of_beq_eq_true h0.1
 subst h1
 exact ⟨⟨V, s⟩, h0.2, k.out a w hf s⟩
theorem event_step {i : Nat} {o : Oper} {a : Act} {w : World} (ho : getO l i = some o) (hs : Region.noSelect l.toArray = true) (hb : q.blind P) (hf : Fr n a L) (s : Sat base w f (S ++ V))
  (k : H P base n L f (S ++ V) (.ops l [o] (.fn (bPost P base f S cut (listed.setIfInBounds i true) fuel l q)))) :
  wpOp P l.toArray (q.den P) i (wpAnyC P (fun w => ∃ V, Sat base w f (S ++ V)) l.toArray (q.den P) cut fuel (listed.setIfInBounds i true)) a w := by
 have hk := k.out a w hf s
 unfold wpOp
 rw [List.getElem?_toArray, ← getO_eq, ho]
 show if Region.wanted o (yielded l.toArray a.tmps) = true then _ else _
 have hk' : wpList P l.toArray (bPost P base f S cut (listed.setIfInBounds i true) fuel l q) [o] a w := hk
 simp only [wpList] at hk'
 have e1 : ∀ a w, bPost P base f S cut (listed.setIfInBounds i true) fuel l q .normal a w →
   wpAnyC P (fun w => ∃ V, Sat base w f (S ++ V)) l.toArray (q.den P) cut fuel (listed.setIfInBounds i true) a w := fun a w h => h hs hb
 by_cases hw : Region.wanted o (yielded l.toArray a.tmps) = true
 ·rw [if_pos hw] at hk' ⊢
  rcases hk' with h | ⟨hasks, x, y, z⟩
  ·exact .inl (upon_mono e1 (fun c a w h => h hs hb) (fun a w h => h hs hb) h)
  ·exact .inr ⟨hasks, x, y, z hs hb⟩
 ·rw [if_neg hw] at hk' ⊢
  exact e1 _ _ hk'
def oneB (l : List Oper) (cut listed : Array Bool) (is : List Nat) : Bool := Region.ready .any l.toArray listed == is && (listed != cut)
theorem HB.ev1 {i : Nat} {o : Oper} (hr : oneB l cut listed [i] = true) (ho : getO l i = some o)
  (k : H P base n L f (S ++ V) (.ops l [o] (.fn (bPost P base f S cut (listed.setIfInBounds i true) fuel l q)))) : HB S V cut listed (fuel + 1) P base n L f (.ops l [] q) := .mk fun l' q' hK hs hb a w hf s => by
 simp only [Kont.ops.injEq] at hK
 obtain ⟨rfl, _, rfl⟩ := hK
 simp only [oneB, Bool.and_eq_true, beq_iff_eq, bne_iff_ne, ne_eq] at hr
 exact wpAnyC_one hr.1 hr.2 ⟨V, s⟩ (event_step ho hs hb hf s k)
theorem HB.ev2 {i j : Nat} {o o' : Oper} (hr : oneB l cut listed [i, j] = true) (ho : getO l i = some o) (ho' : getO l j = some o')
  (k : H P base n L f (S ++ V) (.ops l [o] (.fn (bPost P base f S cut (listed.setIfInBounds i true) fuel l q))))
  (k' : H P base n L f (S ++ V) (.ops l [o'] (.fn (bPost P base f S cut (listed.setIfInBounds j true) fuel l q)))) : HB S V cut listed (fuel + 1) P base n L f (.ops l [] q) := .mk fun l' q' hK hs hb a w hf s => by
 simp only [Kont.ops.injEq] at hK
 obtain ⟨rfl, _, rfl⟩ := hK
 simp only [oneB, Bool.and_eq_true, beq_iff_eq, bne_iff_ne, ne_eq] at hr
 refine ⟨⟨V, s⟩, ?_⟩
 rw [if_neg hr.2]
 refine ⟨(fun h0 => by rw [hr.1] at h0; simp at h0), fun x hx => ?_⟩
 rw [hr.1] at hx
 simp only [List.mem_cons, List.not_mem_nil, or_false] at hx
 rcases hx with rfl | rfl
 ·exact event_step ho hs hb hf s k
 ·exact event_step ho' hs hb hf s k'
theorem H.on {B V' : List HP} {g : Frag} (E : List HP) (hg : Le f g) (hB : B = (S ++ E) ++ V') (k : HB (S ++ E) V' cut listed fuel P base n L g (.ops l [] q)) :
  H P base n L g B (.out .normal (.fn (bPost P base f S cut listed fuel l q))) := .mk fun a w hf s hs hb => by
 subst hB
 refine wpAnyC_mono (fun w ⟨V1, s1⟩ => ⟨E ++ V1, ?_⟩) _ _ _ _ (k.out l q rfl hs hb a w hf s)
 rw [← List.append_assoc]
 exact s1.weak hg
theorem H.on0 {B V' : List HP} (hB : B = S ++ V') (k : HB S V' cut listed fuel P base n L f (.ops l [] q)) :
  H P base n L f B (.out .normal (.fn (bPost P base f S cut listed fuel l q))) := .mk fun a w hf s hs hb => by
 subst hB
 exact k.out l q rfl hs hb a w hf s
theorem H.Ay {id : Nat} {B : List HP} (hm : P.follows .mixedOrders = true) (hn : Region.noSelect l.toArray = true) (hb : q.blind P)
  {S V : List HP} (hB : B = S ++ V) (k : HB S V #[] (Array.replicate l.length false) l.length P base n L f (.ops l [] q)) : H P base n L f B (.code (.region id l.toArray true) q) := .mk fun a w hf s => by
 refine wp_region_any hm ?_
 subst hB
 have s' : Sat base { w with drawn := w.drawn + 1 } f (S ++ V) := s.same rfl rfl rfl rfl
 have := k.out l q rfl hn hb a _ hf s'
 simpa using wpAnyC.any _ _ _ _ this
theorem H.drawC {id : Nat} {B : List HP} (upto : List Nat) (hm : P.follows .mixedOrders = true) (hn : Region.noSelect l.toArray = true) (hb : q.blind P)
  {S V : List HP} (hB : B = S ++ V) (k : HB S V (upto.foldl (fun a i => a.setIfInBounds i true) (Array.replicate l.length false)) (Array.replicate l.length false) l.length P base n L f (.ops l [] q)) : H P base n L f B (.code (.region id l.toArray true) q) := .mk fun a w hf s => by
 refine wp_region_any hm ?_
 subst hB
 have s' : Sat base { w with drawn := w.drawn + 1 } f (S ++ V) := s.same rfl rfl rfl rfl
 have := k.out l q rfl hn hb a _ hf s'
 simpa using wpAnyC.any _ _ _ _ this
theorem HB.next {S' V' : List HP} (upto : List Nat) (hc : (listed == cut && Nat.blt 0 fuel) = true) (hB : S ++ V = S' ++ V')
  (k : HB S' V' (match upto with | [] => #[] | _ => upto.foldl (fun a i => a.setIfInBounds i true) listed) listed fuel P base n L f (.ops l [] q)) : HB S V cut listed fuel P base n L f (.ops l [] q) := .mk fun l' q' hK hs hb a w hf s => by
 simp only [Kont.ops.injEq] at hK
 obtain ⟨rfl, _, rfl⟩ := hK
 simp only [Bool.and_eq_true, beq_iff_eq] at hc
 obtain ⟨h1, h2⟩ := hc
 have h3 := Nat.le_of_ble_eq_true h2
 obtain ⟨m, rfl⟩ : ∃ m, fuel = m + 1 := ⟨fuel - 1, by omega⟩
 refine ⟨⟨V, s⟩, ?_⟩
 rw [if_pos h1]
 rw [hB] at s
 exact (k.out l q rfl hs hb a w hf s).any
structure HN (listed : Array Bool) (fuel : Nat) (P : Program) (base : World) (n : Nat) (L : Env) (f : Frag) (A : List HP) (K : Kont) : Prop where
 out : ∀ l q, K = .ops l [] q → Region.noSelect l.toArray = true → q.blind P → ∀ a w, Fr n a L → Sat base w f A → wpAny P .any l.toArray (q.den P) fuel listed a w
theorem wpAnyC_true {ops : Array Oper} {Q : Exit → Act → World → Prop} (h0 : ops.size ≠ 0) : ∀ (fuel : Nat) (listed : Array Bool) (a : Act) (w : World), listed.size = ops.size → wpAny P .any ops Q fuel listed a w → wpAnyC P (fun _ => True) ops Q #[] fuel listed a w
 | 0, _, _, _, _, h => ⟨trivial, h⟩
 | fuel + 1, listed, a, w, hl, h => by
  refine ⟨trivial, ?_⟩
  rw [if_neg (by rintro rfl; exact h0 (by simpa using hl.symm))]
  exact ⟨h.1, fun i hi => wpOp_mono (fun a w => wpAnyC_true h0 fuel _ a w (by simpa using hl)) (h.2 i hi)⟩
theorem H.drawN {id : Nat} (hm : P.follows .mixedOrders = true) (hn : Region.noSelect l.toArray = true) (hb : q.blind P)
  (k : HN (Array.replicate l.length false) l.length P base n L f A (.ops l [] q)) : H P base n L f A (.code (.region id l.toArray true) q) := .mk fun a w hf s => by
 refine wp_region_any hm ?_
 have s' : Sat base { w with drawn := w.drawn + 1 } f A := s.same rfl rfl rfl rfl
 have := k.out l q rfl hn hb a _ hf s'
 simpa using this
def pureB (l : List Oper) (listed : Array Bool) (i : Nat) : Bool := (Region.ready .any l.toArray listed).contains i && Region.free .any l.toArray listed i && barB l.toArray #[] i && closedB l.toArray listed && Nat.beq listed.size l.length && Nat.blt 0 l.length
theorem HN.move {i : Nat} {x : Operand} {v : Value} (hc : pureB l listed i = true) (ho : getO l i = some ⟨some d, .move x, ty, pos, af, gd⟩) (hw : want? l L gd = true) (hx : ev? L x = some v) (hd : Nat.ble (d + 1) n = true)
  (k : HN (listed.setIfInBounds i true) fuel P base n ((d, v) :: L) f A (.ops l [] q)) : HN listed (fuel + 1) P base n L f A (.ops l [] q) := .mk fun l' q' hK hs hb a w hf s => by
 simp only [Kont.ops.injEq] at hK
 obtain ⟨rfl, _, rfl⟩ := hK
 simp only [pureB, Bool.and_eq_true] at hc
 obtain ⟨⟨⟨⟨⟨h1, h2⟩, h3⟩, h4⟩, h5⟩, h6⟩ := hc
 have h5' : listed.size = l.toArray.size := by simpa using Nat.eq_of_beq_eq_true h5
 have h6' : l.toArray.size ≠ 0 := by
  have := Nat.le_of_ble_eq_true h6
  simp only [List.size_toArray]; omega
 have hk := k.out l q rfl hs hb (a.put (some d) v) w (hf.put (Nat.le_of_ble_eq_true hd) v) s
 have hk2 := wpAnyC_true h6' _ _ _ _ (by simpa using h5') hk
 refine wpAnyC.any _ _ _ _ (wpAnyC_take (C := fun _ => True) (cut := #[]) (oi := ⟨some d, .move x, ty, pos, af, gd⟩) (v := v) (by rw [List.getElem?_toArray, ← getO_eq]; exact ho) hs h2 h3 h4 h1 (fun c a w h => hb c a _ _ w h) (.inl ⟨hf.want hw, fun w' _ => ?_⟩) hk2)
 simp [execOp, hf.eval hx]
theorem HN.phase {S V : List HP} (upto : List Nat) (hB : A = S ++ V) (k : HB S V (match upto with | [] => #[] | _ => upto.foldl (fun a i => a.setIfInBounds i true) listed) listed fuel P base n L f (.ops l [] q)) : HN listed fuel P base n L f A (.ops l [] q) := .mk fun l' q' hK hs hb a w hf s => by
 simp only [Kont.ops.injEq] at hK
 obtain ⟨rfl, _, rfl⟩ := hK
 subst hB
 exact (k.out l q rfl hs hb a w hf s).any
theorem HQ.Bj {op : BinOp} {xt yt : TypeId} {x y : Operand} {k : IntKind} {p p2 r z : Int} (hw : want? l L gd = true) (hx : ev? L x = some (.int k p)) (hy : ev? L y = some (.int k p2)) (hc : bitsI op k p p2 = some r) (hz : r = z) (hd : Nat.ble (d + 1) n = true) {lst : Lst} {ti : Nat} {tt : List (Nat × Bool)}
  (kk : HQ V ⟨lst.setIfInBounds ti true, tt⟩ P base n ((d, .int k z) :: L) f A (.ops l rest q)) : HQ V ⟨lst, (ti, false) :: tt⟩ P base n L f A (.ops l (⟨some d, .binOp op xt x y yt, ty, pos, af, gd⟩ :: rest) q) :=
 HQ.opV hw hd (fun a w hf _ => by
  cases op <;> simp only [bitsI, Option.some.injEq, reduceCtorEq] at hc <;> subst hc <;> subst hz <;>
   simp [execOp, eqGuard, binOp, Op.intBits, hf.eval hx, hf.eval hy]) kk
theorem HQ.shift {op : BinOp} {xt yt : TypeId} {x y : Operand} {k k2 : IntKind} {p p2 r z : Int} (hw : want? l L gd = true) (hx : ev? L x = some (.int k p)) (hy : ev? L y = some (.int k2 p2)) (hc : shiftI op k p p2 = some r) (h0 : 0 ≤ p2) (hz : r = z) (hd : Nat.ble (d + 1) n = true) {lst : Lst} {ti : Nat} {tt : List (Nat × Bool)}
  (kk : HQ V ⟨lst.setIfInBounds ti true, tt⟩ P base n ((d, .int k z) :: L) f A (.ops l rest q)) : HQ V ⟨lst, (ti, false) :: tt⟩ P base n L f A (.ops l (⟨some d, .binOp op xt x y yt, ty, pos, af, gd⟩ :: rest) q) :=
 HQ.opV hw hd (fun a w hf _ => by
  have h1 : ¬ p2 < 0 := by omega
  cases op <;> simp only [shiftI, Option.some.injEq, reduceCtorEq] at hc <;> subst hc <;> subst hz <;>
   simp [execOp, eqGuard, binOp, Op.shift, hf.eval hx, hf.eval hy, h1]) kk
theorem HQ.flip {x : Operand} {xt : TypeId} {k : IntKind} {p r z : Int} (hw : want? l L gd = true) (hx : ev? L x = some (.int k p)) (hc : bitsI .xor k (if k.signed then -1 else k.max) p = some r) (hz : r = z) (hd : Nat.ble (d + 1) n = true) {lst : Lst} {ti : Nat} {tt : List (Nat × Bool)}
  (kk : HQ V ⟨lst.setIfInBounds ti true, tt⟩ P base n ((d, .int k z) :: L) f A (.ops l rest q)) : HQ V ⟨lst, (ti, false) :: tt⟩ P base n L f A (.ops l (⟨some d, .unOp .xor xt x, ty, pos, af, gd⟩ :: rest) q) :=
 HQ.opV hw hd (fun a w hf _ => by
  simp only [bitsI, Option.some.injEq] at hc
  subst hc; subst hz
  simp [execOp, Op.unary, Op.intBits, hf.eval hx]) kk
theorem HQ.aggNe {op : BinOp} {xt yt : TypeId} {x y : Operand} {xs ys : List Value} {D : Nat} {b : Bool} (hw : want? l L gd = true) (hx : ev? L x = some (.agg xs.toArray)) (hy : ev? L y = some (.agg ys.toArray)) (ho : op = .neq)
  (hg : P.eqGuardType P.depth xt = false) (h1 : shp P D xt xs = true) (h2 : shp P D xt ys = true) (hm : (match P.underlying xt with | some (.array _ _) | some (.struct _) => true | _ => false) = true) (hD : D ≤ 10000) (hb : (!eqC xs ys) = b) (hd : Nat.ble (d + 1) n = true) {lst : Lst} {ti : Nat} {tt : List (Nat × Bool)}
  (kk : HQ V ⟨lst.setIfInBounds ti true, tt⟩ P base n ((d, .bool b) :: L) f A (.ops l rest q)) : HQ V ⟨lst, (ti, false) :: tt⟩ P base n L f A (.ops l (⟨some d, .binOp op xt x y yt, ty, pos, af, gd⟩ :: rest) q) :=
 HQ.opV hw hd (fun a w hf _ => by
  subst ho; subst hb
  have hmk : ∀ zs : List Value, mkV P xt zs = .agg zs.toArray := fun zs => by
   unfold mkV
   split at hm <;> simp_all
  have h3 := zaq 10000 xt w D D xs ys h1 h2 hD
  rw [hmk, hmk] at h3
  refine run_bin _ ?_ ?_
  ·rw [hf.eval hx, hf.eval hy]
   simp [eqGuard, hg]
  ·rw [hf.eval hx, hf.eval hy]
   show Sem.run P (do pure (Value.bool (!(← Op.equal xt (.agg xs.toArray) (.agg ys.toArray))))) w = _
   have h4 : Sem.run P (Op.equal xt (.agg xs.toArray) (.agg ys.toArray)) w = .ok (eqC xs ys) w := h3
   simp [h4]) kk
theorem H.index_arrT {t e : TypeId} {x y : Operand} {b off m sz : Nat} {ik : IntKind} {z : Int} [hu : Und P t (.array m e)] [hs : Siz P e sz] (hw : want? l L gd = true)
  (hx : ev? L x = some (.pointer (some ⟨b, off, none⟩))) (hy : ev? L y = some (.int ik z)) (hq : 0 ≤ z ∧ z.toNat < m) (hd : Nat.ble (d + 1) n = true)
  (k : H P base n ((d, .pointer (some ⟨b, off + z.toNat * sz, none⟩)) :: L) f A (.ops l rest q)) : H P base n L f A (.ops l (⟨some d, .indexAddr t x y, ty, pos, af, gd⟩ :: rest) q) :=
 H.Ba hw hx hy (by omega) hq.2 hd k
theorem HQ.index_arrT {t e : TypeId} {x y : Operand} {b off m sz : Nat} {ik : IntKind} {z : Int} [hu : Und P t (.array m e)] [hs : Siz P e sz] (hw : want? l L gd = true)
  (hx : ev? L x = some (.pointer (some ⟨b, off, none⟩))) (hy : ev? L y = some (.int ik z)) (hq : 0 ≤ z ∧ z.toNat < m) (hd : Nat.ble (d + 1) n = true) {lst : Lst} {ti : Nat} {tt : List (Nat × Bool)}
  (k : HQ V ⟨lst.setIfInBounds ti true, tt⟩ P base n ((d, .pointer (some ⟨b, off + z.toNat * sz, none⟩)) :: L) f A (.ops l rest q)) : HQ V ⟨lst, (ti, false) :: tt⟩ P base n L f A (.ops l (⟨some d, .indexAddr t x y, ty, pos, af, gd⟩ :: rest) q) :=
 HQ.Ba hw hx hy (by omega) hq.2 hd k
theorem H.retD {fn : Func} {R : Value → Frag → List HP → Prop} {t : Nat} {ty : TypeId} {dd : TypeDesc} {m b off : Nat} {ls : List Value} {A' : List HP} [hu : Und P ty dd] [hs : Siz P ty m] (hr : fn.results = #[.cell t ty]) (hv : look? L t = some (.pointer (some ⟨b, off, none⟩))) (ha : aggD dd = true)
  (hrd : Rd f A b off ls) (hm : ls.length = m) (hA : ∀ w, Sat base w f A → Sat base w f A') (h : R (.agg ls.toArray) f A') : H P base n L f A (.out .ret (.fn (FnPost P fn base R))) := .mk fun a w hf s => by
 show bodyPost P fn (fun e w' => ∃ v f' A', e = .returned v ∧ R v f' A' ∧ Sat base w' f' A') .ret a w
 refine bodyPost_ret (v := .agg ls.toArray) ?_ hf.defers ⟨_, f, A', rfl, h, hA w s⟩
 have h1 := hf.get t _ hv
 have h2 : a.tmps.getD t undef = .pointer (some ⟨b, off, none⟩) := by simp [Array.getD_eq_getD_getElem?, h1]
 have h3 := run_loadAtN (P := P) hu ha hs (hrd base w s) hm
 unfold Instr.loadAt Instr.sureAddr at h3
 exact results_cell hr h2 (by simpa using h3)
theorem H.callVE {f' : Frag} {α : Type} {fid : FuncId} {x : Operand} {xs : List Operand} {fs vs cs : List Value} {ats : Array TypeId} {v : α → Value} {Ai : α → List HP} (hx : ev? L x = some (.func (.func fid) fs.toArray cs.toArray)) [hfun : Fun P fid] (hw : want? l L gd = true) (hd : Nat.ble (d + 1) n = true)
  (hxs : evs? L xs = some vs) (hc : Fn P fid (fs ++ vs ++ cs) f A (RetE v f' Ai)) (k : ∀ i, H P base n ((d, v i) :: L) f' (Ai i) (.ops l rest q)) :
  H P base n L f A (.ops l (⟨some d, .call ⟨.value x, xs.toArray, ats⟩, ty, pos, af, gd⟩ :: rest) q) :=
 H.callV hx hw hd hxs hc fun _ _ _ h => by obtain ⟨i, rfl, rfl, rfl⟩ := h; exact k i
theorem H.callVE2 {f' : Frag} {α β : Type} {fid : FuncId} {x : Operand} {xs : List Operand} {fs vs cs : List Value} {ats : Array TypeId} {v : α → β → Value} {Ai : α → β → List HP} (hx : ev? L x = some (.func (.func fid) fs.toArray cs.toArray)) [hfun : Fun P fid] (hw : want? l L gd = true) (hd : Nat.ble (d + 1) n = true)
  (hxs : evs? L xs = some vs) (hc : Fn P fid (fs ++ vs ++ cs) f A (fun u g B => ∃ i j, u = v i j ∧ g = f' ∧ B = Ai i j)) (k : ∀ i j, H P base n ((d, v i j) :: L) f' (Ai i j) (.ops l rest q)) :
  H P base n L f A (.ops l (⟨some d, .call ⟨.value x, xs.toArray, ats⟩, ty, pos, af, gd⟩ :: rest) q) :=
 H.callV hx hw hd hxs hc fun _ _ _ h => by obtain ⟨i, j, rfl, rfl, rfl⟩ := h; exact k i j
end rules
theorem fill_set {a b : List Value} {i : Nat} {v : Value} (ha : a[i]? = some v) (hab : a.length = b.length) : SetV (a.take i ++ b.drop i) i v (a.take (i + 1) ++ b.drop (i + 1)) := by
 induction i generalizing a b with
 | zero =>
  match a, b, ha, hab with
  | x :: a, y :: b, ha, _ =>
   simp at ha; subst ha
   exact .here _ _ _
 | succ i ih =>
  match a, b, ha, hab with
  | x :: a, y :: b, ha, hab => exact .there _ (ih (by simpa using ha) (by simpa using hab))
theorem fill_get {a b : List Value} {i j : Nat} {v : Value} (hj : j < i) (ha : a[j]? = some v) : (a.take i ++ b.drop i)[j]? = some v := by
 have : j < a.length := by
  rcases Nat.lt_or_ge j a.length with h | h
  ·exact h
  ·simp [List.getElem?_eq_none h] at ha
 rw [List.getElem?_append_left (by rw [List.length_take]; omega), List.getElem?_take, if_pos hj, ha]
theorem fill_get2 {a b : List Value} {i j : Nat} {v : Value} (hj : i ≤ j) (hab : a.length = b.length) (hb : b[j]? = some v) : (a.take i ++ b.drop i)[j]? = some v := by
 have : j < b.length := by
  rcases Nat.lt_or_ge j b.length with h | h
  ·exact h
  ·simp [List.getElem?_eq_none h] at hb
 have e : (a.take i).length = i := by rw [List.length_take]; omega
 rw [List.getElem?_append_right (by omega), e, List.getElem?_drop, show i + (j - i) = j by omega, hb]
theorem map_get {α : Type} {l : List α} (g : α → Value) {i : Nat} (h : i < l.length) (z : α) : (l.map g)[i]? = some (g (l.getD i z)) := by
 rw [List.getElem?_map, List.getElem?_eq_getElem h]
 simp [List.getD_eq_getElem?_getD, List.getElem?_eq_getElem h]
namespace Sha
theorem zas (b : List UInt8) : ∀ n, (words b n).length = n
 | 0 => rfl
 | n + 1 => by simp [words, zas b n]
theorem words_get (b : List UInt8) : ∀ (n i : Nat), i < n → (words b n).getD i 0 = word b i
 | 0, i, h => by omega
 | n + 1, i, h => by
  simp only [words, List.getD_eq_getElem?_getD]
  by_cases e : i < n
  ·rw [List.getElem?_append_left (by rw [zas]; exact e), ← List.getD_eq_getElem?_getD]
   exact words_get b n i e
  ·have : i = n := by omega
   subst this
   rw [List.getElem?_append_right (by rw [zas]; exact Nat.le_refl _), zas]
   simp
theorem ext_len (w : List UInt32) : ∀ n, (ext w n).length = w.length + n
 | 0 => rfl
 | n + 1 => by simp [ext, ext_len w n]; omega
theorem ext_get (w : List UInt32) (n : Nat) {i : Nat} (h : i < w.length + n) : ∀ k, (ext w (n + k)).getD i 0 = (ext w n).getD i 0
 | 0 => rfl
 | k + 1 => by
  show (ext w (n + k) ++ _).getD i 0 = _
  rw [List.getD_eq_getElem?_getD, List.getElem?_append_left (by rw [ext_len]; omega), ← List.getD_eq_getElem?_getD]
  exact ext_get w n h k
theorem sched_len (b : List UInt8) : (sched b).length = 64 := by unfold sched; rw [ext_len, zas]
theorem sched_lo (b : List UInt8) {i : Nat} (h : i < 16) : (sched b).getD i 0 = word b i := by
 unfold sched
 have := ext_get (words b 16) 0 (i := i) (by rw [zas]; omega) 48
 rw [Nat.zero_add] at this
 rw [this]
 exact words_get b 16 i h
theorem sched_hi (b : List UInt8) {j : Nat} (h : j < 48) : (sched b).getD (j + 16) 0 = (sched b).getD j 0 + s0 ((sched b).getD (j + 1) 0) + (sched b).getD (j + 9) 0 + s1 ((sched b).getD (j + 14) 0) := by
 have pre : ∀ i, i < 16 + j → (sched b).getD i 0 = (ext (words b 16) j).getD i 0 := fun i hi => by
  unfold sched
  have := ext_get (words b 16) j (i := i) (by rw [zas]; omega) (48 - j)
  rw [show j + (48 - j) = 48 by omega] at this
  exact this
 have top : (sched b).getD (j + 16) 0 = next (ext (words b 16) j) := by
  unfold sched
  have := ext_get (words b 16) (j + 1) (i := j + 16) (by rw [zas]; omega) (48 - (j + 1))
  rw [show j + 1 + (48 - (j + 1)) = 48 by omega] at this
  rw [this]
  show (ext (words b 16) j ++ [next (ext (words b 16) j)]).getD (j + 16) 0 = _
  rw [List.getD_eq_getElem?_getD, List.getElem?_append_right (by rw [ext_len, zas]; omega), ext_len, zas, show j + 16 - (16 + j) = 0 by omega]
  rfl
 rw [top, pre j (by omega), pre (j + 1) (by omega), pre (j + 9) (by omega), pre (j + 14) (by omega)]
 unfold next
 rw [ext_len, zas, show 16 + j - 16 = j by omega, show 16 + j - 15 = j + 1 by omega, show 16 + j - 7 = j + 9 by omega, show 16 + j - 2 = j + 14 by omega]
theorem S8.get_vals (s : S8) {i : Nat} (h : i < 8) : s.vals[i]? = some (w32 (s.get i)) := by
 match i, h with
 | 0, _ => rfl
 | 1, _ => rfl
 | 2, _ => rfl
 | 3, _ => rfl
 | 4, _ => rfl
 | 5, _ => rfl
 | 6, _ => rfl
 | 7, _ => rfl
theorem S8.add_get (v s : S8) {i : Nat} (h : i < 8) : (v.add s).get i = v.get i + s.get i := by
 match i, h with
 | 0, _ => rfl
 | 1, _ => rfl
 | 2, _ => rfl
 | 3, _ => rfl
 | 4, _ => rfl
 | 5, _ => rfl
 | 6, _ => rfl
 | 7, _ => rfl
end Sha
theorem zay {l : List UInt8} {i : Nat} (h : i < l.length) : (bytesV l)[i]? = some (.int .u8 ((l.getD i 0).toNat : Nat)) := map_get _ h 0
section
variable (f : Frag) (F : List HP)
theorem rot_fn {x : UInt32} {n : Nat} (h0 : 0 < n) (hn : n < 32) : Fn Tryz.prog 70 [w32 x, .int .u64 (n : Nat)] f F (Ret (w32 (Sha.rot x n)) f F) := by
 have e : IntKind.u64.wrap (32 - (n : Int)) = ((32 - n : Nat) : Int) := by rw [wr_u64 (by omega)]; omega
 refine Fn.enter Tryz.func70 rfl Tryz.ntmps70 rfl (L := [(0, _), (1, _)]) ⟨rfl, rfl, trivial⟩ fun base => ?_
 repeat (first | (apply H.ar; (iterate 4 exact rfl); exact e; exact rfl) | ((first | apply H.Ah | apply H.Ak); (iterate 3 exact rfl)) | (first | apply H.seq | apply H.Al | apply H.nil | apply H.Am) | (apply H.ret) | (apply H.shift; (iterate 3 exact rfl); (first | exact u32_shl _ _ (by omega) | exact u32_shr _ _ (by omega)); omega; (iterate 2 exact rfl)) | (apply H.Bj; (iterate 3 exact rfl); exact u32_or _ _; (iterate 2 exact rfl)))
 exact H.Ac rfl rfl (fun _ h => h) ⟨rfl, rfl, rfl⟩
theorem k_fn2 : Fn Tryz.prog 71 [] f F (Ret (.agg (Sha.k.map w32).toArray) f F) := by
 refine Fn.enter Tryz.func71 rfl Tryz.ntmps71 rfl (L := []) trivial fun base => ?_
 refine gA ?_
 refine H.Av (ls := List.replicate 64 (.int .u32 0)) rfl rfl rfl fun kb => ?_
 refine gA ?_
 refine H.buildA (out := Sha.k.map w32) rfl rfl rfl rfl rfl ?_
 refine H.Ap (ls := List.replicate 64 (.int .u32 0)) (vs := Sha.k.map w32) (ls' := Sha.k.map w32) rfl rfl rfl (zae rfl) rfl rfl (Nat.le_refl 64) (by repeat constructor) ?_
 refine ga ?_
 exact H.retD rfl rfl rfl (Rd.ofRow (by repeat constructor)) rfl (fun _ s => s.drop (.here _ _)) ⟨rfl, rfl, rfl⟩
theorem start_fn : Fn Tryz.prog 44 [] f F (Ret (.agg Sha.start.vals.toArray) f F) := by
 refine Fn.enter Tryz.func44 rfl Tryz.ntmps44 rfl (L := []) trivial fun base => ?_
 refine gA ?_
 refine H.Av (ls := List.replicate 8 (.int .u32 0)) rfl rfl rfl fun kb => ?_
 refine gA ?_
 refine H.buildA (out := Sha.start.vals) rfl rfl rfl rfl rfl ?_
 refine H.Ap (ls := List.replicate 8 (.int .u32 0)) (vs := Sha.start.vals) (ls' := Sha.start.vals) rfl rfl rfl (zae rfl) rfl rfl (Nat.le_refl 8) (by repeat constructor) ?_
 refine ga ?_
 exact H.retD rfl rfl rfl (Rd.ofRow (by repeat constructor)) rfl (fun _ s => s.drop (.here _ _)) ⟨rfl, rfl, rfl⟩
end
section
variable (f : Frag) (F : List HP)
def z64 : List Value := List.replicate 64 (w32 0)
theorem z64_len : z64.length = 64 := rfl
def wRow (S : List UInt32) (n : Nat) : List Value := (S.map w32).take n ++ z64.drop n
theorem wRow_set {S : List UInt32} (hS : S.length = 64) {n : Nat} (h : n < 64) : SetV (wRow S n) n (w32 (S.getD n 0)) (wRow S (n + 1)) :=
 fill_set (map_get w32 (by rw [hS]; exact h) 0) (by rw [List.length_map, hS]; rfl)
theorem wRow_get {S : List UInt32} (hS : S.length = 64) {n j : Nat} (h : j < n) (hn : n ≤ 64) : (wRow S n)[j]? = some (w32 (S.getD j 0)) :=
 fill_get h (map_get w32 (by rw [hS]; omega) 0)
def addRow (v s : Sha.S8) (n : Nat) : List Value := (v.add s).vals.take n ++ v.vals.drop n
theorem addRow_set (v s : Sha.S8) {i : Nat} (h : i < 8) : SetV (addRow v s i) i (w32 (v.get i + s.get i)) (addRow v s (i + 1)) := by
 rw [← Sha.S8.add_get v s h]
 exact fill_set (Sha.S8.get_vals (v.add s) h) rfl
theorem addRow_get (v s : Sha.S8) {i : Nat} (h : i < 8) : (addRow v s i)[i]? = some (w32 (v.get i)) :=
 fill_get2 (Nat.le_refl _) rfl (Sha.S8.get_vals v h)
set_option maxHeartbeats 800000 in
theorem block_fn {s : Sha.S8} {bs : List UInt8} (hb : bs.length = 64) : Fn Tryz.prog 45 [.agg s.vals.toArray, .agg (bytesV bs).toArray] f F (Ret (.agg (Sha.block s bs).vals.toArray) f F) := by
 have hbl : (bytesV bs).length = 64 := by rw [zaf, hb]
 have hlo : ∀ i, i < 16 → (Sha.sched bs).getD i 0 = Sha.word bs i := fun i h => Sha.sched_lo bs h
 have hhi : ∀ j, j < 48 → (Sha.sched bs).getD (j + 16) 0 = (Sha.sched bs).getD j 0 + Sha.s0 ((Sha.sched bs).getD (j + 1) 0) + (Sha.sched bs).getD (j + 9) 0 + Sha.s1 ((Sha.sched bs).getD (j + 14) 0) := fun j h => Sha.sched_hi bs h
 have hS := Sha.sched_len bs
 unfold Sha.block
 generalize Sha.sched bs = S at hlo hhi hS ⊢
 refine Fn.enter Tryz.func45 rfl Tryz.ntmps45 rfl (L := [(0, _), (1, _)]) ⟨rfl, rfl, trivial⟩ fun base => ?_
 refine gA ?_
 refine H.box (ls := s.vals) rfl rfl rfl rfl fun sb => ?_
 refine H.box (ls := bytesV bs) rfl rfl rfl rfl fun nb => ?_
 refine H.Av (ls := List.replicate 8 (.int .u32 0)) rfl rfl rfl fun ob => ?_
 refine gA ?_
 refine H.Av (ls := wRow S 0) rfl rfl rfl fun wb => ?_
 refine ga ?_
 refine H.Aa (x := row nb _ _) (by repeat constructor) ?_
 refine H.Ax (ι := Nat) (fun i => [(6, .int .i64 (i : Int)), (2, .pointer (some ⟨sb, 0, none⟩)), (3, .pointer (some ⟨nb, 0, none⟩)), (4, .pointer (some ⟨ob, 0, none⟩)), (5, .pointer (some ⟨wb, 0, none⟩))]) (fun _ => f)
  (fun i => row nb 110 (bytesV bs) :: row wb 165 (wRow S i) :: row ob 108 (List.replicate 8 (.int .u32 0)) :: row sb 108 s.vals :: F) (fun i => i ≤ 16) (fun i => 16 - i) 0 (Nat.zero_le _) ⟨rfl, rfl, rfl, rfl, rfl, trivial⟩ rfl rfl fun i hi => ?_
 have hi : i ≤ 16 := hi
 by_cases hlt : i < 16
 ·have hw : S.getD i 0 = Sha.word bs i := hlo i hlt
  have hset := wRow_set hS (n := i) (by omega)
  rw [hw] at hset
  unfold Sha.word at hset
  refine gG ?_
  refine H.Ay (by kernel_rfl) (by decide +kernel) (by repeat (first | exact zab | refine zaa ?_ | refine zac ?_ | refine zad ?_)) (S := [_]) rfl ?_
  refine HB.Af [(0, false), (1, false), (2, false), (3, false), (4, false), (5, false), (6, false), (7, false), (8, false), (9, false), (10, false), (11, false), (12, false), (13, false), (14, false), (15, false), (16, false), (17, false), (18, false), (19, false), (20, false), (21, false), (22, false), (23, false), (24, false), (25, false), (26, false), (27, false), (28, false), (29, false), (30, false)] 1 (by kernel_rfl) ?_
  repeat (first | (apply HQ.Bn; (iterate 2 exact rfl); (with_reducible exact u32_ofByte _); exact rfl) | (apply HQ.Ba (i := 4 * i); (iterate 3 exact rfl); omega; omega; exact rfl) | (apply HQ.Ba (i := 4 * i + 1); (iterate 3 exact rfl); omega; omega; exact rfl) | (apply HQ.Ba (i := 4 * i + 2); (iterate 3 exact rfl); omega; omega; exact rfl) | (apply HQ.Ba (i := 4 * i + 3); (iterate 3 exact rfl); omega; omega; exact rfl) | (apply HQ.Ag; (iterate 3 exact rfl); exact .of (Rd.ofRow (by repeat constructor)) (by rw [Nat.mul_one]; exact zay (by omega)); exact rfl) | ((apply HQ.Ah); (iterate 3 exact rfl)) | ((apply HQ.ar; (iterate 4 exact rfl)); (with_reducible apply wr_i64; omega); exact rfl) | (apply HQ.Bj; (iterate 3 exact rfl); (with_reducible exact u32_or _ _); (iterate 2 exact rfl)) | (apply HQ.shift; (iterate 3 exact rfl); (first | with_reducible exact u32_shl24 _ | with_reducible exact u32_shl16 _ | with_reducible exact u32_shl8 _); decide; (iterate 2 exact rfl)) | (apply HQ.Ba (i := i); (iterate 3 exact rfl); exact rfl; omega; exact rfl))
  refine HQ.Ae rfl ?_
  refine HB.ev1 (i := 31) (by kernel_rfl) rfl ?_
  refine H.Bi (v := w32 _) (ls' := wRow S (i + 1)) rfl rfl rfl rfl (by repeat constructor) (by rw [Nat.mul_one, Nat.zero_add]; exact hset) ?_
  refine gA ?_
  refine H.on0 rfl ?_
  refine HB.Aq (by kernel_rfl) ?_
  refine gK ?_
  exact H.Au (i + 1) (by show i + 1 ≤ 16; omega) (by show 16 - (i + 1) < 16 - i; omega) ⟨rfl, rfl, rfl, rfl, rfl, trivial⟩ rfl rfl
 ·have hi16 : i = 16 := by omega
  subst hi16
  refine gH ?_
  refine H.Aa (x := row wb _ _) (by repeat constructor) ?_
  refine H.Ax (ι := Nat) (fun j => [(7, .int .i64 ((j + 16 : Nat) : Int)), (2, .pointer (some ⟨sb, 0, none⟩)), (4, .pointer (some ⟨ob, 0, none⟩)), (5, .pointer (some ⟨wb, 0, none⟩))]) (fun _ => f)
   (fun j => row wb 165 (wRow S (j + 16)) :: row nb 110 (bytesV bs) :: row ob 108 (List.replicate 8 (.int .u32 0)) :: row sb 108 s.vals :: F) (fun j => j ≤ 48) (fun j => 48 - j) 0 (Nat.zero_le _) ⟨rfl, rfl, rfl, rfl, trivial⟩ rfl rfl fun j hj => ?_
  have hj : j ≤ 48 := hj
  by_cases hlt : j < 48
  ·have hw := hhi j hlt
   have hset := wRow_set hS (n := j + 16) (by omega)
   rw [hw] at hset
   have hg : ∀ k, k < j + 16 → (wRow S (j + 16))[k * 1]? = some (w32 (S.getD k 0)) := fun k hk => by rw [Nat.mul_one]; exact wRow_get hS hk (by omega)
   refine gG ?_
   refine H.Ay (by kernel_rfl) (by decide +kernel) (by repeat (first | exact zab | refine zaa ?_ | refine zac ?_ | refine zad ?_)) (S := [_]) rfl ?_
   refine HB.Af [(0, false), (1, false), (2, false), (3, false), (5, false), (6, false), (7, false), (8, false), (11, false), (12, false), (13, false), (14, false), (15, false)] 5 (by kernel_rfl) ?_
   repeat (first | (apply HQ.Ba (i := j + 1); (iterate 3 exact rfl); omega; omega; exact rfl) | (apply HQ.Ag; (iterate 3 exact rfl); exact .of (Rd.ofRow (by repeat constructor)) (hg _ (by omega)); exact rfl) | ((apply HQ.Ah); (iterate 3 exact rfl)) | ((apply HQ.ar; (iterate 4 exact rfl)); (with_reducible apply wr_i64; omega); exact rfl) | (apply HQ.shift; (iterate 3 exact rfl); (with_reducible exact u32_shr3 _); decide; (iterate 2 exact rfl)))
   refine HQ.Ae rfl ?_
   refine HB.ev1 (i := 4) (by kernel_rfl) rfl ?_
   refine H.Ad rfl rfl rfl (rot_fn f _ (n := 7) (by decide) (by decide)) ?_
   refine gA ?_
   refine H.on0 rfl ?_
   refine HB.ev1 (i := 9) (by kernel_rfl) rfl ?_
   refine H.Ad rfl rfl rfl (rot_fn f _ (n := 18) (by decide) (by decide)) ?_
   refine gA ?_
   refine H.on0 rfl ?_
   refine HB.Af [(10, false), (16, false), (17, false)] 0 (by kernel_rfl) ?_
   repeat (first | ((apply HQ.Ak); (iterate 3 exact rfl)) | (apply HQ.Bj; (iterate 3 exact rfl); (with_reducible exact zao _ _); (iterate 2 exact rfl)))
   refine HQ.Ae rfl ?_
   refine HB.Aq (by kernel_rfl) ?_
   refine gA ?_
   refine H.Ay (by kernel_rfl) (by decide +kernel) (by repeat (first | exact zab | refine zaa ?_ | refine zac ?_ | refine zad ?_)) (S := [_]) rfl ?_
   refine HB.Af [(0, false), (1, false), (2, false), (3, false), (5, false), (6, false), (7, false), (8, false), (11, false), (12, false), (13, false), (14, false), (15, false)] 5 (by kernel_rfl) ?_
   repeat (first | (apply HQ.Ba (i := j + 14); (iterate 3 exact rfl); omega; omega; exact rfl) | (apply HQ.Ag; (iterate 3 exact rfl); exact .of (Rd.ofRow (by repeat constructor)) (hg _ (by omega)); exact rfl) | ((apply HQ.Ah); (iterate 3 exact rfl)) | ((apply HQ.ar; (iterate 4 exact rfl)); (with_reducible apply wr_i64; omega); exact rfl) | (apply HQ.shift; (iterate 3 exact rfl); (with_reducible exact u32_shr10 _); decide; (iterate 2 exact rfl)))
   refine HQ.Ae rfl ?_
   refine HB.ev1 (i := 4) (by kernel_rfl) rfl ?_
   refine H.Ad rfl rfl rfl (rot_fn f _ (n := 17) (by decide) (by decide)) ?_
   refine gA ?_
   refine H.on0 rfl ?_
   refine HB.ev1 (i := 9) (by kernel_rfl) rfl ?_
   refine H.Ad rfl rfl rfl (rot_fn f _ (n := 19) (by decide) (by decide)) ?_
   refine gA ?_
   refine H.on0 rfl ?_
   refine HB.Af [(10, false), (16, false), (17, false)] 0 (by kernel_rfl) ?_
   repeat (first | ((apply HQ.Ak); (iterate 3 exact rfl)) | (apply HQ.Bj; (iterate 3 exact rfl); (with_reducible exact zao _ _); (iterate 2 exact rfl)))
   refine HQ.Ae rfl ?_
   refine HB.Aq (by kernel_rfl) ?_
   refine gA ?_
   refine H.drawC [0, 1, 2, 3, 4, 5, 6, 7, 8, 9, 10, 11, 12, 13, 14] (by kernel_rfl) (by decide +kernel) (by repeat (first | exact zab | refine zaa ?_ | refine zac ?_ | refine zad ?_)) (S := [_]) rfl ?_
   refine HB.Af [(0, false), (1, false), (2, false), (3, false), (4, false), (5, false), (6, false), (7, false), (8, false), (9, false), (10, false), (11, false), (12, false), (13, false), (14, false)] 1 (by kernel_rfl) ?_
   repeat (first | (apply HQ.Ba (i := j); (iterate 3 exact rfl); omega; omega; exact rfl) | (apply HQ.Ba (i := j + 9); (iterate 3 exact rfl); omega; omega; exact rfl) | (apply HQ.Ag; (iterate 3 exact rfl); exact .of (Rd.ofRow (by repeat constructor)) (hg _ (by omega)); exact rfl) | ((apply HQ.Ah); (iterate 3 exact rfl)) | ((apply HQ.ar; (iterate 4 exact rfl)); (first | (with_reducible apply wr_i64; omega) | rfl); exact rfl) | (apply HQ.Ba (i := j + 16); (iterate 3 exact rfl); exact rfl; omega; exact rfl))
   refine HQ.Ae rfl ?_
   refine HB.next [] (by kernel_rfl) (S' := []) rfl ?_
   refine HB.ev1 (i := 15) (by kernel_rfl) rfl ?_
   refine H.Bi (v := w32 _) (ls' := wRow S (j + 16 + 1)) rfl rfl rfl rfl (by repeat constructor) (by rw [Nat.mul_one, Nat.zero_add]; exact hset) ?_
   refine gA ?_
   refine H.on0 rfl ?_
   refine HB.Aq (by kernel_rfl) ?_
   refine gK ?_
   exact H.Au (j + 1) (by show j + 1 ≤ 48; omega) (by show 48 - (j + 1) < 48 - j; omega) ⟨by show some _ = some (Value.int .i64 ((j + 1 + 16 : Nat) : Int)); rw [show j + 1 + 16 = j + 16 + 1 by omega], rfl, rfl, rfl, trivial⟩ rfl (by show _ = row wb _ (wRow S (j + 1 + 16)) :: _; rw [show j + 1 + 16 = j + 16 + 1 by omega]; rfl)
  ·have hj48 : j = 48 := by omega
   subst hj48
   refine gH ?_
   refine H.Aj (ls := s.vals) rfl rfl rfl (Rd.ofRow (by repeat constructor)) rfl rfl ?_
   refine H.Av (ls := List.replicate 8 (.int .u32 0)) rfl rfl rfl fun vb => ?_
   refine H.Ap (ls := List.replicate 8 (.int .u32 0)) (vs := s.vals) (ls' := s.vals) rfl rfl rfl (zae rfl) rfl rfl (Nat.le_refl 8) (by repeat constructor) ?_
   refine gA ?_
   refine H.Ad rfl rfl rfl (k_fn2 f _) ?_
   refine H.Av (ls := List.replicate 64 (.int .u32 0)) rfl rfl rfl fun kb => ?_
   refine H.Ap (ls := List.replicate 64 (.int .u32 0)) (vs := Sha.k.map w32) (ls' := Sha.k.map w32) rfl rfl rfl (zae rfl) rfl rfl (Nat.le_refl 64) (by repeat constructor) ?_
   refine ga ?_
   have hgS : ∀ k, k < 64 → (wRow S (48 + 16))[k * 1]? = some (w32 (S.getD k 0)) := fun k hk => by rw [Nat.mul_one]; exact wRow_get hS (by omega) (by omega)
   have hgK : ∀ k, k < 64 → (Sha.k.map w32)[k * 1]? = some (w32 (Sha.k.getD k 0)) := fun k hk => by rw [Nat.mul_one]; exact map_get w32 hk 0
   generalize wRow S (48 + 16) = WL at hgS ⊢
   generalize hKL : Sha.k.map w32 = KL at hgK ⊢
   refine H.Ab (x := row nb _ _) (by repeat constructor) ?_
   refine H.Aa (x := row vb _ _) (by repeat constructor) ?_
   refine H.Ax (ι := Nat) (fun i => [(12, .int .i64 (i : Int)), (10, .pointer (some ⟨vb, 0, none⟩)), (11, .pointer (some ⟨kb, 0, none⟩)), (2, .pointer (some ⟨sb, 0, none⟩)), (4, .pointer (some ⟨ob, 0, none⟩)), (5, .pointer (some ⟨wb, 0, none⟩))]) (fun _ => f)
    (fun i => row vb 108 (Sha.rounds S s i).vals :: row kb 165 KL :: row wb 165 WL :: row ob 108 (List.replicate 8 (.int .u32 0)) :: row sb 108 s.vals :: F) (fun i => i ≤ 64) (fun i => 64 - i) 0 (Nat.zero_le _) ⟨rfl, rfl, rfl, rfl, rfl, rfl, trivial⟩ rfl rfl fun i hi => ?_
   have hi : i ≤ 64 := hi
   by_cases hlt : i < 64
   ·have hr : Sha.rounds S s (i + 1) = Sha.round (Sha.k.getD i 0) (S.getD i 0) (Sha.rounds S s i) := rfl
    have hgs := hgS i hlt
    have hgk := hgK i hlt
    generalize Sha.k.getD i 0 = kk at hr hgk
    generalize S.getD i 0 = ww at hr hgs
    show H _ _ _ _ _ (row vb _ (Sha.rounds S s i).vals :: _) _
    generalize Sha.rounds S s i = v at hr ⊢
    repeat (first | ((first | apply H.Ah | apply H.Ak); (iterate 3 exact rfl)) | (apply H.Ag; (iterate 3 exact rfl); apply Rd1.ofRow; (repeat (exact .here _ _ _)); (iterate 2 exact rfl)) | (first | apply H.seq | apply H.Al | apply H.nil | apply H.Am) | ((apply H.cmp); (iterate 5 exact rfl)) | (first | apply H.Bh | apply H.Bb) | (apply H.Br; exact rfl; (omega)) | (apply H.index_arrT; (iterate 3 exact rfl); decide; exact rfl))
    refine H.Ay (by kernel_rfl) (by decide +kernel) (by repeat (first | exact zab | refine zaa ?_ | refine zac ?_ | refine zad ?_)) (S := [_, _, _]) rfl ?_
    refine HB.Af [(0, false), (1, false), (2, false), (4, false), (7, false), (11, false), (12, false), (13, false), (14, false), (15, false), (16, false), (17, false), (18, false), (19, false), (20, false), (22, false), (23, false), (24, false), (26, false), (27, false), (28, false)] 10 (by kernel_rfl) ?_
    repeat (first | (apply HQ.Ba (i := i); (iterate 3 exact rfl); exact rfl; exact hlt; exact rfl) | (apply HQ.Ag; (iterate 3 exact rfl); exact .of (Rd.ofRow (by repeat constructor)) hgk; exact rfl) | (apply HQ.Ag; (iterate 3 exact rfl); exact .of (Rd.ofRow (by repeat constructor)) hgs; exact rfl) | ((apply HQ.Ah); (iterate 3 exact rfl)) | (apply HQ.Ag; (iterate 3 exact rfl); apply Rd1.ofRow; (repeat (exact .here _ _ _)); (iterate 2 exact rfl)) | (apply HQ.Bj; (iterate 3 exact rfl); (first | with_reducible exact zao _ _ | with_reducible exact u32_and _ _); (iterate 2 exact rfl)) | (apply HQ.flip; (iterate 2 exact rfl); exact u32_not _; (iterate 2 exact rfl)) | (apply HQ.index_arrT; (iterate 3 exact rfl); decide; exact rfl))
    refine HQ.Ae rfl ?_
    refine HB.ev1 (i := 3) (by kernel_rfl) rfl ?_
    refine H.Ad rfl rfl rfl (rot_fn f _ (n := 6) (by decide) (by decide)) ?_
    refine gA ?_
    refine H.on0 rfl ?_
    refine HB.ev1 (i := 5) (by kernel_rfl) rfl ?_
    refine H.Ad rfl rfl rfl (rot_fn f _ (n := 11) (by decide) (by decide)) ?_
    refine gA ?_
    refine H.on0 rfl ?_
    refine HB.Af [(6, false)] 7 (by kernel_rfl) ?_
    repeat ((apply HQ.Bj; (iterate 3 exact rfl); (with_reducible exact zao _ _); (iterate 2 exact rfl)))
    refine HQ.Ae rfl ?_
    refine HB.ev1 (i := 8) (by kernel_rfl) rfl ?_
    refine H.Ad rfl rfl rfl (rot_fn f _ (n := 25) (by decide) (by decide)) ?_
    refine gA ?_
    refine H.on0 rfl ?_
    refine HB.Af [(9, false), (10, false), (21, false), (25, false), (29, false), (30, false)] 0 (by kernel_rfl) ?_
    repeat (first | ((apply HQ.Ak); (iterate 3 exact rfl)) | ((apply HQ.ar; (iterate 4 exact rfl)); (rfl); exact rfl) | (apply HQ.Bj; (iterate 3 exact rfl); (with_reducible exact zao _ _); (iterate 2 exact rfl)))
    refine HQ.Ae rfl ?_
    refine HB.Aq (by kernel_rfl) ?_
    refine gA ?_
    refine H.Ay (by kernel_rfl) (by decide +kernel) (by repeat (first | exact zab | refine zaa ?_ | refine zac ?_ | refine zad ?_)) (S := [_, _, _]) rfl ?_
    refine HB.Af [(0, false), (2, false), (5, false), (8, false), (9, false), (10, false), (11, false), (12, false), (13, false), (14, false), (15, false), (16, false), (17, false), (18, false), (19, false), (20, false), (21, false), (22, false)] 7 (by kernel_rfl) ?_
    repeat (first | ((apply HQ.Ah); (iterate 3 exact rfl)) | (apply HQ.Ag; (iterate 3 exact rfl); apply Rd1.ofRow; (repeat (exact .here _ _ _)); (iterate 2 exact rfl)) | (apply HQ.Bj; (iterate 3 exact rfl); (first | with_reducible exact zao _ _ | with_reducible exact u32_and _ _); (iterate 2 exact rfl)) | (apply HQ.index_arrT; (iterate 3 exact rfl); decide; exact rfl))
    refine HQ.Ae rfl ?_
    refine HB.ev1 (i := 1) (by kernel_rfl) rfl ?_
    refine H.Ad rfl rfl rfl (rot_fn f _ (n := 2) (by decide) (by decide)) ?_
    refine gA ?_
    refine H.on0 rfl ?_
    refine HB.ev1 (i := 3) (by kernel_rfl) rfl ?_
    refine H.Ad rfl rfl rfl (rot_fn f _ (n := 13) (by decide) (by decide)) ?_
    refine gA ?_
    refine H.on0 rfl ?_
    refine HB.Af [(4, false)] 4 (by kernel_rfl) ?_
    repeat ((apply HQ.Bj; (iterate 3 exact rfl); (with_reducible exact zao _ _); (iterate 2 exact rfl)))
    refine HQ.Ae rfl ?_
    refine HB.ev1 (i := 6) (by kernel_rfl) rfl ?_
    refine H.Ad rfl rfl rfl (rot_fn f _ (n := 22) (by decide) (by decide)) ?_
    refine gA ?_
    refine H.on0 rfl ?_
    refine HB.Af [(7, false), (23, false), (24, false)] 0 (by kernel_rfl) ?_
    repeat (first | ((apply HQ.Ak); (iterate 3 exact rfl)) | ((apply HQ.ar; (iterate 4 exact rfl)); (rfl); exact rfl) | (apply HQ.Bj; (iterate 3 exact rfl); (with_reducible exact zao _ _); (iterate 2 exact rfl)))
    refine HQ.Ae rfl ?_
    refine HB.Aq (by kernel_rfl) ?_
    repeat (first | ((apply H.Ah); (iterate 3 exact rfl)) | (apply H.Ag; (iterate 3 exact rfl); apply Rd1.ofRow; (repeat (exact .here _ _ _)); (iterate 2 exact rfl)) | (first | apply H.Al | apply H.Am) | ((apply H.ar; (iterate 4 exact rfl)); (rfl); exact rfl) | (apply H.index_arrT; (iterate 3 exact rfl); decide; exact rfl))
    refine H.buildA (out := (Sha.round kk ww v).vals) rfl rfl rfl rfl rfl ?_
    refine H.Ap (ls := v.vals) (vs := (Sha.round kk ww v).vals) (ls' := (Sha.round kk ww v).vals) rfl rfl rfl (zae rfl) rfl rfl (Nat.le_refl 8) (by repeat constructor) ?_
    refine gK ?_
    exact H.Au (i + 1) (by show i + 1 ≤ 64; omega) (by show 64 - (i + 1) < 64 - i; omega) ⟨rfl, rfl, rfl, rfl, rfl, rfl, trivial⟩ rfl (by rw [hr]; rfl)
   ·have hi64 : i = 64 := by omega
    subst hi64
    generalize Sha.rounds S s 64 = v
    refine gH ?_
    refine H.Ab (x := row kb _ _) (by repeat constructor) ?_
    refine H.Ab (x := row wb _ _) (by repeat constructor) ?_
    refine H.Aa (x := row sb _ _) (by repeat constructor) ?_
    refine H.Aa (x := row vb _ _) (by repeat constructor) ?_
    refine H.Ax (ι := Nat) (fun i => [(17, .int .i64 (i : Int)), (10, .pointer (some ⟨vb, 0, none⟩)), (2, .pointer (some ⟨sb, 0, none⟩)), (4, .pointer (some ⟨ob, 0, none⟩))]) (fun _ => f)
     (fun i => row vb 108 (addRow v s i) :: row sb 108 s.vals :: row ob 108 (List.replicate 8 (.int .u32 0)) :: F) (fun i => i ≤ 8) (fun i => 8 - i) 0 (Nat.zero_le _) ⟨rfl, rfl, rfl, rfl, trivial⟩ rfl rfl fun i hi => ?_
    have hi : i ≤ 8 := hi
    by_cases hlt : i < 8
    ·have hset := addRow_set v s hlt
     have hg := addRow_get v s hlt
     have hg2 := Sha.S8.get_vals s hlt
     show H _ _ _ _ _ (row vb _ (addRow v s i) :: _) _
     refine gG ?_
     refine H.drawC [0, 1, 2, 3, 4, 5, 6, 7, 8] (by kernel_rfl) (by decide +kernel) (by repeat (first | exact zab | refine zaa ?_ | refine zac ?_ | refine zad ?_)) (S := [_, _]) rfl ?_
     refine HB.Af [(0, false), (1, false), (2, false), (3, false), (4, false), (5, false), (6, false), (7, false), (8, false)] 1 (by kernel_rfl) ?_
     repeat (first | (apply HQ.Ba (i := i); (iterate 3 exact rfl); exact rfl; exact hlt; exact rfl) | (apply HQ.Ag; (iterate 3 exact rfl); exact .of (Rd.ofRow (by repeat constructor)) (by rw [Nat.mul_one]; exact hg); exact rfl) | (apply HQ.Ag; (iterate 3 exact rfl); exact .of (Rd.ofRow (by repeat constructor)) (by rw [Nat.mul_one]; exact hg2); exact rfl) | ((apply HQ.Ah); (iterate 3 exact rfl)) | ((apply HQ.ar; (iterate 4 exact rfl)); (rfl); exact rfl))
     refine HQ.Ae rfl ?_
     refine HB.next [] (by kernel_rfl) (S' := []) rfl ?_
     refine HB.ev1 (i := 9) (by kernel_rfl) rfl ?_
     refine H.Bi (v := w32 _) (ls' := addRow v s (i + 1)) rfl rfl rfl rfl (by repeat constructor) (by rw [Nat.mul_one, Nat.zero_add]; exact hset) ?_
     refine gA ?_
     refine H.on0 rfl ?_
     refine HB.Aq (by kernel_rfl) ?_
     refine gK ?_
     exact H.Au (i + 1) (by show i + 1 ≤ 8; omega) (by show 8 - (i + 1) < 8 - i; omega) ⟨rfl, rfl, rfl, rfl, trivial⟩ rfl rfl
    ·have hi8 : i = 8 := by omega
     subst hi8
     refine gH ?_
     refine H.Aj (ls := (v.add s).vals) rfl rfl rfl (Rd.ofRow (by repeat constructor)) rfl rfl ?_
     refine H.Ap (ls := List.replicate 8 (.int .u32 0)) (vs := (v.add s).vals) (ls' := (v.add s).vals) rfl rfl rfl (zae rfl) rfl rfl (Nat.le_refl 8) (by repeat constructor) ?_
     refine ga ?_
     refine H.Ab (x := row vb _ _) (by repeat constructor) ?_
     refine H.Ab (x := row sb _ _) (by repeat constructor) ?_
     exact H.retD rfl rfl rfl (Rd.ofRow (by repeat constructor)) rfl (fun _ s => s.drop (.here _ _)) ⟨rfl, rfl, rfl⟩
end
end Go.Proofs.YtdcjlgigcbinjaaGreatDoor
