/- Parts of the proof, one behind the other, each under its own heading. No conditions. -/
import Derived.Test.YtgdhaledfjnfgaaGreatDoorZ07
import Derived.RangeFuncLeaves
import Derived.RangeFuncRecord
import Derived.RangeFuncIn
import Derived.Sort.AssemblyPlain
set_option linter.unusedSectionVars false
set_option linter.unusedSimpArgs false
set_option linter.unusedVariables false
/- The engine, part w: a range over a function. No program in sight; no conditions. -/
namespace Go.Proofs.YtgdhaledfjnfgaaGreatDoor
open Go
def FnPostM (P : Program) (fn : Func) (base : World) (R : Value → Frag → List HP → Prop) : Exit → Act → World → Prop
 | .normal, a, w => bodyPostM Fence.wide 3 P fn (fun e w' => ∃ v f' A', e = .returned v ∧ R v f' A' ∧ Sat base w' f' A') .normal a w
 | .ret, a, w => bodyPostM Fence.wide 3 P fn (fun e w' => ∃ v f' A', e = .returned v ∧ R v f' A' ∧ Sat base w' f' A') .ret a w
 | _, _, _ => False
def codeR (P : Program) (lp : Nat) (c : Code) (q : Post) : Kont := .out .normal (.fn fun _ a w => c.wpIn (Fence.wide.inRound lp) 2 P (q.den P) a w)
def seqR (P : Program) (lp : Nat) (y : Code) (q : Post) : Post := .fn (Exit.then (y.wpIn (Fence.wide.inRound lp) 2 P (q.den P)) (q.den P))
def opsIn (P : Program) (l rest : List Oper) (q : Post) : Kont := .out .normal (.fn fun _ a w => wpListIn Fence.wide 3 P l.toArray (q.den P) rest a w)
def inList (P : Program) (l rest : List Oper) (q : Post) : Post := .fn (Exit.then (wpListIn Fence.wide 3 P l.toArray (q.den P) rest) (q.den P))
def beginP (P : Program) (lp : Nat) (body : Code) (q : Post) : Post :=
 .fn (Exit.then (fun a₁ w₁ => ∃ w₂, (Instr.beginRound lp).run P w₁ = .ok () w₂ ∧ body.wpIn (Fence.wide.inRound lp) 2 P (q.den P) a₁ w₂) (fun _ _ _ => False))
def RW (base : World) (R : Value → Frag → List HP → Prop) : Ending → World → Prop := fun e w' => ∃ v f' A', e = .returned v ∧ R v f' A' ∧ Sat base w' f' A'
def roundP (P : Program) (lp : Nat) (base : World) (R : Value → Frag → List HP → Prop) : Post := .fn (roundPost P lp (RW base R))
def Post.shut (P : Program) (q : Post) : Prop := ∀ a w, ¬ q.den P .outgrown a w
def YieldFn (P : Program) (lp : Nat) (args : List Value) (f : Frag) (A : List HP) (R : Value → Frag → List HP → Prop) : Prop :=
 ∀ base w, Sat base w f A → ∃ fn tmps assign body, (Instr.yield lp args.toArray).run P w = .ok (.round lp fn tmps assign body) w ∧ RoundIn Fence.wide 2 P lp fn tmps assign body w (RW base R)
def loopH (n : Nat) (L : Env) (lp : Nat) (ps : List Tmp) (assign body : Code) (D : Nat) (st : LoopState) : HP := fun h =>
 ∃ fn tmps, tmps.size = n ∧ (∀ i v, look? L i = some v → tmps[i]? = some v) ∧ pts lp (.loop { state := st, pending := none, fn, tmps, params := ps.toArray, assign, body, defers := D }) h
def setsE : List Tmp → List Value → Env → Env
 | p :: ps, v :: vs, L => setsE ps vs ((p, v) :: L)
 | _, _, L => L
section
variable {P : Program} {base : World} {n : Nat} {L : Env} {f f' : Frag} {A A' : List HP} {q : Post}
theorem Sat.loop {w : World} {L0 : Env} {lp : Nat} {ps : List Tmp} {assign body : Code} {D : Nat} {st : LoopState} (s : Sat base w f (loopH n L0 lp ps assign body D st :: A)) :
  ∃ fn tmps, tmps.size = n ∧ (∀ i v, look? L0 i = some v → tmps[i]? = some v) ∧ Sat base w f (pts lp (.loop { state := st, pending := none, fn, tmps, params := ps.toArray, assign, body, defers := D }) :: A) := by
 obtain ⟨a, b, c, d, e, m, hm, hd, hw⟩ := s;obtain ⟨m1, m2, dj, rfl, ⟨fn, tmps, h1, h2, h3⟩, h4⟩ := hm;exact ⟨fn, tmps, h1, h2, a, b, c, d, e, _, ⟨m1, m2, dj, rfl, h3, h4⟩, hd, hw⟩
theorem Sat.ofLoop {w : World} {L0 : Env} {lp : Nat} {ps : List Tmp} {assign body : Code} {D : Nat} {st : LoopState} {fn : FuncId} {tmps : Array Value} (h1 : tmps.size = n) (h2 : ∀ i v, look? L0 i = some v → tmps[i]? = some v)
  (s : Sat base w f (pts lp (.loop { state := st, pending := none, fn, tmps, params := ps.toArray, assign, body, defers := D }) :: A)) : Sat base w f (loopH n L0 lp ps assign body D st :: A) := by
 obtain ⟨a, b, c, d, e, m, hm, hd, hw⟩ := s;obtain ⟨m1, m2, dj, rfl, h3, h4⟩ := hm;exact ⟨a, b, c, d, e, _, ⟨m1, m2, dj, rfl, ⟨fn, tmps, h1, h2, h3⟩, h4⟩, hd, hw⟩
theorem Fn.enterM {fid : FuncId} {fn : Func} {c : Code} {m : Nat} {args : List Value} {R : Value → Frag → List HP → Prop} (hf : P.funcs[fid]? = some fn) (hb : fn.body = some c) (hn : fn.ntmps = m) (hl : Nat.ble args.length m = true) {L : Env} (hL : SubE (envOf 0 args) L)
  (h : ∀ base, H P base m L f A (.code c (.fn (FnPostM P fn base R)))) (hsm : Nat.ble m 1000003 = true := by exact rfl) : Fn P fid args f A R := fun base w s => by
 have hl' := Nat.le_of_ble_eq_true hl
 have hsm' := Nat.le_of_ble_eq_true hsm
 refine callsIn_wide.1 (callsIn_of_wp_marks (n := 3) hf hb trivial (wpIn_mono (Q := FnPostM P fn base R) (wpIn_wide.2 ?_) ?_))
 ·have hmk : dmOf L = [] := by
   exact qcn
  refine (h base).out _ w ⟨by simp [hn]; omega, hsm', hmk.symm, fun i v hi => ?_⟩ s
  obtain ⟨_, h2⟩ := look?_envOf args 0 i v (hL.get i v hi)
  simp only [Nat.sub_zero] at h2
  have hlt : i < args.length := by
   rcases Nat.lt_or_ge i args.length with h | h
   ·exact h
   ·simp [List.getElem?_eq_none h] at h2
  rw [Array.getElem?_append_left (by simpa using hlt)]
  simpa using h2
 ·intro e a w' h
  cases e with
  | normal => exact h
  | ret => exact h
  | exit id => exact h.elim
  | goto l => exact h.elim
  | panic c => exact h.elim
  | outgrown => exact h.elim
theorem bodyPostM_ret {fn : Func} {R : Ending → World → Prop} {a : Act} {w : World} {v : Value} (hr : (results fn a.tmps).run P w = .ok v w) (hd : a.defers = []) (hR : R (.returned v) w) : bodyPostM Fence.wide 3 P fn R .ret a w := by
 show LeavesInM Fence.wide 3 P fn a.tmps R a.defers .returning w;rw [hd];exact ⟨v, hr, hR⟩
theorem bodyPostM_mark {fn : Func} {R : Ending → World → Prop} {a : Act} {w : World} {v : Value} {D : Nat} (hr : ∀ w', (results fn a.tmps).run P w' = .ok v w') (hd : a.defers = [{ target := .collected D, args := #[] }]) (hD : w.heap[D]? = some (.deferred (some []))) (hR : R (.returned v) (w.putObj D (.deferred none))) : bodyPostM Fence.wide 3 P fn R .ret a w := by
 show LeavesInM Fence.wide 3 P fn a.tmps R a.defers .returning w;rw [hd];exact ⟨by simp, .inl ⟨D, _, rfl, run_takeDeferred hD, ⟨v, hr _, hR⟩⟩⟩
theorem H.retM {fn : Func} {R : Value → Frag → List HP → Prop} {t : Nat} {v : Value} {A' : List HP} (hr : fn.results = #[.tmp t]) (hv : look? L t = some v) (hA : ∀ x, stars A x → stars A' x) (h : R v f A') (hmk : mk? L = none := by exact rfl) : H P base n L f A (.out .ret (.fn (FnPostM P fn base R))) := .mk fun a w hf s => by
 show bodyPostM Fence.wide 3 P fn (fun e w' => ∃ v f' A', e = .returned v ∧ R v f' A' ∧ Sat base w' f' A') .ret a w
 exact bodyPostM_ret (by rw [results_tmp hr]) (hf.bare hmk) ⟨v, f, A', by simp [hf.get t v hv], h, s.imp hA⟩
theorem Fr.marked {a : Act} {D : Nat} (h : Fr n a L) (hm : mk? L = some (.pointer (some ⟨D, 0, none⟩))) : a.defers = [{ target := .collected D, args := #[] }] := h.defers.trans (by unfold dmOf; rw [hm])
theorem H.retMk {fn : Func} {R : Value → Frag → List HP → Prop} {t D : Nat} {v : Value} {A' A'' : List HP} (hr : fn.results = #[.tmp t]) (hv : look? L t = some v) (hm : mk? L = some (.pointer (some ⟨D, 0, none⟩))) (hD : Pull A (pts D (.deferred (some []))) A') (hA : ∀ x, stars A' x → stars A'' x) (h : R v f A'') : H P base n L f A (.out .ret (.fn (FnPostM P fn base R))) := .mk fun a w hf s => by
 show bodyPostM Fence.wide 3 P fn (fun e w' => ∃ v f' A', e = .returned v ∧ R v f' A' ∧ Sat base w' f' A') .ret a w
 have s1 := s.front hD
 have hg := s1.got (.here _ _ (pts D (.deferred (some []))))
 refine bodyPostM_mark (v := v) (D := D) (fun w' => by rw [results_tmp hr]; simp [hf.get t v hv]) (hf.marked hm) hg ⟨v, f, A'', rfl, h, ?_⟩
 exact ((s1.set (w' := w.putObj D (.deferred none)) (.here _ _ _) rfl rfl rfl rfl).drop (.here _ _)).imp hA
theorem blind_fnM {fn : Func} {R : Value → Frag → List HP → Prop} : (Post.fn (FnPostM P fn base R)).blind P := fun _ _ _ _ _ h => h.elim
/-! ### Shut -/
theorem zay {fn : Func} {R : Value → Frag → List HP → Prop} : (Post.fn (FnPostM P fn base R)).shut P := fun _ _ h => h.elim
theorem zbd {fn : Func} {R : Value → Frag → List HP → Prop} : (Post.fn (FnPost P fn base R)).shut P := fun a w h => by
 obtain ⟨_, _, _, h, _⟩ := h
 cases h
theorem zam {lp : Nat} {R : Value → Frag → List HP → Prop} : (roundP P lp base R).shut P := fun _ _ h => h.elim
theorem zao {lp : Nat} {b : Code} : (beginP P lp b q).shut P := fun _ _ h => h.elim
theorem zax {y : Code} (h : q.shut P) : (Post.seq y q).shut P := h
theorem zan {id : Nat} (h : q.shut P) : (Post.block id q).shut P := h
theorem zat {I : Act → World → Prop} (h : q.shut P) : (Post.loop I q).shut P := h
theorem zas {lp : Nat} {y : Code} (h : q.shut P) : (seqR P lp y q).shut P := h
theorem zbe {l rest : List Oper} (h : q.shut P) : (inList P l rest q).shut P := h
/-! ### From the plain walk into a fence -/
theorem uponIn_of_upon {F : Fence} {m : Nat} (hd : F.depth = none) (hc : ∀ m f args w R, Calls P f args w R → CallsIn F m P f args w R) (hr : ∀ m row args w R, Rows P row args w R → RowsIn F m P row args w R)
  {o : Oper} {a : Act} {next next' : Act → World → Prop} {Q Q' : Exit → Act → World → Prop} (hn : ∀ a w, next a w → next' a w) (hq : ∀ e a w, e ≠ .normal → Q e a w → Q' e a w) :
  ∀ r, o.upon P a next Q r → o.uponIn F m P a next' Q' r := by
 intro r h; have hdd : F.depth.isSome = true → 1 ≤ m := fun h => by rw [hd] at h; cases h
 match r, h with
 | .ok (.value v) w', h => exact hn _ _ h
 | .ok .skip w', h => exact hn _ _ h
 | .ok (.defer d) w', h => exact hn _ _ h
 | .ok (.enter f args) w', h =>
  refine ⟨hdd, (hc _ _ _ _ _ h).mono fun e w'' he => ?_⟩
  cases e with
  | returned v => exact hn _ _ he
  | panicked c => exact hq _ _ _ (by simp) he
  | outgrown => obtain ⟨a0, w0, h0⟩ := he; exact ⟨a0, w0, hq _ _ _ (by simp) h0⟩
 | .ok (.row row args) w', h => exact ⟨hdd, (hr _ _ _ _ _ h).mono fun v w'' he => hn _ _ he⟩
 | .halt (.panic v) w', h => exact hq _ _ _ (by simp) h
theorem rowsIn_wide {m : Nat} {row : String} {args : Array Value} {w : World} {R : Value → World → Prop} (h : Rows P row args w R) : RowsIn Fence.wide m P row args w R :=
 fun c cs _ => let ⟨v, w', r, s⟩ := h c cs; ⟨v, w', r, stepsIn_wide.2 s⟩
theorem wpListIn_of {F : Fence} {m : Nat} (hfn : ∀ f, F.fn f) (hd : F.depth = none) (hc : ∀ m f args w R, Calls P f args w R → CallsIn F m P f args w R) (hr : ∀ m row args w R, Rows P row args w R → RowsIn F m P row args w R)
  {ops : Array Oper} {rest : List Oper} {Q Q' : Exit → Act → World → Prop} (hn : ∀ a w, Q .normal a w → wpListIn F m P ops Q' rest a w) (hq : ∀ e a w, e ≠ .normal → Q e a w → Q' e a w) (ho : ∀ a w, ¬ Q .outgrown a w) :
  ∀ (l : List Oper), (∀ o ∈ l, ∀ ρ, o.semAt F.round ρ = execOp ρ o) → ∀ a w, wpList P ops Q l a w → wpListIn F m P ops Q' (l ++ rest) a w
 | [], _, a, w, h => hn a w h
 | o :: l, hs, a, w, h => by
  unfold wpList at h
  show wpListIn F m P ops Q' (o :: (l ++ rest)) a w
  unfold wpListIn
  have ih := wpListIn_of hfn hd hc hr hn hq ho l (fun o h => hs o (List.mem_cons_of_mem _ h))
  by_cases hw : Region.wanted o (yielded ops a.tmps) = true
  ·rw [if_pos hw] at h ⊢
   rcases h with h | ⟨_, a0, w0, h⟩
   ·refine ⟨fun f _ => hfn f, ?_⟩
    rw [hs o (List.mem_cons_self ..)]
    exact uponIn_of_upon hd hc hr ih hq _ h
   ·exact (ho a0 w0 h).elim
  ·rw [if_neg hw] at h ⊢
   exact ⟨fun f _ => hfn f, ih _ _ h⟩
def plainOp (o : Oper) : Bool := match o.op with
 | .defer _ => false
 | _ => true
/-! ### Code in a round -/
theorem H.seqR {lp : Nat} {x y : Code} (h : H P base n L f A (codeR P lp x (seqR P lp y q))) : H P base n L f A (codeR P lp (.seq x y) q) := .mk fun a w hf s => wpIn_seq (h.out a w hf s)
theorem H.thenR {lp : Nat} {y : Code} (h : H P base n L f A (codeR P lp y q)) : H P base n L f A (.out .normal (Go.Proofs.YtgdhaledfjnfgaaGreatDoor.seqR P lp y q)) := .mk h.out
theorem H.skipR {lp : Nat} (h : H P base n L f A (.out .normal q)) : H P base n L f A (codeR P lp .skip q) := .mk fun a w hf s => wpIn_skip (h.out a w hf s)
theorem H.blockR {lp id : Nat} {c : Code} (h : H P base n L f A (codeR P lp c (.block id q))) : H P base n L f A (codeR P lp (.block id c) q) := .mk fun a w hf s => wpIn_block (h.out a w hf s)
theorem H.condR {lp : Nat} {c : Operand} {x y : Code} {t : Bool} (hc : ev? L c = some (.bool t)) (ht : t = true → H P base n L f A (codeR P lp x q)) (hf' : t = false → H P base n L f A (codeR P lp y q)) :
  H P base n L f A (codeR P lp (.cond c x y) q) := .mk fun a w hf s => wpIn_cond_split (hf.eval hc) (fun e => (ht e).out a w hf s) (fun e => (hf' e).out a w hf s)
theorem H.Cy {lp : Nat} {c : Operand} {x y : Code} (hc : ev? L c = some (.bool true)) (ht : H P base n L f A (codeR P lp x q)) : H P base n L f A (codeR P lp (.cond c x y) q) := H.condR hc (fun _ => ht) (fun e => by cases e)
theorem H.Cx {lp : Nat} {c : Operand} {x y : Code} (hc : ev? L c = some (.bool false)) (ht : H P base n L f A (codeR P lp y q)) : H P base n L f A (codeR P lp (.cond c x y) q) := H.condR hc (fun e => by cases e) (fun _ => ht)
theorem H.Cz {lp : Nat} {c : Operand} {x y : Code} {p : Prop} {_ : Decidable p} (hc : ev? L c = some (.bool (decide p))) (hp : p) (ht : H P base n L f A (codeR P lp x q)) : H P base n L f A (codeR P lp (.cond c x y) q) := H.Cy (by rw [hc, decide_eq_true hp]) ht
theorem H.condR_no {lp : Nat} {c : Operand} {x y : Code} {p : Prop} {_ : Decidable p} (hc : ev? L c = some (.bool (decide p))) (hp : ¬ p) (ht : H P base n L f A (codeR P lp y q)) : H P base n L f A (codeR P lp (.cond c x y) q) := H.Cx (by rw [hc, decide_eq_false hp]) ht
theorem H.regionR {lp id : Nat} {l : List Oper} (hp : l.all plainOp = true) (hs : q.shut P) (h : H P base n L f A (.ops l l q)) : H P base n L f A (codeR P lp (.region id l.toArray false) q) := .mk fun a w hf s => by
 refine wpIn_region_lit ?_
 have := wpListIn_of (P := P) (F := Fence.wide.inRound lp) (m := 2) (ops := l.toArray) (rest := []) (Q := q.den P) (Q' := q.den P) (fun _ => trivial) rfl (fun m f args w R h => (callsIn_wide.2 h : CallsIn Fence.wide m P f args w R)) (fun m row args w R h => rowsIn_wide h) (fun a w h => h) (fun e a w _ h => h) hs l (fun o ho ρ => ?_) a w (h.out a w hf s)
 ·rw [List.append_nil] at this
  exact this
 ·have := List.all_eq_true.1 hp o ho
  exact Oper.semAt_eq _ _ _ fun c hc => by simp [plainOp, hc] at this
/-! ### A region that calls yield -/
theorem H.regionY {id : Nat} {l : List Oper} (h : H P base n L f A (opsIn P l l q)) : H P base n L f A (.code (.region id l.toArray false) q) := .mk fun a w hf s => wpIn_wide.1 (wpIn_region_lit (n := 3) (h.out a w hf s))
theorem H.inOp {l rest : List Oper} {o : Oper} (hs : q.shut P) (h : H P base n L f A (.ops l [o] (inList P l rest q))) : H P base n L f A (opsIn P l (o :: rest) q) := .mk fun a w hf s =>
 wpListIn_of (P := P) (F := Fence.wide) (m := 3) (ops := l.toArray) (rest := rest) (Q := (inList P l rest q).den P) (Q' := q.den P) (fun _ => trivial) rfl (fun m f args w R h => callsIn_wide.2 h) (fun m row args w R h => rowsIn_wide h) (fun a w h => h) (fun e a w he h => by cases e <;> first | exact (he rfl).elim | exact h) hs [o] (fun o _ ρ => rfl) a w (h.out a w hf s)
theorem H.Cq {l rest : List Oper} (h : H P base n L f A (opsIn P l rest q)) : H P base n L f A (.out .normal (inList P l rest q)) := .mk h.out
theorem H.inNil {l : List Oper} (h : H P base n L f A (.out .normal q)) : H P base n L f A (opsIn P l [] q) := .mk h.out
theorem run_yieldV (a : Act) {lp : Nat} {dd : Option Tmp} {x : Operand} {xs : List Operand} {vs : List Value} {ats : Array TypeId} {ty : TypeId} {pos : String} {af : Array Edge} {gd : Option (Nat × Bool)} {w : World} (hx : a.eval x = .func (.yield lp) #[] #[]) (hargs : xs.map a.eval = vs) :
  (execOp a.eval ⟨dd, .call ⟨.value x, xs.toArray, ats⟩, ty, pos, af, gd⟩).run P w = (Instr.yield lp vs.toArray).run P w := by
 have e1 : (#[] ++ Array.map a.eval xs.toArray : Array Value) = vs.toArray := by simp [hargs]
 simp only [execOp, resolve, hx, Deferred.ofValue, Sem.run_bind, Sem.run_pure, Result.andThen_ok, invoke, e1]
theorem H.yield {l rest : List Oper} {d : Nat} {ty : TypeId} {pos : String} {af : Array Edge} {gd : Option (Nat × Bool)} {x : Operand} {xs : List Operand} {vs : List Value} {lp : Nat} {ats : Array TypeId} {R : Value → Frag → List HP → Prop} (hx : ev? L x = some (.func (.yield lp) #[] #[])) (hw : want? l L gd = true) (hd : Nat.ble (d + 1) n = true)
  (hxs : evs? L xs = some vs) (hc : YieldFn P lp vs f A R)
  (k : ∀ v f' A', R v f' A' → H P base n ((d, v) :: L) f' A' (opsIn P l rest q)) :
  H P base n L f A (opsIn P l (⟨some d, .call ⟨.value x, xs.toArray, ats⟩, ty, pos, af, gd⟩ :: rest) q) := .mk fun a w hf s => by
 show wpListIn Fence.wide 3 P l.toArray (q.den P) _ a w
 unfold wpListIn
 rw [if_pos (hf.want (o := ⟨some d, _, ty, pos, af, gd⟩) hw)]
 refine ⟨fun _ _ => trivial, ?_⟩
 obtain ⟨fn, tmps, assign, body, h1, h2⟩ := hc base w s
 have hrun := (run_yieldV (P := P) (dd := some d) (ats := ats) (ty := ty) (pos := pos) (af := af) (gd := gd) (w := w) a (hf.eval hx) (hf.evals hxs)).trans h1
 have hrun' : Sem.run P (Oper.semAt Fence.wide.round a.eval ⟨some d, .call ⟨.value x, xs.toArray, ats⟩, ty, pos, af, gd⟩) w = .ok (.round lp fn tmps assign body) w := hrun
 rw [hrun', Oper.uponIn_round]
 refine ⟨(fun h => by cases h), h2.mono ?_⟩
 rintro e w' ⟨v, f', A', rfl, hr, s'⟩
 exact (k v f' A' hr).out _ _ (hf.put (Nat.le_of_ble_eq_true hd) v) s'
/-! ### A round -/
theorem sets_fr : ∀ (ps : List Tmp) (vs : List Value) (tmps : Array Value) (L : Env), (ps.all fun p => Nat.ble (p + 1) n) = true → tmps.size = n → (∀ i v, look? L i = some v → tmps[i]? = some v) →
  ((ps.zip vs).foldl (fun tmps (t, a) => tmps.setIfInBounds t a) tmps).size = n ∧ ∀ i v, look? (setsE ps vs L) i = some v → ((ps.zip vs).foldl (fun tmps (t, a) => tmps.setIfInBounds t a) tmps)[i]? = some v
 | [], vs, tmps, L, _, h1, h2 => by simpa [setsE] using ⟨h1, h2⟩
 | p :: ps, [], tmps, L, _, h1, h2 => by simpa [setsE] using ⟨h1, h2⟩
 | p :: ps, v :: vs, tmps, L, hp, h1, h2 => by
  simp only [List.all_cons, Bool.and_eq_true] at hp
  have hlt := Nat.le_of_ble_eq_true hp.1
  refine sets_fr ps vs (tmps.setIfInBounds p v) ((p, v) :: L) hp.2 (by simpa using h1) fun i u hi => ?_
  rw [look?_cons (look?_lt hi)] at hi
  by_cases e : p = i
  ·subst e
   rw [if_pos rfl] at hi
   injection hi with hi
   subst hi
   rw [Array.getElem?_setIfInBounds_self_of_lt (by omega)]
  ·rw [if_neg e] at hi
   rw [Array.getElem?_setIfInBounds_ne e]
   exact h2 i u hi
theorem H.begin {L0 : Env} {n0 lp : Nat} {ps : List Tmp} {assign b body : Code} {D : Nat} (h : H P base n L f (loopH n0 L0 lp ps assign b D .busy :: A) (codeR P lp body q)) : H P base n L f (loopH n0 L0 lp ps assign b D .ready :: A) (.out .normal (beginP P lp body q)) := .mk fun a w hf s => by
 obtain ⟨fn, tmps, h1, h2, s1⟩ := s.loop
 have hg := s1.got (.here _ _ emp)
 refine ⟨_, run_beginRound hg rfl, h.out a _ hf (Sat.ofLoop (fn := fn) (tmps := tmps) h1 h2 ?_)⟩
 exact s1.set (.here _ _ _) rfl rfl rfl rfl
theorem H.endRound {L0 : Env} {n0 lp : Nat} {ps : List Tmp} {assign b : Code} {D : Nat} {R : Value → Frag → List HP → Prop} (h : R (.bool true) f (loopH n0 L0 lp ps assign b D .ready :: A)) : H P base n L f (loopH n0 L0 lp ps assign b D .busy :: A) (.out .normal (roundP P lp base R)) := .mk fun a w hf s => by
 obtain ⟨fn, tmps, h1, h2, s1⟩ := s.loop
 have hg := s1.got (.here _ _ emp)
 refine ⟨_, _, run_endRound none hg, _, f, _, rfl, h, Sat.ofLoop (fn := fn) (tmps := tmps) h1 h2 ?_⟩
 exact s1.set (.here _ _ _) rfl rfl rfl rfl
theorem YieldFn.of {lp D : Nat} {ps : List Tmp} {args : List Value} {assign body : Code} {R : Value → Frag → List HP → Prop} (hp : (ps.all fun p => Nat.ble (p + 1) n) = true) (hz : (Nat.beq args.length ps.length) = true) (hsm : Nat.ble n 1000003 = true) (hmk : mk? (setsE ps args L) = none)
  (h : ∀ base, H P base n (setsE ps args L) f (loopH n L lp ps assign body D .ready :: A) (codeR P lp assign (beginP P lp body (roundP P lp base R)))) :
  YieldFn P lp args f (loopH n L lp ps assign body D .ready :: A) R := fun base w s => by
 obtain ⟨fn, tmps, h1, h2, s1⟩ := s.loop
 have hg := s1.got (.here _ _ emp)
 have hz' : args.toArray.size = ps.toArray.size := by simpa using Nat.eq_of_beq_eq_true hz
 have hy := run_yield (P := P) (w := w) (args := args.toArray) hg hz'
 refine ⟨_, _, _, _, hy, roundIn_of_wpIn (F := Fence.wide) (n := 2) trivial ?_⟩
 obtain ⟨h3, h4⟩ := sets_fr ps args tmps L hp h1 h2
 have e : (ps.toArray.zip args.toArray).foldl (fun tmps (t, a) => tmps.setIfInBounds t a) tmps = (ps.zip args).foldl (fun tmps (t, a) => tmps.setIfInBounds t a) tmps := by simp
 have hfr : Fr n { tmps := (ps.toArray.zip args.toArray).foldl (fun tmps (t, a) => tmps.setIfInBounds t a) tmps, defers := [] } (setsE ps args L) := by
  refine ⟨?_, Nat.le_of_ble_eq_true hsm, by unfold dmOf; rw [hmk], fun i v hi => ?_⟩
  ·show Array.size (Array.foldl _ _ _) = n;rw [e]; exact h3
  ·show (Array.foldl _ _ _)[i]? = some v;rw [e]; exact h4 i v hi
 exact (h base).out _ w hfr s
theorem Fn.wrap {fid : FuncId} {args : List Value} {A1 : List HP} {R1 R : Value → Frag → List HP → Prop} (hA : ∀ h, stars A h → stars A1 h) (h : Fn P fid args f A1 R1) (hR : ∀ v g B, R1 v g B → ∃ B', R v g B' ∧ ∀ h, stars B h → stars B' h) : Fn P fid args f A R := fun base w s =>
 (h base w (s.imp hA)).mono fun _ _ ⟨v, f', B, e, r, s'⟩ => let ⟨B', r', hi⟩ := hR _ _ _ r; ⟨v, f', B', e, r', s'.imp hi⟩
theorem YieldFn.wrap {lp : Nat} {args : List Value} {A1 : List HP} {R1 R : Value → Frag → List HP → Prop} (hA : ∀ h, stars A h → stars A1 h) (h : YieldFn P lp args f A1 R1) (hR : ∀ v g B, R1 v g B → ∃ B', R v g B' ∧ ∀ h, stars B h → stars B' h) : YieldFn P lp args f A R := fun base w s =>
 let ⟨fn, tmps, assign, body, h1, h2⟩ := h base w (s.imp hA)
 ⟨fn, tmps, assign, body, h1, h2.mono fun _ _ ⟨v, f', B, e, r, s'⟩ => let ⟨B', r', hi⟩ := hR _ _ _ r; ⟨v, f', B', e, r', s'.imp hi⟩⟩
theorem pack_all (X A : List HP) : ∀ h, stars (X ++ A) h → stars (stars X :: A) h := fun h hh => by rw [zbs] at hh; exact hh
theorem open_all (X A : List HP) : ∀ h, stars (stars X :: A) h → stars (X ++ A) h := fun h hh => by rw [zbs]; exact hh
/-! ### The statement -/
theorem H.rangeFunc {ι : Type} {g : Operand} {ps : List Tmp} {assign body : Code} {gf : FuncId} {fs cs : List Value} {A' : ι → Nat → List HP} [hfun : Fun P gf] (hg : ev? L g = some (.func (.func gf) fs.toArray cs.toArray)) (hmk : mk? L = none)
  (hc : ∀ D lp, Fn P gf (fs ++ [.func (.yield lp) #[] #[]] ++ cs) f (loopH n L lp ps assign body D .ready :: pts D (.deferred (some [])) :: A) (fun _ g B => ∃ i, g = f' ∧ B = loopH n L lp ps assign body D .ready :: A' i D))
  (k : ∀ i D, H P base n ((1000003, .pointer (some ⟨D, 0, none⟩)) :: L) f' (A' i D) (.out .normal q)) :
  H P base n L f A (.code (.rangeFunc g ps.toArray assign body) q) := .mk fun a w hf s => by
 refine wpIn_wide.1 (wpIn_rangeFunc (F := Fence.wide) (n := 3) fun fn _ => ?_)
 obtain ⟨fnc, e1, e2, e3⟩ := hfun.eq
 have hev : a.eval g = .func (.func gf) fs.toArray cs.toArray := hf.eval hg
 have hd0 : a.defers = [] := hf.bare hmk
 have sA : Sat base (w.alloc (.deferred (some []))) f (pts w.heap.size (.deferred (some [])) :: A) := s.alloc rfl rfl rfl rfl
 have sB := sA.alloc (w' := (w.alloc (.deferred (some []))).alloc (.loop { state := .ready, pending := none, fn, tmps := a.tmps, params := ps.toArray, assign, body, defers := w.heap.size })) rfl rfl rfl rfl
 rw [World.size_alloc] at sB
 have sC : Sat base _ f (loopH n L (w.heap.size + 1) ps assign body w.heap.size .ready :: pts w.heap.size (.deferred (some [])) :: A) := Sat.ofLoop (fn := fn) (tmps := a.tmps) hf.size hf.get sB
 have hrun := run_enterLoop_outer (P := P) (w := w) fn a.tmps ps.toArray assign body
 generalize (w.alloc (.deferred (some []))).alloc (.loop { state := .ready, pending := none, fn, tmps := a.tmps, params := ps.toArray, assign, body, defers := w.heap.size }) = W at sC hrun
 have hcall := hc w.heap.size (w.heap.size + 1) base W sC
 refine ⟨w.heap.size + 1, _, W, { target := .fn (.func gf) cs.toArray, args := fs.toArray ++ #[Value.func (.yield (w.heap.size + 1)) #[] #[]] }, W, gf, (fs ++ [Value.func (.yield (w.heap.size + 1)) #[] #[]] ++ cs).toArray, W, hrun, ?_, fun _ _ => trivial, ?_, (fun h => by cases h), callsIn_wide.2 (hcall.mono ?_)⟩
 ·have : Array.map a.eval #[Operand.const (Value.func (.yield (w.heap.size + 1)) #[] #[])] = #[Value.func (.yield (w.heap.size + 1)) #[] #[]] := by simp [Act.eval]
  simp only [rangeCall, resolve, hev, Deferred.ofValue, Sem.run_pure, this]
 ·simp only [invoke, callFunc, Sem.run_bind, run_program, Result.andThen_ok, e1, e2, e3, Bool.false_eq_true, if_false, Sem.run_pure]
  simp
 ·rintro e w' ⟨v, f1, B, rfl, ⟨i, rfl, rfl⟩, s'⟩
  obtain ⟨fn', tmps', h1, h2, s1⟩ := s'.loop
  have hgl := s1.got (.here _ _ emp)
  refine ⟨none, _, run_endLoop hgl (by simp), ?_⟩
  refine (k i w.heap.size).out _ _ ⟨hf.size, hf.small, ?_, fun j u hj => ?_⟩ ((s1.set (w' := w'.putObj (w.heap.size + 1) _) (.here _ _ _) rfl rfl rfl rfl).drop (.here _ _))
  ·show _ ++ a.defers = dmOf _
   rw [hd0]
   rfl
  ·have hl := look?_lt hj
   rw [look?_cons hl, if_neg (by omega)] at hj
   exact hf.get j u hj
theorem H.rangeFuncE {g : Operand} {ps : List Tmp} {assign body : Code} {gf : FuncId} {fs cs : List Value} [hfun : Fun P gf] (hg : ev? L g = some (.func (.func gf) fs.toArray cs.toArray)) (hmk : mk? L = none)
  (hb : ∀ LH : Nat → Nat → LoopState → HP, (LH = fun D lp st => loopH n L lp ps assign body D st) → ∃ (ι : Type) (A' : ι → Nat → List HP),
   (∀ D lp, Fn P gf (fs ++ [.func (.yield lp) #[] #[]] ++ cs) f (LH D lp .ready :: pts D (.deferred (some [])) :: A) (fun _ g B => ∃ i, g = f' ∧ B = LH D lp .ready :: A' i D)) ∧
   ∀ i D, H P base n ((1000003, .pointer (some ⟨D, 0, none⟩)) :: L) f' (A' i D) (.out .normal q)) :
  H P base n L f A (.code (.rangeFunc g ps.toArray assign body) q) := by
 obtain ⟨ι, A', h1, h2⟩ := hb _ rfl;exact H.rangeFunc hg hmk h1 h2
end
theorem eqC_ch (x y : Int × Int) : eqC (chV x) (chV y) = decide (x = y) := by
 obtain ⟨a, b⟩ := x;obtain ⟨c, d⟩ := y;by_cases h1 : a = c <;> by_cases h2 : b = d <;> simp [eqC, eqv, chV, h1, h2]
def qokB (l : Lgs) (m : Msg) : Bool := m.body.q.all fun q => decide (q.2 ≤ m.deps (q.1 - 1).toNat) && chB l q m.body.view
section
variable (f : Frag) (F : List HP)
theorem chidx_fn {p : Option Addr} {c : Nat} {ys : List (Int × Int)} (hl : ys.length ≤ 1000000) (y : Int × Int) :
  Fn Tryz.prog 198 [.slice p ys.length c, .agg (chV y).toArray] f (slc p ys.length c 181 2 (ys.flatMap chV) :: F) (Ret (.int .i64 (idxI (fun x => decide (x = y)) ys)) f (slc p ys.length c 181 2 (ys.flatMap chV) :: F)) := by
 refine Fn.e2 Tryz.func198 Tryz.ntmps198 fun base => ?_;refine gA ?_;refine H.box (ls := chV y) rfl rfl rfl rfl fun vb => ?_;refine gT ?_;refine H.Ar (ι := Nat) (fun i => [(8, .int .i64 (i : Int)), (7, .int .i64 (ys.length : Nat)), (0, .slice p ys.length c), (3, .pointer (some ⟨vb, 0, none⟩))]) (fun _ => f) (fun _ => row vb 181 (chV y) :: slc p ys.length c 181 2 (ys.flatMap chV) :: F) (fun i => i ≤ ys.length ∧ ∀ j x, j < i → ys[j]? = some x → decide (x = y) = false) (fun i => ys.length - i) 0 ⟨Nat.zero_le _, fun j x hj => by omega⟩ ⟨rfl, rfl, rfl, rfl, trivial⟩ rfl rfl fun i hi => ?_;obtain ⟨hi, hb⟩ : i ≤ ys.length ∧ ∀ j x, j < i → ys[j]? = some x → decide (x = y) = false := hi;by_cases hlt : i < ys.length
 ·obtain ⟨x, hx⟩ : ∃ x, ys[i]? = some x := ⟨_, List.getElem?_eq_getElem hlt⟩;refine H.Bl (p := p) (n0 := ys.length) (c := c) (T := 181) (sz := 2) (xs := ys.flatMap chV) (.there _ (.here _ _ _)) (by omega) fun sb hp => ?_;subst hp
  have rd : ∀ G : List HP, Rd f (row vb 181 (chV y) :: slc (some ⟨sb, 0, none⟩) ys.length c 181 2 (ys.flatMap chV) :: G) sb (0 + i * 2) (chV x) := fun G => by
   rw [Nat.zero_add]; exact Rd.slcElem (vals := chV) (xs := ys) (n := ys.length) (c := c) (T := 181) chV_len (by decide) (.there _ (.here _ _ _)) hx
  refine gF ?_;refine H.dq ?_;refine HQ.Af (ls := chV y) rfl rfl rfl (Rd.ofRow (.here _ _ _)) rfl rfl ?_;refine qgm ?_;refine HQ.Af (ls := chV x) rfl rfl rfl (rd _) rfl rfl ?_; have he : eqC (chV y) (chV x) = decide (x = y) := by rw [eqC_ch]; exact decide_eq_decide.2 ⟨fun h => h.symm, fun h => h.symm⟩
  refine HQ.aggEq (xs := chV y) (ys := chV x) (D := 4) (b := decide (x = y)) rfl rfl rfl rfl (by kernel_rfl) (by kernel_rfl) (by kernel_rfl) (by kernel_rfl) (by decide) he rfl ?_
  cases hxy : decide (x = y) with
  | true =>
   refine gJ ?_;refine ga ?_;refine qdt ?_;refine H.Ac rfl rfl (fun _ h => h) ⟨?_, rfl, rfl⟩;rw [idxI_at (pr := fun x => decide (x = y)) hx hxy hb]
  | false =>
   refine gJ ?_;refine gV ?_;refine H.Ah (i + 1) ⟨by show i + 1 ≤ ys.length; omega, fun j z hj hz => ?_⟩ (by show ys.length - (i + 1) < ys.length - i; omega) ⟨rfl, rfl, rfl, rfl, trivial⟩ rfl rfl;by_cases e : j = i
   ·subst e; rw [hx] at hz; cases hz; exact hxy
   ·exact hb j z (by omega) hz
 ·have e : i = ys.length := by omega
  subst e;refine gZ ?_;refine qdt ?_;refine H.Ac rfl rfl (fun _ h => h) ⟨?_, rfl, rfl⟩;rw [idxI_none (pr := fun x => decide (x = y)) hb]
theorem chhas_fn {p : Option Addr} {c : Nat} {ys : List (Int × Int)} (hl : ys.length ≤ 1000000) (y : Int × Int) :
  Fn Tryz.prog 172 [.slice p ys.length c, .agg (chV y).toArray] f (slc p ys.length c 181 2 (ys.flatMap chV) :: F) (Ret (.bool (ys.any fun x => decide (x = y))) f (slc p ys.length c 181 2 (ys.flatMap chV) :: F)) := by
 have h1 := idxI_any (fun x => decide (x = y)) ys;have hc := fun G => chidx_fn f G (p := p) (c := c) hl y
 refine Fn.e2 Tryz.func172 Tryz.ntmps172 fun base => ?_;refine gA ?_;refine H.box (ls := chV y) rfl rfl rfl rfl fun vb => ?_;refine gH ?_;refine H.Af (ls := chV y) rfl rfl rfl (Rd.ofRow (.here _ _ _)) rfl rfl ?_;refine qdt ?_;refine H.Ad rfl rfl rfl (hc _) ?_;refine gF ?_;refine H.Ac rfl rfl (fun _ h => h) ⟨?_, rfl, rfl⟩;rw [← h1]
theorem chB_eq (l : Lgs) (q : Int × Int) (v : Int) : ((l.ch (q.1 - 1).toNat).any fun c => decide (c = (v, q.2))) = chB l q v := by
 unfold chB;congr 1;funext c;obtain ⟨a, b⟩ := c;by_cases h1 : a = v <;> by_cases h2 : b = q.2 <;> simp [h1, h2]
set_option maxRecDepth 20000 in
set_option maxHeartbeats 3200000 in
theorem plquorum_fn {lb : Nat} {l : Lgs} {T : Nat} (hL : LI l T) (hT : T ≤ 50000) {x : MV} (hx : x.Good f) (hm : MIn l.n x.m) {vb : Nat} {pp : Option Addr} {pc : Nat} {cp : Option Addr} {cc : Nat} {cs : Nat → Option Addr × Nat} :
  Fn Tryz.prog 119 [.pointer (some ⟨lb, 0, none⟩), .agg x.vals.toArray] f (row lb 113 (plC l.n l.known vb pp pc cp cc) :: slc cp l.n cc 179 1 (chRow l cs) :: fam (pcFam l cs) l.n :: F)
   (Ret (.bool (qokB l x.m && decide (x.m.body.q.length = l.n / 2 + 1))) f (row lb 113 (plC l.n l.known vb pp pc cp cc) :: slc cp l.n cc 179 1 (chRow l cs) :: fam (pcFam l cs) l.n :: F)) := by
 have hn := hL.n3;have hqat : ListAt f x.qp 2 pairV x.m.body.q := hx.1
 have hql : x.m.body.q.length ≤ 1000000 := by have := hx.2.1; omega
 refine Fn.e2 Tryz.func119 Tryz.ntmps119 fun base => ?_;refine qcZ fun mb => ?_;refine gS ?_;refine H.Bl (p := cp) (n0 := l.n) (c := cc) (T := 179) (sz := 1) (xs := chRow l cs) (by repeat constructor) (by omega) fun cb hcb => ?_;subst hcb
 refine H.Ar (ι := Nat) (fun i => [(11, .int .i64 (i : Int)), (10, .int .i64 (x.m.body.q.length : Nat)), (9, .slice x.qp x.m.body.q.length x.qc), (0, .pointer (some ⟨lb, 0, none⟩)), (3, .pointer (some ⟨mb, 0, none⟩))]) (fun _ => f)
  (fun _ => row mb 49 x.vals :: row lb 113 (plC l.n l.known vb pp pc (some ⟨cb, 0, none⟩) cc) :: slc (some ⟨cb, 0, none⟩) l.n cc 179 1 (chRow l cs) :: fam (pcFam l cs) l.n :: F)
  (fun i => i ≤ x.m.body.q.length ∧ ∀ j p, j < i → x.m.body.q[j]? = some p → p.2 ≤ x.m.deps (p.1 - 1).toNat ∧ chB l p x.m.body.view = true) (fun i => x.m.body.q.length - i) 0 ⟨Nat.zero_le _, fun j p hj => by omega⟩ ⟨rfl, rfl, rfl, rfl, rfl, trivial⟩ rfl rfl fun i hi1 => ?_
 obtain ⟨hi1, hb⟩ : i ≤ x.m.body.q.length ∧ ∀ j p, j < i → x.m.body.q[j]? = some p → p.2 ≤ x.m.deps (p.1 - 1).toNat ∧ chB l p x.m.body.view = true := hi1;by_cases hlt : i < x.m.body.q.length
 ·obtain ⟨p, hp⟩ : ∃ p, x.m.body.q[i]? = some p := ⟨_, List.getElem?_eq_getElem hlt⟩;have hpm := List.mem_of_getElem? hp;have hpq := hm.q p hpm
  obtain ⟨r, hre⟩ : ∃ r, r = (p.1 - 1).toNat := ⟨_, rfl⟩; have hr : r < l.n := by omega
  have hr11 : r < 11 := by omega
  have hrz : p.1 - 1 = (r : Nat) := by omega
  obtain ⟨qb, qoff, qcs, qT, qfr, hqp, hqfb, hqcs⟩ := hqat i p hp;have rd : ∀ A, Rd f A qb (qoff + i * 2) (pairV p) := fun A => Rd.imm hqfb hqcs;have hch := fun G => chhas_fn f G (p := (cs r).1) (c := (cs r).2) (ys := l.ch r) (Nat.le_trans (hL.cl r) (by omega)) (x.m.body.view, p.2)
  have hcbe := chB_eq l p x.m.body.view;rw [← hre] at hcbe
  rw [hcbe] at hch;refine gF ?_;refine H.Aq (b := qb) (off := qoff) (i := i) rfl (by rw [← hqp]; rfl) rfl rfl hlt rfl ?_;refine H.Af (ls := pairV p) rfl rfl rfl (rd _) rfl rfl ?_;refine H.Au (ls := pairV (0, 0)) rfl rfl rfl fun ab => ?_;refine H.Aj (ls := pairV (0, 0)) (vs := pairV p) (ls' := pairV p) rfl rfl rfl (zaa rfl) rfl rfl (Nat.le_refl 2) (.here _ _ _) ?_;refine gA ?_;refine H.db (S := [_, _, _, _]) rfl ?_;refine HB.qu [0,1,2,3,4,5,6,7,8,9,10,11,12,13,14,15,16,17,18,19,20,21,22,23,24] 3 ?_;refine qfm ?_;by_cases h1 : p.2 ≤ x.m.deps r
  ·skip;refine gK ?_;refine qfd ?_;refine HB.ev 25 ?_;skip;refine H.pf (x := fam (pcFam l cs) _) ?_;refine H.Cm hr ?_;refine H.Ad rfl rfl rfl (hch _) ?_;refine H.Ct (g := pcFam l cs) hr ?_;refine qec ?_;refine H.pf (x := row ab _ _) ?_
   cases hcb : chB l p x.m.body.view with
   | true =>
    refine qcP ?_;refine HB.qu [26,27] 0 ?_;refine qdl ?_;refine gV ?_;refine H.pd (x := row ab _ _) ?_;refine H.Ah (i + 1) ⟨by show i + 1 ≤ x.m.body.q.length; omega, fun j y hj hy => ?_⟩ (by show x.m.body.q.length - (i + 1) < x.m.body.q.length - i; omega) ⟨rfl, rfl, rfl, rfl, rfl, trivial⟩ rfl rfl;exact qcf
   | false =>
    have hqo : qokB l x.m = false := List.all_eq_false.2 ⟨p, hpm, by rw [hcb, Bool.and_false]; decide⟩;refine gA ?_
    exact qbd
  ·have hqo : qokB l x.m = false := List.all_eq_false.2 ⟨p, hpm, by rw [← hre, decide_eq_false h1, Bool.false_and]; decide⟩;refine gU ?_
   refine qda ?_;refine HB.ev 25 ?_;refine gC ?_;exact qbd
 ·have hqo : qokB l x.m = true := List.all_eq_true.2 fun p hp => by
   exact qby
  have hqz : decide (((x.m.body.q.length : Nat) : Int) = ((l.n / 2 : Nat) : Int) + 1) = decide (x.m.body.q.length = l.n / 2 + 1) := decide_eq_decide.2 (by omega);clear hb
  rw [hqo, Bool.true_and, ← hqz];refine gZ ?_;refine H.dq ?_;refine gQ ?_;refine HQ.quo (z := ((l.n / 2 : Nat) : Int)) rfl rfl rfl (by decide) (by rw [show (2 : Int) = ((2 : Nat) : Int) from rfl, tdiv64, wr_i64 (by omega)]) rfl ?_;refine gL ?_;refine qgr ?_;exact qam
end
def bmax (a z : Int × Int) : Int × Int := if a.1 < z.1 ∨ (z.1 = a.1 ∧ a.2 < z.2) then z else a
theorem bestOf_yes {bv : Int} {z : Int × Int} {r : List (Int × Int)} {a : Int × Int} (h : z.1 < bv) : bestOf bv (z :: r) a = bestOf bv r (bmax a z) := by
 rw [bestOf_cons];unfold bmax;by_cases h2 : a.1 < z.1 ∨ (z.1 = a.1 ∧ a.2 < z.2)
 ·rw [if_pos ⟨h, h2⟩, if_pos h2]
 ·rw [if_neg (fun h3 => h2 h3.2), if_neg h2]
theorem bestOf_no {bv : Int} {z : Int × Int} {r : List (Int × Int)} {a : Int × Int} (h : ¬ z.1 < bv) : bestOf bv (z :: r) a = bestOf bv r a := by
 rw [bestOf_cons, if_neg (fun h3 => h h3.1)]
theorem voted_at : ∀ {l : List (Int × Int)}, (l.map (·.1)).Pairwise (· < ·) → ∀ {z : Int × Int}, z ∈ l → PM.voted l z.1 = some z.2
 | [], _, z, h => by cases h
 | (w, n) :: r, hr, z, h => by
  rw [List.map_cons, List.pairwise_cons] at hr
  unfold PM.voted
  by_cases e : z.1 = w
  ·rw [if_pos e]
   rcases List.mem_cons.1 h with h | h
   ·rw [h]
   ·have := hr.1 z.1 (List.mem_map.2 ⟨z, h, rfl⟩)
    simp only at this
    omega
  ·rw [if_neg e]
   rcases List.mem_cons.1 h with h | h
   ·rw [h] at e; exact absurd rfl e
   ·exact voted_at hr.2 h
section
variable (f : Frag) (F : List HP)
theorem plvoted1_fn {b : Nat} {s : PM} {z : Int × Int} (hz : PM.voted s.all z.1 = some z.2) : Fn Tryz.prog 49 [.pointer (some ⟨b, 0, none⟩), .int .u64 z.1] f (pastH b s :: F) (Ret (.tuple #[.int .i64 z.2, .bool true]) f (pastH b s :: F)) := by
 have h := voted_fn f F b s z.1;rw [hz] at h
 exact h
theorem votes_fn {lb : Nat} {p : Option Addr} {m c : Nat} {bv : Int} : Fn Tryz.prog 120 [.pointer (some ⟨lb, 0, none⟩), .slice p m c, .int .u64 bv] f F
  (RetE (α := Nat × Nat × Nat) (fun b => .func (.func 173) #[] #[.pointer (some ⟨b.1, 0, none⟩), .pointer (some ⟨b.2.1, 0, none⟩), .pointer (some ⟨b.2.2, 0, none⟩)]) f
   (fun b => row b.1 45 [.slice p m c] :: row b.2.1 27 [.pointer (some ⟨lb, 0, none⟩)] :: row b.2.2 31 [.int .u64 bv] :: F)) := by
 refine Fn.e3 Tryz.func120 Tryz.ntmps120 fun base => ?_;refine gA ?_;refine H.box (ls := [.pointer (some ⟨lb, 0, none⟩)]) rfl rfl rfl rfl fun b2 => ?_;refine H.box (ls := [.slice p m c]) rfl rfl rfl rfl fun b1 => ?_;refine H.box (ls := [.int .u64 bv]) rfl rfl rfl rfl fun b3 => ?_;refine gR ?_;refine H.pf (x := row b2 _ _) ?_;refine H.pf (x := row b1 _ _) ?_;exact H.Ac rfl rfl (fun _ h => h) ⟨(b1, b2, b3), rfl, rfl, rfl⟩
set_option maxRecDepth 20000 in
set_option maxHeartbeats 3200000 in
theorem votes1_fn {fl : Frag} (hfl : Le fl f) {lb : Nat} {l : Lgs} {T : Nat} (hL : LI l T) (hT : T ≤ 50000) {i : PPt} (hi : plφ fl l i) {qp : Option Addr} {qc : Nat} {q : List (Int × Int)} (hq : QAt f qp q) (hql : q.length ≤ 1000000) (hm : ∀ p ∈ q, 1 ≤ p.1 ∧ p.1 ≤ (l.n : Int)) {bv : Int} {lp : Nat} {X : Int × Int → HP}
  (hY : ∀ (a z : Int × Int) (G : List HP), YieldFn Tryz.prog lp [.int .u64 z.1, .int .i64 z.2] f (X a :: G) (fun v g B => v = .bool true ∧ g = f ∧ B = X (bmax a z) :: G)) {b1 b2 b3 : Nat} (a0 : Int × Int) :
  Fn Tryz.prog 173 ([] ++ [.func (.yield lp) #[] #[]] ++ [.pointer (some ⟨b1, 0, none⟩), .pointer (some ⟨b2, 0, none⟩), .pointer (some ⟨b3, 0, none⟩)]) f
   (X a0 :: row b1 45 [.slice qp q.length qc] :: row b2 27 [.pointer (some ⟨lb, 0, none⟩)] :: row b3 31 [.int .u64 bv] :: row lb 113 (plC l.n l.known i.vb i.pp i.pc i.cp i.cc) :: fam (fun r => pastH (i.pb r) (l.past r)) l.n :: F)
   (Ret (.tuple #[]) f (X (bestQ l.past bv q a0) :: row b1 45 [.slice qp q.length qc] :: row b2 27 [.pointer (some ⟨lb, 0, none⟩)] :: row b3 31 [.int .u64 bv] :: row lb 113 (plC l.n l.known i.vb i.pp i.pc i.cp i.cc) :: fam (fun r => pastH (i.pb r) (l.past r)) l.n :: F)) := by
 have hn := hL.n3;have hqat : ListAt f qp 2 pairV q := hq
 have hpa := fun (o : Nat) (ho : o < l.n) (r : Int) (hr : r = ((o + 1 : Nat) : Int)) (G : List HP) => plpast_fn f G hfl (lb := lb) hi hn.2 ho hr;obtain ⟨V, vb, pp, pc, cp, cc, pb, cs⟩ := i
 show Fn _ _ _ f (_ :: _ :: _ :: _ :: row lb 113 (plC l.n l.known vb pp pc cp cc) :: fam (fun r => pastH (pb r) (l.past r)) l.n :: F) (Ret _ f (_ :: _ :: _ :: _ :: row lb 113 (plC l.n l.known vb pp pc cp cc) :: fam (fun r => pastH (pb r) (l.past r)) l.n :: F));have hpa : ∀ (o : Nat), o < l.n → ∀ (r : Int), r = ((o + 1 : Nat) : Int) → ∀ (G : List HP), Fn Tryz.prog 48 [.pointer (some ⟨lb, 0, none⟩), .int .i64 r] f (row lb 113 (plC l.n l.known vb pp pc cp cc) :: G) (Ret (.pointer (some ⟨pb o, 0, none⟩)) f (row lb 113 (plC l.n l.known vb pp pc cp cc) :: G)) := hpa;refine Fn.e4 Tryz.func173 Tryz.ntmps173 fun base => ?_
 refine gS ?_
 refine H.Ar (ι := Nat × Int × Int) (fun s => [(14, .int .i64 (s.1 : Int)), (13, .int .i64 (q.length : Nat)), (12, .slice qp q.length qc), (0, .func (.yield lp) #[] #[]), (2, .pointer (some ⟨b2, 0, none⟩)), (3, .pointer (some ⟨b3, 0, none⟩))]) (fun _ => f)
  (fun s => X s.2 :: row b1 45 [.slice qp q.length qc] :: row b2 27 [.pointer (some ⟨lb, 0, none⟩)] :: row b3 31 [.int .u64 bv] :: row lb 113 (plC l.n l.known vb pp pc cp cc) :: fam (fun r => pastH (pb r) (l.past r)) l.n :: F)
  (fun s => s.1 ≤ q.length ∧ bestQ l.past bv (q.drop s.1) s.2 = bestQ l.past bv q a0) (fun s => q.length - s.1) (0, a0) ⟨Nat.zero_le _, rfl⟩ ⟨rfl, rfl, rfl, rfl, rfl, rfl, trivial⟩ rfl rfl fun s hs => ?_
 obtain ⟨j, a⟩ := s;obtain ⟨hj1, hbq⟩ : j ≤ q.length ∧ bestQ l.past bv (q.drop j) a = bestQ l.past bv q a0 := hs;show H _ _ _ [(14, .int .i64 (j : Int)), _, _, _, _, _] f (X a :: _ :: _ :: _ :: _ :: _ :: F) _;by_cases hlt : j < q.length
 ·obtain ⟨p, hp⟩ : ∃ p, q[j]? = some p := ⟨_, List.getElem?_eq_getElem hlt⟩;have hpm := List.mem_of_getElem? hp;have hpq := hm p hpm
  obtain ⟨r, hre⟩ : ∃ r, r = (p.1 - 1).toNat := ⟨_, rfl⟩; have hr : r < l.n := by omega
  obtain ⟨qb, qoff, qcs, qT, qfr, hqp, hqfb, hqcs⟩ := hqat j p hp;have rd : ∀ A, Rd f A qb (qoff + j * 2) (pairV p) := fun A => Rd.imm hqfb hqcs;rw [show q.drop j = p :: q.drop (j + 1) by rw [List.drop_eq_getElem_cons hlt, (List.getElem?_eq_some_iff.1 hp).2]] at hbq
  rw [bestQ_cons] at hbq;rw [← hre] at hbq;have hwf := hL.wf r hr;have hil := hL.il r hr
  have halen := all_len (l.past r);have hen := fun G => entered_fn f G (pb r) (l.past r) (by omega)
  have hpar := hpa r hr p.1 (by omega);clear hpa
  refine gF ?_;refine H.Aq (b := qb) (off := qoff) (i := j) rfl (by rw [← hqp]; rfl) rfl rfl hlt rfl ?_;refine H.Af (ls := pairV p) rfl rfl rfl (rd _) rfl rfl ?_;refine H.Au (ls := pairV (0, 0)) rfl rfl rfl fun ab => ?_;refine H.Aj (ls := pairV (0, 0)) (vs := pairV p) (ls' := pairV p) rfl rfl rfl (zaa rfl) rfl rfl (Nat.le_refl 2) (.here _ _ _) ?_;refine gE ?_;refine qdh ?_;refine H.Ad rfl rfl rfl (hpar _) ?_;refine gH ?_;refine qez ?_;refine H.Cm hr ?_;refine H.Aw rfl rfl rfl (hen _) fun v f' A' hR => ?_;obtain ⟨ep, ec, rfl, hff, rfl⟩ := hR;rw [hff];clear hen hff;refine gT ?_;refine H.pf (x := row b3 _ _) ?_;refine H.pf (x := X a) ?_
  refine H.Ar (ι := Nat × Int × Int) (fun s => [(25, .int .i64 (s.1 : Int)), (24, .int .i64 (((l.past r).init.length + 1 : Nat) : Int)), (23, .slice ep ((l.past r).init.length + 1) ec), (7, .pointer (some ⟨pb r, 0, none⟩)), (14, .int .i64 (j : Int)), (13, .int .i64 (q.length : Nat)), (12, .slice qp q.length qc), (0, .func (.yield lp) #[] #[]), (2, .pointer (some ⟨b2, 0, none⟩)), (3, .pointer (some ⟨b3, 0, none⟩))]) (fun _ => f)
   (fun s => X s.2 :: row b3 31 [.int .u64 bv] :: slc ep ((l.past r).init.length + 1) ec 31 1 (viewsV (l.past r).all) :: pastH (pb r) (l.past r) :: fam (updF (fun r => pastH (pb r) (l.past r)) r emp) l.n :: row lb 113 (plC l.n l.known vb pp pc cp cc) :: row ab 69 (pairV p) :: row b1 45 [.slice qp q.length qc] :: row b2 27 [.pointer (some ⟨lb, 0, none⟩)] :: F)
   (fun s => s.1 ≤ (l.past r).all.length ∧ bestOf bv ((l.past r).all.drop s.1) s.2 = bestOf bv (l.past r).all a) (fun s => (l.past r).all.length - s.1) (0, a) ⟨Nat.zero_le _, rfl⟩ ⟨rfl, rfl, rfl, rfl, rfl, rfl, rfl, rfl, rfl, rfl, trivial⟩ rfl rfl fun s hs => ?_
  obtain ⟨k, a2⟩ := s;obtain ⟨hk1, hbo⟩ : k ≤ (l.past r).all.length ∧ bestOf bv ((l.past r).all.drop k) a2 = bestOf bv (l.past r).all a := hs;show H _ _ _ [(25, .int .i64 (k : Int)), _, _, _, _, _, _, _, _, _] f (X a2 :: _ :: _ :: _ :: _ :: _ :: _ :: _ :: _ :: F) _;by_cases hk : k < (l.past r).all.length
  ·obtain ⟨z, hz⟩ : ∃ z, (l.past r).all[k]? = some z := ⟨_, List.getElem?_eq_getElem hk⟩;rw [show (l.past r).all.drop k = z :: (l.past r).all.drop (k + 1) by rw [List.drop_eq_getElem_cons hk, (List.getElem?_eq_some_iff.1 hz).2]] at hbo;have hvo := fun G => plvoted1_fn f G (b := pb r) (s := l.past r) (z := z) (voted_at hwf.rise (List.mem_of_getElem? hz));refine H.Bl (p := ep) (n0 := (l.past r).init.length + 1) (c := ec) (T := 31) (sz := 1) (xs := viewsV (l.past r).all) (.there _ (.there _ (.here _ _ _))) (by omega) fun eb hep => ?_
   subst hep;refine gF ?_;refine H.Aq (i := k) rfl rfl rfl rfl (by omega) rfl ?_;refine H.Ab rfl rfl rfl (by rw [Nat.zero_add, Nat.mul_one]; exact Rd1.at0 (Rd.ofSlc (.there _ (.there _ (.here _ _ _))) (by omega)) (v := .int .u64 z.1) (by rw [viewsV, List.getElem?_map, hz]; rfl)) rfl ?_;refine gH ?_;refine H.pf (x := pastH (pb r) _) ?_;refine H.Ad rfl rfl rfl (hvo _) ?_
   iterate 8 ( first
    | ((first | apply H.Ag | apply H.Al | apply H.Bf | apply H.Bn | apply H.Bw | apply H.Ce); (iterate 3 exact rfl))
    | (apply H.Av; (iterate 3 exact rfl); exact inferInstance; exact rfl)
    | (apply H.Ab; (iterate 3 exact rfl); apply Rd1.ofRow; (repeat (first | exact .here _ _ _ | apply At.there)); (iterate 2 exact rfl))
    | (first | apply H.seq | apply H.Am | apply H.nil | apply H.Ao)
    | ((first | apply H.cmp | apply H.Ax); (iterate 5 exact rfl))
    | ((first | (apply H.ar; (iterate 4 exact rfl)) | (apply H.Bg; (iterate 2 exact rfl))); (first | (with_reducible apply zau; omega) | (with_reducible apply zaq; omega) | (with_reducible apply zaw; omega) | (with_reducible apply wr_i64; omega) | (with_reducible apply wr_u64; omega) | (with_reducible apply wr_u8; omega) | (with_reducible apply wr_u16; omega) | rfl); exact rfl)
    | (apply H.Bq; (iterate 2 exact rfl))
    | (apply H.pass0; exact rfl)
    | (apply H.Bp; (iterate 4 exact rfl))
    | ((first | apply H.Bd | apply H.Ca | apply H.not | apply H.Cp); (iterate 4 exact rfl))
    | ((first | apply H.Cl | apply H.Cn); (iterate 5 exact rfl))
    | (apply H.Bc; (iterate 4 exact rfl); (repeat (first | exact .here _ _ _ | apply At.there)); (repeat (first | exact .here _ _ _ | apply SetV.there)))
    | (apply H.Co; exact rfl)
    | (apply H.Cj; exact rfl)
    | (first | apply H.Bk | apply H.ret | apply H.Cd | apply H.Cc | apply H.exit | apply H.Bb | apply H.Bz | apply H.Ch | apply H.Cb | apply H.Ci | apply H.Cf)
    | (apply H.Cw; exact rfl)
    | (apply H.Br; (iterate 3 exact rfl); (first | assumption | omega))
    | (apply H.gno; (iterate 3 exact rfl); (first | assumption | omega))
    | (apply H.Bo; exact rfl; (first | assumption | omega))
    | (apply H.Bu; exact rfl; (first | assumption | omega))
    | ((first | apply H.gtrue); (iterate 3 exact rfl); assumption)
    | (apply H.gfalse; (iterate 3 exact rfl); assumption)
    | (apply H.cond_t; exact rfl; assumption)
    | (apply H.cond_f; exact rfl; assumption) )
   refine H.regionY ?_;refine H.inOp (by with_reducible (repeat (first | exact zbd | exact zay | exact zam | exact zao | refine zax ?_ | refine zan ?_ | refine zat ?_ | refine zas ?_ | refine zbe ?_))) ?_;refine gH ?_;refine H.Cq ?_;refine H.inOp (by with_reducible (repeat (first | exact zbd | exact zay | exact zam | exact zao | refine zax ?_ | refine zan ?_ | refine zat ?_ | refine zas ?_ | refine zbe ?_))) ?_;refine gE ?_;refine H.Cq ?_;refine H.inOp (by with_reducible (repeat (first | exact zbd | exact zay | exact zam | exact zao | refine zax ?_ | refine zan ?_ | refine zat ?_ | refine zas ?_ | refine zbe ?_))) ?_;refine gN ?_;refine H.Cq ?_;refine H.inOp (by with_reducible (repeat (first | exact zbd | exact zay | exact zam | exact zao | refine zax ?_ | refine zan ?_ | refine zat ?_ | refine zas ?_ | refine zbe ?_))) ?_;refine gH ?_;refine H.Cq ?_;by_cases hzb : z.1 < bv
   ·rw [bestOf_yes hzb] at hbo;refine H.inOp (by with_reducible (repeat (first | exact zbd | exact zay | exact zam | exact zao | refine zax ?_ | refine zan ?_ | refine zat ?_ | refine zas ?_ | refine zbe ?_))) ?_;refine gW ?_;refine H.Cq ?_;refine H.inOp (by with_reducible (repeat (first | exact zbd | exact zay | exact zam | exact zao | refine zax ?_ | refine zan ?_ | refine zat ?_ | refine zas ?_ | refine zbe ?_))) ?_;refine gH ?_;refine H.Cq ?_;refine H.inOp (by with_reducible (repeat (first | exact zbd | exact zay | exact zam | exact zao | refine zax ?_ | refine zan ?_ | refine zat ?_ | refine zas ?_ | refine zbe ?_))) ?_;refine gH ?_;refine H.Cq ?_;refine H.pf (x := X a2) ?_;refine H.yield rfl rfl rfl rfl (hY a2 z _) fun v f' A' hR => ?_;obtain ⟨rfl, hff, rfl⟩ := hR;rw [hff];clear hff;refine H.inOp (by with_reducible (repeat (first | exact zbd | exact zay | exact zam | exact zao | refine zax ?_ | refine zan ?_ | refine zat ?_ | refine zas ?_ | refine zbe ?_))) ?_;refine gR ?_;refine H.Cq ?_;refine H.inOp (by with_reducible (repeat (first | exact zbd | exact zay | exact zam | exact zao | refine zax ?_ | refine zan ?_ | refine zat ?_ | refine zas ?_ | refine zbe ?_))) ?_;refine gZ ?_;refine qfa ?_;exact H.Ah (k + 1, bmax a2 z) ⟨by show k + 1 ≤ (l.past r).all.length; omega, hbo⟩ (by show (l.past r).all.length - (k + 1) < (l.past r).all.length - k; omega) ⟨rfl, rfl, rfl, rfl, rfl, rfl, rfl, rfl, rfl, rfl, trivial⟩ rfl rfl
   ·rw [bestOf_no hzb] at hbo;refine H.inOp (by with_reducible (repeat (first | exact zbd | exact zay | exact zam | exact zao | refine zax ?_ | refine zan ?_ | refine zat ?_ | refine zas ?_ | refine zbe ?_))) ?_;refine gc ?_;refine H.Cq ?_;refine H.inOp (by with_reducible (repeat (first | exact zbd | exact zay | exact zam | exact zao | refine zax ?_ | refine zan ?_ | refine zat ?_ | refine zas ?_ | refine zbe ?_))) ?_;refine gC ?_;refine H.Cq ?_;refine H.inOp (by with_reducible (repeat (first | exact zbd | exact zay | exact zam | exact zao | refine zax ?_ | refine zan ?_ | refine zat ?_ | refine zas ?_ | refine zbe ?_))) ?_;refine gC ?_;refine H.Cq ?_;refine H.inOp (by with_reducible (repeat (first | exact zbd | exact zay | exact zam | exact zao | refine zax ?_ | refine zan ?_ | refine zat ?_ | refine zas ?_ | refine zbe ?_))) ?_;refine gC ?_;refine H.Cq ?_;refine H.inOp (by with_reducible (repeat (first | exact zbd | exact zay | exact zam | exact zao | refine zax ?_ | refine zan ?_ | refine zat ?_ | refine zas ?_ | refine zbe ?_))) ?_;refine gC ?_;refine H.Cq ?_;refine H.inOp (by with_reducible (repeat (first | exact zbd | exact zay | exact zam | exact zao | refine zax ?_ | refine zan ?_ | refine zat ?_ | refine zas ?_ | refine zbe ?_))) ?_;refine gR ?_;refine qfa ?_;exact H.Ah (k + 1, a2) ⟨by show k + 1 ≤ (l.past r).all.length; omega, hbo⟩ (by show (l.past r).all.length - (k + 1) < (l.past r).all.length - k; omega) ⟨rfl, rfl, rfl, rfl, rfl, rfl, rfl, rfl, rfl, rfl, trivial⟩ rfl rfl
  ·have e : k = (l.past r).all.length := by omega
   subst e;rw [List.drop_length] at hbo;have hbo : a2 = bestOf bv (l.past r).all a := hbo;rw [← hbo] at hbq
   refine gZ ?_;refine H.pd (x := slc ep _ ec _ _ _) ?_;refine H.pd (x := row ab _ _) ?_;refine H.pf (x := fam (updF _ _ _) _) ?_;refine H.pf (x := pastH (pb r) _) ?_;refine qgO ?_;refine qdh ?_;refine H.pf (x := row b3 _ _) ?_;refine H.pf (x := row b2 _ _) ?_;refine H.pf (x := row b1 _ _) ?_;refine H.pf (x := X _) ?_;exact H.Ah (j + 1, a2) ⟨by show j + 1 ≤ q.length; omega, hbq⟩ (by show q.length - (j + 1) < q.length - j; omega) ⟨rfl, rfl, rfl, rfl, rfl, rfl, trivial⟩ rfl rfl
 ·have e : j = q.length := by omega
  subst e;rw [List.drop_length] at hbq;have hbq : a = bestQ l.past bv q a0 := hbq;rw [← hbq]
  refine gZ ?_;exact qaU
end
theorem Lgs.begins_no {l : Lgs} {m : Msg} (ho : l.n % 2 = 1) (h : (qokB l m && decide (m.body.q.length = l.n / 2 + 1)) = false) : l.begins m = (false, l) := by
 unfold Lgs.begins;by_cases h1 : m.body.q.length ≠ (l.n - 1) / 2 + 1
 ·rw [if_pos h1]
 ·rw [if_neg h1, if_pos];rw [decide_eq_true (show m.body.q.length = l.n / 2 + 1 by omega), Bool.and_true] at h;exact h
theorem Lgs.begins_en {l : Lgs} {m : Msg} (ho : l.n % 2 = 1) (h : (qokB l m && decide (m.body.q.length = l.n / 2 + 1)) = true) {u : Int} {ln iv : Nat} {w : Vw} (hb : bestQ l.past m.body.view m.body.q (0, 0) = (u, (ln : Int))) (hat : vwAt l.vs u = some iv) (hw : l.vs[iv]? = some w) : l.begins m =
  if (l.past (orgI m)).enterOk m.body.view ln = false then (false, l) else
  (true, { l with past := updF l.past (orgI m) ((l.past (orgI m)).enter m.body.view ln), vs := insV ⟨m.body.view, m.number, w.all.take ln, []⟩ l.vs }) := by
 rw [Bool.and_eq_true] at h;have h2 := of_decide_eq_true h.2;unfold Lgs.begins
 have h1 : (m.body.q.all fun q => decide (q.2 ≤ m.deps (q.1 - 1).toNat) && chB l q m.body.view) = true := h.1
 have h3 : ((match vwAt l.vs u with | none => [] | some i => (l.vs[i]?.map Vw.all).getD []).take (ln : Int).toNat) = w.all.take ln := by
  rw [hat];show ((l.vs[iv]?.map Vw.all).getD []).take (ln : Int).toNat = _;rw [hw];rfl
 rw [hb, if_neg (by omega), if_neg (by rw [h1]; decide), ← h3];rfl
theorem LI.fresh {l : Lgs} {T : Nat} (h : LI l T) {v k : Int} (hr : primI l.n v < l.n) (he : (l.past (primI l.n v)).enterOk v k = true) : vwAt l.vs v = none := by
 have hw := h.wf _ hr;have he := of_decide_eq_true he
 refine vwAt_none.2 fun w hm e => ?_;by_cases h0 : w.v = 0
 ·have := hw.last;omega
 ·obtain ⟨p, hp, h1⟩ := h.begun w hm h0;rw [e] at hp h1;exact hw.not_all he.1 (List.mem_map.2 ⟨p, hp, h1⟩)
theorem ent_fresh {l : Lgs} {V : List PV} (h : (V.map PV.w).Perm l.vs) {v : Int} (hv : vwAt l.vs v = none) : v ∉ (V.map PV.ent).map (·.1) := fun hm => by
 obtain ⟨e, he, h1⟩ := List.mem_map.1 hm
 obtain ⟨x, hx, rfl⟩ := List.mem_map.1 he
 exact vwAt_none.1 hv x.w (h.mem_iff.1 (List.mem_map.2 ⟨x, hx, rfl⟩)) h1
section
variable (f : Frag) (F : List HP)
set_option maxRecDepth 20000 in
set_option maxHeartbeats 3200000 in
theorem plnew_view_fn {fl : Frag} (hfl : Le fl f) {lb : Nat} {l : Lgs} {T : Nat} (hL : LI l T) (hT : T ≤ 50000) (hodd : l.n % 2 = 1) {x : MV} (hx : x.Good f) (hm : MIn l.n x.m) (hk : x.m.body.kind = 4) {i : PPt} (hi : plφ fl l i) {r : Nat} (hre : r = orgI x.m) :
  Fn Tryz.prog 83 [.pointer (some ⟨lb, 0, none⟩), .agg x.vals.toArray, .pointer (some ⟨i.pb r, 0, none⟩)] f (plB lb l i ++ F) (Ret (.bool (l.counts x.m).1) f (plogH f lb (l.counts x.m).2 :: F)) := by
 have hiF := hi.mono hfl;have hn := hL.n3
 have hor := hm.o; have hr : r < l.n := by rw [hre]; unfold orgI; omega
 have hwf := hL.wf r hr;have hil := hL.il r hr
 have hvl := hL.vl;have hv0 := hm.v
 have hvs := hi.vs; have hql : x.m.body.q.length ≤ 1000000 := by have := hx.2.1; omega
 have hvo1 := fun (lp : Nat) (X : Int × Int → HP) (hY) (b1 b2 b3 : Nat) (G : List HP) => votes1_fn f G hfl (lb := lb) hL hT hi (q := x.m.body.q) (qc := x.qc) hx.1 hql hm.q (bv := x.m.body.view) (lp := lp) (X := X) hY (b1 := b1) (b2 := b2) (b3 := b3) (0, 0);obtain ⟨V, vb, pp, pc, cp, cc, pb, cs⟩ := i
 have hvs : (V.map PV.w).Perm l.vs := hvs
 have hvo1 : ∀ (lp : Nat) (X : Int × Int → HP), (∀ (a z : Int × Int) (G : List HP), YieldFn Tryz.prog lp [.int .u64 z.1, .int .i64 z.2] f (X a :: G) (fun v g B => v = .bool true ∧ g = f ∧ B = X (bmax a z) :: G)) → ∀ (b1 b2 b3 : Nat) (G : List HP), Fn Tryz.prog 173 ([] ++ [.func (.yield lp) #[] #[]] ++ [.pointer (some ⟨b1, 0, none⟩), .pointer (some ⟨b2, 0, none⟩), .pointer (some ⟨b3, 0, none⟩)]) f
   (X (0, 0) :: row b1 45 [.slice x.qp x.m.body.q.length x.qc] :: row b2 27 [.pointer (some ⟨lb, 0, none⟩)] :: row b3 31 [.int .u64 x.m.body.view] :: row lb 113 (plC l.n l.known vb pp pc cp cc) :: fam (fun r => pastH (pb r) (l.past r)) l.n :: G)
   (Ret (.tuple #[]) f (X (bestQ l.past x.m.body.view x.m.body.q (0, 0)) :: row b1 45 [.slice x.qp x.m.body.q.length x.qc] :: row b2 27 [.pointer (some ⟨lb, 0, none⟩)] :: row b3 31 [.int .u64 x.m.body.view] :: row lb 113 (plC l.n l.known vb pp pc cp cc) :: fam (fun r => pastH (pb r) (l.past r)) l.n :: G)) := hvo1
 have hprim := fun G => plprim_fn f G (lb := lb) (n := l.n) (kn := l.known) (vb := vb) (pp := pp) (pc := pc) (cp := cp) (cc := cc) (by omega) hv0;have hqu := fun G => plquorum_fn f G hL hT hx hm (lb := lb) (vb := vb) (pp := pp) (pc := pc) (cp := cp) (cc := cc) (cs := cs)
 rw [Lgs.counts_4 hk];refine qcV ?_;by_cases hp : primZ l.n x.m.body.view = x.m.origin
 ·rw [if_pos (decide_eq_true hp)]
  cases hqk : qokB l x.m && decide (x.m.body.q.length = l.n / 2 + 1) with
  | false =>
   rw [Lgs.begins_no hodd hqk];rw [hqk] at hqu;refine qfu fun base => ?_;refine qcZ fun mb => ?_;refine gE ?_;refine H.drawB (by kernel_rfl) (by decide +kernel) (by with_reducible (repeat (first | exact blind_fnM | refine zab ?_ | refine zag ?_ | refine zai ?_))) (S := [_]) rfl ?_;refine HB.qu [0,1,3,4] 8 ?_;refine qej ?_;refine gA ?_;refine qdw ?_;exact qaG
  | true =>
   obtain ⟨⟨u, z⟩, hbq⟩ : ∃ b, bestQ l.past x.m.body.view x.m.body.q (0, 0) = b := ⟨_, rfl⟩;have hbest := hL.best hm;rw [hbq] at hbest hvo1
   obtain ⟨iv, w, hat, hw, hz0, hz1⟩ : ∃ i w, vwAt l.vs u = some i ∧ l.vs[i]? = some w ∧ 0 ≤ z ∧ z ≤ (w.all.length : Int) := hbest;obtain ⟨ln, rfl⟩ : ∃ ln : Nat, z = (ln : Int) := ⟨z.toNat, by omega⟩; have hln : ln ≤ w.all.length := by omega
   obtain ⟨j, X, hX, hXw, hgetX⟩ := view_some hvs hL.rise hat hw; have hget : (getKV (V.map PV.ent) u).getD (.pointer none) = .pointer (some ⟨X.b, 0, none⟩) := by rw [hgetX]; rfl
   subst hXw;have hXl := hL.al X.w (List.mem_of_getElem? hw);rw [Lgs.begins_en hodd hqk hbq hat hw, ← hre]
   rw [hqk] at hqu;refine qfu fun base => ?_;refine qcZ fun mb => ?_;refine gE ?_;refine H.drawB (by kernel_rfl) (by decide +kernel) (by with_reducible (repeat (first | exact blind_fnM | refine zab ?_ | refine zag ?_ | refine zai ?_))) (S := [_]) rfl ?_;refine HB.qu [0,1,3,4] 8 ?_;refine qej ?_;refine gA ?_;refine qfM ?_;refine HB.qu [10,11] 0 ?_;refine qdl ?_;refine gV ?_;refine H.Au (ls := [.int .u64 0]) rfl rfl rfl fun ub => ?_;refine H.Au (ls := [.int .i64 0]) rfl rfl rfl fun nb => ?_;refine gS ?_;refine H.callE rfl rfl rfl (votes_fn f _) fun b => ?_;obtain ⟨b1, b2, b3⟩ := b;refine gT ?_;refine H.sub (L' := [(35, .func (.func 173) #[] #[.pointer (some ⟨b1, 0, none⟩), .pointer (some ⟨b2, 0, none⟩), .pointer (some ⟨b3, 0, none⟩)]), (9, .pointer (some ⟨nb, 0, none⟩)), (8, .pointer (some ⟨ub, 0, none⟩)), (7, .int .u64 x.m.body.view), (4, .pointer (some ⟨mb, 0, none⟩)), (2, .pointer (some ⟨pb r, 0, none⟩)), (0, .pointer (some ⟨lb, 0, none⟩))]) ⟨rfl, rfl, rfl, rfl, rfl, rfl, rfl, trivial⟩ ?_;refine qez ?_;refine qdh ?_;refine H.pf (x := row b3 _ _) ?_;refine H.pf (x := row b2 _ _) ?_;refine H.pf (x := row b1 _ _) ?_;refine H.pf (x := row nb _ _) ?_;refine H.pf (x := row ub _ _) ?_;refine H.rangeFuncE (f' := f) (fs := []) (cs := [.pointer (some ⟨b1, 0, none⟩), .pointer (some ⟨b2, 0, none⟩), .pointer (some ⟨b3, 0, none⟩)]) rfl rfl fun LH hLH => ⟨Unit, fun _ D => pts D (.deferred (some [])) :: row ub 31 [.int .u64 u] :: row nb 3 [.int .i64 (ln : Int)] :: row b1 45 [.slice x.qp x.m.body.q.length x.qc] :: row b2 27 [.pointer (some ⟨lb, 0, none⟩)] :: row b3 31 [.int .u64 x.m.body.view] :: row lb 113 (plC l.n l.known vb pp pc cp cc) :: fam (fun r => pastH (pb r) (l.past r)) l.n :: row mb 49 x.vals :: slc cp l.n cc 179 1 (chRow l cs) :: fam (pcFam l cs) l.n :: mp vb keyU (V.map PV.ent) :: lst (V.map PV.own) :: F, fun D lp => ?_, fun _ D => ?_⟩
   ·refine Fn.wrap (pack_all [LH D lp .ready, pts D (.deferred (some [])), row ub 31 [.int .u64 0], row nb 3 [.int .i64 0]] _) (hvo1 lp (fun a => stars [LH D lp .ready, pts D (.deferred (some [])), row ub 31 [.int .u64 a.1], row nb 3 [.int .i64 a.2]]) (fun a z G => ?_) b1 b2 b3 _) fun v g B hR => ?_
    ·refine YieldFn.wrap (R1 := fun v g B => v = .bool true ∧ g = f ∧ B = LH D lp .ready :: pts D (.deferred (some [])) :: row ub 31 [.int .u64 (bmax a z).1] :: row nb 3 [.int .i64 (bmax a z).2] :: G) (open_all _ _) ?_ ?_
     ·subst hLH;refine YieldFn.of rfl rfl rfl rfl fun base => ?_
      repeat (
       first | (
        first
       | (first | apply H.seqR | apply H.thenR | apply H.skipR | apply H.blockR)
       | (apply H.regionR; exact rfl; exact (by with_reducible (repeat (first | exact zbd | exact zay | exact zam | exact zao | refine zax ?_ | refine zan ?_ | refine zat ?_ | refine zas ?_ | refine zbe ?_))))
       | (apply H.Cy; exact rfl)
       | (apply H.Cx; exact rfl)
       | (apply H.Cz; exact rfl; (first | assumption | omega))
       | (apply H.condR_no; exact rfl; (first | assumption | omega))) | (
        first
       | ((first | apply H.Ag | apply H.Al | apply H.Bf | apply H.Bn | apply H.Bw | apply H.Ce); (iterate 3 exact rfl))
       | (apply H.Av; (iterate 3 exact rfl); exact inferInstance; exact rfl)
       | (apply H.Ab; (iterate 3 exact rfl); apply Rd1.ofRow; (repeat (first | exact .here _ _ _ | apply At.there)); (iterate 2 exact rfl))
       | (first | apply H.seq | apply H.Am | apply H.nil | apply H.Ao)
       | ((first | apply H.cmp | apply H.Ax); (iterate 5 exact rfl))
       | ((first | (apply H.ar; (iterate 4 exact rfl)) | (apply H.Bg; (iterate 2 exact rfl))); (first | (with_reducible apply zau; omega) | (with_reducible apply zaq; omega) | (with_reducible apply zaw; omega) | (with_reducible apply wr_i64; omega) | (with_reducible apply wr_u64; omega) | (with_reducible apply wr_u8; omega) | (with_reducible apply wr_u16; omega) | rfl); exact rfl)
       | (apply H.Bq; (iterate 2 exact rfl))
       | (apply H.pass0; exact rfl)
       | (apply H.Bp; (iterate 4 exact rfl))
       | ((first | apply H.Bd | apply H.Ca | apply H.not | apply H.Cp); (iterate 4 exact rfl))
       | ((first | apply H.Cl | apply H.Cn); (iterate 5 exact rfl))
       | (apply H.Bc; (iterate 4 exact rfl); (repeat (first | exact .here _ _ _ | apply At.there)); (repeat (first | exact .here _ _ _ | apply SetV.there)))
       | (apply H.Co; exact rfl)
       | (apply H.Cj; exact rfl)
       | (first | apply H.Bk | apply H.ret | apply H.Cd | apply H.Cc | apply H.exit | apply H.Bb | apply H.Bz | apply H.Ch | apply H.Cb | apply H.Ci | apply H.Cf)
       | (apply H.Cw; exact rfl)
       | (apply H.Br; (iterate 3 exact rfl); (first | assumption | omega))
       | (apply H.gno; (iterate 3 exact rfl); (first | assumption | omega))
       | (apply H.Bo; exact rfl; (first | assumption | omega))
       | (apply H.Bu; exact rfl; (first | assumption | omega))
       | ((first | apply H.gtrue); (iterate 3 exact rfl); assumption)
       | (apply H.gfalse; (iterate 3 exact rfl); assumption)
       | (apply H.cond_t; exact rfl; assumption)
       | (apply H.cond_f; exact rfl; assumption)))
      refine H.begin ?_;by_cases h1 : a.1 < z.1
      ·rw [show bmax a z = z by unfold bmax; rw [if_pos (.inl h1)]];exact qa
      ·by_cases h2 : z.1 = a.1
       ·by_cases h3 : a.2 < z.2
        ·rw [show bmax a z = z by unfold bmax; rw [if_pos (.inr ⟨h2, h3⟩)]];exact qa
        ·rw [show bmax a z = a by unfold bmax; rw [if_neg (by rintro (h | h); exact h1 h; exact h3 h.2)]];exact qa
       ·rw [show bmax a z = a by unfold bmax; rw [if_neg (by rintro (h | h); exact h1 h; exact h2 h.1)]];exact qa
     ·rintro v g B ⟨rfl, rfl, rfl⟩;exact ⟨_, ⟨rfl, rfl, rfl⟩, pack_all [_, _, _, _] G⟩
    ·obtain ⟨rfl, rfl, rfl⟩ := hR;exact ⟨_, ⟨(), rfl, rfl⟩, open_all [_, _, _, _] _⟩
   ·have hent := fun G => enter_fn f G (pb r) (l.past r) hwf (by omega) x.m.body.view (ln : Int);show H _ _ _ _ f (pts D (.deferred (some [])) :: row ub 31 [.int .u64 u] :: row nb 3 [.int .i64 (ln : Int)] :: row b1 45 [.slice x.qp x.m.body.q.length x.qc] :: row b2 27 [.pointer (some ⟨lb, 0, none⟩)] :: row b3 31 [.int .u64 x.m.body.view] :: row lb 113 (plC l.n l.known vb pp pc cp cc) :: fam (fun r => pastH (pb r) (l.past r)) l.n :: row mb 49 x.vals :: slc cp l.n cc 179 1 (chRow l cs) :: fam (pcFam l cs) l.n :: mp vb keyU (V.map PV.ent) :: lst (V.map PV.own) :: F) _
    refine H.pd (x := row b1 _ _) ?_;refine H.pd (x := row b2 _ _) ?_;refine H.pd (x := row b3 _ _) ?_;refine gS ?_;refine qez ?_;refine H.Cm hr ?_;refine H.Ad rfl rfl rfl (hent _) ?_
    cases hek : (l.past r).enterOk x.m.body.view ln with
    | false =>
     rw [if_pos rfl];rw [show (l.past r).enter x.m.body.view ln = l.past r by unfold PM.enter; rw [hek]; rfl];refine qgO ?_;refine gR ?_;refine qgo ?_;refine qed ?_;refine qeP ?_;refine H.imp (zak ⟨V, vb, pp, pc, cp, cc, pb, cs⟩ hiF) ?_;exact H.retMk rfl rfl rfl (.there _ (.here _ _)) (fun _ h => h) ⟨rfl, rfl, rfl⟩
    | true =>
     rw [if_neg (by decide)];refine qfA ?_;rw [past_updF];refine gY ?_;refine H.makeMap encA rfl rfl fun hb => ?_;refine H.Ax (t := 108) (out := vwC x.m.number ln none 0 0 none 0 0 hb) rfl rfl rfl (by kernel_rfl) rfl ?_;refine H.box (ls := vwC x.m.number ln none 0 0 none 0 0 hb) rfl rfl rfl rfl fun wb => ?_;refine gH ?_;refine qed ?_;refine H.Cu (x := X.own) (i := j) (by rw [List.getElem?_map, hX]; rfl) ?_;refine qcR ?_;refine H.slc_cap (p := X.lp) (m := X.w.all.length) (c := X.lc) (T := 44) (sz := 40) (xs := X.w.all.flatMap Req.vals) (.there _ (.here _ _ _)) fun hcap _ _ => ?_;refine H.drawQ (by kernel_rfl) (by decide +kernel) (by with_reducible (repeat (first | exact blind_fnM | refine zab ?_ | refine zag ?_ | refine zai ?_))) ?_;refine gQ ?_;refine HQ.Cg (enc := keyU) (k := u) rfl rfl rfl (by repeat constructor) rfl hget rfl ?_;refine gQ ?_;refine HQ.slice (lo := none) (hi := some (.tmp 73)) (mx := none) (lv := 0) (hv := ln) (mv := X.lc) rfl rfl rfl ⟨_, _, rfl, rfl⟩ rfl (fun h => by cases h) (Nat.zero_le _) (by omega) (Nat.le_refl _) rfl ?_;rw [slP0, Nat.sub_zero, Nat.sub_zero];refine gJ ?_;refine gT ?_;refine H.slc0 44 40 ?_;refine H.pf (x := mp hb _ _) ?_;refine H.pf (x := slc none 0 0 _ _ _) ?_;refine qew ?_
     refine H.Ar (ι := Nat × Option Addr × Nat) (fun s => [(76, .int .i64 (s.1 : Int)), (75, .int .i64 (ln : Int)), (74, .slice X.lp ln X.lc), (12, .pointer (some ⟨wb, 0, none⟩)), (7, .int .u64 x.m.body.view), (0, .pointer (some ⟨lb, 0, none⟩)), (1000003, .pointer (some ⟨D, 0, none⟩))]) (fun _ => f)
      (fun s => row wb 108 (vwC x.m.number ln s.2.1 (X.w.all.take s.1).length s.2.2 none 0 0 hb) :: slc s.2.1 (X.w.all.take s.1).length s.2.2 44 40 ((X.w.all.take s.1).flatMap Req.vals) :: mp hb encA (heldKV (X.w.all.take s.1)) :: row X.b 108 (vwC X.w.num X.w.s.length X.lp X.w.all.length X.lc X.np X.w.p.length X.nc X.hb) :: slc X.lp X.w.all.length X.lc 44 40 (X.w.all.flatMap Req.vals) :: slc X.np X.w.p.length X.nc 31 1 (X.w.p.flatMap numV) :: mp X.hb encA (heldKV X.w.all) :: lst ((V.map PV.own).set j emp) :: fam (fun j => pastH (pb j) (updF l.past r ((l.past r).enter x.m.body.view ln) j)) l.n :: pts D (.deferred (some [])) :: row ub 31 [.int .u64 u] :: row nb 3 [.int .i64 (ln : Int)] :: row lb 113 (plC l.n l.known vb pp pc cp cc) :: row mb 49 x.vals :: slc cp l.n cc 179 1 (chRow l cs) :: fam (pcFam l cs) l.n :: mp vb keyU (V.map PV.ent) :: F)
      (fun s => s.1 ≤ ln) (fun s => ln - s.1) (0, none, 0) (Nat.zero_le _) ⟨rfl, rfl, rfl, rfl, rfl, rfl, rfl, rfl⟩ rfl rfl fun s hs => ?_
     obtain ⟨k, lp2, lc2⟩ := s;have hk2 : k ≤ ln := hs;show H _ _ _ [(76, .int .i64 (k : Int)), _, _, _, _, _, _] f (row wb _ (vwC x.m.number ln lp2 (X.w.all.take k).length lc2 none 0 0 hb) :: slc lp2 (X.w.all.take k).length lc2 _ 40 ((X.w.all.take k).flatMap Req.vals) :: mp hb encA (heldKV (X.w.all.take k)) :: _) _
     by_cases hlt : k < ln
     ·obtain ⟨rq, hrq⟩ : ∃ rq, X.w.all[k]? = some rq := ⟨_, List.getElem?_eq_getElem (by omega)⟩; have htk : X.w.all.take (k + 1) = X.w.all.take k ++ [rq] := by rw [List.take_add_one, hrq]; rfl
      refine H.Bl (p := X.lp) (n0 := X.w.all.length) (c := X.lc) (T := 44) (sz := 40) (xs := X.w.all.flatMap Req.vals) (.there _ (.there _ (.there _ (.there _ (.here _ _ _))))) (by omega) fun sb hsb => ?_
      have rd : ∀ (a1 a2 a3 a4 : HP) (G : List HP), Rd f (a1 :: a2 :: a3 :: a4 :: slc X.lp X.w.all.length X.lc 44 40 (X.w.all.flatMap Req.vals) :: G) sb (0 + k * 40) rq.vals := fun a1 a2 a3 a4 G => by
       rw [Nat.zero_add]; exact Rd.slcElem (vals := Req.vals) (xs := X.w.all) (n := X.w.all.length) (c := X.lc) (T := 44) Req.len (by decide) (by rw [← hsb]; exact .there _ (.there _ (.there _ (.there _ (.here _ _ _))))) hrq
      refine gF ?_;refine H.Aq (b := sb) (off := 0) (i := k) rfl (by rw [← hsb]; rfl) rfl rfl hlt rfl ?_;refine H.Af (ls := rq.vals) rfl rfl rfl (rd _ _ _ _ _) rfl rfl ?_;refine qeW fun qb => ?_;refine H.Aj (ls := Req.zero.vals) (vs := rq.vals) (ls' := rq.vals) rfl rfl rfl (zaa rfl) rfl rfl (Nat.le_refl 40) (.here _ _ _) ?_;refine gH ?_;refine H.Af (ls := rq.vals) rfl rfl rfl (Rd.ofRow (.here _ _ _)) rfl rfl ?_;refine H.pd (x := row qb _ _) ?_;refine H.Aw rfl rfl rfl (vput_fn f _ (by rw [List.length_take]; omega) rq) fun v f' A' hR => ?_;obtain ⟨lp3, lc3, hff, rfl⟩ := hR;rw [hff];rw [← htk];refine gV ?_;exact H.Ah (k + 1, lp3, lc3) (by show k + 1 ≤ ln; omega) (by show ln - (k + 1) < ln - k; omega) ⟨rfl, rfl, rfl, rfl, rfl, rfl, rfl, rfl⟩ rfl rfl
     ·obtain rfl : k = ln := by omega
      refine gN ?_;refine H.mapUpdate (enc := keyU) (k := x.m.body.view) (v := .pointer (some ⟨wb, 0, none⟩)) rfl rfl rfl rfl (by repeat constructor) rfl ?_;refine gT ?_; have hpr : primI l.n x.m.body.view = r := by unfold primZ at hp; rw [hre]; unfold orgI; omega
      have hfr := hL.fresh (v := x.m.body.view) (k := (k : Int)) (by rw [hpr]; exact hr) (by rw [hpr]; exact hek); have hsl : (X.w.all.take k).length = k := by rw [List.length_take]; omega
      obtain ⟨Y, hY⟩ : ∃ Y : PV, Y = ⟨⟨x.m.body.view, x.m.number, X.w.all.take k, []⟩, wb, lp2, lc2, none, 0, hb⟩ := ⟨_, rfl⟩; have hYa : Y.w.all = X.w.all.take k := by rw [hY]; exact List.append_nil _
      have hof := fun G => zbq (x := Y) (A := G)
      have hparts : Y.parts = [row wb 108 (vwC x.m.number k lp2 (X.w.all.take k).length lc2 none 0 0 hb), slc lp2 (X.w.all.take k).length lc2 44 40 ((X.w.all.take k).flatMap Req.vals), slc none 0 0 31 1 [], mp hb encA (heldKV (X.w.all.take k))] := by
       unfold PV.parts PV.cells;rw [hYa, hY];show [row wb _ [_, .int .i64 (((X.w.all.take k).length : Nat) : Int), _, _, _], _, _, _] = _;rw [hsl];rfl
      rw [hparts] at hof
      have hent2 : putKV (V.map PV.ent) x.m.body.view (.pointer (some ⟨wb, 0, none⟩)) = (V ++ [Y]).map PV.ent := by
       rw [PM.put_absent _ _ _ (ent_fresh hvs hfr), List.map_append, hY];rfl
      rw [hent2]
      have hperm : ((V ++ [Y]).map PV.w).Perm (insV ⟨x.m.body.view, x.m.number, X.w.all.take k, []⟩ l.vs) := by
       rw [List.map_append, List.map_cons, List.map_nil, show Y.w = ⟨x.m.body.view, x.m.number, X.w.all.take k, []⟩ by rw [hY]];exact ((List.perm_append_singleton _ _).trans ((List.perm_cons _).2 hvs)).trans (zbz _ _)
      refine H.slc0 31 1 ?_;refine H.pf (x := mp hb _ _) ?_;refine H.pf (x := slc none 0 0 31 _ _) ?_;refine H.pf (x := slc lp2 _ lc2 _ _ _) ?_;refine qew ?_;refine H.imp (hof _) ?_;clear hof hparts hent2 hYa;refine qde ?_;refine H.Cv (by rw [List.getElem?_map, hX]; rfl) ?_;refine H.pf (x := Y.own) ?_;refine H.lstMore (ys := (V ++ [Y]).map PV.own) (by rw [List.map_append]; exact (List.perm_append_singleton _ _).symm) ?_;refine qgo ?_;refine H.pf (x := lst ((V ++ [Y]).map PV.own)) ?_;refine qeP ?_;refine H.imp (zak (l := { l with past := updF l.past r ((l.past r).enter x.m.body.view k), vs := insV ⟨x.m.body.view, x.m.number, X.w.all.take k, []⟩ l.vs }) ⟨V ++ [Y], vb, pp, pc, cp, cc, pb, cs⟩ ⟨hperm, hiF.p⟩) ?_;exact H.retMk rfl rfl rfl (.there _ (.here _ _)) (fun _ h => h) ⟨rfl, rfl, rfl⟩
 ·rw [if_neg (fun h => hp (of_decide_eq_true h))];refine qfu fun base => ?_;refine qcZ fun mb => ?_;refine gE ?_;refine H.drawB (by kernel_rfl) (by decide +kernel) (by with_reducible (repeat (first | exact blind_fnM | refine zab ?_ | refine zag ?_ | refine zai ?_))) (S := [_]) rfl ?_;refine HB.qu [0,1,3,4] 8 ?_;refine qdO ?_;refine qfM ?_;refine HB.qu [5,6,7,8] 3 ?_;refine gU ?_;refine qfX ?_;refine gC ?_;exact qaG
end
section
variable (f : Frag) (F : List HP)
set_option maxRecDepth 20000 in
set_option maxHeartbeats 3200000 in
theorem plenter_fn {fl : Frag} (hfl : Le fl f) {lb : Nat} {l : Lgs} {T : Nat} (hL : LI l T) (hT : T ≤ 50000) {x : MV} (hm : MIn l.n x.m) (hk : x.m.body.kind = 5) {i : PPt} (hi : plφ fl l i) {r : Nat} (hre : r = orgI x.m) :
  Fn Tryz.prog 84 [.pointer (some ⟨lb, 0, none⟩), .agg x.vals.toArray, .pointer (some ⟨i.pb r, 0, none⟩)] f (plB lb l i ++ F) (Ret (.bool (l.counts x.m).1) f (plogH f lb (l.counts x.m).2 :: F)) := by
 have hiF := hi.mono hfl;have hn := hL.n3
 have hor := hm.o; have hr : r < l.n := by rw [hre]; unfold orgI; omega
 have hwf := hL.wf r hr;have hil := hL.il r hr
 have hvl := hL.vl;have hv0 := hm.v
 have hvs := hi.vs;obtain ⟨V, vb, pp, pc, cp, cc, pb, cs⟩ := i
 have hvs : (V.map PV.w).Perm l.vs := hvs;have hprim := fun G => plprim_fn f G (lb := lb) (n := l.n) (kn := l.known) (vb := vb) (pp := pp) (pc := pc) (cp := cp) (cc := cc) (by omega) hv0
 have hpl : primI l.n x.m.body.view < 11 := by
  exact qcD
 have hpz : primZ l.n x.m.body.view - 1 = (primI l.n x.m.body.view : Nat) := by unfold primZ; omega
 have hvd : (v11 x.m.deps)[primI l.n x.m.body.view]? = some (.int .u64 (x.m.deps (primI l.n x.m.body.view))) := zbc _ hpl;refine qcV ?_
 cases hat : vwAt l.vs x.m.body.view with
 | none =>
  rw [Lgs.counts_5n hk hat]; have hget : (getKV (V.map PV.ent) x.m.body.view).getD (.pointer none) = .pointer none := by rw [view_none hvs hat]; rfl
  refine Fn.e3 Tryz.func84 Tryz.ntmps84 fun base => ?_;refine qcZ fun mb => ?_;refine qea ?_;refine qgB ?_;refine HB.qu [0,1,2,3,4,5,6,7,8,11] 16 ?_;refine gK ?_;refine qfX ?_;refine qfj ?_;refine HB.qu [10,12,13,14,15,16,17,18,19,20,21,22] 3 ?_;refine gX ?_;refine qda ?_;refine HB.ev 23 ?_;refine qfj ?_;refine HB.qu [24,25] 0 ?_;refine qdl ?_;refine qgr ?_;exact qab
 | some iv =>
  obtain ⟨⟨w, hw, hwv⟩, _⟩ := zar.1 hat;obtain ⟨j, X, hX, hXw, hgetX⟩ := view_some hvs hL.rise hat hw; have hget : (getKV (V.map PV.ent) x.m.body.view).getD (.pointer none) = .pointer (some ⟨X.b, 0, none⟩) := by rw [hgetX]; rfl
  rw [Lgs.counts_5 hk hat hw, ← hre];subst hXw;have hXl := hL.al X.w (List.mem_of_getElem? hw);have hXa := X.w.all_len
  by_cases h1 : X.w.num ≤ x.m.deps (primI l.n x.m.body.view)
  ·rw [if_neg (by omega)];have hen := fun G => enter_fn f G (pb r) (l.past r) hwf (by omega) x.m.body.view ((X.w.s.length : Nat) : Int);refine Fn.e3 Tryz.func84 Tryz.ntmps84 fun base => ?_
   refine qcZ fun mb => ?_;refine qea ?_;refine gH ?_;refine qed ?_;refine H.Cu (x := X.own) (i := j) (by rw [List.getElem?_map, hX]; rfl) ?_;refine qfE ?_;refine gU ?_;refine qda ?_;refine HB.ev 23 ?_;refine qez ?_;refine H.Cm hr ?_;refine H.Ad rfl rfl rfl (hen _) ?_;refine qfA ?_;rw [past_updF];refine gA ?_;refine qdw ?_;refine qgd ?_;refine qdU ?_;refine HB.qu [24,25] 0 ?_;refine qdl ?_;refine gT ?_;refine qde ?_;refine H.Cv (by rw [List.getElem?_map, hX]; rfl) ?_;exact qaS
  ·rw [if_pos (by omega)];refine Fn.e3 Tryz.func84 Tryz.ntmps84 fun base => ?_;refine qcZ fun mb => ?_;refine qea ?_;refine gH ?_;refine qed ?_;refine H.Cu (x := X.own) (i := j) (by rw [List.getElem?_map, hX]; rfl) ?_;refine qfE ?_;refine gK ?_;refine qda ?_;refine HB.ev 23 ?_;refine qfj ?_;refine HB.qu [24,25] 0 ?_;refine qdl ?_;refine gT ?_;refine qde ?_;refine H.Cv (by rw [List.getElem?_map, hX]; rfl) ?_;refine qdx ?_;exact qab
end
structure NI (l : Lgs) : Prop where
 rise : ∀ w ∈ l.vs, RiseN w.p
 low : ∀ w ∈ l.vs, ∀ y ∈ w.p, y.1 ≤ l.known (primI l.n w.v)
theorem RiseN.nil : RiseN [] := fun i j y z _ hy _ => by cases hy
theorem NI.new (n : Nat) : NI (Lgs.new n) := ⟨fun w hw => by
  have e : w = ⟨0, 0, [], []⟩ := List.mem_singleton.1 hw
  rw [e]; exact RiseN.nil, fun w hw y hy => by
  have e : w = ⟨0, 0, [], []⟩ := List.mem_singleton.1 hw
  rw [e] at hy; cases hy⟩
theorem Lgs.counts_vs (l : Lgs) (m : Msg) : (l.counts m).2.vs = l.vs ∨
  (∃ i w, vwAt l.vs m.body.view = some i ∧ l.vs[i]? = some w ∧ primZ l.n m.body.view = m.origin ∧ (l.counts m).2.vs = l.vs.set i { w with p := w.p ++ [(m.number, m.body.req)] }) ∨
  (∃ s, (l.counts m).2.vs = insV ⟨m.body.view, m.number, s, []⟩ l.vs) := by
 by_cases h3 : m.body.kind = 3
 ·rw [Lgs.counts_3 h3]; split <;> exact .inl rfl
 ·by_cases h4 : m.body.kind = 4
  ·rw [Lgs.counts_4 h4];split
   ·unfold Lgs.begins;split
    ·exact .inl rfl
    ·split
     ·exact .inl rfl
     ·split
      ·exact .inl rfl
      ·exact .inr (.inr ⟨_, rfl⟩)
   ·exact .inl rfl
  ·by_cases h5 : m.body.kind = 5
   ·cases hat : vwAt l.vs m.body.view with
    | none => rw [Lgs.counts_5n h5 hat]; exact .inl rfl
    | some i =>
     obtain ⟨⟨w, hw, _⟩, _⟩ := zar.1 hat;rw [Lgs.counts_5 h5 hat hw]; split <;> exact .inl rfl
   ·by_cases h1 : m.body.kind = 1
    ·cases hat : vwAt l.vs m.body.view with
     | none => rw [Lgs.counts_1n h1 hat]; exact .inl rfl
     | some i =>
      obtain ⟨⟨w, hw, _⟩, _⟩ := zar.1 hat;rw [Lgs.counts_1 h1 hat hw];split
      ·exact .inl rfl
      ·rename_i h
       refine .inr (.inl ⟨i, w, rfl, hw, ?_, rfl⟩);rcases Decidable.em (primZ l.n m.body.view = m.origin) with e | e
       ·exact e
       ·exact absurd (.inl (decide_eq_false e)) h
    ·by_cases h2 : m.body.kind = 2
     ·cases hat : vwAt l.vs m.body.view with
      | none => rw [Lgs.counts_2n h2 hat]; exact .inl rfl
      | some i =>
       obtain ⟨⟨w, hw, _⟩, _⟩ := zar.1 hat;rw [Lgs.counts_2 h2 hat hw]; split <;> exact .inl rfl
     ·rw [Lgs.counts_x h3 h4 h5 h1 h2]; exact .inl rfl
theorem NI.take {l : Lgs} (h : NI l) (m : Msg) : NI (l.take m).2 := by
 unfold Lgs.take;split
 ·exact h
 ·split
  ·exact h
  ·rename_i _ hn
   have hnum : m.number = l.known (orgI m) + 1 := by
    rcases Decidable.em (m.number = l.known (orgI m) + 1) with e | e
    ·exact e
    ·exact absurd (.inl e) hn
   have hk := l.counts_nk m;obtain ⟨K, hK⟩ : ∃ K, K = updF (l.counts m).2.known (orgI m) ((l.counts m).2.known (orgI m) + 1) := ⟨_, rfl⟩
   have hge : ∀ r, l.known r ≤ K r := fun r => by
    rw [hK, hk.2];by_cases e : r = orgI m
    ·subst e; rw [zaf]; omega
    ·rw [zav _ _ e]; exact Int.le_refl _
   have hKo : K (orgI m) = m.number := by rw [hK, zaf, hk.2, hnum]
   show NI { (l.counts m).2 with known := updF (l.counts m).2.known (orgI m) ((l.counts m).2.known (orgI m) + 1) };rw [← hK]
   have key : (∀ w ∈ (l.counts m).2.vs, RiseN w.p) ∧ ∀ w ∈ (l.counts m).2.vs, ∀ y ∈ w.p, y.1 ≤ K (primI l.n w.v) := by
    rcases l.counts_vs m with e | ⟨i, w, hat, hw, hp, e⟩ | ⟨s, e⟩
    ·rw [e]; exact ⟨h.rise, fun w hw y hy => Int.le_trans (h.low w hw y hy) (hge _)⟩
    ·rw [e];have hwm := List.mem_of_getElem? hw;obtain ⟨⟨w', hw', hv⟩, _⟩ := zar.1 hat
     rw [hw] at hw'; cases hw'; have hpi : primI l.n w.v = orgI m := by rw [hv]; unfold primZ at hp; unfold orgI; omega
     refine ⟨fun x hx => ?_, fun x hx y hy => ?_⟩
     ·rcases List.mem_or_eq_of_mem_set hx with hx | rfl
      ·exact h.rise x hx
      ·intro a b y z hab hy hz;show y.1 < z.1;have hy : (w.p ++ [(m.number, m.body.req)])[a]? = some y := hy;have hz : (w.p ++ [(m.number, m.body.req)])[b]? = some z := hz
       have hbl := (List.getElem?_eq_some_iff.1 hz).1;rw [List.length_append, List.length_singleton] at hbl
       rw [List.getElem?_append_left (by omega)] at hy;by_cases hb : b < w.p.length
       ·rw [List.getElem?_append_left hb] at hz;exact h.rise w hwm a b y z hab hy hz
       ·rw [List.getElem?_append_right (by omega), show b - w.p.length = 0 by omega] at hz; cases hz
        have := h.low w hwm y (List.mem_of_getElem? hy);rw [hpi] at this
        show y.1 < m.number;omega
     ·rcases List.mem_or_eq_of_mem_set hx with hx | rfl
      ·exact Int.le_trans (h.low x hx y hy) (hge _)
      ·show y.1 ≤ K (primI l.n w.v);have hy : y ∈ w.p ++ [(m.number, m.body.req)] := hy;rcases List.mem_append.1 hy with hy | hy
       ·exact Int.le_trans (h.low w hwm y hy) (hge _)
       ·rw [List.mem_singleton.1 hy, hpi, hKo]; exact Int.le_refl _
    ·rw [e];refine ⟨fun x hx => ?_, fun x hx y hy => ?_⟩
     ·rcases List.mem_cons.1 ((zbz _ _).mem_iff.2 hx) with rfl | hx
      ·exact RiseN.nil
      ·exact h.rise x hx
     ·rcases List.mem_cons.1 ((zbz _ _).mem_iff.2 hx) with rfl | hx
      ·cases hy
      ·exact Int.le_trans (h.low x hx y hy) (hge _)
   refine ⟨key.1, fun w hw y hy => ?_⟩
   have := key.2 w hw y hy;show y.1 ≤ K (primI (l.counts m).2.n w.v)
   rw [hk.1];exact this
theorem may_kind {f : Frag} {x : MV} (hx : x.Good f) (hm : x.m.may = true) : 1 ≤ x.m.body.kind.toNat ∧ x.m.body.kind.toNat ≤ 6 := by
 unfold Msg.may at hm;rw [Bool.and_eq_true] at hm;have h := mayB_eq hx.2.2;rw [hm.2] at h
 unfold Bod.mayB at h;rw [Bool.and_eq_true] at h;exact of_decide_eq_true h.1
theorem u8_ne {k : UInt8} {n : Nat} (hn : n < 256) (h : k ≠ UInt8.ofNat n) : k.toNat ≠ n := fun e => h (by rw [← e]; simp)
section
variable (f : Frag) (F : List HP)
theorem by3_fn : Fn Tryz.prog 53 [.int .u8 3] f F (Ret (.func (.func 82) #[] #[]) f F) := by
 exact qbe
theorem by4_fn : Fn Tryz.prog 53 [.int .u8 4] f F (Ret (.func (.func 83) #[] #[]) f F) := by
 exact qbe
theorem by5_fn : Fn Tryz.prog 53 [.int .u8 5] f F (Ret (.func (.func 84) #[] #[]) f F) := by
 exact qbe
theorem by6_fn {k : Int} (h1 : k ≠ 1) (h2 : k ≠ 2) (h3 : k ≠ 3) (h4 : k ≠ 4) (h5 : k ≠ 5) : Fn Tryz.prog 53 [.int .u8 k] f F (Ret (.func (.func 87) #[] #[]) f F) := by
 refine Fn.e1 Tryz.func53 Tryz.ntmps53 fun base => ?_;refine gZ ?_;exact qam
theorem pltakeA_fn (htab : TabAt f) {fl : Frag} (hfl : Le fl f) {lb : Nat} {l : Lgs} {T : Nat} (hL : LI l T) (hT : T ≤ 40000) (hN : NI l) (hodd : l.n % 2 = 1) {x : MV} (hx : x.Good f) :
  Fn Tryz.prog 20 [.pointer (some ⟨lb, 0, none⟩), .agg x.vals.toArray] f (plogH fl lb l :: F) (Ret (.tuple #[.bool (l.take x.m).1.1, .int .i64 (l.take x.m).1.2]) f (plogH f lb (l.take x.m).2 :: F)) := by
 by_cases k1 : x.m.body.kind = 1
 ·exact pltake1_fn f F htab hfl hL hT hx k1
 ·by_cases k2 : x.m.body.kind = 2
  ·exact pltake2_fn f F hfl hL hT hN.rise hx k2
  ·by_cases k3 : x.m.body.kind = 3
   ·exact pltake_fn f F hfl hL hT hx (fid := 82) (fun G => by rw [k3]; exact by3_fn f G) fun _ hm i G hi => plchange_fn f G hfl (hL.more x.m) (by omega) hm k3 hi rfl
   ·by_cases k4 : x.m.body.kind = 4
    ·exact pltake_fn f F hfl hL hT hx (fid := 83) (fun G => by rw [k4]; exact by4_fn f G) fun _ hm i G hi => plnew_view_fn f G hfl (hL.more x.m) (by omega) hodd hx hm k4 hi rfl
    ·by_cases k5 : x.m.body.kind = 5
     ·exact pltake_fn f F hfl hL hT hx (fid := 84) (fun G => by rw [k5]; exact by5_fn f G) fun _ hm i G hi => plenter_fn f G hfl (hL.more x.m) (by omega) hm k5 hi rfl
     ·have n1 := u8_ne (n := 1) (by decide) k1;have n2 := u8_ne (n := 2) (by decide) k2
      have n3 := u8_ne (n := 3) (by decide) k3;have n4 := u8_ne (n := 4) (by decide) k4
      have n5 := u8_ne (n := 5) (by decide) k5;refine pltake_fn f F hfl hL hT hx (fid := 87) (fun G => by6_fn f G (by omega) (by omega) (by omega) (by omega) (by omega)) fun hmay hm i G hi => ?_
      have hk := may_kind hx hmay
      have k6 : x.m.body.kind = 6 := by
       have e : x.m.body.kind.toNat = 6 := by omega
       exact UInt8.toNat_inj.1 e
      exact plcheck_fn f G hfl k6 hi
end
def Lgs.vw (l : Lgs) (v : Int) : Option Vw := (vwAt l.vs v).bind fun i => l.vs[i]?
theorem vw_at {l : Lgs} {v : Int} {w : Vw} (h : l.vw v = some w) : ∃ i, vwAt l.vs v = some i ∧ l.vs[i]? = some w := by
 unfold Lgs.vw at h
 cases e : vwAt l.vs v with
 | none => rw [e] at h; cases h
 | some i => rw [e] at h; exact ⟨i, rfl, h⟩
theorem vw_v {l : Lgs} {v : Int} {w : Vw} (h : l.vw v = some w) : w.v = v ∧ w ∈ l.vs := by
 obtain ⟨i, h1, h2⟩ := vw_at h;obtain ⟨⟨w', h3, h4⟩, _⟩ := zar.1 h1;rw [h2] at h3; cases h3;exact ⟨h4, List.mem_of_getElem? h2⟩
theorem vw_none {l : Lgs} {v : Int} : l.vw v = none ↔ vwAt l.vs v = none := by
 unfold Lgs.vw
 cases e : vwAt l.vs v with
 | none => simp
 | some i =>
  obtain ⟨⟨w, h1, _⟩, _⟩ := zar.1 e;simp [h1]
theorem vw_mem {l : Lgs} (h : (l.vs.map Vw.v).Pairwise (· < ·)) {w : Vw} (hw : w ∈ l.vs) : l.vw w.v = some w := by
 obtain ⟨i, h1, h2⟩ := vwAt_mem h hw;unfold Lgs.vw;rw [h1]; exact h2
theorem vw_no {l : Lgs} {v : Int} (h : l.vw v = none) : ∀ w ∈ l.vs, w.v ≠ v := vwAt_none.1 (vw_none.1 h)
inductive Eff where
 | no
 | past (p : PM)
 | chg (p : PM) (c : Int × Int)
 | prep (p : PM) (v : Int) (y : Int × Req)
 | beg (p : PM) (w : Vw)
def putV (v : Int) (y : Int × Req) (w : Vw) : Vw := if w.v = v then { w with p := w.p ++ [y] } else w
theorem putV_v (v : Int) (y : Int × Req) (w : Vw) : (putV v y w).v = w.v := by unfold putV; split <;> rfl
def Lgs.app (l : Lgs) (r : Nat) : Eff → Lgs
 | .no => l
 | .past p => { l with past := updF l.past r p }
 | .chg p c => { l with past := updF l.past r p, ch := updF l.ch r (l.ch r ++ [c]) }
 | .prep p v y => { l with past := updF l.past r p, vs := l.vs.map (putV v y) }
 | .beg p w => { l with past := updF l.past r p, vs := insV w l.vs }
def Lgs.best (l : Lgs) (m : Msg) : Int × Int := bestQ l.past m.body.view m.body.q (0, 0)
def Lgs.pref (l : Lgs) (b : Int × Int) : List Req := ((l.vw b.1).map fun w => w.all.take b.2.toNat).getD []
def Lgs.qAll (l : Lgs) (m : Msg) : Bool := m.body.q.all fun q => decide (q.2 ≤ m.deps (q.1 - 1).toNat) && chB l q m.body.view
def Lgs.eff (l : Lgs) (m : Msg) : Option Eff :=
 if m.body.kind = 3 then (if (l.past (orgI m)).changeOk m.body.view = true then some (.chg ((l.past (orgI m)).change m.body.view) (m.body.view, m.number)) else none)
 else if m.body.kind = 4 then
  (if primZ l.n m.body.view = m.origin ∧ m.body.q.length = (l.n - 1) / 2 + 1 ∧ l.qAll m = true ∧ (l.past (orgI m)).enterOk m.body.view (l.best m).2 = true then
   some (.beg ((l.past (orgI m)).enter m.body.view (l.best m).2) ⟨m.body.view, m.number, l.pref (l.best m), []⟩) else none)
 else if m.body.kind = 5 then (match l.vw m.body.view with
  | none => none
  | some w => if w.num ≤ m.deps (primI l.n m.body.view) ∧ (l.past (orgI m)).enterOk m.body.view (w.s.length : Nat) = true then some (.past ((l.past (orgI m)).enter m.body.view (w.s.length : Nat))) else none)
 else if m.body.kind = 1 then (match l.vw m.body.view with
  | none => none
  | some w => if primZ l.n m.body.view = m.origin ∧ m.body.req.auth = true ∧ holdsB w.all m.body.req.client m.body.req.time = false ∧ (l.past (orgI m)).isOpen m.body.view = true then
    some (.prep ((l.past (orgI m)).prepare m.body.view) m.body.view (m.number, m.body.req)) else none)
 else if m.body.kind = 2 then (match l.vw m.body.view with
  | none => none
  | some w => if primZ l.n m.body.view ≠ m.origin ∧ (l.past (orgI m)).commitOk m.body.view m.body.k (knowsV w (m.deps (primI l.n m.body.view)) : Nat) = true then
    some (.past ((l.past (orgI m)).commit m.body.view m.body.k (knowsV w (m.deps (primI l.n m.body.view)) : Nat))) else none)
 else if m.body.kind = 6 then some .no else none
def Lgs.res (l : Lgs) (r : Nat) : Option Eff → Bool × Lgs
 | none => (false, l)
 | some e => (true, l.app r e)
theorem set_putV {vs : List Vw} (h : (vs.map Vw.v).Pairwise (· < ·)) {v : Int} {i : Nat} {w : Vw} (hat : vwAt vs v = some i) (hw : vs[i]? = some w) (y : Int × Req) : vs.set i { w with p := w.p ++ [y] } = vs.map (putV v y) := by
 obtain ⟨⟨w', h3, h4⟩, _⟩ := zar.1 hat;rw [hw] at h3; cases h3;have hi := (List.getElem?_eq_some_iff.1 hw).1;refine List.ext_getElem? fun j => ?_
 rw [List.getElem?_map];by_cases e : i = j
 ·subst e;rw [List.getElem?_set_self hi, hw];show _ = some (putV v y w);unfold putV;rw [if_pos h4]
 ·rw [List.getElem?_set_ne e]
  cases hj : vs[j]? with
  | none => rfl
  | some x =>
   show some x = some (putV v y x);unfold putV;rw [if_neg];intro hx
   have := Vw.uniq h (List.mem_of_getElem? hj) (List.mem_of_getElem? hw) (hx.trans h4.symm);subst this
   have h1 := (List.getElem?_eq_some_iff.1 hj);have h2 := (List.getElem?_eq_some_iff.1 hw)
   rcases Nat.lt_or_gt_of_ne e with hl | hl
   ·have := List.pairwise_iff_getElem.1 h i j (by rw [List.length_map]; exact h2.1) (by rw [List.length_map]; exact h1.1) hl;rw [List.getElem_map, List.getElem_map, h1.2, h2.2] at this
    omega
   ·have := List.pairwise_iff_getElem.1 h j i (by rw [List.length_map]; exact h1.1) (by rw [List.length_map]; exact h2.1) hl;rw [List.getElem_map, List.getElem_map, h1.2, h2.2] at this
    omega
theorem doPast_self (l : Lgs) (r : Nat) : ({ l with past := updF l.past r (l.past r) } : Lgs) = l := by rw [updF_self]
theorem counts_eff {l : Lgs} (h : (l.vs.map Vw.v).Pairwise (· < ·)) (m : Msg) : l.counts m = l.res (orgI m) (l.eff m) := by
 unfold Lgs.eff;by_cases h3 : m.body.kind = 3
 ·rw [Lgs.counts_3 h3, if_pos h3];split <;> rfl
 ·rw [if_neg h3];by_cases h4 : m.body.kind = 4
  ·rw [Lgs.counts_4 h4, if_pos h4];by_cases hp : primZ l.n m.body.view = m.origin
   ·rw [if_pos (decide_eq_true hp)];unfold Lgs.begins;by_cases h1 : m.body.q.length = (l.n - 1) / 2 + 1
    ·rw [if_neg (fun e => e h1)];have hqd : l.qAll m = (m.body.q.all fun q => decide (q.2 ≤ m.deps (q.1 - 1).toNat) && chB l q m.body.view) := rfl;have hbd : l.best m = bestQ l.past m.body.view m.body.q (0, 0) := rfl
     rw [← hqd, ← hbd]
     cases hq : l.qAll m with
     | false => rw [if_pos rfl, if_neg (fun e => by have := e.2.2.1; cases this)]; rfl
     | true =>
      rw [if_neg (by decide)]
      cases he : (l.past (orgI m)).enterOk m.body.view (l.best m).2 with
      | false => rw [if_pos rfl, if_neg (fun e => by have := e.2.2.2; cases this)]; rfl
      | true =>
       rw [if_neg (by decide), if_pos ⟨hp, h1, rfl, rfl⟩];show (true, _) = (true, ({ l with past := _, vs := insV ⟨m.body.view, m.number, l.pref (l.best m), []⟩ l.vs } : Lgs))
       have e : ((match vwAt l.vs (l.best m).1 with | none => [] | some i => (l.vs[i]?.map Vw.all).getD []).take (l.best m).2.toNat) = l.pref (l.best m) := by
        unfold Lgs.pref Lgs.vw
        cases hat : vwAt l.vs (l.best m).1 with
        | none => exact List.take_nil
        | some i =>
         show List.take _ ((l.vs[i]?.map Vw.all).getD []) = ((l.vs[i]?).map _).getD []
         cases l.vs[i]? with
         | none => exact List.take_nil
         | some w => rfl
       rw [← e];rfl
    ·rw [if_pos h1, if_neg (fun e => h1 e.2.1)]; rfl
   ·rw [if_neg (fun e => hp (of_decide_eq_true e)), if_neg (fun e => hp e.1)]; rfl
  ·rw [if_neg h4];by_cases h5 : m.body.kind = 5
   ·rw [if_pos h5]
    cases hv : l.vw m.body.view with
    | none => rw [Lgs.counts_5n h5 (vw_none.1 hv)]; rfl
    | some w =>
     obtain ⟨i, h1, h2⟩ := vw_at hv;rw [Lgs.counts_5 h5 h1 h2];show _ = l.res _ (if _ then _ else none);by_cases hd : m.deps (primI l.n m.body.view) < w.num
     ·rw [if_pos hd, if_neg (fun e => by have := e.1; omega)]; rfl
     ·rw [if_neg hd]
      cases he : (l.past (orgI m)).enterOk m.body.view (w.s.length : Nat) with
      | false =>
       rw [if_neg (fun e => by have := e.2; cases this)];show (false, l.doPast _ _) = (false, l);unfold PM.enter Lgs.doPast;rw [he];exact congrArg _ (doPast_self l _)
      | true => rw [if_pos ⟨by omega, rfl⟩]; rfl
   ·rw [if_neg h5];by_cases k1 : m.body.kind = 1
    ·rw [if_pos k1]
     cases hv : l.vw m.body.view with
     | none => rw [Lgs.counts_1n k1 (vw_none.1 hv)]; rfl
     | some w =>
      obtain ⟨i, h1, h2⟩ := vw_at hv;rw [Lgs.counts_1 k1 h1 h2];show _ = l.res _ (if _ then _ else none);by_cases hg : primZ l.n m.body.view = m.origin ∧ m.body.req.auth = true ∧ holdsB w.all m.body.req.client m.body.req.time = false ∧ (l.past (orgI m)).isOpen m.body.view = true
      ·rw [if_pos hg, if_neg]
       ·show (true, _) = (true, ({ l with past := _, vs := l.vs.map _ } : Lgs));rw [set_putV h h1 h2]
       ·rintro (e | e | e | e)
        ·exact absurd hg.1 (of_decide_eq_false e)
        ·rw [hg.2.1] at e; cases e
        ·rw [hg.2.2.1] at e; cases e
        ·rw [hg.2.2.2] at e; cases e
      ·rw [if_neg hg, if_pos]
       ·rfl
       ·by_cases e1 : primZ l.n m.body.view = m.origin
        ·cases e2 : m.body.req.auth with
         | false => exact .inr (.inl rfl)
         | true =>
          cases e3 : holdsB w.all m.body.req.client m.body.req.time with
          | true => exact .inr (.inr (.inl rfl))
          | false =>
           cases e4 : (l.past (orgI m)).isOpen m.body.view with
           | false => exact .inr (.inr (.inr rfl))
           | true => exact absurd ⟨e1, e2, e3, e4⟩ hg
        ·exact .inl (decide_eq_false e1)
    ·rw [if_neg k1];by_cases k2 : m.body.kind = 2
     ·rw [if_pos k2]
      cases hv : l.vw m.body.view with
      | none => rw [Lgs.counts_2n k2 (vw_none.1 hv)]; rfl
      | some w =>
       obtain ⟨i, h1, h2⟩ := vw_at hv;rw [Lgs.counts_2 k2 h1 h2];show _ = l.res _ (if _ then _ else none);by_cases hp : primZ l.n m.body.view = m.origin
       ·rw [if_pos (decide_eq_true hp), if_neg (fun e => e.1 hp)]; rfl
       ·rw [if_neg (fun e => hp (of_decide_eq_true e))]
        cases he : (l.past (orgI m)).commitOk m.body.view m.body.k (knowsV w (m.deps (primI l.n m.body.view)) : Nat) with
        | false =>
         rw [if_neg (fun e => by have := e.2; cases this)];show (false, l.doPast _ _) = (false, l);unfold PM.commit Lgs.doPast;rw [he];exact congrArg _ (doPast_self l _)
        | true => rw [if_pos ⟨hp, rfl⟩]; rfl
     ·rw [if_neg k2, Lgs.counts_x h3 h4 h5 k1 k2];by_cases k6 : m.body.kind = 6
      ·rw [if_pos k6, k6]; rfl
      ·rw [if_neg k6, decide_eq_false k6]; rfl
theorem bestOf_app (bv : Int) : ∀ (l r : List (Int × Int)) (a : Int × Int), bestOf bv (l ++ r) a = bestOf bv r (bestOf bv l a)
 | [], r, a => rfl
 | x :: l, r, a => by
  show bestOf bv (x :: (l ++ r)) a = bestOf bv r (bestOf bv (x :: l) a)
  rw [bestOf_cons, bestOf_cons]
  exact bestOf_app bv l r _
theorem bestOf_above {bv : Int} {x : Int × Int} (h : bv ≤ x.1) (a : Int × Int) : bestOf bv [x] a = a := by
 rw [bestOf_cons, if_neg (fun e => by have := e.1; omega)];rfl
theorem vw_congr {l l2 : Lgs} (h : l2.vs = l.vs) (v : Int) : l2.vw v = l.vw v := by unfold Lgs.vw; rw [h]
theorem rise_put {vs : List Vw} (h : (vs.map Vw.v).Pairwise (· < ·)) (v : Int) (y : Int × Req) : ((vs.map (putV v y)).map Vw.v).Pairwise (· < ·) := by
 have e : (vs.map (putV v y)).map Vw.v = vs.map Vw.v := by
  rw [List.map_map];exact List.map_congr_left fun w _ => putV_v v y w
 rw [e]; exact h
theorem vw_put {l l2 : Lgs} (h : (l.vs.map Vw.v).Pairwise (· < ·)) {v : Int} {y : Int × Req} (h2 : l2.vs = l.vs.map (putV v y)) (u : Int) : l2.vw u = (l.vw u).map (putV v y) := by
 have hr2 : (l2.vs.map Vw.v).Pairwise (· < ·) := by rw [h2]; exact rise_put h v y
 cases hv : l.vw u with
 | none =>
  show _ = none;refine vw_none.2 (vwAt_none.2 fun w hw e => ?_);rw [h2] at hw;obtain ⟨z, hz, rfl⟩ := List.mem_map.1 hw;rw [putV_v] at e;exact vw_no hv z hz e
 | some w =>
  obtain ⟨h1, hm⟩ := vw_v hv; have hm2 : putV v y w ∈ l2.vs := by rw [h2]; exact List.mem_map.2 ⟨w, hm, rfl⟩
  have := vw_mem hr2 hm2;rw [putV_v, h1] at this
  exact this
theorem vw_ins {l l2 : Lgs} {w : Vw} (h2 : l2.vs = insV w l.vs) (hr2 : (l2.vs.map Vw.v).Pairwise (· < ·)) (u : Int) : l2.vw u = if u = w.v then some w else l.vw u := by
 have hperm := zbz w l.vs
 have hr : (l.vs.map Vw.v).Pairwise (· < ·) := by
  have : l.vs.Sublist l2.vs := by
   rw [h2];unfold insV; conv => lhs; rw [← List.take_append_drop (insK w.v l.vs) l.vs]
   exact List.Sublist.append_left (List.sublist_cons_self _ _) _
  exact List.Pairwise.sublist (this.map Vw.v) hr2
 split
 ·rename_i e
  have : w ∈ l2.vs := by rw [h2]; exact hperm.mem_iff.1 List.mem_cons_self
  rw [e];exact vw_mem hr2 this
 ·rename_i e
  cases hv : l.vw u with
  | none =>
   refine vw_none.2 (vwAt_none.2 fun x hx e2 => ?_);rw [h2] at hx;rcases List.mem_cons.1 (hperm.mem_iff.2 hx) with rfl | hx
   ·exact e e2.symm
   ·exact vw_no hv x hx e2
  | some x =>
   obtain ⟨h1, hm⟩ := vw_v hv; have : x ∈ l2.vs := by rw [h2]; exact hperm.mem_iff.1 (List.mem_cons_of_mem _ hm)
   have := vw_mem hr2 this;rw [h1] at this
   exact this
section
variable {P : Program} {base : World} {n : Nat} {L : Env} {f : Frag} {A : List HP} {q : Post} {l : List Oper} {d : Nat} {ty : TypeId} {pos : String} {af : Array Edge} {gd : Option (Nat × Bool)} {listed : Array Bool} {fuel : Nat}
theorem HN.pure {i : Nat} {op : Op} {v : Value} (hc : pureB l listed i = true) (ho : getO l i = some ⟨some d, op, ty, pos, af, gd⟩) (hw : want? l L gd = true) (hd : Nat.ble (d + 1) n = true)
  (hx : ∀ a w, Fr n a L → (execOp a.eval ⟨some d, op, ty, pos, af, gd⟩).run P w = .ok (.value v) w)
  (k : HN (listed.setIfInBounds i true) fuel P base n ((d, v) :: L) f A (.ops l [] q)) : HN listed (fuel + 1) P base n L f A (.ops l [] q) := .mk fun l' q' hK hs hb a w hf s => by
 simp only [Kont.ops.injEq] at hK
 obtain ⟨rfl, _, rfl⟩ := hK
 simp only [pureB, Bool.and_eq_true] at hc
 obtain ⟨⟨⟨⟨⟨h1, h2⟩, h3⟩, h4⟩, h5⟩, h6⟩ := hc
 have h5' : listed.size = l.toArray.size := by simpa using Nat.eq_of_beq_eq_true h5
 have h6' : l.toArray.size ≠ 0 := by
  have := Nat.le_of_ble_eq_true h6;simp only [List.size_toArray]; omega
 have hk := k.out l q rfl hs hb (a.put (some d) v) w (hf.put (Nat.le_of_ble_eq_true hd) v) s
 have hk2 := wpAnyC_true h6' _ _ _ _ (by simpa using h5') hk
 exact wpAnyC.any _ _ _ _ (wpAnyC_take (C := fun _ => True) (cut := #[]) (oi := ⟨some d, op, ty, pos, af, gd⟩) (v := v) (by rw [List.getElem?_toArray, ← getO_eq]; exact ho) hs h2 h3 h4 h1 (fun c a w h => hb c a _ _ w h) (.inl ⟨hf.want hw, fun w' _ => hx _ _ hf⟩) hk2)
theorem HN.ar {i : Nat} {op : BinOp} {xt yt : TypeId} {x y : Operand} {k : IntKind} {p p2 r z : Int} (hc : pureB l listed i = true) (ho : getO l i = some ⟨some d, .binOp op xt x y yt, ty, pos, af, gd⟩) (hw : want? l L gd = true) (hx : ev? L x = some (.int k p)) (hy : ev? L y = some (.int k p2)) (ha : arP op k p p2 = some r) (hz : r = z) (hd : Nat.ble (d + 1) n = true)
  (kk : HN (listed.setIfInBounds i true) fuel P base n ((d, .int k z) :: L) f A (.ops l [] q)) : HN listed (fuel + 1) P base n L f A (.ops l [] q) :=
 HN.pure hc ho hw hd (fun a w hf => by
  cases op <;> simp only [arP, Option.some.injEq, reduceCtorEq] at ha <;> subst ha <;> subst hz <;>
   simp [execOp, eqGuard, binOp, Op.intArith, hf.eval hx, hf.eval hy]) kk
theorem H.indexS {rest : List Oper} {t : TypeId} {i : Nat} {x y : Operand} {s : ByteArray} {ik : IntKind} {z : Int} {b : UInt8} [hu : Und P t .string] (hw : want? l L gd = true)
  (hx : ev? L x = some (.string s)) (hy : ev? L y = some (.int ik z)) (hq : z = (i : Nat)) (hb : s[i]? = some b) (hd : Nat.ble (d + 1) n = true)
  (k : H P base n ((d, .int .u8 (b.toNat : Nat)) :: L) f A (.ops l rest q)) : H P base n L f A (.ops l (⟨some d, .index t x y, ty, pos, af, gd⟩ :: rest) q) :=
 H.opV hw hd (fun a w hf _ => by
  subst hq
  have h1 := hu.run w
  have hi2 : (0 : Int) ≤ (i : Int) := by omega
  simp only [execOp, hf.eval hx, hf.eval hy, Instr.index, asIntOf, Sem.run_bind, Sem.run_pure, Result.andThen_ok, h1, hi2, if_true, Int.toNat_natCast, hb]) k
end
open Go.Sort (swp ltInt insInner insOuter insertionSort)
def uV (z : Int) : List Value := [.int .u64 z]
theorem uV_len (z : Int) : (uV z).length = 1 := rfl
def arr (d : Array Int) : List Value := d.toList.flatMap uV
theorem zbh (d : Array Int) (i j : Nat) : (swp d i j).size = d.size := by unfold swp; simp
theorem arr_get {d : Array Int} {i : Nat} (h : i < d.size) : d.toList[i]? = some d[i]! := by
 rw [Array.getElem?_toList, getElem!_pos d i h]; simp [h]
theorem arr_map (d : Array Int) : arr d = d.toList.map fun z => .int .u64 z := by
 unfold arr
 induction d.toList with
 | nil => rfl
 | cons x r ih => rw [List.flatMap_cons, ih]; rfl
theorem zap {d : Array Int} {i : Nat} (h : i < d.size) (z : Int) : SetV (arr d) (i * 1) (.int .u64 z) (arr (d.setIfInBounds i z)) := by
 have e : arr (d.setIfInBounds i z) = (arr d).set i (.int .u64 z) := by rw [arr_map, arr_map, Array.toList_setIfInBounds, List.map_set]
 rw [e, Nat.mul_one];exact SetV.mk _ (by rw [arr_map, List.length_map]; simpa using h)
theorem Rd.arr {f : Frag} {A A' : List HP} {b n c : Nat} {d : Array Int} (h : At A (slc (some ⟨b, 0, none⟩) n c 31 1 (arr d)) A' (slc (some ⟨b, 0, none⟩) n c 31 1 (arr d))) {i : Nat} (hi : i < d.size) : Rd1 f A b (i * 1) (.int .u64 d[i]!) :=
 Rd1.of (i := 0) (Rd.slcElem (vals := uV) (xs := d.toList) uV_len (by decide) h (arr_get hi)) rfl
section
variable (f : Frag) (F : List HP)
theorem nan_fn (x : Int) : Fn Tryz.prog 186 [.int .u64 x] f F (Ret (.bool false) f F) := by
 refine Fn.e1 Tryz.func186 Tryz.ntmps186 fun base => ?_;exact qbR
theorem zby (x y : Int) : Fn Tryz.prog 139 [.int .u64 x, .int .u64 y] f F (Ret (.bool (ltInt x y)) f F) := by
 refine Fn.e2 Tryz.func139 Tryz.ntmps139 fun base => ?_;refine gH ?_;refine H.Ad rfl rfl rfl (nan_fn f _ x) ?_;refine gM ?_;exact qam
set_option maxHeartbeats 1600000 in
theorem insSort_fn {p : Option Addr} {n c a b : Nat} {d0 : Array Int} (hd0 : d0.size = n) (hn : n ≤ 1000000) (hb : b ≤ n) (ha : a ≤ n) :
  Fn Tryz.prog 133 [.slice p n c, .int .i64 (a : Int), .int .i64 (b : Int)] f (slc p n c 31 1 (arr d0) :: F) (Ret (.tuple #[]) f (slc p n c 31 1 (arr (insertionSort ltInt d0 a b)) :: F)) := by
 refine Fn.e3 Tryz.func133 Tryz.ntmps133 fun base => ?_;refine gV ?_
 refine H.Ar (ι := Nat × Array Int) (fun s => [(6, .int .i64 (s.1 : Int)), (0, .slice p n c), (1, .int .i64 (a : Int)), (2, .int .i64 (b : Int))]) (fun _ => f) (fun s => slc p n c 31 1 (arr s.2) :: F)
  (fun s => s.1 ≤ n + 1 ∧ s.2.size = n ∧ insOuter ltInt a b s.1 s.2 = insertionSort ltInt d0 a b) (fun s => b - s.1) (a + 1, d0) ⟨by show a + 1 ≤ n + 1; omega, hd0, rfl⟩ ⟨rfl, rfl, rfl, rfl, trivial⟩ rfl rfl fun s hs => ?_
 obtain ⟨i, d1⟩ := s;obtain ⟨hi, hd1, hR⟩ : i ≤ n + 1 ∧ d1.size = n ∧ insOuter ltInt a b i d1 = insertionSort ltInt d0 a b := hs;show H _ _ _ [(6, .int .i64 (i : Int)), _, _, _] f (slc p n c _ 1 (arr d1) :: F) _;rw [insOuter] at hR;by_cases hlt : i < b
 ·rw [if_pos hlt] at hR;refine gF ?_
  refine H.Ar (ι := Nat × Array Int) (fun s => [(7, .int .i64 (s.1 : Int)), (6, .int .i64 (i : Int)), (0, .slice p n c), (1, .int .i64 (a : Int)), (2, .int .i64 (b : Int))]) (fun _ => f) (fun s => slc p n c 31 1 (arr s.2) :: F)
   (fun s => s.1 ≤ i ∧ s.2.size = n ∧ insInner ltInt a s.1 s.2 = insInner ltInt a i d1) (fun s => s.1) (i, d1) ⟨Nat.le_refl i, hd1, rfl⟩ ⟨rfl, rfl, rfl, rfl, rfl, trivial⟩ rfl rfl fun s hs => ?_
  obtain ⟨k, d⟩ := s;obtain ⟨hk, hd, hr⟩ : k ≤ i ∧ d.size = n ∧ insInner ltInt a k d = insInner ltInt a i d1 := hs;show H _ _ _ [(7, .int .i64 (k : Int)), _, _, _, _] f (slc p n c _ 1 (arr d) :: F) _;refine qdV fun sb hp => ?_;subst hp;by_cases hka : a < k
  ·obtain ⟨j, rfl⟩ : ∃ j, k = j + 1 := ⟨k - 1, by omega⟩;rw [insInner] at hr;have hja : decide (j + 1 > a) = true := decide_eq_true hka;rw [hja, Bool.true_and] at hr
   refine qfK ?_;refine HB.qu [0,1,2,3,4,5,6,7,8,9,10,11,12] 2 ?_;refine gU ?_;refine HQ.Ap (i := j + 1) rfl rfl rfl rfl (by omega) rfl ?_;refine qcS ?_;refine gJ ?_;refine qfw ?_;refine qcS ?_;refine qda ?_;refine HB.ev 13 ?_;refine H.Ad rfl rfl rfl (zby f _ d[j + 1]! d[j]!) ?_;refine qcP ?_;refine HB.qu [14] 0 ?_;refine qdl ?_
   cases hlj : ltInt d[j + 1]! d[j]! with
   | false =>
    rw [hlj, if_neg (by decide)] at hr;rw [← hr] at hR;exact qbB
   | true =>
    rw [hlj, if_pos rfl] at hr;refine ga ?_;refine H.drawN (by kernel_rfl) (by decide +kernel) (by repeat (first | exact zac | refine zab ?_ | refine zag ?_ | refine zai ?_)) ?_;refine qdc ?_;refine HN.ar (i := 4) (z := ((j : Nat) : Int)) (by kernel_rfl) rfl rfl rfl rfl rfl (by rw [wr_i64 (by omega)]; omega) rfl ?_;refine qer ?_;refine qfw ?_;refine qfv ?_;refine HQ.Ap (i := j + 1) rfl rfl rfl (by omega) (by omega) rfl ?_;refine qcS ?_;refine qdi ?_;refine HB.qu [14] 3 ?_;refine HQ.Ap (i := j + 1) rfl rfl rfl (by omega) (by omega) rfl ?_;refine qgN ?_;refine qfw ?_;refine qda ?_;refine HB.ev 17 ?_;refine qcY ?_;show H _ _ _ _ f (slc (some ⟨sb, 0, none⟩) n c _ 1 (arr (swp d (j + 1) (j))) :: _) _;refine gV ?_;exact H.Ah (j, swp d (j + 1) j) ⟨by show j ≤ i; omega, by rw [zbh]; exact hd, hr⟩ (by show j < j + 1; omega) ⟨rfl, rfl, rfl, rfl, rfl, trivial⟩ rfl rfl
  ·have hr2 : insInner ltInt a k d = d := by
    cases k with
    | zero => rfl
    | succ j => rw [insInner, if_neg (by rw [decide_eq_false (by omega), Bool.false_and]; decide)]
   rw [hr2] at hr;rw [← hr] at hR;refine qfK ?_;refine HB.qu [0,1,2,3,4,5,6,7,8,9,10,11,12] 2 ?_;refine gL ?_;refine qda ?_;refine HB.ev 13 ?_;refine qfj ?_;refine HB.qu [14] 0 ?_;refine qdl ?_;exact qbB
 ·rw [if_neg hlt] at hR;rw [← hR];refine gZ ?_;exact qaU
end
open Go.Sort (swp ltInt insInner insOuter insertionSort siftDown heapBuild heapPop heapSort reverseLoop reverseRange scanUp scanDown partLoop partEqLoop scanSorted shiftDown shiftUp partialIns partialInsertionSort)
section
variable (f : Frag) (F : List HP)
theorem siftDown_step {hi first root : Nat} {d : Array Int} (h : 2 * root + 1 < hi) : ∃ ch, (ch = 2 * root + 1 ∨ ch = 2 * root + 2) ∧ ch < hi ∧ ((2 * root + 2 < hi ∧ ltInt d[first + (2 * root + 1)]! d[first + (2 * root + 1) + 1]! = true) ↔ ch = 2 * root + 2) ∧
  siftDown ltInt hi first root d = if ltInt d[first + root]! d[first + ch]! = true then siftDown ltInt hi first ch (swp d (first + root) (first + ch)) else d := by
 rw [siftDown, dif_neg (by omega)];by_cases h2 : 2 * root + 2 < hi ∧ ltInt d[first + (2 * root + 1)]! d[first + (2 * root + 1) + 1]! = true
 ·rw [if_pos (by rw [Bool.and_eq_true]; exact ⟨decide_eq_true h2.1, h2.2⟩)];refine ⟨2 * root + 2, .inr rfl, h2.1, ⟨fun _ => rfl, fun _ => h2⟩, ?_⟩
  cases ltInt d[first + root]! d[first + (2 * root + 2)]! with
  | false => rfl
  | true => rw [dif_pos h2.1]; rfl
 ·rw [if_neg (fun e => h2 (by rw [Bool.and_eq_true] at e; exact ⟨of_decide_eq_true e.1, e.2⟩))];refine ⟨2 * root + 1, .inl rfl, h, ⟨fun e => absurd e h2, fun e => by omega⟩, ?_⟩
  cases ltInt d[first + root]! d[first + (2 * root + 1)]! with
  | false => rfl
  | true => rfl
set_option maxHeartbeats 1600000 in
theorem siftDown_fn {p : Option Addr} {n c lo hi first : Nat} {d0 : Array Int} (hd0 : d0.size = n) (hn : n ≤ 1000000) (hb : first + hi ≤ n) (hlo : lo ≤ n) :
  Fn Tryz.prog 181 [.slice p n c, .int .i64 (lo : Int), .int .i64 (hi : Int), .int .i64 (first : Int)] f (slc p n c 31 1 (arr d0) :: F) (Ret (.tuple #[]) f (slc p n c 31 1 (arr (siftDown ltInt hi first lo d0)) :: F)) := by
 refine Fn.e4 Tryz.func181 Tryz.ntmps181 fun base => ?_;refine gT ?_
 refine H.Ar (ι := Nat × Array Int) (fun s => [(8, .int .i64 (s.1 : Int)), (0, .slice p n c), (2, .int .i64 (hi : Int)), (3, .int .i64 (first : Int))]) (fun _ => f) (fun s => slc p n c 31 1 (arr s.2) :: F)
  (fun s => s.1 ≤ n ∧ s.2.size = n ∧ siftDown ltInt hi first s.1 s.2 = siftDown ltInt hi first lo d0) (fun s => hi - s.1) (lo, d0) ⟨hlo, hd0, rfl⟩ ⟨rfl, rfl, rfl, rfl, trivial⟩ rfl rfl fun s hs => ?_
 obtain ⟨root, d⟩ := s;obtain ⟨hi0, hd, hR⟩ : root ≤ n ∧ d.size = n ∧ siftDown ltInt hi first root d = siftDown ltInt hi first lo d0 := hs;show H _ _ _ [(8, .int .i64 (root : Int)), _, _, _] f (slc p n c _ 1 (arr d) :: F) _;by_cases hge : hi ≤ 2 * root + 1
 ·rw [siftDown, dif_pos hge] at hR;rw [← hR];refine gP ?_;exact qaU
 ·obtain ⟨ch, hch, hchi, hiff, he⟩ := siftDown_step (first := first) (d := d) (hi := hi) (root := root) (by omega);rw [he] at hR;clear he;refine qdV fun sb hp => ?_;subst hp; repeat (first | ((first | apply H.Ag | apply H.Al); (iterate 3 exact rfl)) | (first | apply H.seq | apply H.Am | apply H.nil | apply H.Ao) | ((apply H.cmp); (iterate 5 exact rfl)) | ((apply H.ar; (iterate 4 exact rfl)); (with_reducible apply wr_i64; omega); exact rfl) | (first | apply H.Bk | apply H.Bb) | (apply H.Bu; exact rfl; (omega)))
  refine H.By (d := 9) (u := .int .i64 ((2 * root + 1 : Nat) : Int)) rfl (by first | rfl | (congr 1)) ?_;refine H.cut (ι := Bool) (fun b => [(36, .bool b), (9, .int .i64 ((2 * root + 1 : Nat) : Int)), (8, .int .i64 (root : Int)), (0, .slice (some ⟨sb, 0, none⟩) n c), (2, .int .i64 (hi : Int)), (3, .int .i64 (first : Int))]) (fun _ => f) (fun _ => slc (some ⟨sb, 0, none⟩) n c 31 1 (arr d) :: F) (fun b => b = true ↔ ch = 2 * root + 2) _ (fun b hb2 => ?_) ?_;rotate_left
  ·by_cases h2 : 2 * root + 2 < hi
   ·skip;refine qdB ?_;refine HB.qu [0,1,2,3,4,5,6,7,8,9,10,11,12,13,14,15,16,17] 2 ?_;refine gK ?_;refine HQ.Ap (i := first + (2 * root + 1)) rfl rfl rfl (by omega) (by omega) rfl ?_;refine qcS ?_;refine gJ ?_;refine HQ.Ap (i := first + (2 * root + 1) + 1) rfl rfl rfl (by omega) (by omega) rfl ?_;refine qcS ?_;refine qda ?_;refine HB.ev 18 ?_;refine H.Ad rfl rfl rfl (zby f _ d[first + (2 * root + 1)]! d[first + (2 * root + 1) + 1]!) ?_;refine qcP ?_;refine HB.qu [19] 0 ?_;refine qdl ?_;skip;exact H.Bm (ltInt d[first + (2 * root + 1)]! d[first + (2 * root + 1) + 1]!) ⟨fun e => hiff.1 ⟨h2, e⟩, fun e => (hiff.2 e).2⟩ ⟨rfl, rfl, rfl, rfl, rfl, rfl, trivial⟩ rfl rfl
   ·skip;refine qdB ?_;refine HB.qu [0,1,2,3,4,5,6,7,8,9,10,11,12,13,14,15,16,17] 2 ?_;refine gK ?_;refine qda ?_;refine HB.ev 18 ?_;refine qfj ?_;refine HB.qu [19] 0 ?_;refine qdl ?_;skip;exact H.Bm false ⟨fun e => (by cases e), fun e => absurd (hiff.2 e).1 h2⟩ ⟨rfl, rfl, rfl, rfl, rfl, rfl, trivial⟩ rfl rfl
  show H _ _ _ [(36, .bool b), (9, .int .i64 ((2 * root + 1 : Nat) : Int)), (8, .int .i64 (root : Int)), (0, .slice (some ⟨sb, 0, none⟩) n c), (2, .int .i64 (hi : Int)), (3, .int .i64 (first : Int))] f (slc (some ⟨sb, 0, none⟩) n c _ 1 (arr d) :: F) _;refine H.cut (ι := Unit) (fun _ => [(9, .int .i64 (ch : Int)), (8, .int .i64 (root : Int)), (0, .slice (some ⟨sb, 0, none⟩) n c), (2, .int .i64 (hi : Int)), (3, .int .i64 (first : Int))]) (fun _ => f) (fun _ => slc (some ⟨sb, 0, none⟩) n c 31 1 (arr d) :: F) (fun _ => True) _ (fun _ _ => ?_) ?_;rotate_left
  ·cases b with
   | true =>
    have hce := hb2.1 rfl;refine gP ?_
    exact H.Bm () trivial ⟨by rw [hce]; rfl, rfl, rfl, rfl, rfl, trivial⟩ rfl rfl
   | false =>
    have hce : ch = 2 * root + 1 := by
     rcases hch with e | e
     ·exact e
     ·exact absurd (hb2.2 e) (by decide)
    refine gV ?_;exact H.Bm () trivial ⟨by rw [hce]; rfl, rfl, rfl, rfl, rfl, trivial⟩ rfl rfl
  show H _ _ _ [(9, .int .i64 (ch : Int)), (8, .int .i64 (root : Int)), (0, .slice (some ⟨sb, 0, none⟩) n c), (2, .int .i64 (hi : Int)), (3, .int .i64 (first : Int))] f (slc (some ⟨sb, 0, none⟩) n c _ 1 (arr d) :: F) _;refine qfK ?_;refine HB.qu [0,1,2,3,4,5,6,7,8,9,10,11] 2 ?_;refine gJ ?_;refine HQ.Ap (i := first + root) rfl rfl rfl (by omega) (by omega) rfl ?_;refine qcS ?_;refine gJ ?_;refine HQ.Ap (i := first + ch) rfl rfl rfl (by omega) (by omega) rfl ?_;refine qcS ?_;refine qeV ?_;refine H.Ad rfl rfl rfl (zby f _ d[first + root]! d[first + ch]!) ?_;refine qcP ?_;refine HB.qu [13] 0 ?_;refine qdl ?_
  cases hl2 : ltInt d[first + root]! d[first + ch]! with
  | false =>
   rw [hl2, if_neg (by decide)] at hR;rw [← hR];refine ga ?_;exact H.ret0 rfl (fun _ h => h) ⟨rfl, rfl, rfl⟩
  | true =>
   rw [hl2, if_pos rfl] at hR;refine gV ?_;refine H.drawN (by kernel_rfl) (by decide +kernel) (by repeat (first | exact zac | refine zab ?_ | refine zag ?_ | refine zai ?_)) ?_;refine qgK ?_;refine HN.move (i := 5) (by kernel_rfl) rfl rfl rfl rfl ?_;refine HN.move (i := 6) (by kernel_rfl) rfl rfl rfl rfl ?_;refine HN.ar (i := 7) (z := ((first + ch : Nat) : Int)) (by kernel_rfl) rfl rfl rfl rfl rfl (by rw [wr_i64 (by omega)]; omega) rfl ?_;refine HN.phase [0, 1, 2, 3, 8, 9, 10, 11, 12, 13, 14, 15, 16, 17, 18, 19] (S := [slc (some ⟨sb, 0, none⟩) n c 31 1 (arr d)]) rfl ?_;refine HB.qu [0,1,2,3,8,9,10,11,12,13,14,15,16,17,18,19] 4 ?_;refine gJ ?_;refine HQ.Ap (i := first + ch) rfl rfl rfl (by omega) (by omega) rfl ?_;refine qcS ?_;refine gJ ?_;refine HQ.Ap (i := first + root) rfl rfl rfl (by omega) (by omega) rfl ?_;refine qcS ?_;refine qdi ?_;refine HB.qu [20] 3 ?_;refine HQ.Ap (i := first + root) rfl rfl rfl (by omega) (by omega) rfl ?_;refine qda ?_;refine HB.ev 21 ?_;refine qdn ?_;refine HB.qu [22] 1 ?_;refine HQ.Ap (i := first + ch) rfl rfl rfl (by omega) (by omega) rfl ?_;refine qda ?_;refine HB.ev 23 ?_;refine qcY ?_;show H _ _ _ _ f (slc (some ⟨sb, 0, none⟩) n c _ 1 (arr (swp d (first + root) (first + ch))) :: _) _;refine gT ?_;exact H.Ah (ch, swp d (first + root) (first + ch)) ⟨by show ch ≤ n; omega, by rw [zbh]; exact hd, hR⟩ (by show hi - ch < hi - root; omega) ⟨rfl, rfl, rfl, rfl, trivial⟩ rfl rfl
end
open Go.Sort (swp ltInt insInner insOuter insertionSort siftDown heapBuild heapPop heapSort reverseLoop reverseRange scanUp scanDown partLoop partEqLoop scanSorted shiftDown shiftUp partialIns partialInsertionSort)
theorem quo2 {h : Nat} (hh : h ≤ 1000000) : IntKind.wrap .i64 (((h : Int) - 1).tdiv 2) = (((h - 1) / 2 + 1 : Nat) : Int) - 1 := by
 rcases Nat.eq_zero_or_pos h with e | e
 ·subst e; rfl
 ·rw [show (h : Int) - 1 = ((h - 1 : Nat) : Int) by omega, show (2 : Int) = ((2 : Nat) : Int) from rfl, tdiv64, wr_i64 (by omega)];omega
theorem siftDown_size (hi first : Nat) : ∀ (root : Nat) (d : Array Int), (siftDown ltInt hi first root d).size = d.size := by
 have : ∀ (m root : Nat) (d : Array Int), hi - root ≤ m → (siftDown ltInt hi first root d).size = d.size := by
  intro m
  induction m with
  | zero => intro root d h; rw [siftDown, dif_pos (by omega)]
  | succ m ih =>
   intro root d h;by_cases hge : hi ≤ 2 * root + 1
   ·rw [siftDown, dif_pos hge]
   ·obtain ⟨ch, hch, hchi, _, he⟩ := siftDown_step (first := first) (d := d) (hi := hi) (root := root) (by omega);rw [he];split
    ·rw [ih _ _ (by omega), zbh]
    ·rfl
 exact fun root d => this _ root d (Nat.le_refl _)
theorem heapBuild_size (hi first : Nat) : ∀ (k : Nat) (d : Array Int), (heapBuild ltInt hi first k d).size = d.size
 | 0, d => rfl
 | k + 1, d => by rw [heapBuild, heapBuild_size hi first k, siftDown_size]
section
variable (f : Frag) (F : List HP)
set_option maxHeartbeats 1600000 in
theorem heapSort_fn {p : Option Addr} {n c a b : Nat} {d0 : Array Int} (hd0 : d0.size = n) (hn : n ≤ 1000000) (hab : a < b) (hb : b ≤ n) :
  Fn Tryz.prog 134 [.slice p n c, .int .i64 (a : Int), .int .i64 (b : Int)] f (slc p n c 31 1 (arr d0) :: F) (Ret (.tuple #[]) f (slc p n c 31 1 (arr (heapSort ltInt d0 a b)) :: F)) := by
 obtain ⟨h, hh⟩ : ∃ h, h = b - a := ⟨_, rfl⟩; have hz : (b : Int) - (a : Int) = (h : Int) := by omega
 have hR0 : heapSort ltInt d0 a b = heapPop ltInt a h (heapBuild ltInt h a ((h - 1) / 2 + 1) d0) := by unfold heapSort; rw [← hh]
 have hq := quo2 (h := h) (by omega);rw [hR0]
 have hsz : ∀ (k : Nat) (d : Array Int), (siftDown ltInt h a k d).size = d.size := fun k d => siftDown_size h a k d;refine Fn.e3 Tryz.func134 Tryz.ntmps134 fun base => ?_
 repeat (first | (refine H.ar (op := .sub) (p := (b : Int)) (p2 := (a : Int)) (z := (h : Int)) rfl rfl rfl rfl (by rw [hz, wr_i64 (by omega)]) rfl ?_) | (refine H.quo (p := (h : Int) - 1) (z := (((h - 1) / 2 + 1 : Nat) : Int) - 1) rfl rfl rfl (by decide) hq rfl ?_) | ((first | apply H.Ag | apply H.Al); (iterate 3 exact rfl)) | (first | apply H.seq | apply H.Am | apply H.nil | apply H.Ao) | ((apply H.ar; (iterate 4 exact rfl)); (with_reducible apply wr_i64; omega); exact rfl) | (apply H.Bb))
 refine H.cutB (ι := Unit) (fun _ => [(6, .int .i64 (a : Int)), (7, .int .i64 0), (8, .int .i64 (h : Int)), (0, .slice p n c)]) (fun _ => f) (fun _ => slc p n c 31 1 (arr (heapBuild ltInt h a ((h - 1) / 2 + 1) d0)) :: F) (fun _ => True) _ (fun _ _ => ?_) ?_;rotate_left
 ·refine H.Ar (ι := Nat × Array Int) (fun s => [(9, .int .i64 ((s.1 : Int) - 1)), (6, .int .i64 (a : Int)), (7, .int .i64 0), (8, .int .i64 (h : Int)), (0, .slice p n c)]) (fun _ => f) (fun s => slc p n c 31 1 (arr s.2) :: F)
   (fun s => s.1 ≤ n ∧ s.2.size = n ∧ heapBuild ltInt h a s.1 s.2 = heapBuild ltInt h a ((h - 1) / 2 + 1) d0) (fun s => s.1) ((h - 1) / 2 + 1, d0) ⟨by show (h - 1) / 2 + 1 ≤ n; omega, hd0, rfl⟩ ⟨rfl, rfl, rfl, rfl, rfl, trivial⟩ rfl rfl fun s hs => ?_
  obtain ⟨k, d⟩ := s;obtain ⟨hk, hd, hr⟩ : k ≤ n ∧ d.size = n ∧ heapBuild ltInt h a k d = heapBuild ltInt h a ((h - 1) / 2 + 1) d0 := hs;show H _ _ _ [(9, .int .i64 ((k : Int) - 1)), _, _, _, _] f (slc p n c _ 1 (arr d) :: F) _
  cases k with
  | zero =>
   rw [← hr];refine ga ?_;exact H.Bm () trivial ⟨rfl, rfl, rfl, rfl, trivial⟩ rfl rfl
  | succ j =>
   refine H.By (d := 9) (u := .int .i64 (j : Int)) rfl (by first | rfl | (congr 1; omega)) ?_;refine ga ?_;refine H.Aw rfl rfl rfl (siftDown_fn f F (p := p) (c := c) (lo := j) (hi := h) (first := a) hd hn (by omega) (by omega)) fun v f' A' hR => ?_;obtain ⟨rfl, hff, rfl⟩ := hR;rw [hff];refine gV ?_;exact H.Ah (j, siftDown ltInt h a j d) ⟨by show j ≤ n; omega, by show (siftDown ltInt h a j d).size = n; rw [hsz]; exact hd, hr⟩ (by show j < j + 1; omega) ⟨rfl, rfl, rfl, rfl, rfl, trivial⟩ rfl rfl
 have hd1 : (heapBuild ltInt h a ((h - 1) / 2 + 1) d0).size = n := by rw [heapBuild_size]; exact hd0
 generalize heapBuild ltInt h a ((h - 1) / 2 + 1) d0 = d1 at *;show H _ _ _ [(6, .int .i64 (a : Int)), (7, .int .i64 0), (8, .int .i64 (h : Int)), (0, .slice p n c)] f (slc p n c _ 1 (arr d1) :: F) _;refine gV ?_
 refine H.Ar (ι := Nat × Array Int) (fun s => [(10, .int .i64 ((s.1 : Int) - 1)), (6, .int .i64 (a : Int)), (7, .int .i64 0), (8, .int .i64 (h : Int)), (0, .slice p n c)]) (fun _ => f) (fun s => slc p n c 31 1 (arr s.2) :: F)
  (fun s => s.1 ≤ h ∧ s.2.size = n ∧ heapPop ltInt a s.1 s.2 = heapPop ltInt a h d1) (fun s => s.1) (h, d1) ⟨Nat.le_refl h, hd1, rfl⟩ ⟨rfl, rfl, rfl, rfl, rfl, trivial⟩ rfl rfl fun s hs => ?_
 obtain ⟨k, d⟩ := s;obtain ⟨hk, hd, hr⟩ : k ≤ h ∧ d.size = n ∧ heapPop ltInt a k d = heapPop ltInt a h d1 := hs;show H _ _ _ [(10, .int .i64 ((k : Int) - 1)), _, _, _, _] f (slc p n c _ 1 (arr d) :: F) _
 cases k with
 | zero =>
  rw [← hr];refine ga ?_;exact qaU
 | succ j =>
  refine H.By (d := 10) (u := .int .i64 (j : Int)) rfl (by first | rfl | (congr 1; omega)) ?_;refine qdV fun sb hp => ?_;subst hp;refine ga ?_;refine H.drawN (by kernel_rfl) (by decide +kernel) (by repeat (first | exact zac | refine zab ?_ | refine zag ?_ | refine zai ?_)) ?_;refine qdc ?_;refine qgK ?_;refine HN.ar (i := 5) (z := ((a + j : Nat) : Int)) (by kernel_rfl) rfl rfl rfl rfl rfl (by rw [wr_i64 (by omega)]; omega) rfl ?_;refine qeh ?_;refine HQ.Ap (i := a + j) rfl rfl rfl (by omega) (by omega) rfl ?_;refine qfv ?_;refine qdH ?_;refine qcS ?_;refine qdi ?_;refine HB.qu [16] 3 ?_;refine qdH ?_;refine qda ?_;refine HB.ev 17 ?_;refine qdn ?_;refine HB.qu [18] 1 ?_;refine HQ.Ap (i := a + j) rfl rfl rfl (by omega) (by omega) rfl ?_;refine qda ?_;refine HB.ev 19 ?_;refine qcY ?_;show H _ _ _ _ f (slc (some ⟨sb, 0, none⟩) n c _ 1 (arr (swp d (a) (a + j))) :: _) _;refine gH ?_;refine H.Aw rfl rfl rfl (siftDown_fn f F (p := some ⟨sb, 0, none⟩) (c := c) (lo := 0) (hi := j) (first := a) (d0 := swp d a (a + j)) (by rw [zbh]; exact hd) hn (by omega) (by omega)) fun v f' A' hR => ?_;obtain ⟨rfl, hff, rfl⟩ := hR;rw [hff];refine gV ?_;exact H.Ah (j, siftDown ltInt j a 0 (swp d a (a + j))) ⟨by show j ≤ h; omega, by show (siftDown ltInt j a 0 (swp d a (a + j))).size = n; rw [siftDown_size, zbh]; exact hd, hr⟩ (by show j < j + 1; omega) ⟨rfl, rfl, rfl, rfl, rfl, trivial⟩ rfl rfl
set_option maxHeartbeats 1600000 in
theorem reverse_fn {p : Option Addr} {n c a b : Nat} {d0 : Array Int} (hd0 : d0.size = n) (hn : n ≤ 1000000) (hab : a < b) (hb : b ≤ n) :
  Fn Tryz.prog 137 [.slice p n c, .int .i64 (a : Int), .int .i64 (b : Int)] f (slc p n c 31 1 (arr d0) :: F) (Ret (.tuple #[]) f (slc p n c 31 1 (arr (reverseRange d0 a b)) :: F)) := by
 obtain ⟨b1, rfl⟩ : ∃ b1, b = b1 + 1 := ⟨b - 1, by omega⟩;refine Fn.e3 Tryz.func137 Tryz.ntmps137 fun base => ?_;refine gV ?_
 refine H.Ar (ι := Nat × Nat × Array Int) (fun s => [(6, .int .i64 (s.1 : Int)), (7, .int .i64 (s.2.1 : Int)), (0, .slice p n c)]) (fun _ => f) (fun s => slc p n c 31 1 (arr s.2.2) :: F)
  (fun s => s.1 ≤ n ∧ s.2.1 < n ∧ s.2.2.size = n ∧ reverseLoop s.1 s.2.1 s.2.2 = reverseRange d0 a (b1 + 1)) (fun s => s.2.1 - s.1) (a, b1, d0) ⟨by show a ≤ n; omega, by show b1 < n; omega, hd0, rfl⟩ ⟨rfl, rfl, rfl, trivial⟩ rfl rfl fun s hs => ?_
 obtain ⟨i, j, d⟩ := s;obtain ⟨hi, hj, hd, hr⟩ : i ≤ n ∧ j < n ∧ d.size = n ∧ reverseLoop i j d = reverseRange d0 a (b1 + 1) := hs;show H _ _ _ [(6, .int .i64 (i : Int)), (7, .int .i64 (j : Int)), _] f (slc p n c _ 1 (arr d) :: F) _;rw [reverseLoop] at hr;by_cases hlt : i < j
 ·rw [if_pos hlt] at hr;refine qdV fun sb hp => ?_;subst hp;refine gF ?_;refine H.drawN (by kernel_rfl) (by decide +kernel) (by repeat (first | exact zac | refine zab ?_ | refine zag ?_ | refine zai ?_)) ?_;refine qdL ?_;refine qfw ?_;refine qfv ?_;refine HQ.Ap (i := i) rfl rfl rfl (by omega) (by omega) rfl ?_;refine qcS ?_;refine qdi ?_;refine HB.qu [12] 3 ?_;refine HQ.Ap (i := i) rfl rfl rfl (by omega) (by omega) rfl ?_;refine qfS ?_;refine qfw ?_;refine qda ?_;refine HB.ev 15 ?_;refine qcY ?_;show H _ _ _ _ f (slc (some ⟨sb, 0, none⟩) n c _ 1 (arr (swp d (i) (j))) :: _) _;obtain ⟨j1, rfl⟩ : ∃ j1, j = j1 + 1 := ⟨j - 1, by omega⟩;refine gV ?_;exact H.Ah (i + 1, j1, swp d i (j1 + 1)) ⟨by show i + 1 ≤ n; omega, by show j1 < n; omega, by show (swp d i (j1 + 1)).size = n; rw [zbh]; exact hd, hr⟩ (by show j1 - (i + 1) < j1 + 1 - i; omega) ⟨rfl, rfl, rfl, trivial⟩ rfl rfl
 ·rw [if_neg hlt] at hr;rw [← hr];refine gZ ?_;exact qaU
end
end Go.Proofs.YtgdhaledfjnfgaaGreatDoor
