/- Parts of the proof, one behind the other, each under its own heading. No conditions. -/
import Derived.Test.YtdcjlgigcbinjaaGreatDoorZ02
import Derived.ProofKit
import Derived.Lib.SmallJoins
import Derived.Deep.Slices
import Derived.Deep.Fields
import Derived.LaidMore
import Derived.OpenShut
import Derived.Handed
import Derived.MakeChecks
import Derived.Stop.Joined
import Derived.SevenTiedAt
import Derived.DeepKeys3
import Derived.Laws.IdiomRangeMap
set_option linter.unusedSectionVars false
set_option linter.unusedSimpArgs false
set_option linter.unusedVariables false
/- The engine, part r: from a contract of a law to its row: 'it returns true, and each argument reads as it did'. No program in sight; no conditions. -/
namespace Go.Proofs.YtdcjlgigcbinjaaGreatDoor
open Go Go.ChangeShapes Go.WideShapes Go.RowKit Go.Deep
def memOf (W : World) : Frag := fun k => W.heap[k]?
theorem sat_start (W : World) : Sat W W (memOf W) [] :=
 ⟨rfl, rfl, rfl, Nat.le_refl _, fun _ _ h => h, nil0, rfl, Dj.nil _, fun k o h => by cases h⟩
theorem Sat.below {W w : World} {A : List HP} (s : Sat W w (memOf W) A) : Below W.heap.size W w :=
 ⟨s.os, s.tape, s.output, s.size, fun k hk => by
  have e : W.heap[k]? = some W.heap[k] := Array.getElem?_eq_getElem hk
  rw [e]; exact s.imm k _ e⟩
section
variable {H' : Type} {enc : TypeId × Value → H'} {P : Program}
theorem trodAll_below {W W' : World} (hl : laidOutB P = true) (hb : Below W.heap.size W W') {sp : Nat → Bool} : ∀ {ts : List TypeId} {vs : List Value} {ds : List (DataW H')} {ps : List MemPlace},
  (∀ t ∈ ts, P.readableRec t = true ∧ t < P.types.size) → DataW.TrodAll enc P W 0 (fun _ => true) true ts vs ds ps → (∀ x ∈ ps, x.block < W.heap.size) → (∀ x ∈ ps, sp x.block = true) →
  DataW.TrodAll enc P W' 0 sp true ts vs ds ps
 | [], [], [], _, _, h, _, _ => h
 | t :: ts, v :: vs, d :: ds, ps, hr, h, hlt, hsp => by
  obtain ⟨p, q, h1, h2, rfl⟩ := h
  exact ⟨p, q, WideElems.Trod_stays hl (hr t (by simp)).1 (hr t (by simp)).2 h1 (fun x hx => hb.same (hlt x (by simp [hx]))) (fun x hx => hsp x (by simp [hx])),
   trodAll_below hl hb (fun u hu => hr u (by simp [hu])) h2 (fun x hx => hlt x (by simp [hx])) (fun x hx => hsp x (by simp [hx])), rfl⟩
theorem trodAll_len {W : World} {b : Nat} {sp : Nat → Bool} {hd : Bool} : ∀ {ts : List TypeId} {vs : List Value} {ds : List (DataW H')} {ps : List MemPlace}, DataW.TrodAll enc P W b sp hd ts vs ds ps → ds.length = ts.length
 | [], [], [], _, _ => rfl
 | _ :: _, _ :: _, _ :: _, _, h => by
  obtain ⟨p, q, h1, h2, rfl⟩ := h
  simp [trodAll_len h2]
theorem post_own {fn : Func} {s : ChangeSpec} {apart fresh handsOn again : Bool} {W W' : World} {args : Array Value} {v : Value} {ds : List (DataW H')} {p : List MemPlace}
  (hW : DataW.Whole enc P fn.params.toList s.vars apart W args.toList ds [] p) (hv : s.vars = [])
  (hA : DataW.TrodAll enc P W 0 (fun _ => true) true fn.params.toList args.toList ds p)
  (hl : laidOutB P = true) (hts : ∀ t ∈ fn.params.toList, P.readableRec t = true ∧ t < P.types.size)
  (hres : ∀ (b : Nat) (sp : Nat → Bool) (hd : Bool), DataW.TrodAll enc P W' b sp hd fn.resultTypes.toList (v.resultList fn.resultTypes.size) (s.fn H' (ds ++ [])).results [])
  (hargs : (s.fn H' (ds ++ [])).args = ds) (hvars : (s.fn H' (ds ++ [])).vars = [])
  (hb : Below W.heap.size W W')
  (hok : ∀ (j : Nat) (t : TypeId) (r : Value), fn.resultTypes[j]? = some t → (v.resultList fn.resultTypes.size)[j]? = some r → Value.okWide P W' .any 0 t r) :
  s.post enc P fn apart fresh handsOn again W args v W' := by
 have hlt := hW.lt
 have hold : ∀ x ∈ p, (fun b => decide (b < W.heap.size)) x.block = true := fun x hx => by simpa using hlt x hx
 have args' : ∀ sp : Nat → Bool, (∀ x ∈ p, sp x.block = true) → DataW.TrodAll enc P W' 0 sp true fn.params.toList args.toList (s.fn H' (ds ++ [])).args p := fun sp hsp => by
  rw [hargs]; exact trodAll_below hl hb hts hA hlt hsp
 have vars' : ∀ sp : Nat → Bool, DataW.TrodVars enc P W' sp s.vars (s.fn H' (ds ++ [])).vars [] := fun sp => by rw [hvars, hv]; exact rfl
 refine ⟨ds, [], p, [], p, [], hW, hres _ _ _, args' _ hold, vars' _, World.keptBut_mono (fun x hx => ⟨hx, ?_⟩) (hb.frame (· ∈ p)), fun _ => ?_⟩
 ·exact .inr (by simpa using hx)
 ·obtain ⟨_, _, _, _, _, hz, hn⟩ := hW
  refine ⟨hok, _, _, ([] ++ p) ++ [], ⟨[] ++ p, [], trodAll_append (args' _ (fun _ _ => rfl)) (hres _ _ _), vars' _, rfl, ?_, ?_⟩, ?_⟩
  ·intro b off hp
   have hp' : MemPlace.cell b off ∈ p := by simpa using hp
   rw [hb.frozen (p := ⟨b, off, none⟩) (hlt _ hp')]
   exact hz b off hp'
  ·intro ha
   have := hn ha
   simpa using this
  ·intro x hx _
   simpa using hx
end
/-! ### Arguments: what their cells are -/
def Reads (P : Program) (W : World) (t : TypeId) (cs : List Value) : Prop :=
 ∃ (H' : Type) (enc : TypeId × Value → H') (base : Nat) (spare : Nat → Bool) (held : Bool) (fuel : Nat) (x : DataW H' × List MemPlace), DataW.trod enc P W base spare held fuel t cs = some x
def ArgOk (P : Program) (W : World) (t : TypeId) (v : Value) : Prop := (∃ b, Value.okWide P W .any b t v) ∧ Reads P W t v.cells.toList
def ArgsOk (P : Program) (W : World) : List TypeId → List Value → Prop
 | [], [] => True
 | t :: ts, v :: vs => ArgOk P W t v ∧ ArgsOk P W ts vs
 | _, _ => False
theorem argsOk_of {H' : Type} {enc : TypeId × Value → H'} {P : Program} {W : World} {b : Nat} {sp : Nat → Bool} {hd : Bool} : ∀ {ts : List TypeId} {vs : List Value} {ds : List (DataW H')} {ps : List MemPlace},
  DataW.TrodAll enc P W b sp hd ts vs ds ps → (∀ (j : Nat) t v, ts[j]? = some t → vs[j]? = some v → ∃ b, Value.okWide P W .any b t v) → ArgsOk P W ts vs
 | [], [], [], _, _, _ => trivial
 | t :: ts, v :: vs, d :: ds, _, h, hv => by
  obtain ⟨p, q, ⟨n, h1⟩, h2, rfl⟩ := h
  exact ⟨⟨hv 0 t v rfl rfl, H', enc, b, sp, hd, n, _, h1⟩, argsOk_of h2 fun j t v => hv (j + 1) t v⟩
theorem wf_int {k : IntKind} {z : Int} (h : (Lit.int k z).wf = true) : k.min ≤ z ∧ z ≤ k.max := by
 simpa [Lit.wf] using h
theorem Reads.int {P : Program} {W : World} {t : TypeId} {cs : List Value} {k : IntKind} (ht : P.underlying t = some (.int k)) (h : Reads P W t cs) : ∃ z, cs = [.int k z] ∧ k.min ≤ z ∧ z ≤ k.max := by
 obtain ⟨H', enc, b, sp, hd, n, x, h⟩ := h
 obtain ⟨z, h1, _, h2⟩ := DataW.trod_int ht h
 exact ⟨z, h1, wf_int h2⟩
theorem Reads.struct {P : Program} {W : World} {t : TypeId} {cs : List Value} {fs : Array Field} (ht : P.underlying t = some (.struct fs)) (h : Reads P W t cs) :
  cs.length = P.cellsOf t ∧ ∀ (i : Nat) (f : Field), fs[i]? = some f → Reads P W f.type ((cs.drop f.offset).take (P.cellsOf f.type)) := by
 obtain ⟨H', enc, b, sp, hd, n, x, h⟩ := h
 obtain ⟨xs, n, rfl, _, h1, h2, h3⟩ := DataW.trod_struct ht h
 refine ⟨h1, fun i f hf => ?_⟩
 have hi : i < xs.length := by rw [h2]; exact (Array.getElem?_eq_some_iff.1 hf).1
 exact ⟨H', enc, b, sp, hd, n, xs[i], (h3 i f hf).trans (List.getElem?_eq_getElem hi)⟩
theorem ArgOk.struct {P : Program} {W : World} {t : TypeId} {v : Value} {fs : Array Field} (ht : P.underlying t = some (.struct fs)) (h : ArgOk P W t v) : ∃ cs, v = .agg cs ∧ Reads P W t cs.toList := by
 obtain ⟨⟨b, h1⟩, h2⟩ := h
 obtain ⟨cs, rfl, _⟩ := okWide_struct ht h1
 exact ⟨cs, rfl, h2⟩
def ElemsAt (f : Frag) (p : Option Addr) (sz n : Nat) (g : Nat → List Value) : Prop :=
 ∀ i, i < n → (g i).length = sz ∧ ∃ b off cs T fr, p = some ⟨b, off, none⟩ ∧ f b = some (.cells cs T fr) ∧ ∀ j, j < sz → cs[off + i * sz + j]? = (g i)[j]?
theorem add_add' (a : Addr) (i j : Nat) : (a.add i).add j = a.add (i + j) := by
 unfold Addr.add
 by_cases h : i = 0
 ·subst h; simp
 ·by_cases h2 : j = 0
  ·subst h2; simp
  ·have : ¬ i + j = 0 := by omega
   simp [h, h2, this, Nat.add_assoc]
theorem cell_spot {W : World} {a : Addr} {v : Value} (h : W.cell? a = some v) : ∃ cs T fr, a = ⟨a.block, a.off, none⟩ ∧ W.heap[a.block]? = some (.cells cs T fr) ∧ cs[a.off]? = some v := by
 unfold World.cell? at h
 split at h
 ·rename_i c T fr e
  split at h
  ·cases h
  ·rename_i hs
   refine ⟨c, T, fr, ?_, e, h⟩
   obtain ⟨b, o, s⟩ := a
   cases s with
   | none => rfl
   | some x => simp at hs
 ·cases h
theorem Reads.slice {P : Program} {W : World} {t e : TypeId} {cs : List Value} (ht : P.underlying t = some (.slice e)) (h0 : 0 < P.cellsOf e) (h : Reads P W t cs) :
  ∃ (p : Option Addr) (n c : Nat) (g : Nat → List Value), cs = [.slice p n c] ∧ n ≤ c ∧ c ≤ maxLen ∧ ElemsAt (memOf W) p (P.cellsOf e) n g ∧ ∀ i, i < n → Reads P W e (g i) := by
 obtain ⟨H', enc, b, sp, hd, n, x, h⟩ := h
 rcases open_slice ht h with ⟨rfl, _⟩ | ⟨a, len, cap, m, k, D, Pl, rfl, hb, hl, hm, hmm, _, hi⟩
 ·exact ⟨none, 0, 0, fun _ => [], rfl, Nat.le_refl _, by simp [maxLen], fun i hi => by omega, fun i hi => by omega⟩
 ·have hlm : len ≤ m := by subst hmm; split <;> omega
  have hi' : ∀ i, ∃ cs', i < len → (W.cells? b (a.add (i * P.cellsOf e)) (P.cellsOf e) = some cs' ∧ Reads P W e cs') := fun i => by
   by_cases hil : i < len
   ·obtain ⟨cs', h1, h2⟩ := hi i (by omega)
    exact ⟨cs', fun _ => ⟨h1, H', enc, b, sp, hd, k, _, h2⟩⟩
   ·exact ⟨[], fun h => absurd h hil⟩
  obtain ⟨g, hG⟩ : ∃ g : Nat → List Value, ∀ i, i < len → W.cells? b (a.add (i * P.cellsOf e)) (P.cellsOf e) = some (g i) ∧ Reads P W e (g i) := ⟨fun i => (hi' i).choose, fun i h => (hi' i).choose_spec h⟩
  refine ⟨some a, len, cap, g, rfl, hl, hm, fun i hil => ?_, fun i hil => (hG i hil).2⟩
  obtain ⟨_, hlen, hget⟩ := World.cells?_some (hG i hil).1
  refine ⟨hlen, ?_⟩
  -- the base address bears no spot
  have hspot : ∃ cs T fr, a = ⟨a.block, a.off, none⟩ ∧ W.heap[a.block]? = some (.cells cs T fr) := by
   obtain ⟨_, hl0, hg0⟩ := World.cells?_some (hG 0 (by omega)).1
   have h00 := hg0 0 h0
   have : (g 0)[0]? = some ((g 0)[0]'(by omega)) := List.getElem?_eq_getElem (by omega)
   rw [this] at h00
   have e1 : (a.add (0 * P.cellsOf e)).add 0 = a := by simp [Addr.add]
   rw [e1] at h00
   obtain ⟨cs, T, fr, h1, h2, _⟩ := cell_spot h00
   exact ⟨cs, T, fr, h1, h2⟩
  obtain ⟨cs, T, fr, hs, hh⟩ := hspot
  refine ⟨a.block, a.off, cs, T, fr, by rw [← hs], hh, fun j hj => ?_⟩
  have hg := hget j hj
  have hv : (g i)[j]? = some ((g i)[j]'(by omega)) := List.getElem?_eq_getElem (by omega)
  rw [hv] at hg
  have ha : (a.add (i * P.cellsOf e)).add j = ⟨a.block, a.off + (i * P.cellsOf e + j), none⟩ := by
   rw [add_add', hs, zaj]
  rw [ha] at hg
  simp only [World.cell?, hh, Option.isSome_none, Bool.false_eq_true, if_false] at hg
  rw [hv, ← hg, Nat.add_assoc]
theorem elems_list {α : Type} {vals : α → List Value} {Q : α → Prop} {g : Nat → List Value} : ∀ {n : Nat}, (∀ i, i < n → ∃ x, Q x ∧ g i = vals x) → ∃ xs : List α, xs.length = n ∧ (∀ x ∈ xs, Q x) ∧ ∀ i x, xs[i]? = some x → g i = vals x
 | 0, _ => ⟨[], rfl, by simp, by simp⟩
 | n + 1, h => by
  obtain ⟨xs, h1, h2, h3⟩ := elems_list (n := n) fun i hi => h i (by omega)
  obtain ⟨x, hq, hx⟩ := h n (by omega)
  refine ⟨xs ++ [x], by simp [h1], ?_, ?_⟩
  ·intro y hy
   simp only [List.mem_append, List.mem_singleton] at hy
   rcases hy with hy | rfl
   ·exact h2 y hy
   ·exact hq
  ·intro i y hy
   rw [List.getElem?_append] at hy
   split at hy
   ·exact h3 i y hy
   ·rename_i hi
    have : i - xs.length = 0 := by
     rcases Nat.eq_zero_or_pos (i - xs.length) with h | h
     ·exact h
     ·rw [List.getElem?_eq_none (by simp; omega)] at hy; cases hy
    rw [this] at hy
    have e : i = n := by omega
    simp at hy
    subst hy; subst e
    exact hx
def ListAt {α : Type} (f : Frag) (p : Option Addr) (sz : Nat) (vals : α → List Value) (xs : List α) : Prop :=
 ∀ i x, xs[i]? = some x → ∃ b off cs T fr, p = some ⟨b, off, none⟩ ∧ f b = some (.cells cs T fr) ∧ ∀ j, j < (vals x).length → cs[off + i * sz + j]? = (vals x)[j]?
theorem Reads.list {P : Program} {W : World} {t e : TypeId} {cs : List Value} {α : Type} {vals : α → List Value} {Q : α → Prop} {sz : Nat} (ht : P.underlying t = some (.slice e)) (hsz : P.cellsOf e = sz) (h0 : 0 < sz)
  (hr : ∀ cs, Reads P W e cs → ∃ x, Q x ∧ cs = vals x) (h : Reads P W t cs) :
  ∃ (p : Option Addr) (c : Nat) (xs : List α), cs = [.slice p xs.length c] ∧ xs.length ≤ c ∧ c ≤ maxLen ∧ (∀ x ∈ xs, Q x) ∧ ListAt (memOf W) p sz vals xs := by
 subst hsz
 obtain ⟨p, n, c, g, e1, h1, h2, h3, h4⟩ := h.slice ht h0
 obtain ⟨xs, rfl, hq, hg⟩ := elems_list fun i hi => hr _ (h4 i hi)
 refine ⟨p, c, xs, e1, h1, h2, hq, fun i x hx => ?_⟩
 have hi : i < xs.length := by
  rcases Nat.lt_or_ge i xs.length with h | h
  ·exact h
  ·rw [List.getElem?_eq_none h] at hx; cases hx
 obtain ⟨hl, b, off, cs, T, fr, a1, a2, a3⟩ := h3 i hi
 refine ⟨b, off, cs, T, fr, a1, a2, fun j hj => ?_⟩
 rw [← hg i x hx] at hj ⊢
 exact a3 j (by omega)
def IntsAt (f : Frag) (g : Nat) (k : IntKind) (zs : List Int) : Prop := ∃ (cs : Array Value) (T : TypeId) (fr : Nat × Nat), f g = some (.cells cs T fr) ∧ ∀ (i : Nat) (z : Int), zs[i]? = some z → cs[i]? = some (.int k z)
theorem IntsAt.mono {f f' : Frag} {g : Nat} {k : IntKind} {zs : List Int} (hle : Le f f') (h : IntsAt f g k zs) : IntsAt f' g k zs := by
 obtain ⟨cs, T, fr, h1, h2⟩ := h
 exact ⟨cs, T, fr, hle g _ h1, h2⟩
theorem IntsAt.rd {f : Frag} {A : List HP} {g : Nat} {k : IntKind} {zs : List Int} (h : IntsAt f g k zs) {i : Nat} {z : Int} (hz : zs[i]? = some z) : Rd1 f A g i (.int k z) := by
 obtain ⟨cs, T, fr, h1, h2⟩ := h
 exact Rd1.imm h1 (h2 i z hz)
theorem laid_ints {P : Program} {W : World} {name : String} {zs : List Int} {g : Nat} {t e : TypeId} {k : IntKind} (h : laidMetH P [(name, .agg (zs.map fun z => .lit (.int k z)))] W)
  (hg : P.globalNamed name = some g) (ht : (P.globals[g]?).map (·.type) = some t) (hu : P.underlying t = some (.array zs.length e)) (he : P.underlying e = some (.int k)) (h1 : P.cellsOf e = 1) : IntsAt (memOf W) g k zs := by
 rw [MakeChecks.laidMetH_plain _ _ _ rfl] at h
 obtain ⟨ps, ⟨g0, t0, cs0, f0, p0, q0, hg0, ht0, hv0, hd0, _, _⟩, _, _⟩ := h
 obtain rfl := Option.some.inj (hg.symm.trans hg0)
 obtain rfl := Option.some.inj (ht.symm.trans ht0)
 obtain ⟨xs, m1, rfl, hx1, hlen, hn, hel⟩ := DataW.trod_array hu hd0
 simp only [Prod.mk.injEq, DataW.agg.injEq] at hx1
 have hh : ∃ T fr, W.heap[g]? = some (.cells cs0 T fr) := by
  simp only [World.var?, hg, Option.bind_some] at hv0
  split at hv0
  ·rename_i cs T fr hw
   cases hv0
   exact ⟨T, fr, hw⟩
  ·cases hv0
 obtain ⟨T, fr, hw⟩ := hh
 refine ⟨cs0, T, fr, hw, fun i z hz => ?_⟩
 have hi : i < zs.length := (List.getElem?_eq_some_iff.1 hz).1
 have h2 := hel i hi
 have h3 : (xs.map (·.1))[i]? = some (.lit (.int k z)) := by rw [← hx1.1, List.getElem?_map, hz]; rfl
 rw [List.getElem?_map] at h3
 cases hxi : xs[i]? with
 | none => rw [hxi] at h3; cases h3
 | some x =>
  rw [hxi] at h2 h3
  simp only [Option.map_some, Option.some.injEq] at h3
  obtain ⟨n, e1, e2, _⟩ := DataW.trod_int he h2
  rw [h1, Nat.mul_one] at e1
  have hn : n = z := by
   rw [e2] at h3
   simpa using h3
  subst hn
  have h4 : (cs0.toList.drop i)[0]? = some (.int k n) := by
   have : ((cs0.toList.drop i).take 1)[0]? = some (.int k n) := by rw [e1]; rfl
   rwa [List.getElem?_take_of_lt (by decide)] at this
  rw [List.getElem?_drop, Nat.add_zero] at h4
  simpa using h4
theorem params_plain {P : Program} {fn : Func} (h : (fn.params.toList.all fun t => !P.wantsStandIn t) = true) : ∀ (j : Nat) t, fn.params[j]? = some t → P.wantsStandIn t = false := fun j t ht => by
 have := List.all_eq_true.1 h t (Array.mem_toList_iff.2 (Array.mem_of_getElem? ht))
 simpa using this
theorem lawRowL {H' : Type} {enc : TypeId × Value → H'} {a : Assume} {C : Checked} {os : Os} {fid : FuncId} {fn : Func} {s : ChangeSpec} {conds : List PathCond} {apart fresh handsOn again : Bool} {tb : TypeId} {laid : List (String × DataW Unit)}
  (own : ownKnob C.prog.godebug = none) (started : os.Started) (noInit : C.prog.inits.idxOf? fid = none) (hfn : C.prog.funcs[fid]? = some fn)
  (witness : ∃ (w : World) (tape : Tape) (i : Input), w.os = os ∧ (w.forCall tape i).Shaped C.prog ∧ i.vars = [] ∧ Input.okWide C.prog (w.forCall tape i) .any w.heap.size fid i ∧
   ((s.pre enc C.prog fn conds apart (w.forCall tape i).memory i.args ∧ laidMetH C.prog laid (w.forCall tape i).memory) ∧ sizedMet enc C.prog fn (OpenSpec.ofChange s) apart (w.forCall tape i).memory i.args) ∧ a.holds C.prog (lone (Frame.enter C.prog fid i.args .normal) [] (w.forCall tape i)))
  (htb : C.prog.underlying tb = some .bool) (hres : fn.resultTypes = #[tb]) (hv : s.vars = []) (hl : laidOutB C.prog = true)
  (hts : fn.params.toList.all (fun t => C.prog.readableRec t && Nat.blt t C.prog.types.size) = true)
  (hs : ∀ ds : List (DataW H'), ds.length = fn.params.toList.length → s.fn H' ds = { results := [.lit (.bool true)], args := ds })
  (law : ∀ (W : World) (args : List Value), ArgsOk C.prog W fn.params.toList args → laidMetH C.prog laid W → Fn C.prog fid args (memOf W) [] (Ret (.bool true) (memOf W) [])) :
  ReturnsInHanded a C os fid .any (fun w args => (s.pre enc C.prog fn conds apart w args ∧ laidMetH C.prog laid w) ∧ sizedMet enc C.prog fn (OpenSpec.ofChange s) apart w args) (s.post enc C.prog fn apart fresh handsOn again) := by
 refine returnsInHanded_of_change_and (X := fun w _ => laidMetH C.prog laid w) (fun _ _ _ hh h => h.of_heap hh) own started noInit hfn witness ?_
 intro W base args ds gs before hval hW _ _ hL _
 have hW' := hW
 obtain ⟨p, q, hA, hV, rfl, _, _⟩ := hW
 rw [hv] at hV
 obtain ⟨rfl, rfl⟩ := trodVars_none hV
 rw [List.append_nil] at hW'
 have hts' : ∀ t ∈ fn.params.toList, C.prog.readableRec t = true ∧ t < C.prog.types.size := fun t ht => by
  have := List.all_eq_true.1 hts t ht
  simp only [Bool.and_eq_true] at this
  exact ⟨this.1, by have := this.2; simpa [Nat.blt_eq] using this⟩
 have hlen := trodAll_len hA
 have e := hs ds hlen
 have hc := law W args.toList (argsOk_of hA fun j t v h1 h2 => ⟨base, hval j t v (by simpa using h1) (by simpa using h2)⟩) hL W W (sat_start W)
 refine hc.mono ?_
 rintro x w' ⟨v, f', A', rfl, ⟨rfl, rfl, rfl⟩, hsat⟩
 refine ⟨_, rfl, post_own hW' hv hA hl hts' ?_ (by rw [List.append_nil, e]) (by rw [List.append_nil, e]) hsat.below ?_⟩
 ·intro b sp hd
  rw [List.append_nil, e, hres]
  exact trodAll_mk1 (shut_bool htb true)
 ·exact ok_one hres rfl (okWide_bool_mk htb true)
end Go.Proofs.YtdcjlgigcbinjaaGreatDoor

namespace Go.Proofs.YtdcjlgigcbinjaaGreatDoor
open Go
/-! ### Keys that are structs or arrays -/
section keys
variable {P : Program}
theorem offs_le {n : Nat} : ∀ (fs : List Field) (o : Nat), shp.offs P fs o n = true → o ≤ n ∧ ∀ f ∈ fs, f.name ≠ "_" ∧ f.offset + P.cellsOf f.type ≤ n
 | [], o, h => by
  have e : o = n := Nat.eq_of_beq_eq_true h
  exact ⟨by omega, fun f hf => by cases hf⟩
 | f :: fs, o, h => by
  simp only [shp.offs, Bool.and_eq_true, bne_iff_ne, ne_eq] at h
  obtain ⟨⟨hn, he⟩, hr⟩ := h
  have he' : f.offset = o := Nat.eq_of_beq_eq_true he
  subst he'
  obtain ⟨h1, h2⟩ := offs_le fs _ hr
  refine ⟨by omega, fun g hg => ?_⟩
  rcases List.mem_cons.1 hg with rfl | hg
  ·exact ⟨hn, h1⟩
  ·exact h2 g hg
theorem run_checkKey_shp (em : Bool) (w : World) : ∀ (d D : Nat) (t : TypeId) (xs : List Value), shp P D t xs = true → D ≤ d → (Instr.checkKey em d t (mkV P t xs)).run P w = .ok () w
 | 0, D, t, xs, h, hd => by
  have : D = 0 := by omega
  subst this
  simp [shp] at h
 | d + 1, D, t, xs, h, hd => by
  by_cases h1 : ∃ n e', P.underlying t = some (.array n e')
  ·obtain ⟨n, e, hu⟩ := h1
   obtain ⟨⟨i, hi⟩, l1, D1, rfl, s1⟩ := shp_len hu h
   have hm : mkV P t xs = .agg xs.toArray := by simp [mkV, hu]
   rw [hm, Instr.checkKey]
   simp only [Sem.run_bind, run_underlying hu, Result.andThen_ok]
   simp only [Std.Legacy.Range.forIn_eq_forIn_range', Std.Legacy.Range.size, Nat.sub_zero, Nat.add_one_sub_one, Nat.div_one]
   have each : ∀ j ∈ List.range' 0 n, j < n := fun j hj => by simp [List.mem_range'_1] at hj; omega
   generalize List.range' 0 n = is at each
   induction is with
   | nil => simp
   | cons j is ih =>
    have hj := each j (by simp)
    have hle : j * P.cellsOf e + P.cellsOf e ≤ xs.length := by
     rw [l1]
     have := Nat.mul_le_mul_right (P.cellsOf e) (show j + 1 ≤ n from hj)
     rwa [Nat.add_mul, Nat.one_mul] at this
    have p1 := zba w (s1 j hj) hle
    have p2 := run_checkKey_shp em w d D1 e _ (s1 j hj) (by omega)
    simp only [List.forIn_cons, Sem.run_bind, run_sizeOf w hi, Result.andThen_ok, p1, p2, Sem.run_pure]
    exact ih (fun y hy => each y (by simp [hy]))
  ·by_cases h2 : ∃ fs, P.underlying t = some (.struct fs)
   ·obtain ⟨fs, hu⟩ := h2
    obtain ⟨n1, l1, o1, D1, rfl, s1⟩ := shp_str hu h
    have hm : mkV P t xs = .agg xs.toArray := by simp [mkV, hu]
    rw [hm, Instr.checkKey]
    simp only [Sem.run_bind, run_underlying hu, Result.andThen_ok]
    rw [← Array.forIn_toList]
    have each := (offs_le fs.toList 0 o1).2
    generalize fs.toList = L at each s1
    induction L with
    | nil => simp
    | cons f L ih =>
     obtain ⟨hn, hle⟩ := each f (by simp)
     have p1 := zba w (s1 f (by simp)) hle
     have p2 := run_checkKey_shp em w d D1 f.type _ (s1 f (by simp)) (by omega)
     simp only [List.forIn_cons, Sem.run_bind, hn, ne_eq, not_false_eq_true, if_true, Result.andThen_ok, p1, p2, Sem.run_pure]
     exact ih (fun y hy => each y (by simp [hy])) (fun y hy => s1 y (by simp [hy]))
   ·obtain ⟨hpk, v, rfl, hmk, _⟩ := shp_plain h (fun n e hu => h1 ⟨n, e, hu⟩) (fun fs hu => h2 ⟨fs, hu⟩)
    rw [hmk]
    unfold Program.plainKey at hpk
    cases hu : P.underlying t with
    | none => simp [hu] at hpk
    | some k => cases k <;> simp [hu] at hpk <;> simp [Instr.checkKey, run_underlying hu]
def plnC : List Value → Bool
 | [] => true
 | v :: r => (match v with | .bool _ | .int _ _ | .string _ => true | _ => false) && plnC r
theorem plnC_mem : ∀ {l : List Value}, plnC l = true → ∀ m, (l.zip l).all (fun (x, y) => Instr.sameBits (m + 1) x y) = true
 | [], _, m => rfl
 | v :: r, h, m => by
  simp only [plnC, Bool.and_eq_true] at h
  simp only [List.zip_cons_cons, List.all_cons, plnC_mem h.2 m, Bool.and_true]
  cases v <;> simp at h <;> simp [Instr.sameBits]
  rw [beq_toListBytes]; simp
theorem keyT_agg {κ : Type} [DecidableEq κ] {kt : TypeId} {cellsK : κ → List Value} {D : Nat} (hwide : (match P.underlying kt with | some (.array _ _) | some (.struct _) => true | _ => false) = true)
  (hs : ∀ k, shp P D kt (cellsK k) = true) (hD : D ≤ 10000) (he : ∀ a b, eqC (cellsK a) (cellsK b) = decide (a = b)) (hp : ∀ k, plnC (cellsK k) = true) : KeyT P kt (fun k : κ => Value.agg (cellsK k).toArray) where
 chk := fun k e w => by
  have hm : mkV P kt (cellsK k) = .agg (cellsK k).toArray := by unfold mkV; split at hwide <;> simp_all
  rw [← hm]
  exact run_checkKey_shp e w 10000 D kt _ (hs k) hD
 same := fun k => by
  show Instr.sameBits (9999 + 1) _ _ = true
  simp only [Instr.sameBits, beq_self_eq_true, Bool.true_and]
  exact plnC_mem (hp k) 9998
 fnd := fun k es ks w h => by
  rw [run_findKey_eq w hwide]
  have hm : ∀ k, mkV P kt (cellsK k) = .agg (cellsK k).toArray := fun k => by unfold mkV; split at hwide <;> simp_all
  have heq : ∀ a b : κ, (Op.equal kt (.agg (cellsK a).toArray) (.agg (cellsK b).toArray)).run P w = .ok (decide (a = b)) w := fun a b => by
   have h3 := zaq 10000 kt w D D _ _ (hs a) (hs b) hD
   rw [hm, hm, he] at h3
   exact h3
  have key : ∀ (es : List MapEntry) (ks : List κ) (j : Nat), es.map (·.key) = ks.map (fun k : κ => Value.agg (cellsK k).toArray) →
    (Instr.findAsking kt (.agg (cellsK k).toArray) es j).run P w = .ok ((ks.findIdx? (k = ·)).bind fun i => (es[i]?).map fun e => (j + i, e.val)) w := by
   intro es
   induction es with
   | nil => intro ks j h; cases ks <;> simp at h; simp [Instr.findAsking]
   | cons e r ih =>
    intro ks j h
    cases ks with
    | nil => simp at h
    | cons k' ks =>
     simp only [List.map_cons, List.cons.injEq] at h
     simp only [Instr.findAsking, h.1, Sem.run_bind, heq, Result.andThen_ok, List.findIdx?_cons]
     by_cases c : k = k'
     ·simp [c]
     ·simp only [c, decide_false, Bool.false_eq_true, if_false, ih ks (j + 1) h.2]
      cases ks.findIdx? (k = ·) with
      | none => simp
      | some i => simp [Nat.add_assoc, Nat.add_comm 1]
  have := key es ks 0 h
  simpa only [Nat.zero_add] using this
end keys
/-! ### A map with its entries told; a loop over it -/
section loops
variable {P : Program} {base : World} {n : Nat} {L : Env} {f : Frag} {A : List HP} {q : Post}
variable {l rest : List Oper} {d : Nat} {ty : TypeId} {pos : String} {af : Array Edge} {gd : Option (Nat × Bool)}
variable {κ : Type} [DecidableEq κ] {enc : κ → Value}
theorem H.indexV {t e : TypeId} {m i : Nat} {x y : Operand} {xs : List Value} {ik : IntKind} {z : Int} {v : Value} {de : TypeDesc} [hu : Und P t (.array m e)] [he : Und P e de] [hs : Siz P e 1] (hw : want? l L gd = true)
  (hx : ev? L x = some (.agg xs.toArray)) (hy : ev? L y = some (.int ik z)) (hq : z = (i : Nat)) (hi : i < m) (ha : aggD de = false) (hv : xs[i]? = some v) (hd : Nat.ble (d + 1) n = true)
  (k : H P base n ((d, v) :: L) f A (.ops l rest q)) : H P base n L f A (.ops l (⟨some d, .index t x y, ty, pos, af, gd⟩ :: rest) q) :=
 H.opV hw hd (fun a w hf _ => by
  subst hq
  have h1 := hu.run w
  have h2 := hs.run w
  have h3 := run_isAgg he w
  have hi2 : (0 : Int) ≤ (i : Int) ∧ (i : Int) < (m : Int) := ⟨by omega, by omega⟩
  simp only [execOp, hf.eval hx, hf.eval hy, Instr.index, asIntOf, Sem.run_bind, Sem.run_pure, Result.andThen_ok, h1, hi2, if_true, h2, part, h3, ha, Bool.false_eq_true, if_false, and_self]
  simp [hv, Sem.run_pure]) k
end loops
theorem and31 : ∀ n : Fin 32, 0 < n.val → bitsI .and .u64 (18446744073709551616 - (n.val : Int)) 31 = some (((32 - n.val : Nat) : Nat) : Int) := by decide +kernel
theorem neg64 : ∀ n : Fin 32, 0 < n.val → IntKind.u64.wrap (-(n.val : Int)) = 18446744073709551616 - (n.val : Int) := by decide +kernel
theorem slP_ne {b o lv mv sz : Nat} (h : mv ≠ lv) : slP (some ⟨b, o, none⟩) lv mv sz = some ⟨b, o + lv * sz, none⟩ := by
 unfold slP
 rw [if_neg h]
 show some ((⟨b, o, none⟩ : Addr).add (lv * sz)) = _
 rw [zaj]
def accW (bs : List UInt8) (i : Nat) : Nat → UInt32
 | 0 => 0
 | k + 1 => accW bs i k <<< (UInt32.ofNat 8) ||| (bs.getD (4 * i + k) 0).toUInt32
theorem shl8_or (a b : UInt32) : (a ||| b) <<< (UInt32.ofNat 8) = a <<< (UInt32.ofNat 8) ||| b <<< (UInt32.ofNat 8) := by
 apply UInt32.toBitVec_inj.1
 simp only [UInt32.toBitVec_shiftLeft, UInt32.toBitVec_or]
 exact BitVec.shiftLeft_or_distrib _ _ _
theorem shl8_shl (a : UInt32) (n : Nat) (h : n + 8 < 32) : a <<< (UInt32.ofNat n) <<< (UInt32.ofNat 8) = a <<< (UInt32.ofNat (n + 8)) := by
 apply UInt32.toBitVec_inj.1
 simp only [UInt32.toBitVec_shiftLeft]
 have e : ∀ k, k < 32 → ((UInt32.ofNat k).toBitVec % 32).toNat = k := fun k hk => by
  simp [UInt32.toBitVec_ofNat', BitVec.toNat_umod, BitVec.toNat_ofNat]
  omega
 show a.toBitVec <<< ((UInt32.ofNat n).toBitVec % 32).toNat <<< ((UInt32.ofNat 8).toBitVec % 32).toNat = a.toBitVec <<< ((UInt32.ofNat (n + 8)).toBitVec % 32).toNat
 rw [e n (by omega), e 8 (by decide), e (n + 8) h]
 exact (BitVec.shiftLeft_add _ _ _).symm
theorem accW_word (bs : List UInt8) (i : Nat) : accW bs i 4 = Sha.word bs i := by
 unfold Sha.word
 simp only [accW, Nat.add_zero]
 have z : (0 : UInt32) <<< (UInt32.ofNat 8) = 0 := by decide
 have z2 : ∀ x : UInt32, 0 ||| x = x := fun x => by apply UInt32.toBitVec_inj.1; simp
 rw [z, z2]
 generalize (bs.getD (4 * i) 0).toUInt32 = x0
 generalize (bs.getD (4 * i + 1) 0).toUInt32 = x1
 generalize (bs.getD (4 * i + 2) 0).toUInt32 = x2
 have e3 : x0 <<< (UInt32.ofNat 8) <<< (UInt32.ofNat 8) <<< (UInt32.ofNat 8) = x0 <<< (UInt32.ofNat 24) := by rw [shl8_shl x0 8 (by decide)]; exact shl8_shl x0 16 (by decide)
 have e2 : x1 <<< (UInt32.ofNat 8) <<< (UInt32.ofNat 8) = x1 <<< (UInt32.ofNat 16) := shl8_shl x1 8 (by decide)
 rw [shl8_or, shl8_or, shl8_or, e3, e2]
section
variable (f : Frag) (F : List HP)
theorem rotL_fn {x : UInt32} {n : Nat} (h0 : 0 < n) (hn : n < 32) : Fn Tryz.prog 187 [w32 x, .int .i64 (-(n : Int))] f F (Ret (w32 (Sha.rot x n)) f F) := by
 have e1 : IntKind.u64.wrap (-(n : Int)) = 18446744073709551616 - (n : Int) := neg64 ⟨n, hn⟩ h0
 have e2 : bitsI .and .u64 (18446744073709551616 - (n : Int)) 31 = some ((32 - n : Nat) : Int) := and31 ⟨n, hn⟩ h0
 have e3 : IntKind.u64.wrap (32 - ((32 - n : Nat) : Int)) = (n : Int) := by rw [wr_u64 (by omega)]; omega
 have e4 : x <<< (UInt32.ofNat (32 - n)) ||| x >>> (UInt32.ofNat n) = Sha.rot x n := by
  unfold Sha.rot
  apply UInt32.toBitVec_inj.1
  simp only [UInt32.toBitVec_or]
  exact BitVec.or_comm _ _
 refine Fn.enter Tryz.func187 rfl Tryz.ntmps187 rfl (L := [(0, _), (1, _)]) ⟨rfl, rfl, trivial⟩ fun base => ?_
 repeat (first | (apply H.Bn; (iterate 2 exact rfl); exact e1; exact rfl) | ((first | apply H.Ah | apply H.Ak); (iterate 3 exact rfl)) | (first | apply H.seq | apply H.Al | apply H.nil | apply H.Am))
 refine H.Bj rfl rfl rfl e2 rfl rfl ?_
 repeat (first | (apply H.ar; (iterate 4 exact rfl); exact e3; exact rfl) | ((first | apply H.Ah | apply H.Ak); (iterate 3 exact rfl)) | (first | apply H.seq | apply H.Al | apply H.nil | apply H.Am) | (apply H.ret) | (apply H.shift; (iterate 3 exact rfl); (first | with_reducible exact u32_shl x (32 - n) (by omega) | with_reducible exact u32_shr x n hn); omega; (iterate 2 exact rfl)) | (refine H.Bj (op := .or) rfl rfl rfl (u32_or _ _) rfl rfl ?_))
 exact H.Ac rfl rfl (fun _ h => h) ⟨by rw [← e4]; rfl, rfl, rfl⟩
theorem sturn_fn {x : UInt32} {n : Nat} (h0 : 0 < n) (hn : n < 32) : Fn Tryz.prog 157 [w32 x, .int .i64 (n : Nat)] f F (Ret (w32 (Sha.rot x n)) f F) := by
 have e1 : IntKind.i64.wrap (0 - (n : Int)) = -(n : Int) := by rw [wr_i64 (by omega)]; omega
 refine Fn.enter Tryz.func157 rfl Tryz.ntmps157 rfl (L := [(0, _), (1, _)]) ⟨rfl, rfl, trivial⟩ fun base => ?_
 repeat (first | ((first | apply H.Ah | apply H.Ak); (iterate 3 exact rfl)) | (first | apply H.seq | apply H.Al | apply H.nil | apply H.Am) | (apply H.neg; (iterate 2 exact rfl); exact e1; exact rfl))
 refine H.Ad rfl rfl rfl (rotL_fn f _ h0 hn) ?_
 refine ga ?_
 exact H.Ac rfl rfl (fun _ h => h) ⟨rfl, rfl, rfl⟩
end
section
variable (f : Frag) (F : List HP)
def wPart (S : List UInt32) (i : Nat) (v : UInt32) : List Value := (wRow S i).set i (w32 v)
theorem wRow_len {S : List UInt32} (hS : S.length = 64) {i : Nat} (h : i ≤ 64) : (wRow S i).length = 64 := by
 unfold wRow
 rw [List.length_append, List.length_take, List.length_map, List.length_drop, z64_len, hS]
 omega
theorem wPart_zero {S : List UInt32} (hS : S.length = 64) {i : Nat} (h : i < 64) : wPart S i 0 = wRow S i := by
 have h1 : (wRow S i)[i]? = some (w32 0) := by
  unfold wRow
  exact fill_get2 (Nat.le_refl _) (by rw [List.length_map, hS, z64_len]) (by unfold z64; rw [List.getElem?_replicate, if_pos h])
 unfold wPart
 obtain ⟨hl, he⟩ := List.getElem?_eq_some_iff.1 h1
 rw [← he, List.set_getElem_self]
theorem wPart_set {S : List UInt32} (hS : S.length = 64) {i : Nat} (h : i < 64) (v u : UInt32) : SetV (wPart S i v) i (w32 u) (wPart S i u) := by
 have := SetV.mk (l := wPart S i v) (i := i) (w32 u) (by unfold wPart; rw [List.length_set, wRow_len hS (by omega)]; exact h)
 unfold wPart at this ⊢
 rwa [List.set_set] at this
theorem wPart_get {S : List UInt32} (hS : S.length = 64) {i : Nat} (h : i < 64) (v : UInt32) : (wPart S i v)[i]? = some (w32 v) := by
 unfold wPart
 rw [List.getElem?_set_self (by rw [wRow_len hS (by omega)]; exact h)]
theorem wPart_full {S : List UInt32} (hS : S.length = 64) {i : Nat} (h : i < 64) : wPart S i (S.getD i 0) = wRow S (i + 1) := by
 unfold wPart
 exact (SetV.eq (wRow_set hS h)).1.symm
set_option maxRecDepth 20000 in
set_option maxHeartbeats 1600000 in
theorem swords_fn {nb : Nat} {bs : List UInt8} (hb : bs.length = 64) : Fn Tryz.prog 156 [.pointer (some ⟨nb, 0, none⟩)] f (row nb 110 (bytesV bs) :: F) (Ret (.agg ((Sha.sched bs).map w32).toArray) f (row nb 110 (bytesV bs) :: F)) := by
 have hlo : ∀ i, i < 16 → (Sha.sched bs).getD i 0 = accW bs i 4 := fun i h => by rw [accW_word]; exact Sha.sched_lo bs h
 have hhi : ∀ j, j < 48 → (Sha.sched bs).getD (j + 16) 0 = (Sha.sched bs).getD j 0 + Sha.s0 ((Sha.sched bs).getD (j + 1) 0) + (Sha.sched bs).getD (j + 9) 0 + Sha.s1 ((Sha.sched bs).getD (j + 14) 0) := fun j h => Sha.sched_hi bs h
 have hS := Sha.sched_len bs
 generalize Sha.sched bs = S at hlo hhi hS ⊢
 refine Fn.enter Tryz.func156 rfl Tryz.ntmps156 rfl (L := [(0, _)]) ⟨rfl, trivial⟩ fun base => ?_
 refine gA ?_
 refine H.Av (ls := wRow S 0) rfl rfl rfl fun wb => ?_
 refine gA ?_
 refine H.Cd (lo := none) (mx := none) (lv := 0) (hv := 16) (mv := 64) rfl rfl rfl ⟨_, _, rfl, rfl⟩ rfl (fun h => by cases h) (by decide) (by decide) (by decide) rfl ?_
 refine ga ?_
 refine H.Ax (ι := Nat) (fun i => [(11, .int .i64 (i : Int)), (10, .int .i64 ((16 : Nat) : Int)), (0, .pointer (some ⟨nb, 0, none⟩)), (2, .pointer (some ⟨wb, 0, none⟩))]) (fun _ => f)
  (fun i => row wb 165 (wRow S i) :: row nb 110 (bytesV bs) :: F) (fun i => i ≤ 16) (fun i => 16 - i) 0 (Nat.zero_le _) ⟨rfl, rfl, rfl, rfl, trivial⟩ rfl rfl fun i hi => ?_
 have hi : i ≤ 16 := hi
 by_cases hlt : i < 16
 ·have e1 : IntKind.i64.wrap (4 * (i : Int)) = ((4 * i : Nat) : Int) := by rw [wr_i64 (by omega)]; omega
  have e2 : IntKind.i64.wrap (((4 * i : Nat) : Int) + 4) = ((4 * i + 4 : Nat) : Int) := by rw [wr_i64 (by omega)]; omega
  repeat (first | (apply H.ar; (iterate 4 exact rfl); exact e1; exact rfl) | (apply H.ar; (iterate 4 exact rfl); exact e2; exact rfl) | ((first | apply H.Ah | apply H.Ak | apply H.Az); (iterate 3 exact rfl)) | (first | apply H.seq | apply H.Al | apply H.nil | apply H.Am) | ((apply H.cmp); (iterate 5 exact rfl)) | (first | apply H.Bh | apply H.Bb) | (apply H.Br; exact rfl; (omega)))
  refine H.Cd (mx := none) (lv := 4 * i) (hv := 4 * i + 4) (mv := 64) rfl rfl ⟨_, _, rfl, rfl⟩ ⟨_, _, rfl, rfl⟩ rfl (fun h => by cases h) (by omega) (by omega) (by decide) rfl ?_
  rw [slP_ne (by omega), show 4 * i + 4 - 4 * i = 4 by omega]
  refine ga ?_
  refine H.Ax (ι := Nat) (fun k => [(23, .int .i64 (k : Int)), (22, .int .i64 ((4 : Nat) : Int)), (21, .slice (some ⟨nb, 0 + 4 * i * 1, none⟩) 4 (64 - 4 * i)), (3, .int .i64 (i : Int)), (11, .int .i64 (i : Int)), (10, .int .i64 ((16 : Nat) : Int)), (0, .pointer (some ⟨nb, 0, none⟩)), (2, .pointer (some ⟨wb, 0, none⟩))]) (fun _ => f)
   (fun k => row wb 165 (wPart S i (accW bs i k)) :: row nb 110 (bytesV bs) :: F) (fun k => k ≤ 4) (fun k => 4 - k) 0 (Nat.zero_le _) ⟨rfl, rfl, rfl, rfl, rfl, rfl, rfl, rfl, trivial⟩ rfl (by rw [show accW bs i 0 = 0 from rfl, wPart_zero hS (by omega)]) fun k hk => ?_
  have hk : k ≤ 4 := hk
  by_cases hk4 : k < 4
  ·have rdc : ∀ A A', At A (row nb 110 (bytesV bs)) A' (row nb 110 (bytesV bs)) → Rd1 f A nb (0 + 4 * i * 1 + k * 1) (.int .u8 ((bs.getD (4 * i + k) 0).toNat : Nat)) := fun A A' h => by
    rw [show 0 + 4 * i * 1 + k * 1 = 0 + (4 * i + k) by omega]
    exact Rd1.of (Rd.ofRow h) (zay (by omega))
   have hset := wPart_set hS (i := i) (by omega) (accW bs i k) (accW bs i (k + 1))
   have hget := wPart_get hS (i := i) (by omega) (accW bs i k)
   have hacc : accW bs i (k + 1) = accW bs i k <<< (UInt32.ofNat 8) ||| (bs.getD (4 * i + k) 0).toUInt32 := rfl
   rw [hacc] at hset
   show H _ _ _ ((23, .int .i64 (k : Int)) :: _) _ (row wb _ (wPart S i (accW bs i k)) :: _) _
   obtain ⟨v, hv⟩ : ∃ v, accW bs i k = v := ⟨_, rfl⟩
   rw [hv] at hset hget hacc ⊢
   refine gG ?_
   refine H.Bt (i := k) rfl rfl rfl rfl hk4 rfl ?_
   skip
   refine H.Ag rfl rfl rfl (rdc _ _ (by repeat constructor)) rfl ?_
   refine gU ?_
   refine H.Ba (i := i) rfl rfl rfl rfl (by omega) rfl ?_
   refine H.Ag rfl rfl rfl (.of (Rd.ofRow (by repeat constructor)) (by rw [Nat.mul_one]; exact hget)) rfl ?_
   refine H.shift (op := .shl) rfl rfl rfl (u32_shl8 _) (by decide) rfl rfl ?_
   repeat (first | (refine H.Bn rfl rfl (u32_ofByte _) rfl ?_) | ((apply H.Ah); (iterate 3 exact rfl)))
   refine H.Bj (op := .or) rfl rfl rfl (u32_or _ _) rfl rfl ?_
   refine H.Ba (i := i) rfl rfl rfl rfl (by omega) rfl ?_
   refine H.Bi (v := w32 _) (ls' := wPart S i (v <<< (UInt32.ofNat 8) ||| (bs.getD (4 * i + k) 0).toUInt32)) rfl rfl rfl rfl (by repeat constructor) (by rw [Nat.mul_one, Nat.zero_add]; exact hset) ?_
   refine gK ?_
   exact H.Au (k + 1) (by show k + 1 ≤ 4; omega) (by show 4 - (k + 1) < 4 - k; omega) ⟨rfl, rfl, rfl, rfl, rfl, rfl, rfl, rfl, trivial⟩ rfl (by show _ = row wb _ (wPart S i (accW bs i (k + 1))) :: _; rw [hacc])
  ·have hk44 : k = 4 := by omega
   subst hk44
   refine gP ?_
   exact H.Au (i + 1) (by show i + 1 ≤ 16; omega) (by show 16 - (i + 1) < 16 - i; omega) ⟨rfl, rfl, rfl, rfl, trivial⟩ rfl (by rw [← hlo i hlt, wPart_full hS (by omega)])
 ·have hi16 : i = 16 := by omega
  subst hi16
  refine gH ?_
  refine H.Ax (ι := Nat) (fun j => [(6, .int .i64 ((j + 16 : Nat) : Int)), (2, .pointer (some ⟨wb, 0, none⟩))]) (fun _ => f)
   (fun j => row wb 165 (wRow S (j + 16)) :: row nb 110 (bytesV bs) :: F) (fun j => j ≤ 48) (fun j => 48 - j) 0 (Nat.zero_le _) ⟨rfl, rfl, trivial⟩ rfl rfl fun j hj => ?_
  have hj : j ≤ 48 := hj
  by_cases hlt : j < 48
  ·have hw := hhi j hlt
   have hset := wRow_set hS (n := j + 16) (by omega)
   rw [hw] at hset
   have hg : ∀ k, k < j + 16 → (wRow S (j + 16))[k * 1]? = some (w32 (S.getD k 0)) := fun k hk => by rw [Nat.mul_one]; exact wRow_get hS hk (by omega)
   refine gG ?_
   refine H.Bp (by kernel_rfl) (by decide +kernel) (by repeat (first | exact zab | refine zaa ?_ | refine zac ?_ | refine zad ?_)) ?_
   repeat (first | (apply HQ.Ba (i := j + 1); (iterate 3 exact rfl); omega; omega; exact rfl) | (apply HQ.Ba (i := j + 14); (iterate 3 exact rfl); omega; omega; exact rfl) | (apply HQ.Ag; (iterate 3 exact rfl); exact .of (Rd.ofRow (by repeat constructor)) (hg _ (by omega)); exact rfl) | ((first | apply HQ.Ah | apply HQ.Ak); (iterate 3 exact rfl)) | ((apply HQ.done0); exact rfl) | ((apply HQ.ar; (iterate 4 exact rfl)); (with_reducible apply wr_i64; omega); exact rfl))
   refine gA ?_
   refine H.drawC [0, 1, 2, 3, 4, 5, 6, 7, 8, 9, 10, 11, 12, 13, 14, 15, 16, 17, 18, 19, 20, 21, 22, 23, 24, 25, 26, 27, 28] (by kernel_rfl) (by decide +kernel) (by repeat (first | exact zab | refine zaa ?_ | refine zac ?_ | refine zad ?_)) (S := [_]) rfl ?_
   refine HB.Af [(0, false), (1, false), (2, false), (3, false), (4, false), (5, false), (7, false), (10, false), (11, false), (14, false), (15, false), (16, false), (17, false), (19, false), (21, false), (24, false), (25, false)] 13 (by kernel_rfl) ?_
   repeat (first | (apply HQ.Ba (i := j); (iterate 3 exact rfl); omega; omega; exact rfl) | (apply HQ.Ba (i := j + 9); (iterate 3 exact rfl); omega; omega; exact rfl) | (apply HQ.Ag; (iterate 3 exact rfl); exact .of (Rd.ofRow (by repeat constructor)) (hg _ (by omega)); exact rfl) | ((apply HQ.Ah); (iterate 3 exact rfl)) | ((apply HQ.ar; (iterate 4 exact rfl)); (with_reducible apply wr_i64; omega); exact rfl) | (apply HQ.shift; (iterate 3 exact rfl); (first | with_reducible exact u32_shr3 _ | with_reducible exact u32_shr10 _); decide; (iterate 2 exact rfl)))
   refine HQ.Ae rfl ?_
   refine HB.ev1 (i := 6) (by kernel_rfl) rfl ?_
   refine H.Ad rfl rfl rfl (sturn_fn f _ (n := 7) (by decide) (by decide)) ?_
   refine gA ?_
   refine H.on0 rfl ?_
   refine HB.ev1 (i := 8) (by kernel_rfl) rfl ?_
   refine H.Ad rfl rfl rfl (sturn_fn f _ (n := 18) (by decide) (by decide)) ?_
   refine gA ?_
   refine H.on0 rfl ?_
   refine HB.Af [(9, false), (12, false), (13, false), (18, false)] 7 (by kernel_rfl) ?_
   repeat (first | ((apply HQ.ar; (iterate 4 exact rfl)); (rfl); exact rfl) | (apply HQ.Bj; (iterate 3 exact rfl); (with_reducible exact zao _ _); (iterate 2 exact rfl)))
   refine HQ.Ae rfl ?_
   refine HB.ev1 (i := 20) (by kernel_rfl) rfl ?_
   refine H.Ad rfl rfl rfl (sturn_fn f _ (n := 17) (by decide) (by decide)) ?_
   refine gA ?_
   refine H.on0 rfl ?_
   refine HB.ev1 (i := 22) (by kernel_rfl) rfl ?_
   refine H.Ad rfl rfl rfl (sturn_fn f _ (n := 19) (by decide) (by decide)) ?_
   refine gA ?_
   refine H.on0 rfl ?_
   refine HB.Af [(23, false), (26, false), (27, false), (28, false)] 1 (by kernel_rfl) ?_
   repeat (first | ((apply HQ.ar; (iterate 4 exact rfl)); (rfl); exact rfl) | (apply HQ.Bj; (iterate 3 exact rfl); (with_reducible exact zao _ _); (iterate 2 exact rfl)) | (apply HQ.Ba (i := j + 16); (iterate 3 exact rfl); exact rfl; omega; exact rfl))
   refine HQ.Ae rfl ?_
   refine HB.next [] (by kernel_rfl) (S' := []) rfl ?_
   refine HB.ev1 (i := 29) (by kernel_rfl) rfl ?_
   refine H.Bi (v := w32 _) (ls' := wRow S (j + 16 + 1)) rfl rfl rfl rfl (by repeat constructor) (by rw [Nat.mul_one, Nat.zero_add]; exact hset) ?_
   refine gA ?_
   refine H.on0 rfl ?_
   refine HB.Aq (by kernel_rfl) ?_
   refine gK ?_
   exact H.Au (j + 1) (by show j + 1 ≤ 48; omega) (by show 48 - (j + 1) < 48 - j; omega) ⟨by show some _ = some (Value.int .i64 ((j + 1 + 16 : Nat) : Int)); rw [show j + 1 + 16 = j + 16 + 1 by omega], rfl, trivial⟩ rfl (by show _ = row wb _ (wRow S (j + 1 + 16)) :: _; rw [show j + 1 + 16 = j + 16 + 1 by omega]; rfl)
  ·have hj48 : j = 48 := by omega
   subst hj48
   have hfull : wRow S (48 + 16) = S.map w32 := by
    unfold wRow
    rw [show 48 + 16 = (S.map w32).length by rw [List.length_map, hS], List.take_length, List.length_map, hS]
    show S.map w32 ++ z64.drop 64 = _
    rw [List.drop_eq_nil_of_le (by rw [z64_len]; exact Nat.le_refl _), List.append_nil]
   show H _ _ _ _ _ (row wb _ (wRow S (48 + 16)) :: _) _
   rw [hfull]
   have hl : (S.map w32).length = 64 := by rw [List.length_map, hS]
   refine gH ?_
   refine H.Aj (ls := S.map w32) rfl rfl rfl (Rd.ofRow (by repeat constructor)) hl rfl ?_
   refine H.Ap (ls := S.map w32) (vs := S.map w32) (ls' := S.map w32) rfl rfl rfl (fun v hv => by obtain ⟨x, _, rfl⟩ := List.mem_map.1 hv; rfl) hl (by unfold splice; rw [List.take_zero, List.nil_append, Nat.zero_add, List.drop_length, List.append_nil]) (by omega) (by repeat constructor) ?_
   refine ga ?_
   exact H.retD rfl rfl rfl (Rd.ofRow (by repeat constructor)) hl (fun _ s => s.drop (.here _ _)) ⟨rfl, rfl, rfl⟩
end
def TabAt (f : Frag) : Prop := IntsAt f 0 .u32 (Sha.k.map fun x => ((x.toNat : Nat) : Int))
theorem tab_rd {f : Frag} (h : TabAt f) {A : List HP} {i : Nat} (hi : i < 64) : Rd1 f A 0 (0 + i * 1) (w32 (Sha.k.getD i 0)) := by
 have e : (Sha.k.map fun x => ((x.toNat : Nat) : Int))[i]? = some (((Sha.k.getD i 0).toNat : Nat) : Int) := by
  have hl : i < Sha.k.length := hi
  rw [List.getElem?_map, List.getElem?_eq_getElem hl, List.getD_eq_getElem?_getD, List.getElem?_eq_getElem hl]
  rfl
 rw [show 0 + i * 1 = i by omega]
 exact h.rd e
theorem S8.comm (v s : Sha.S8) {i : Nat} (h : i < 8) : (v.add s).get i = s.get i + v.get i := by
 rw [Sha.S8.add_get v s h]
 apply UInt32.toBitVec_inj.1
 simp only [UInt32.toBitVec_add]
 exact BitVec.add_comm _ _
def addRow2 (v s : Sha.S8) (n : Nat) : List Value := (v.add s).vals.take n ++ s.vals.drop n
theorem addRow2_set (v s : Sha.S8) {i : Nat} (h : i < 8) : SetV (addRow2 v s i) i (w32 (s.get i + v.get i)) (addRow2 v s (i + 1)) := by
 rw [← S8.comm v s h]
 exact fill_set (Sha.S8.get_vals _ h) rfl
theorem addRow2_get (v s : Sha.S8) {i : Nat} (h : i < 8) : (addRow2 v s i)[i]? = some (w32 (s.get i)) := fill_get2 (Nat.le_refl _) rfl (Sha.S8.get_vals s h)
section
variable (f : Frag) (F : List HP)
set_option maxRecDepth 20000 in
set_option maxHeartbeats 1600000 in
theorem sblock_fn (htab : TabAt f) {s : Sha.S8} {bs : List UInt8} (hb : bs.length = 64) : Fn Tryz.prog 110 [.agg s.vals.toArray, .agg (bytesV bs).toArray] f F (Ret (.agg (Sha.block s bs).vals.toArray) f F) := by
 have hbl : (bytesV bs).length = 64 := by rw [zaf, hb]
 have hwords := fun nb G => swords_fn f G (nb := nb) hb
 have hS := Sha.sched_len bs
 unfold Sha.block
 generalize Sha.sched bs = S at hwords hS ⊢
 have hgS : ∀ k, k < 64 → (S.map w32)[k]? = some (w32 (S.getD k 0)) := fun k hk => map_get w32 (by omega) 0
 refine Fn.enter Tryz.func110 rfl Tryz.ntmps110 rfl (L := [(0, _), (1, _)]) ⟨rfl, rfl, trivial⟩ fun base => ?_
 refine gA ?_
 refine H.box (ls := s.vals) rfl rfl rfl rfl fun sb => ?_
 refine H.box (ls := bytesV bs) rfl rfl rfl rfl fun nb => ?_
 refine H.Av (ls := List.replicate 8 (.int .u32 0)) rfl rfl rfl fun ob => ?_
 refine gA ?_
 refine H.Bp (by kernel_rfl) (by decide +kernel) (by repeat (first | exact zab | refine zaa ?_ | refine zac ?_ | refine zad ?_)) ?_
 repeat (first | ((apply HQ.Ak); (iterate 3 exact rfl)) | (apply HQ.Ag; (iterate 3 exact rfl); apply Rd1.ofRow; (repeat (first | exact .here _ _ _ | apply At.there)); (iterate 2 exact rfl)) | ((apply HQ.done0); exact rfl) | (apply HQ.index_arrT; (iterate 3 exact rfl); decide; exact rfl))
 refine gA ?_
 refine H.Aa (x := row nb _ _) (by repeat constructor) ?_
 refine H.Ad rfl rfl rfl (hwords nb _) ?_
 refine ga ?_
 refine H.Ax (ι := Nat) (fun i => [(36, .int .i64 (i : Int)), (35, .agg (S.map w32).toArray), (5, w32 (Sha.rounds S s i).a), (6, w32 (Sha.rounds S s i).b), (7, w32 (Sha.rounds S s i).c), (8, w32 (Sha.rounds S s i).d), (9, w32 (Sha.rounds S s i).e), (10, w32 (Sha.rounds S s i).f), (11, w32 (Sha.rounds S s i).g), (12, w32 (Sha.rounds S s i).h), (2, .pointer (some ⟨sb, 0, none⟩)), (4, .pointer (some ⟨ob, 0, none⟩))]) (fun _ => f)
  (fun _ => row nb 110 (bytesV bs) :: row ob 108 (List.replicate 8 (.int .u32 0)) :: row sb 108 s.vals :: F) (fun i => i ≤ 64) (fun i => 64 - i) 0 (Nat.zero_le _) ⟨rfl, rfl, rfl, rfl, rfl, rfl, rfl, rfl, rfl, rfl, rfl, rfl, trivial⟩ rfl rfl fun i hi => ?_
 have hi : i ≤ 64 := hi
 by_cases hlt : i < 64
 ·have hr : Sha.rounds S s (i + 1) = Sha.round (Sha.k.getD i 0) (S.getD i 0) (Sha.rounds S s i) := rfl
  have hgs := hgS i hlt
  have hgk := fun A => tab_rd htab (A := A) hlt
  generalize Sha.k.getD i 0 = kk at hr hgk
  generalize S.getD i 0 = ww at hr hgs
  generalize S.map w32 = SL at hgs hwords ⊢
  show H _ _ _ [_, _, (5, w32 (Sha.rounds S s i).a), (6, w32 (Sha.rounds S s i).b), (7, w32 (Sha.rounds S s i).c), (8, w32 (Sha.rounds S s i).d), (9, w32 (Sha.rounds S s i).e), (10, w32 (Sha.rounds S s i).f), (11, w32 (Sha.rounds S s i).g), (12, w32 (Sha.rounds S s i).h), _, _] _ _ _
  generalize Sha.rounds S s i = v at hr ⊢
  repeat (first | ((first | apply H.Ah | apply H.Ak); (iterate 3 exact rfl)) | (first | apply H.seq | apply H.Al | apply H.nil | apply H.Am) | ((apply H.cmp); (iterate 5 exact rfl)) | (first | apply H.Bh | apply H.Bb) | (apply H.Br; exact rfl; (omega)) | (apply H.indexV (i := i); (iterate 4 exact rfl); exact hlt; exact rfl; exact hgs; exact rfl))
  refine H.Ay (by kernel_rfl) (by decide +kernel) (by repeat (first | exact zab | refine zaa ?_ | refine zac ?_ | refine zad ?_)) (S := []) rfl ?_
  refine HB.Af [(0, false), (1, false), (3, false), (6, false), (10, false), (11, false), (12, false), (13, false), (14, false), (15, false), (16, false), (17, false), (19, false), (20, false), (21, false), (23, false)] 10 (by kernel_rfl) ?_
  repeat (first | (apply HQ.Ba (i := i); (iterate 3 exact rfl); exact rfl; exact hlt; exact rfl) | (apply HQ.Ag; (iterate 3 exact rfl); exact hgk _; exact rfl) | ((apply HQ.Ah); (iterate 3 exact rfl)) | (apply HQ.Bj; (iterate 3 exact rfl); (first | with_reducible exact zao _ _ | with_reducible exact u32_and _ _); (iterate 2 exact rfl)) | (apply HQ.flip; (iterate 2 exact rfl); exact u32_not _; (iterate 2 exact rfl)))
  refine HQ.Ae rfl ?_
  refine HB.ev1 (i := 2) (by kernel_rfl) rfl ?_
  refine H.Ad rfl rfl rfl (sturn_fn f _ (n := 6) (by decide) (by decide)) ?_
  refine gA ?_
  refine H.on0 rfl ?_
  refine HB.ev1 (i := 4) (by kernel_rfl) rfl ?_
  refine H.Ad rfl rfl rfl (sturn_fn f _ (n := 11) (by decide) (by decide)) ?_
  refine gA ?_
  refine H.on0 rfl ?_
  refine HB.Af [(5, false)] 7 (by kernel_rfl) ?_
  repeat ((apply HQ.Bj; (iterate 3 exact rfl); (with_reducible exact zao _ _); (iterate 2 exact rfl)))
  refine HQ.Ae rfl ?_
  refine HB.ev1 (i := 7) (by kernel_rfl) rfl ?_
  refine H.Ad rfl rfl rfl (sturn_fn f _ (n := 25) (by decide) (by decide)) ?_
  refine gA ?_
  refine H.on0 rfl ?_
  refine HB.Af [(8, false), (9, false), (18, false), (22, false), (24, false), (25, false)] 0 (by kernel_rfl) ?_
  repeat (first | ((apply HQ.Ak); (iterate 3 exact rfl)) | ((apply HQ.ar; (iterate 4 exact rfl)); (rfl); exact rfl) | (apply HQ.Bj; (iterate 3 exact rfl); (with_reducible exact zao _ _); (iterate 2 exact rfl)))
  refine HQ.Ae rfl ?_
  refine HB.Aq (by kernel_rfl) ?_
  refine gU ?_
  refine H.Ad rfl rfl rfl (sturn_fn f _ (n := 2) (by decide) (by decide)) ?_
  refine gU ?_
  refine H.Ad rfl rfl rfl (sturn_fn f _ (n := 13) (by decide) (by decide)) ?_
  refine H.Bj (op := .xor) rfl rfl rfl (zao _ _) rfl rfl ?_
  refine gU ?_
  refine H.Ad rfl rfl rfl (sturn_fn f _ (n := 22) (by decide) (by decide)) ?_
  refine H.Bj (op := .xor) rfl rfl rfl (zao _ _) rfl rfl ?_
  refine gU ?_
  refine H.Bj (op := .and) rfl rfl rfl (u32_and _ _) rfl rfl ?_
  refine gU ?_
  refine H.Bj (op := .and) rfl rfl rfl (u32_and _ _) rfl rfl ?_
  refine H.Bj (op := .xor) rfl rfl rfl (zao _ _) rfl rfl ?_
  refine gU ?_
  refine H.Bj (op := .and) rfl rfl rfl (u32_and _ _) rfl rfl ?_
  refine H.Bj (op := .xor) rfl rfl rfl (zao _ _) rfl rfl ?_
  refine gK ?_
  exact H.Au (i + 1) (by show i + 1 ≤ 64; omega) (by show 64 - (i + 1) < 64 - i; omega) ⟨rfl, rfl, by rw [hr]; rfl, by rw [hr]; rfl, by rw [hr]; rfl, by rw [hr]; rfl, by rw [hr]; rfl, by rw [hr]; rfl, by rw [hr]; rfl, by rw [hr]; rfl, rfl, rfl, trivial⟩ rfl rfl
 ·have hi64 : i = 64 := by omega
  subst hi64
  show H _ _ _ [_, _, (5, w32 (Sha.rounds S s 64).a), (6, w32 (Sha.rounds S s 64).b), (7, w32 (Sha.rounds S s 64).c), (8, w32 (Sha.rounds S s 64).d), (9, w32 (Sha.rounds S s 64).e), (10, w32 (Sha.rounds S s 64).f), (11, w32 (Sha.rounds S s 64).g), (12, w32 (Sha.rounds S s 64).h), _, _] _ _ _
  generalize Sha.rounds S s 64 = v
  refine gH ?_
  refine H.buildA (out := v.vals) rfl rfl rfl rfl rfl ?_
  refine ga ?_
  refine H.Ab (x := row nb _ _) (by repeat constructor) ?_
  refine H.Aa (x := row sb _ _) (by repeat constructor) ?_
  refine H.Ax (ι := Nat) (fun i => [(107, .int .i64 (i : Int)), (106, .agg v.vals.toArray), (2, .pointer (some ⟨sb, 0, none⟩)), (4, .pointer (some ⟨ob, 0, none⟩))]) (fun _ => f)
   (fun i => row sb 108 (addRow2 v s i) :: row ob 108 (List.replicate 8 (.int .u32 0)) :: F) (fun i => i ≤ 8) (fun i => 8 - i) 0 (Nat.zero_le _) ⟨rfl, rfl, rfl, rfl, trivial⟩ rfl rfl fun i hi => ?_
  have hi : i ≤ 8 := hi
  by_cases hlt : i < 8
  ·have hset := addRow2_set v s hlt
   have hg := addRow2_get v s hlt
   have hg2 := Sha.S8.get_vals v hlt
   show H _ _ _ _ _ (row sb _ (addRow2 v s i) :: _) _
   repeat (first | ((first | apply H.Ah | apply H.Ak); (iterate 3 exact rfl)) | (first | apply H.seq | apply H.Al | apply H.nil | apply H.Am) | ((apply H.cmp); (iterate 5 exact rfl)) | (first | apply H.Bh | apply H.Bb) | (apply H.Br; exact rfl; (omega)) | (apply H.indexV (i := i); (iterate 4 exact rfl); exact hlt; exact rfl; exact hg2; exact rfl))
   refine H.Ba (i := i) rfl rfl rfl rfl hlt rfl ?_
   refine H.Ag rfl rfl rfl (.of (Rd.ofRow (by repeat constructor)) (by rw [Nat.mul_one]; exact hg)) rfl ?_
   refine gK ?_
   refine H.Ba (i := i) rfl rfl rfl rfl hlt rfl ?_
   refine H.Bi (v := w32 _) (ls' := addRow2 v s (i + 1)) rfl rfl rfl rfl (by repeat constructor) (by rw [Nat.mul_one, Nat.zero_add]; exact hset) ?_
   refine gK ?_
   exact H.Au (i + 1) (by show i + 1 ≤ 8; omega) (by show 8 - (i + 1) < 8 - i; omega) ⟨rfl, rfl, rfl, rfl, trivial⟩ rfl rfl
  ·have hi8 : i = 8 := by omega
   subst hi8
   refine gH ?_
   refine H.Aj (ls := (v.add s).vals) rfl rfl rfl (Rd.ofRow (by repeat constructor)) rfl rfl ?_
   refine H.Ap (ls := List.replicate 8 (.int .u32 0)) (vs := (v.add s).vals) (ls' := (v.add s).vals) rfl rfl rfl (zae rfl) rfl rfl (Nat.le_refl 8) (by repeat constructor) ?_
   refine ga ?_
   refine H.Ab (x := row sb _ _) (by repeat constructor) ?_
   exact H.retD rfl rfl rfl (Rd.ofRow (by repeat constructor)) rfl (fun _ s => s.drop (.here _ _)) ⟨rfl, rfl, rfl⟩
end
/-! ### Lists of structs -/
section
variable {α : Type} {vals : α → List Value} {sz : Nat}
theorem flat_len (hv : ∀ x, (vals x).length = sz) : ∀ xs : List α, (xs.flatMap vals).length = xs.length * sz
 | [] => by simp
 | x :: xs => by rw [List.flatMap_cons, List.length_append, hv, flat_len hv xs, List.length_cons, Nat.add_mul]; omega
theorem flat_split (xs : List α) {i : Nat} {x : α} (h : xs[i]? = some x) : xs.flatMap vals = (xs.take i).flatMap vals ++ vals x ++ (xs.drop (i + 1)).flatMap vals := by
 have hi : i < xs.length := by
  rcases Nat.lt_or_ge i xs.length with h' | h'
  ·exact h'
  ·rw [List.getElem?_eq_none h'] at h; cases h
 have e : xs = xs.take i ++ x :: xs.drop (i + 1) := by
  have h2 : xs[i] = x := by rw [List.getElem?_eq_getElem hi] at h; exact Option.some.inj h
  rw [← h2, List.getElem_cons_drop, List.take_append_drop]
 conv => lhs; rw [e]
 simp
theorem flat_get (hv : ∀ x, (vals x).length = sz) {xs : List α} {i : Nat} {x : α} (h : xs[i]? = some x) {j : Nat} (hj : j < sz) : (xs.flatMap vals)[i * sz + j]? = (vals x)[j]? := by
 have hi : i < xs.length := by
  rcases Nat.lt_or_ge i xs.length with h' | h'
  ·exact h'
  ·rw [List.getElem?_eq_none h'] at h; cases h
 have hl : ((xs.take i).flatMap vals).length = i * sz := by rw [flat_len hv, List.length_take, Nat.min_eq_left (by omega)]
 rw [flat_split xs h, List.append_assoc, List.getElem?_append_right (by omega), hl, show i * sz + j - i * sz = j by omega, List.getElem?_append_left (by rw [hv]; exact hj)]
theorem Rd.slcElem {f : Frag} {A A' : List HP} {b n c : Nat} {T : TypeId} {xs : List α} (hv : ∀ x, (vals x).length = sz) (h0 : 0 < sz) (h : At A (slc (some ⟨b, 0, none⟩) n c T sz (xs.flatMap vals)) A' (slc (some ⟨b, 0, none⟩) n c T sz (xs.flatMap vals)))
  {i : Nat} {x : α} (hx : xs[i]? = some x) : Rd f A b (i * sz) (vals x) := by
 have hi : i < xs.length := by
  rcases Nat.lt_or_ge i xs.length with h' | h'
  ·exact h'
  ·rw [List.getElem?_eq_none h'] at hx; cases hx
 have hl : ((xs.take i).flatMap vals).length = i * sz := by rw [flat_len hv, List.length_take, Nat.min_eq_left (by omega)]
 intro base w s
 obtain ⟨h1, h2, h3⟩ := s.slc_at h
 rw [flat_len hv] at h1
 rcases h3 with ⟨rfl, rfl⟩ | ⟨b', sp, e, _, _, hw⟩
 ·rw [Nat.zero_mul] at h1
  rcases Nat.mul_eq_zero.1 h1 with h | h <;> omega
 ·cases e
  refine ⟨_, _, _, hw, fun j hj => ?_⟩
  rw [hv] at hj
  have := flat_get hv hx hj
  simp only [List.getElem?_toArray]
  rw [List.getElem?_append_left ?_, this]
  rcases Nat.lt_or_ge (i * sz + j) (xs.flatMap vals).length with h | h
  ·exact h
  ·rw [List.getElem?_eq_none h] at this
   rw [List.getElem?_eq_getElem (by rw [hv]; exact hj)] at this
   cases this
theorem Le.right {f g : Frag} (h : Dj f g) : Le g (Proofs.YtdcjlgigcbinjaaGreatDoor.un f g) := fun k o hk => by
 rcases h k with e | e
 ·simp [Proofs.YtdcjlgigcbinjaaGreatDoor.un, e, hk]
 ·rw [e] at hk; cases hk
theorem ListAt.mono {f g : Frag} (h : Le f g) {p : Option Addr} {xs : List α} (hl : ListAt f p sz vals xs) : ListAt g p sz vals xs := fun i x hx => by
 obtain ⟨b, off, cs, T, fr, h1, h2, h3⟩ := hl i x hx
 exact ⟨b, off, cs, T, fr, h1, h _ _ h2, h3⟩
theorem slc_listAt {g : Frag} (hv : ∀ x, (vals x).length = sz) {p : Option Addr} {c : Nat} {T : TypeId} {xs : List α} (h : slc p xs.length c T sz (xs.flatMap vals) g) : ListAt g p sz vals xs := fun i x hx => by
 obtain ⟨_, _, h3⟩ := h
 have hi : i < xs.length := by
  rcases Nat.lt_or_ge i xs.length with h' | h'
  ·exact h'
  ·rw [List.getElem?_eq_none h'] at hx; cases hx
 rcases h3 with ⟨h0, _, _⟩ | ⟨b, sp, rfl, h4, h5, rfl⟩
 ·omega
 ·refine ⟨b, 0, (xs.flatMap vals ++ sp).toArray, T, (0, 0), rfl, by simp [sing], fun j hj => ?_⟩
  have hj' : j < sz := by rw [← hv x]; exact hj
  have := flat_get hv hx hj'
  rw [Nat.zero_add]
  simp only [List.getElem?_toArray]
  rw [List.getElem?_append_left ?_, this]
  rcases Nat.lt_or_ge (i * sz + j) (xs.flatMap vals).length with h | h
  ·exact h
  ·rw [List.getElem?_eq_none h] at this
   rw [List.getElem?_eq_getElem hj] at this
   cases this
end
/-! ### Parts of an owned slice -/
/-! ### Results: a struct in a cell of its own, and a value -/
/-! ### 'clear' of a part of a row -/
/-! ### What several things are owned together -/
def pack {ι : Type} (φ : ι → Prop) (B : ι → List HP) : HP := fun x => ∃ i, φ i ∧ stars (B i) x
theorem pack_fold {ι : Type} {φ : ι → Prop} {B : ι → List HP} {A : List HP} (i : ι) (h : φ i) : ∀ x, stars (B i ++ A) x → stars (pack φ B :: A) x :=
 fold_stars fun x hx => ⟨i, h, hx⟩
theorem H.unpack {ι : Type} {P : Program} {base : World} {n : Nat} {L : Env} {f : Frag} {A : List HP} {K : Kont} {φ : ι → Prop} {B : ι → List HP} (k : ∀ i, φ i → H P base n L f (B i ++ A) K) : H P base n L f (pack φ B :: A) K :=
 H.unfold (ι := { i // φ i }) (B := fun i => B i.1) (fun h ⟨i, hi, hx⟩ => ⟨⟨i, hi⟩, hx⟩) fun i => k i.1 i.2
theorem Fn.unpack {ι : Type} {P : Program} {fid : FuncId} {args : List Value} {f : Frag} {A : List HP} {R : Value → Frag → List HP → Prop} {φ : ι → Prop} {B : ι → List HP} (k : ∀ i, φ i → Fn P fid args f (B i ++ A) R) : Fn P fid args f (pack φ B :: A) R :=
 Fn.unfold (ι := { i // φ i }) (B := fun i => B i.1) (fun h ⟨i, hi, hx⟩ => ⟨⟨i, hi⟩, hx⟩) fun i => k i.1 i.2
def b32 (t : Nat → UInt8) : List Value := [.int .u8 (t 0).toNat, .int .u8 (t 1).toNat, .int .u8 (t 2).toNat, .int .u8 (t 3).toNat, .int .u8 (t 4).toNat, .int .u8 (t 5).toNat, .int .u8 (t 6).toNat, .int .u8 (t 7).toNat, .int .u8 (t 8).toNat, .int .u8 (t 9).toNat, .int .u8 (t 10).toNat, .int .u8 (t 11).toNat, .int .u8 (t 12).toNat, .int .u8 (t 13).toNat, .int .u8 (t 14).toNat, .int .u8 (t 15).toNat, .int .u8 (t 16).toNat, .int .u8 (t 17).toNat, .int .u8 (t 18).toNat, .int .u8 (t 19).toNat, .int .u8 (t 20).toNat, .int .u8 (t 21).toNat, .int .u8 (t 22).toNat, .int .u8 (t 23).toNat, .int .u8 (t 24).toNat, .int .u8 (t 25).toNat, .int .u8 (t 26).toNat, .int .u8 (t 27).toNat, .int .u8 (t 28).toNat, .int .u8 (t 29).toNat, .int .u8 (t 30).toNat, .int .u8 (t 31).toNat]
def v11 (d : Nat → Int) : List Value := [.int .u64 (d 0), .int .u64 (d 1), .int .u64 (d 2), .int .u64 (d 3), .int .u64 (d 4), .int .u64 (d 5), .int .u64 (d 6), .int .u64 (d 7), .int .u64 (d 8), .int .u64 (d 9), .int .u64 (d 10)]
structure Req where
 client : Int
 time : Int
 kind : UInt8
 key : ByteArray
 val : ByteArray
 old : ByteArray
 to : ByteArray
 amount : Int
 tag : Nat → UInt8
def Req.vals (r : Req) : List Value := [.int .i64 r.client, .int .u64 r.time, .int .u8 (r.kind.toNat : Nat), .string r.key, .string r.val, .string r.old, .string r.to, .int .u64 r.amount] ++ b32 r.tag
def Req.zero : Req := ⟨0, 0, 0, .empty, .empty, .empty, .empty, 0, fun _ => 0⟩
structure Bod where
 kind : UInt8
 view : Int
 k : Int
 req : Req
 q : List (Int × Int)
 dig : Nat → UInt8
def Bod.vals (x : Bod) (p : Option Addr) (c : Nat) : List Value := [.int .u8 (x.kind.toNat : Nat), .int .u64 x.view, .int .u64 x.k] ++ x.req.vals ++ [.slice p x.q.length c] ++ b32 x.dig
structure Msg where
 origin : Int
 number : Int
 deps : Nat → Int
 body : Bod
 tag : Nat → UInt8
def Msg.vals (m : Msg) (p : Option Addr) (c : Nat) : List Value := [.int .i64 m.origin, .int .u64 m.number] ++ v11 m.deps ++ m.body.vals p c ++ b32 m.tag
def pairV (p : Int × Int) : List Value := [.int .i64 p.1, .int .u64 p.2]
def QAt (f : Frag) (p : Option Addr) (q : List (Int × Int)) : Prop := ∀ i x, q[i]? = some x → ∃ b off cs T fr, p = some ⟨b, off, none⟩ ∧ f b = some (.cells cs T fr) ∧ ∀ j, j < (pairV x).length → cs[off + i * 2 + j]? = (pairV x)[j]?
theorem QAt.nil (f : Frag) (p : Option Addr) : QAt f p [] := fun i x h => by simp at h
section
variable (f : Frag) (A : List HP) (x : Bod) (q : Option Addr) (qc : Nat)
theorem view1_fn {p : Option Addr} {c : Nat} {l : List UInt8} (hs : Src Tryz.prog f A (.slice p l.length c) 1 l.length (bytesV l)) (hn : p = none → l = []) (hl : l.length ≤ 10000000000) :
  Fn Tryz.prog 183 [.slice p l.length c, .agg (x.vals q qc).toArray] f A (BytesR (l ++ be 8 x.view) f A) := by
 refine Fn.enter Tryz.func183 rfl Tryz.ntmps183 rfl (L := [(0, _), (1, _)]) ⟨rfl, rfl, trivial⟩ fun base => ?_
 refine gA ?_
 refine H.box (ls := x.vals q qc) rfl rfl rfl rfl fun xb => ?_
 refine gM ?_
 refine H.Ar rfl rfl rfl (word_fn f _ hs.cons hn hl) fun p1 c1 => ?_
 refine ga ?_
 refine H.Ab (.there _ (.here _ _)) ?_
 exact H.Ac rfl rfl (fun _ h => h) ⟨p1, c1, rfl, rfl, rfl⟩
theorem view3_fn : Fn Tryz.prog 185 [.agg (x.vals q qc).toArray] f A (Ret (.bool (decide (1 ≤ x.view))) f A) := by
 refine Fn.enter Tryz.func185 rfl Tryz.ntmps185 rfl (L := [(0, _)]) ⟨rfl, trivial⟩ fun base => ?_
 refine gA ?_
 refine H.box (ls := x.vals q qc) rfl rfl rfl rfl fun xb => ?_
 refine gF ?_
 refine H.Ab (.here _ _) ?_
 exact H.Ac rfl rfl (fun _ h => h) ⟨rfl, rfl, rfl⟩
theorem k_fn : Fn Tryz.prog 142 [.agg (x.vals q qc).toArray] f A (Ret (.bool (decide (1 ≤ x.k ∧ x.k ≤ 4611686018427387904))) f A) := by
 by_cases h1 : 1 ≤ x.k
 ·refine Fn.enter Tryz.func142 rfl Tryz.ntmps142 rfl (L := [(0, _)]) ⟨rfl, trivial⟩ fun base => ?_
  refine gA ?_
  refine H.box (ls := x.vals q qc) rfl rfl rfl rfl fun xb => ?_
  refine gY ?_
  refine H.Ab (.here _ _) ?_
  exact H.Ac rfl rfl (fun _ h => h) ⟨by simp [h1], rfl, rfl⟩
 ·refine Fn.enter Tryz.func142 rfl Tryz.ntmps142 rfl (L := [(0, _)]) ⟨rfl, trivial⟩ fun base => ?_
  refine gA ?_
  refine H.box (ls := x.vals q qc) rfl rfl rfl rfl fun xb => ?_
  refine gZ ?_
  refine H.Ab (.here _ _) ?_
  exact H.Ac rfl rfl (fun _ h => h) ⟨by simp [h1], rfl, rfl⟩
def Req.asked (r : Req) : Prop := 1 ≤ r.client ∧ r.client ≤ 8 ∧ 1 ≤ r.time ∧ r.time ≤ 4611686018427387904 ∧ (r.key.size ≤ 32 ∧ r.to.size ≤ 32) ∧ (r.val.size ≤ 128 ∧ r.old.size ≤ 128)
instance (r : Req) : Decidable r.asked := by unfold Req.asked; infer_instance
theorem asked_fn (r : Req) : Fn Tryz.prog 139 [.agg r.vals.toArray] f A (Ret (.bool (decide r.asked)) f A) := by
 by_cases h1 : 1 ≤ r.client
 ·skip
  by_cases h2 : r.client ≤ 8
  ·skip
   by_cases h3 : 1 ≤ r.time
   ·skip
    by_cases h4 : r.time ≤ 4611686018427387904
    ·skip
     by_cases h5 : r.key.size ≤ 32 ∧ r.to.size ≤ 32
     ·skip
      by_cases h6 : r.val.size ≤ 128 ∧ r.old.size ≤ 128
      ·skip
       refine Fn.enter Tryz.func139 rfl Tryz.ntmps139 rfl (L := [(0, _)]) ⟨rfl, trivial⟩ fun base => ?_
       refine gA ?_
       refine H.box (ls := r.vals) rfl rfl rfl rfl fun xb => ?_
       refine gE ?_
       refine H.max2 (z := if (r.key.size : Int) < r.to.size then (r.to.size : Int) else r.key.size) rfl rfl rfl rfl rfl ?_
       refine gE ?_
       refine H.max2 (z := if (r.val.size : Int) < r.old.size then (r.old.size : Int) else r.val.size) rfl rfl rfl rfl rfl ?_
       refine gV ?_
       refine H.Ab (.here _ _) ?_
       exact H.Ac rfl rfl (fun _ h => h) ⟨by rw [decide_eq_true (show r.asked from ⟨h1, h2, h3, h4, h5, h6⟩), decide_eq_true (by split <;> omega)], rfl, rfl⟩
      ·skip
       refine Fn.enter Tryz.func139 rfl Tryz.ntmps139 rfl (L := [(0, _)]) ⟨rfl, trivial⟩ fun base => ?_
       refine gA ?_
       refine H.box (ls := r.vals) rfl rfl rfl rfl fun xb => ?_
       refine gE ?_
       refine H.max2 (z := if (r.key.size : Int) < r.to.size then (r.to.size : Int) else r.key.size) rfl rfl rfl rfl rfl ?_
       refine gE ?_
       refine H.max2 (z := if (r.val.size : Int) < r.old.size then (r.old.size : Int) else r.val.size) rfl rfl rfl rfl rfl ?_
       refine gV ?_
       refine H.Ab (.here _ _) ?_
       exact H.Ac rfl rfl (fun _ h => h) ⟨by rw [decide_eq_false (show ¬ r.asked from fun h => h6 h.2.2.2.2.2), decide_eq_false (by split <;> omega)], rfl, rfl⟩
     ·skip
      refine Fn.enter Tryz.func139 rfl Tryz.ntmps139 rfl (L := [(0, _)]) ⟨rfl, trivial⟩ fun base => ?_
      refine gA ?_
      refine H.box (ls := r.vals) rfl rfl rfl rfl fun xb => ?_
      refine gE ?_
      refine H.max2 (z := if (r.key.size : Int) < r.to.size then (r.to.size : Int) else r.key.size) rfl rfl rfl rfl rfl ?_
      refine gZ ?_
      refine H.Ab (.here _ _) ?_
      exact H.Ac rfl rfl (fun _ h => h) ⟨by rw [decide_eq_false (fun h => h5 h.2.2.2.2.1)], rfl, rfl⟩
    ·skip
     refine Fn.enter Tryz.func139 rfl Tryz.ntmps139 rfl (L := [(0, _)]) ⟨rfl, trivial⟩ fun base => ?_
     refine gA ?_
     refine H.box (ls := r.vals) rfl rfl rfl rfl fun xb => ?_
     refine gZ ?_
     refine H.Ab (.here _ _) ?_
     exact H.Ac rfl rfl (fun _ h => h) ⟨by rw [decide_eq_false (fun h => h4 h.2.2.2.1)], rfl, rfl⟩
   ·skip
    refine Fn.enter Tryz.func139 rfl Tryz.ntmps139 rfl (L := [(0, _)]) ⟨rfl, trivial⟩ fun base => ?_
    refine gA ?_
    refine H.box (ls := r.vals) rfl rfl rfl rfl fun xb => ?_
    refine gZ ?_
    refine H.Ab (.here _ _) ?_
    exact H.Ac rfl rfl (fun _ h => h) ⟨by rw [decide_eq_false (fun h => h3 h.2.2.1)], rfl, rfl⟩
  ·skip
   refine Fn.enter Tryz.func139 rfl Tryz.ntmps139 rfl (L := [(0, _)]) ⟨rfl, trivial⟩ fun base => ?_
   refine gA ?_
   refine H.box (ls := r.vals) rfl rfl rfl rfl fun xb => ?_
   refine gZ ?_
   refine H.Ab (.here _ _) ?_
   exact H.Ac rfl rfl (fun _ h => h) ⟨by rw [decide_eq_false (fun h => h2 h.2.1)], rfl, rfl⟩
 ·skip
  refine Fn.enter Tryz.func139 rfl Tryz.ntmps139 rfl (L := [(0, _)]) ⟨rfl, trivial⟩ fun base => ?_
  refine gA ?_
  refine H.box (ls := r.vals) rfl rfl rfl rfl fun xb => ?_
  refine gZ ?_
  refine H.Ab (.here _ _) ?_
  exact H.Ac rfl rfl (fun _ h => h) ⟨by rw [decide_eq_false (fun h => h1 h.1)], rfl, rfl⟩
def quo : Int → List (Int × Int) → Bool
 | _, [] => true
 | was, p :: r => if p.1 ≤ was ∨ 11 < p.1 ∨ p.2 < 1 ∨ 65536 < p.2 then false else quo p.1 r
theorem quorum_fn {p : Option Addr} {c : Nat} {l : List (Int × Int)} (hq : QAt f p l) (hl : l.length ≤ 1000000000000) :
  Fn Tryz.prog 149 [.slice p l.length c] f A (Ret (.bool (quo 0 l && decide (0 < l.length))) f A) := by
 refine Fn.enter Tryz.func149 rfl Tryz.ntmps149 rfl (L := [(0, _)]) ⟨rfl, trivial⟩ fun base => ?_
 refine ga ?_
 refine H.Ax (ι := Nat × Int) (fun i => [(8, .int .i64 (i.1 : Int)), (7, .int .i64 (l.length : Nat)), (3, .int .i64 i.2), (0, .slice p l.length c), (6, .slice p l.length c)]) (fun _ => f) (fun _ => A) (fun i => i.1 ≤ l.length ∧ quo 0 l = quo i.2 (l.drop i.1)) (fun i => l.length - i.1) (0, 0) ⟨Nat.zero_le _, rfl⟩ ⟨rfl, rfl, rfl, rfl, rfl, trivial⟩ rfl rfl fun i hi => ?_
 obtain ⟨i, w⟩ := i
 obtain ⟨hi, hw⟩ : i ≤ l.length ∧ quo 0 l = quo w (l.drop i) := hi
 show H _ _ _ [(8, .int .i64 (i : Int)), _, (3, .int .i64 w), _, _] _ _ _
 rw [hw]
 refine gH ?_
 by_cases hlt : i < l.length
 ·have hx : l[i]? = some l[i] := List.getElem?_eq_getElem hlt
  have hd : l.drop i = l[i] :: l.drop (i + 1) := List.drop_eq_getElem_cons hlt
  generalize l[i] = x at hx hd
  obtain ⟨b, off, cs, T, fr, rfl, hfb, hcs⟩ := hq i x hx
  have rd : ∀ A, Rd f A b (off + i * 2) (pairV x) := fun A => Rd.imm hfb hcs
  clear hcs hfb
  have hquo : quo w (l.drop i) = if x.1 ≤ w ∨ 11 < x.1 ∨ x.2 < 1 ∨ 65536 < x.2 then false else quo x.1 (l.drop (i + 1)) := by rw [hd]; rfl
  refine gG ?_
  refine H.Bt rfl rfl rfl rfl hlt rfl ?_
  refine H.Aj (ls := pairV x) rfl rfl rfl (rd _) rfl rfl ?_
  refine H.Av rfl rfl rfl fun xb => ?_
  refine H.Ap (ls := [.int .i64 0, .int .u64 0]) (vs := pairV x) (ls' := pairV x) rfl rfl rfl (zae rfl) rfl rfl (Nat.le_refl 2) (by repeat constructor) ?_
  rw [hquo]
  by_cases h1 : x.1 ≤ w
  ·rw [if_pos (.inl h1)]
   clear hquo hw
   refine gZ ?_
   refine H.Ab (.here _ _) ?_
   exact H.Ac rfl rfl (fun _ h => h) ⟨rfl, rfl, rfl⟩
  ·by_cases h2 : 11 < x.1
   ·rw [if_pos (.inr (.inl h2))]
    clear hquo hw
    refine gZ ?_
    refine H.Ab (.here _ _) ?_
    exact H.Ac rfl rfl (fun _ h => h) ⟨rfl, rfl, rfl⟩
   ·by_cases h3 : x.2 < 1
    ·rw [if_pos (.inr (.inr (.inl h3)))]
     clear hquo hw
     refine gZ ?_
     refine H.Ab (.here _ _) ?_
     exact H.Ac rfl rfl (fun _ h => h) ⟨rfl, rfl, rfl⟩
    ·by_cases h4 : 65536 < x.2
     ·rw [if_pos (.inr (.inr (.inr h4)))]
      clear hquo hw
      refine gY ?_
      refine H.Ab (.here _ _) ?_
      exact H.Ac rfl rfl (fun _ h => h) ⟨rfl, rfl, rfl⟩
     ·have hno : ¬ (x.1 ≤ w ∨ 11 < x.1 ∨ x.2 < 1 ∨ 65536 < x.2) := by omega
      rw [if_neg hno]
      rw [if_neg hno] at hquo
      refine gP ?_
      refine H.Ab (.here _ _) ?_
      exact H.Au (i + 1, x.1) ⟨by show i + 1 ≤ l.length; omega, by first | rfl | exact hw.trans hquo⟩ (by show l.length - (i + 1) < l.length - i; omega) ⟨rfl, rfl, rfl, rfl, rfl, trivial⟩ rfl rfl
 ·have : i = l.length := by omega
  subst this
  rw [List.drop_length]
  refine gV ?_
  exact H.Ac rfl rfl (fun _ h => h) ⟨by simp [quo], rfl, rfl⟩
end
def Req.head (r : Req) : List UInt8 := [UInt8.ofNat (r.client % 256).toNat, r.kind]
def Req.bytes (r : Req) : List UInt8 := r.head ++ be 8 r.time ++ be 8 r.amount ++ textB r.key ++ textB r.val ++ textB r.old ++ textB r.to
def Req.texts (r : Req) : List ByteArray := [r.key, r.val, r.old, r.to]
theorem u8_wrap (z : Int) : IntKind.u8.wrap z = ((UInt8.ofNat (z % 256).toNat).toNat : Int) := by
 have h : IntKind.u8.wrap z = z % 256 := by simp [IntKind.wrap, IntKind.signed, IntKind.bits]
 rw [h]
 have h1 : 0 ≤ z % 256 := Int.emod_nonneg _ (by decide)
 have h2 : z % 256 < 256 := Int.emod_lt_of_pos _ (by decide)
 generalize z % 256 = y at h1 h2
 rw [UInt8.toNat_ofNat']
 omega
section
variable (f : Frag) (A : List HP)
theorem request_fn {p : Option Addr} {c : Nat} {l : List UInt8} (r : Req) (ha : r.asked) (hl : l.length ≤ 1000000000) :
  Fn Tryz.prog 133 [.slice p l.length c, .agg r.vals.toArray] f (slc p l.length c 5 1 (bytesV l) :: A) (BytesR (l ++ r.bytes) f A) := by
 refine Fn.enter Tryz.func133 rfl Tryz.ntmps133 rfl (L := [(0, _), (1, _)]) ⟨rfl, rfl, trivial⟩ fun base => ?_
 refine gA ?_
 refine H.box (ls := r.vals) rfl rfl rfl rfl fun xb => ?_
 refine gM ?_
 rw [u8_wrap]
 refine H.Bd rfl rfl rfl rfl (by decide) (by decide) rfl rfl fun tb => ?_
 refine H.Bf (m := 2) rfl rfl rfl rfl rfl (fun p' c' => (by repeat constructor)) (Src.slice (Rd.ofRow (by repeat constructor)) rfl) (zae rfl) rfl (by omega) (by omega) fun p2 c2 => ?_
 refine gU ?_
 refine H.Ab (.here _ _) ?_
 have e0 : (l ++ r.head).length = l.length + 2 := by rw [List.length_append]; rfl
 have e1 : bytesV (l ++ r.head) = bytesV l ++ bytesV r.head := zag _ _
 rw [show (2 : Nat) = 2 from rfl]
 generalize hl1 : l ++ r.head = l1 at e0 e1
 show H _ _ _ _ _ (row _ _ _ :: slc p2 (l.length + 2) c2 _ _ (bytesV l ++ bytesV r.head) :: A) _
 rw [← e0, ← e1]
 refine H.draw (qt 3 0 ++ qt 3 4 ++ [(3, true), (7, true)] ++ qt 1 8) (by kernel_rfl) (by decide +kernel) (by repeat (first | exact zab | refine zaa ?_ | refine zac ?_ | refine zad ?_)) (S := [_]) rfl ?_
 refine gJ ?_
 refine HQ.event ?_
 refine H.Ce (.there _ (.here _ _ _)) (by omega) fun b2 hp => ?_
 subst hp
 refine H.Ar rfl rfl rfl (word_fn (l := l1) f _ (Src.slcS (.there _ (.here _ _ _)) (by rw [zaf]; exact (Nat.mul_one _).symm)) (fun h => by cases h) (by omega)) fun p3 c3 => ?_
 refine gA ?_
 refine H.Ab (.there _ (.there _ (.here _ _))) ?_
 refine H.Ce (.here _ _ _) (by rw [List.length_append]; omega) fun b3 hp => ?_
 subst hp
 refine H.Aa (.there _ (.here _ _)) ?_
 refine H.back (A := [_]) rfl ?_
 refine HQ.event ?_
 refine H.Ar rfl rfl rfl (word_fn (l := l1 ++ be 8 r.time) f _ (Src.slcS (.there _ (.here _ _ _)) (by rw [zaf]; exact (Nat.mul_one _).symm)) (fun h => by cases h) (by rw [List.length_append, be_len]; omega)) fun p4 c4 => ?_
 refine gA ?_
 refine H.Ab (.there _ (.there _ (.here _ _))) ?_
 refine H.Aa (.there _ (.here _ _)) ?_
 refine H.back (A := [_]) rfl ?_
 refine gT ?_
 refine gM ?_
 refine H.Bd rfl rfl rfl rfl (by decide) (by decide) rfl rfl fun sb => ?_
 refine ga ?_
 have hsz : ∀ (i : Nat) (s : ByteArray), r.texts[i]? = some s → s.size ≤ 128 := by
  obtain ⟨_, _, _, _, ⟨k1, k2⟩, k3, k4⟩ := ha
  intro i s hs
  have := List.mem_of_getElem? hs
  simp only [Req.texts, List.mem_cons, List.not_mem_nil, or_false] at this
  rcases this with rfl | rfl | rfl | rfl <;> omega
 generalize hl2 : l1 ++ be 8 r.time ++ be 8 r.amount = l2
 have e2 : l2.length = l1.length + 16 := by rw [← hl2, List.length_append, List.length_append, be_len, be_len]
 refine H.Ax (ι := Nat × Option Addr × Nat) (fun i => [(38, .int .i64 (i.1 : Int)), (37, .int .i64 4), (36, .slice (some ⟨sb, 0, none⟩) 4 4), (0, .slice i.2.1 (l2 ++ (r.texts.take i.1).flatMap textB).length i.2.2)]) (fun _ => f)
  (fun i => row sb 9 [.string r.key, .string r.val, .string r.old, .string r.to] :: row xb 49 r.vals :: slc i.2.1 (l2 ++ (r.texts.take i.1).flatMap textB).length i.2.2 5 1 (bytesV (l2 ++ (r.texts.take i.1).flatMap textB)) :: A)
  (fun i => i.1 ≤ 4 ∧ (l2 ++ (r.texts.take i.1).flatMap textB).length ≤ l2.length + 200 * i.1) (fun i => 4 - i.1) (0, p4, c4) ?_ ?_ rfl ?_ fun i hi => ?_
 ·exact ⟨Nat.zero_le _, by simp⟩
 ·refine ⟨rfl, rfl, rfl, ?_, trivial⟩
  show some (Value.slice p4 l2.length c4) = some (Value.slice p4 (l2 ++ []).length c4)
  rw [List.append_nil]
 ·show _ = _ :: _ :: slc p4 (l2 ++ []).length c4 _ 1 (bytesV (l2 ++ [])) :: A
  rw [List.append_nil]
  rfl
 ·obtain ⟨i, p', c'⟩ := i
  obtain ⟨hi, hlen⟩ : i ≤ 4 ∧ (l2 ++ (r.texts.take i).flatMap textB).length ≤ l2.length + 200 * i := hi
  show H _ _ _ [(38, .int .i64 (i : Int)), _, _, (0, .slice p' (l2 ++ (r.texts.take i).flatMap textB).length c')] _ (_ :: _ :: slc p' (l2 ++ (r.texts.take i).flatMap textB).length c' _ 1 (bytesV (l2 ++ (r.texts.take i).flatMap textB)) :: A) _
  generalize hacc : l2 ++ (r.texts.take i).flatMap textB = acc at hlen
  have hpos : l2.length ≤ acc.length := by rw [← hacc, List.length_append]; omega
  refine gH ?_
  by_cases hlt : i < 4
  ·obtain ⟨s, hs⟩ : ∃ s, r.texts[i]? = some s := ⟨r.texts[i]'hlt, List.getElem?_eq_getElem hlt⟩
   have hv : ([.string r.key, .string r.val, .string r.old, .string r.to] : List Value)[i]? = some (.string s) := by
    have : ([.string r.key, .string r.val, .string r.old, .string r.to] : List Value) = r.texts.map Value.string := rfl
    rw [this, List.getElem?_map, hs]; rfl
   have hs128 := hsz i s hs
   have e3 : l2 ++ (r.texts.take (i + 1)).flatMap textB = acc ++ textB s := by
    rw [List.take_add_one, hs, ← hacc]; simp
   refine H.Ce (.there _ (.there _ (.here _ _ _))) (by omega) fun b' hp => ?_
   subst hp
   refine gG ?_
   refine H.index1 rfl rfl rfl rfl hlt rfl ?_
   refine H.Ag rfl rfl rfl (.of (Rd.ofRow (by repeat constructor)) hv) rfl ?_
   refine gU ?_
   refine H.Ar rfl rfl rfl (text_fn (l := acc) f _ (Src.slcS (.there _ (.there _ (.here _ _ _))) (by rw [zaf]; exact (Nat.mul_one _).symm)) (fun h => by cases h) (by omega) (by omega)) fun p5 c5 => ?_
   refine gR ?_
   refine H.Ab (.there _ (.there _ (.there _ (.here _ _)))) ?_
   refine H.Aa (.there _ (.there _ (.here _ _))) ?_
   refine H.Aa (.there _ (.there _ (.here _ _))) ?_
   have hts : (textB s).length ≤ 200 := by unfold textB; rw [List.length_append, be_len, zap]; omega
   refine H.Au (i + 1, p5, c5) ⟨by show i + 1 ≤ 4; omega, ?_⟩ (by show 4 - (i + 1) < 4 - i; omega) ⟨rfl, rfl, rfl, ?_, trivial⟩ rfl ?_
   ·show (l2 ++ (r.texts.take (i + 1)).flatMap textB).length ≤ l2.length + 200 * (i + 1)
    rw [e3, List.length_append]; omega
   ·show some _ = some (Value.slice p5 (l2 ++ (r.texts.take (i + 1)).flatMap textB).length c5)
    rw [e3]
   ·show _ = _ :: _ :: slc p5 (l2 ++ (r.texts.take (i + 1)).flatMap textB).length c5 _ 1 (bytesV (l2 ++ (r.texts.take (i + 1)).flatMap textB)) :: A
    rw [e3]
  ·have : i = 4 := by omega
   subst this
   refine gR ?_
   refine H.Ab (.here _ _) ?_
   refine H.Ab (.here _ _) ?_
   have e4 : acc = l ++ r.bytes := by rw [← hacc, ← hl2, ← hl1]; simp [Req.bytes, Req.texts]
   subst e4
   exact H.Ac rfl rfl (fun _ h => h) ⟨p', c', rfl, rfl, rfl⟩
end
section
variable (f : Frag) (A : List HP)
theorem rrequest_fn {p : Option Addr} {c : Nat} {l : List UInt8} (r : Req) (ha : r.asked) (hl : l.length ≤ 1000000000) :
  Fn Tryz.prog 102 [.slice p l.length c, .agg r.vals.toArray] f (slc p l.length c 5 1 (bytesV l) :: A) (BytesR (l ++ r.bytes) f A) := by
 refine Fn.enter Tryz.func102 rfl Tryz.ntmps102 rfl (L := [(0, _), (1, _)]) ⟨rfl, rfl, trivial⟩ fun base => ?_
 refine gA ?_
 refine H.box (ls := r.vals) rfl rfl rfl rfl fun xb => ?_
 refine gM ?_
 rw [u8_wrap]
 refine H.Bd rfl rfl rfl rfl (by decide) (by decide) rfl rfl fun tb => ?_
 refine H.Bf (m := 2) rfl rfl rfl rfl rfl (fun p' c' => (by repeat constructor)) (Src.slice (Rd.ofRow (by repeat constructor)) rfl) (zae rfl) rfl (by omega) (by omega) fun p2 c2 => ?_
 refine gU ?_
 refine H.Ab (.here _ _) ?_
 have e0 : (l ++ r.head).length = l.length + 2 := by rw [List.length_append]; rfl
 have e1 : bytesV (l ++ r.head) = bytesV l ++ bytesV r.head := zag _ _
 rw [show (2 : Nat) = 2 from rfl]
 generalize hl1 : l ++ r.head = l1 at e0 e1
 show H _ _ _ _ _ (row _ _ _ :: slc p2 (l.length + 2) c2 _ _ (bytesV l ++ bytesV r.head) :: A) _
 rw [← e0, ← e1]
 refine H.draw (qt 3 0 ++ qt 3 4 ++ [(3, true), (7, true)] ++ qt 1 8) (by kernel_rfl) (by decide +kernel) (by repeat (first | exact zab | refine zaa ?_ | refine zac ?_ | refine zad ?_)) (S := [_]) rfl ?_
 refine gJ ?_
 refine HQ.event ?_
 refine H.Ce (.there _ (.here _ _ _)) (by omega) fun b2 hp => ?_
 subst hp
 refine H.Ar rfl rfl rfl (zau (l := l1) f _ (Src.slcS (.there _ (.here _ _ _)) (by rw [zaf]; exact (Nat.mul_one _).symm)) (by omega)) fun p3 c3 => ?_
 refine gA ?_
 refine H.Ab (.there _ (.there _ (.here _ _))) ?_
 refine H.Ce (.here _ _ _) (by rw [List.length_append]; omega) fun b3 hp => ?_
 subst hp
 refine H.Aa (.there _ (.here _ _)) ?_
 refine H.back (A := [_]) rfl ?_
 refine HQ.event ?_
 refine H.Ar rfl rfl rfl (zau (l := l1 ++ be 8 r.time) f _ (Src.slcS (.there _ (.here _ _ _)) (by rw [zaf]; exact (Nat.mul_one _).symm)) (by rw [List.length_append, be_len]; omega)) fun p4 c4 => ?_
 refine gA ?_
 refine H.Ab (.there _ (.there _ (.here _ _))) ?_
 refine H.Aa (.there _ (.here _ _)) ?_
 refine H.back (A := [_]) rfl ?_
 refine gT ?_
 refine gM ?_
 obtain ⟨_, _, _, _, ⟨k1, k2⟩, k3, k4⟩ := ha
 generalize hl2 : l1 ++ be 8 r.time ++ be 8 r.amount = l2
 have e2 : l2.length = l1.length + 16 := by rw [← hl2, List.length_append, List.length_append, be_len, be_len]
 refine H.Ar rfl rfl rfl (rtext_fn (l := l2) f _ (Src.slcS (.there _ (.here _ _ _)) (by rw [zaf]; exact (Nat.mul_one _).symm)) (by omega) (by omega)) fun p5 c5 => ?_
 generalize hm0 : l2 ++ textB r.key = m0
 have em0 : m0.length ≤ l2.length + 200 := by rw [← hm0, List.length_append]; unfold textB; rw [List.length_append, be_len, zap]; omega
 refine gL ?_
 refine H.Ab (.there _ (.there _ (.here _ _))) ?_
 refine H.Aa (.there _ (.here _ _)) ?_
 skip
 refine H.Ar rfl rfl rfl (rtext_fn (l := m0) f _ (Src.slcS (.there _ (.here _ _ _)) (by rw [zaf]; exact (Nat.mul_one _).symm)) (by omega) (by omega)) fun p6 c6 => ?_
 generalize hm1 : m0 ++ textB r.val = m1
 have em1 : m1.length ≤ m0.length + 200 := by rw [← hm1, List.length_append]; unfold textB; rw [List.length_append, be_len, zap]; omega
 refine gL ?_
 refine H.Ab (.there _ (.there _ (.here _ _))) ?_
 refine H.Aa (.there _ (.here _ _)) ?_
 skip
 refine H.Ar rfl rfl rfl (rtext_fn (l := m1) f _ (Src.slcS (.there _ (.here _ _ _)) (by rw [zaf]; exact (Nat.mul_one _).symm)) (by omega) (by omega)) fun p7 c7 => ?_
 generalize hm2 : m1 ++ textB r.old = m2
 have em2 : m2.length ≤ m1.length + 200 := by rw [← hm2, List.length_append]; unfold textB; rw [List.length_append, be_len, zap]; omega
 refine gL ?_
 refine H.Ab (.there _ (.there _ (.here _ _))) ?_
 refine H.Aa (.there _ (.here _ _)) ?_
 skip
 refine H.Ar rfl rfl rfl (rtext_fn (l := m2) f _ (Src.slcS (.there _ (.here _ _ _)) (by rw [zaf]; exact (Nat.mul_one _).symm)) (by omega) (by omega)) fun p8 c8 => ?_
 generalize hm3 : m2 ++ textB r.to = m3
 have em3 : m3.length ≤ m2.length + 200 := by rw [← hm3, List.length_append]; unfold textB; rw [List.length_append, be_len, zap]; omega
 refine gR ?_
 refine H.Ab (.there _ (.there _ (.here _ _))) ?_
 refine H.Aa (.there _ (.here _ _)) ?_
 skip
 refine H.Ab (.here _ _) ?_
 have e9 : m3 = l ++ r.bytes := by rw [← hm3, ← hm2, ← hm1, ← hm0, ← hl2, ← hl1]; simp [Req.bytes]
 subst e9
 exact H.Ac rfl rfl (fun _ h => h) ⟨p8, c8, rfl, rfl, rfl⟩
end
def baOf (l : List UInt8) : ByteArray := ⟨l.toArray⟩
theorem H.cutOpen {P : Program} {base : World} {n : Nat} {L : Env} {f : Frag} {F : List HP} {K : Kont} {cb : Nat} {l : List UInt8} {sp : Bool}
  (k : ∀ p c, BAt f p l → l.length ≤ c → H P base n L f (row cb 233 [.slice p l.length c, .bool sp] :: F) K) : H P base n L f (cutH f cb l sp :: F) K := .mk fun a w hf s => by
 obtain ⟨m, hm, hd, hw⟩ := s.mem
 obtain ⟨m1, m2, d, rfl, ⟨⟨p, c⟩, hh⟩, r⟩ := hm
 obtain ⟨n1, n2, dd, rfl, ⟨⟨hb, hc⟩, rfl⟩, n3, n4, d3, rfl, h4, h5⟩ := hh
 refine (k p c hb hc).out a w hf ⟨s.os, s.tape, s.output, s.size, s.imm, _, ?_, hd, hw⟩
 have e5 : n4 = nil0 := h5
 subst e5
 rw [nil_un, un_nil]
 rw [nil_un, un_nil] at d
 exact ⟨n3, m2, d, rfl, h4, r⟩
def Cs.hash (s : Cs) : Nat → UInt8 := fun i => (s.raw 32).getD i 0
def b32L (t : Nat → UInt8) : List UInt8 := [t 0, t 1, t 2, t 3, t 4, t 5, t 6, t 7, t 8, t 9, t 10, t 11, t 12, t 13, t 14, t 15, t 16, t 17, t 18, t 19, t 20, t 21, t 22, t 23, t 24, t 25, t 26, t 27, t 28, t 29, t 30, t 31]
theorem b32_bytes (t : Nat → UInt8) : b32 t = bytesV (b32L t) := rfl
theorem list32 {α : Type} {l : List α} (h : l.length = 32) (z : α) : l = [l.getD 0 z, l.getD 1 z, l.getD 2 z, l.getD 3 z, l.getD 4 z, l.getD 5 z, l.getD 6 z, l.getD 7 z, l.getD 8 z, l.getD 9 z, l.getD 10 z, l.getD 11 z, l.getD 12 z, l.getD 13 z, l.getD 14 z, l.getD 15 z, l.getD 16 z, l.getD 17 z, l.getD 18 z, l.getD 19 z, l.getD 20 z, l.getD 21 z, l.getD 22 z, l.getD 23 z, l.getD 24 z, l.getD 25 z, l.getD 26 z, l.getD 27 z, l.getD 28 z, l.getD 29 z, l.getD 30 z, l.getD 31 z] := by
 match l, h with
 | [_, _, _, _, _, _, _, _, _, _, _, _, _, _, _, _, _, _, _, _, _, _, _, _, _, _, _, _, _, _, _, _], _ => rfl
theorem b32L_get {l : List UInt8} (h : l.length = 32) : b32L (fun i => l.getD i 0) = l := (list32 h 0).symm
section
variable (f : Frag) (F : List HP) (cb : Nat) (s : Cs)
theorem text_cs {most : Nat} (hl : s.l.length ≤ 1000000000000) (hm : most ≤ 100000) :
  Fn Tryz.prog 182 [.pointer (some ⟨cb, 0, none⟩), .int .i64 (most : Nat)] f (cutC f cb s :: F) (Ret (.string (baOf (s.text most))) f (cutC f cb (s.textS most) :: F)) := by
 have hn := s.num2_lt
 have hh := half_cs f F cb s hl
 unfold cutC at hh ⊢
 refine cutH_open fun p c hb hc => ?_
 have fin : ¬ s.tok most = true → ∀ x, stars (row cb 233 [.slice p s.l.length c, .bool true] :: F) x → stars (cutH f cb (s.textS most).l (s.textS most).bad :: F) x := fun ht => by
  unfold Cs.textS; rw [if_neg ht]; exact zal hb hc
 by_cases h2 : s.ok 2 = true
 ·obtain ⟨hb0, hl2⟩ := (Cs.ok_iff _ _).1 h2
  have hs : s.skip 2 = ⟨s.l.drop 2, false⟩ := by unfold Cs.skip; rw [if_pos h2]
  rw [hs] at hh
  generalize hk : s.num 2 = k at hn hh
  by_cases h3 : k ≤ most
  ·by_cases h4 : k ≤ (s.l.drop 2).length
   ·have ht : s.tok most = true := by
     rw [List.length_drop] at h4
     simp [Cs.tok, h2, hk, h3]; omega
    have e1 : s.text most = (s.l.drop 2).take k := by unfold Cs.text; rw [if_pos ht, hk]
    have e2 : s.textS most = ⟨(s.l.drop 2).drop k, false⟩ := by unfold Cs.textS; rw [if_pos ht, hk, List.drop_drop]
    rw [e1, e2]
    have hlen : ((s.l.drop 2).take k).length = k := by rw [List.length_take]; omega
    refine Fn.enter Tryz.func182 rfl Tryz.ntmps182 rfl (L := [(0, _), (1, _)]) ⟨rfl, rfl, trivial⟩ fun base => ?_
    refine gS ?_
    refine H.imp (zal hb hc) ?_
    refine H.Ad rfl rfl rfl hh ?_
    refine gM ?_
    refine H.cutOpen fun p2 c2 hb2 hc2 => ?_
    refine gY ?_
    refine H.imp (zal hb2 hc2) ?_
    have hty := take_yes f F cb h4 (by rw [List.length_drop]; omega)
    refine H.callP rfl rfl rfl hty fun i hb3 => ?_
    obtain ⟨p3, c3⟩ := i
    have hb3 : BAt f p3 ((s.l.drop 2).take k) := hb3
    refine gX ?_
    refine H.cutOpen fun p4 c4 hb4 hc4 => ?_
    refine gN ?_
    have hsrc : ∀ A, Src Tryz.prog f A (.slice p3 ((s.l.drop 2).take k).length c3) 1 ((s.l.drop 2).take k).length (bytesV ((s.l.drop 2).take k)) := fun A => hb3.src
    have hnil : p3 = none → (s.l.drop 2).take k = [] := fun hp => by rcases hb3 with h | ⟨b, off, cs, T, fr, h, _⟩; exact h; rw [hp] at h; cases h
    refine H.know (d := 41) (u := .slice p3 ((s.l.drop 2).take k).length c3) rfl (by rw [hlen]) ?_
    refine H.convBS rfl rfl (hsrc _) hnil rfl ?_
    refine ga ?_
    exact H.Ac rfl rfl (zal hb4 hc4) ⟨rfl, rfl, rfl⟩
   ·have ht : ¬ s.tok most = true := by
     rw [List.length_drop] at h4
     simp [Cs.tok, h2, hk, h3]; omega
    have e1 : s.text most = [] := by unfold Cs.text; rw [if_neg ht]
    rw [e1]
    refine Fn.enter Tryz.func182 rfl Tryz.ntmps182 rfl (L := [(0, _), (1, _)]) ⟨rfl, rfl, trivial⟩ fun base => ?_
    refine gS ?_
    refine H.imp (zal hb hc) ?_
    refine H.Ad rfl rfl rfl hh ?_
    refine gM ?_
    refine H.cutOpen fun p2 c2 hb2 hc2 => ?_
    refine gY ?_
    refine H.imp (zal hb2 hc2) ?_
    refine H.Ad rfl rfl rfl (take_no f F cb (.inr (.inr (by show ((s.l.drop 2).length : Int) < _; omega)))) ?_
    refine gX ?_
    refine H.cutOpen fun p4 c4 hb4 hc4 => ?_
    refine gL ?_
    exact H.Ac rfl rfl (fin ht) ⟨rfl, rfl, rfl⟩
  ·have ht : ¬ s.tok most = true := by
    simp [Cs.tok, h2, hk, h3]
   have e1 : s.text most = [] := by unfold Cs.text; rw [if_neg ht]
   rw [e1]
   refine Fn.enter Tryz.func182 rfl Tryz.ntmps182 rfl (L := [(0, _), (1, _)]) ⟨rfl, rfl, trivial⟩ fun base => ?_
   refine gS ?_
   refine H.imp (zal hb hc) ?_
   refine H.Ad rfl rfl rfl hh ?_
   refine gM ?_
   refine H.cutOpen fun p2 c2 hb2 hc2 => ?_
   refine gI ?_
   refine H.imp (zal hb2 hc2) ?_
   refine H.Ad rfl rfl rfl (take_no f F cb (.inl rfl)) ?_
   refine gX ?_
   refine H.cutOpen fun p4 c4 hb4 hc4 => ?_
   refine gL ?_
   exact H.Ac rfl rfl (fin ht) ⟨rfl, rfl, rfl⟩
 ·have ht : ¬ s.tok most = true := by simp [Cs.tok, h2]
  have e1 : s.text most = [] := by unfold Cs.text; rw [if_neg ht]
  have hs : s.skip 2 = ⟨s.l, true⟩ := by unfold Cs.skip; rw [if_neg h2]
  rw [hs] at hh
  rw [e1]
  generalize hk : s.num 2 = k at hn hh
  refine Fn.enter Tryz.func182 rfl Tryz.ntmps182 rfl (L := [(0, _), (1, _)]) ⟨rfl, rfl, trivial⟩ fun base => ?_
  refine gS ?_
  refine H.imp (zal hb hc) ?_
  refine H.Ad rfl rfl rfl hh ?_
  refine gM ?_
  refine H.cutOpen fun p2 c2 hb2 hc2 => ?_
  refine gN ?_
  refine H.imp (zal hb2 hc2) ?_
  refine H.Ad rfl rfl rfl (take_no f F cb (.inl rfl)) ?_
  refine gX ?_
  refine H.cutOpen fun p4 c4 hb4 hc4 => ?_
  refine gL ?_
  exact H.Ac rfl rfl (fin ht) ⟨rfl, rfl, rfl⟩
theorem hash_cs (hl : s.l.length ≤ 1000000000) :
  Fn Tryz.prog 152 [.pointer (some ⟨cb, 0, none⟩)] f (cutC f cb s :: F) (Ret (.agg (b32 s.hash).toArray) f (cutC f cb (s.skip 32) :: F)) := by
 refine Fn.enter Tryz.func152 rfl Tryz.ntmps152 rfl (L := [(0, _)]) ⟨rfl, trivial⟩ fun base => ?_
 refine gA ?_
 refine H.Av rfl rfl rfl fun hb => ?_
 refine gA ?_
 refine H.Ay (by kernel_rfl) (by decide +kernel) (by repeat (first | exact zab | refine zaa ?_ | refine zac ?_ | refine zad ?_)) (S := []) rfl ?_
 refine HB.Af [(0, false), (1, false)] 2 (by kernel_rfl) ?_
 refine HQ.Cd (lo := none) (hi := none) (mx := none) (lv := 0) (hv := 32) (mv := 32) rfl rfl rfl rfl rfl (fun h => by cases h) (by decide) (by decide) (by decide) rfl ?_
 refine gB ?_
 refine HQ.Ae rfl ?_
 refine HB.ev1 (i := 2) (by kernel_rfl) rfl ?_
 refine H.Aa (.there _ (.here _ _)) ?_
 refine H.Ar rfl rfl rfl (raw_cs f _ cb s 32 (by omega)) fun p1 c1 => ?_
 refine gA ?_
 refine H.on0 rfl ?_
 refine HB.ev1 (i := 3) (by kernel_rfl) rfl ?_
 by_cases h : s.ok 32 = true
 ·have hr : (s.raw 32).length = 32 := by
   unfold Cs.raw; rw [if_pos h, List.length_take]
   have := ((Cs.ok_iff _ _).1 h).2
   omega
  have hs : Src Tryz.prog f _ (.slice p1 (s.raw 32).length c1) 1 (s.raw 32).length (bytesV (s.raw 32)) := Src.slcS (.here (cutC f cb (s.skip 32) :: row hb 47 (zeros [.int .u8 0] 32) :: F) _ (slc p1 (s.raw 32).length c1 5 1 (bytesV (s.raw 32)))) (by rw [zaf]; exact (Nat.mul_one _).symm)
  refine H.copy rfl rfl rfl rfl hs.len (k0 := (s.raw 32).length) (by rw [hr]; rfl) hs.cells (ls' := bytesV (s.raw 32)) ?_ ?_ (zah _) (by repeat constructor) ?_
  ·unfold splice
   rw [zaf, hr]; exact List.append_nil _
  ·rw [zaf, hr]; exact Nat.le_refl _
  refine gA ?_
  refine H.on0 rfl ?_
  refine HB.Aq (by kernel_rfl) ?_
  refine gA ?_
  have e : bytesV (s.raw 32) = b32 s.hash := by rw [b32_bytes]; unfold Cs.hash; rw [b32L_get hr]
  rw [e]
  refine H.Aj (ls := b32 s.hash) rfl rfl rfl (Rd.ofRow (by repeat constructor)) rfl rfl ?_
  refine H.Ap (ls := b32 s.hash) (vs := b32 s.hash) (ls' := b32 s.hash) rfl rfl rfl (zae rfl) rfl rfl (Nat.le_refl 32) (by repeat constructor) ?_
  refine ga ?_
  refine H.Ab (.here _ _) ?_
  exact H.retD rfl rfl rfl (Rd.ofRow (by repeat constructor)) rfl (fun _ s => s.drop (.there _ (.here _ _))) ⟨rfl, rfl, rfl⟩
 ·have hr : s.raw 32 = [] := by unfold Cs.raw; rw [if_neg h]
  have hh : b32 s.hash = zeros [.int .u8 0] 32 := by unfold Cs.hash; rw [hr]; rfl
  rw [hr, hh]
  refine H.copy (m := 0) (k0 := 0) (cs := []) (ls' := zeros [.int .u8 0] 32) rfl rfl rfl rfl (fun w => rfl) rfl (fun base w sa => ?_) rfl (by decide) (fun v hv => by cases hv) (by repeat constructor) ?_
  ·cases p1 with
   | none => exact run_firstCells_none w 1 0 0 c1
   | some a => exact run_firstCells_some w 1 0 a 0 c1 [] (by simp) (by simp)
  refine gA ?_
  refine H.on0 rfl ?_
  refine HB.Aq (by kernel_rfl) ?_
  refine gA ?_
  refine H.Aj (ls := zeros [.int .u8 0] 32) rfl rfl rfl (Rd.ofRow (by repeat constructor)) rfl rfl ?_
  refine H.Ap (ls := zeros [.int .u8 0] 32) (vs := zeros [.int .u8 0] 32) (ls' := zeros [.int .u8 0] 32) rfl rfl rfl (zae rfl) rfl rfl (Nat.le_refl 32) (by repeat constructor) ?_
  refine ga ?_
  refine H.Ab (.here _ _) ?_
  exact H.retD rfl rfl rfl (Rd.ofRow (by repeat constructor)) rfl (fun _ s => s.drop (.there _ (.here _ _))) ⟨rfl, rfl, rfl⟩
end
def Cs.byte (s : Cs) : UInt8 := UInt8.ofNat (s.num 1)
theorem Cs.byte_nat (s : Cs) : ((s.byte.toNat : Nat) : Int) = (s.num 1 : Nat) := by
 have := s.num1_lt
 unfold Cs.byte; rw [UInt8.toNat_ofNat']; omega
def Cs.req (mk mv : Nat) (s : Cs) : Req :=
 let c1 := s.skip 1
 let c2 := c1.skip 1
 let c3 := c2.skip 8
 let c4 := c3.skip 8
 let c5 := c4.textS mk
 let c6 := c5.textS mv
 let c7 := c6.textS mv
 let c8 := c7.textS mk
 ⟨(s.num 1 : Nat), (c2.num 8 : Nat), c1.byte, baOf (c4.text mk), baOf (c5.text mv), baOf (c6.text mv), baOf (c7.text mk), (c3.num 8 : Nat), c8.hash⟩
def Cs.reqS (mk mv : Nat) (s : Cs) : Cs := ((((((((s.skip 1).skip 1).skip 8).skip 8).textS mk).textS mv).textS mv).textS mk).skip 32
def Cs.pairs : Nat → Cs → List (Int × Int) → List (Int × Int) × Cs
 | 0, s, acc => (acc, s)
 | n + 1, s, acc => if s.bad then (acc, s) else Cs.pairs n ((s.skip 1).skip 8) (acc ++ [(((s.num 1 : Nat) : Int), (((s.skip 1).num 8 : Nat) : Int))])
def noTag : Nat → UInt8 := fun _ => 0
def Bod.zero (kind : UInt8) : Bod := ⟨kind, 0, 0, Req.zero, [], noTag⟩
def b8 (n : Int) : UInt8 := UInt8.ofNat (n % 256).toNat
def pairB (p : Int × Int) : List UInt8 := b8 p.1 :: be 8 p.2
def Bod.putK (x : Bod) : Nat → List UInt8
 | 1 => be 8 x.view ++ x.req.bytes ++ b32L x.req.tag
 | 2 => be 8 x.view ++ be 8 x.k
 | 3 => be 8 x.view
 | 4 => be 8 x.view ++ [b8 x.q.length] ++ x.q.flatMap pairB
 | 5 => be 8 x.view
 | 6 => be 8 x.k ++ b32L x.dig
 | _ => []
def Bod.put (x : Bod) : List UInt8 := x.putK x.kind.toNat
def Cs.bodyK (mk mv : Nat) (kind : UInt8) (s : Cs) : Nat → Bod × Cs
 | 1 => ({ Bod.zero kind with view := (s.num 8 : Nat), req := (s.skip 8).req mk mv }, (s.skip 8).reqS mk mv)
 | 2 => ({ Bod.zero kind with view := (s.num 8 : Nat), k := ((s.skip 8).num 8 : Nat) }, (s.skip 8).skip 8)
 | 3 => ({ Bod.zero kind with view := (s.num 8 : Nat) }, s.skip 8)
 | 4 => let r := Cs.pairs ((s.skip 8).num 1) ((s.skip 8).skip 1) []
  ({ Bod.zero kind with view := (s.num 8 : Nat), q := r.1 }, r.2)
 | 5 => ({ Bod.zero kind with view := (s.num 8 : Nat) }, s.skip 8)
 | 6 => ({ Bod.zero kind with k := (s.num 8 : Nat), dig := (s.skip 8).hash }, (s.skip 8).skip 32)
 | _ => (Bod.zero kind, s)
def Bod.ownK (x : Bod) : Nat → Bod
 | 1 => { Bod.zero x.kind with view := x.view, req := x.req }
 | 2 => { Bod.zero x.kind with view := x.view, k := x.k }
 | 3 => { Bod.zero x.kind with view := x.view }
 | 4 => { Bod.zero x.kind with view := x.view, q := x.q }
 | 5 => { Bod.zero x.kind with view := x.view }
 | 6 => { Bod.zero x.kind with k := x.k, dig := x.dig }
 | _ => Bod.zero x.kind
def Bod.own (x : Bod) : Bod := x.ownK x.kind.toNat
def Bod.mayK (x : Bod) : Nat → Bool
 | 1 => decide x.req.asked
 | 2 => decide (1 ≤ x.k ∧ x.k ≤ 4611686018427387904)
 | 3 => decide (1 ≤ x.view)
 | 4 => decide (1 ≤ x.view) && (quo 0 x.q && decide (0 < x.q.length))
 | 5 => decide (1 ≤ x.view)
 | 6 => decide (1 ≤ x.k ∧ x.k ≤ 4611686018427387904)
 | _ => false
theorem SetV.app {l l' : List Value} {i : Nat} {v : Value} (h : SetV l i v l') (post : List Value) : SetV (l ++ post) i v (l' ++ post) := by
 induction h with
 | here x v t => exact .here _ _ _
 | there x h ih => exact .there _ ih
theorem SetV.mid {l l' : List Value} {i : Nat} {v : Value} (h : SetV l i v l') (pre post : List Value) : SetV (pre ++ l ++ post) (pre.length + i) v (pre ++ l' ++ post) := by
 rw [List.append_assoc, List.append_assoc]
 induction pre with
 | nil => rw [List.length_nil, Nat.zero_add]; exact h.app post
 | cons p pre ih =>
  rw [List.length_cons, show pre.length + 1 + i = pre.length + i + 1 by omega]
  exact .there _ ih
theorem splice_mid (pre l post : List Value) (i : Nat) (vs : List Value) (h : i + vs.length ≤ l.length) : splice (pre ++ l ++ post) (pre.length + i) vs = pre ++ splice l i vs ++ post := by
 unfold splice
 have e1 : (pre ++ l ++ post).take (pre.length + i) = pre ++ l.take i := by
  rw [List.append_assoc, List.take_length_add_append, List.take_append_of_le_length (by omega)]
 have e2 : (pre ++ l ++ post).drop (pre.length + i + vs.length) = l.drop (i + vs.length) ++ post := by
  rw [Nat.add_assoc, List.append_assoc, List.drop_length_add_append, List.drop_append_of_le_length h]
 rw [e1, e2]
 simp only [List.append_assoc]
def bodAt (xb : Nat) (T : TypeId) (pre post : List Value) (x : Bod) (qp : Option Addr) (qc : Nat) : HP := row xb T (pre ++ x.vals qp qc ++ post)
theorem Bod.vals_len (x : Bod) (qp : Option Addr) (qc : Nat) : (x.vals qp qc).length = 76 := rfl
section
variable (f : Frag) (F : List HP) (cb : Nat) (s : Cs) (xb : Nat) (T : TypeId) (pre post : List Value)
theorem getReq_cs (hl : s.l.length ≤ 1000000000) :
  Fn Tryz.prog 137 [.pointer (some ⟨cb, 0, none⟩)] f (cutC f cb s :: F) (Ret (.agg (s.req 32 128).vals.toArray) f (cutC f cb (s.reqS 32 128) :: F)) := by
 unfold Cs.req Cs.reqS
 dsimp only
 have a1 := s.skip_len 1
 have n1 := s.num1_lt
 refine Fn.enter Tryz.func137 rfl Tryz.ntmps137 rfl (L := [(0, _)]) ⟨rfl, trivial⟩ fun base => ?_
 refine H.seq (H.Al ?_)
 refine H.Av (ls := Req.zero.vals) rfl rfl rfl fun rb => ?_
 refine gU ?_
 refine H.Aa (.there _ (.here _ _)) ?_
 refine H.Ad rfl rfl rfl (byte_cs f _ cb s (by omega)) ?_
 refine gK ?_
 generalize hs1 : s.skip 1 = s1 at a1 ⊢
 have a2 := s1.skip_len 1
 refine H.Ad rfl rfl rfl (byte_cs f _ cb s1 (by omega)) ?_
 rw [← Cs.byte_nat s1]
 generalize hs2 : s1.skip 1 = s2 at a2 ⊢
 have a3 := s2.skip_len 8
 refine gX ?_
 refine H.Ad rfl rfl rfl (word_cs f _ cb s2 (by omega)) ?_
 generalize hs3 : s2.skip 8 = s3 at a3 ⊢
 have a4 := s3.skip_len 8
 refine gU ?_
 refine H.Ad rfl rfl rfl (word_cs f _ cb s3 (by omega)) ?_
 generalize hs4 : s3.skip 8 = s4 at a4 ⊢
 have a5 := s4.textS_len 32
 refine gX ?_
 refine H.Ad rfl rfl rfl (text_cs f _ cb s4 (most := 32) (by omega) (by decide)) ?_
 generalize hs5 : s4.textS 32 = s5 at a5 ⊢
 have a6 := s5.textS_len 128
 refine gU ?_
 refine H.Ad rfl rfl rfl (text_cs f _ cb s5 (most := 128) (by omega) (by decide)) ?_
 generalize hs6 : s5.textS 128 = s6 at a6 ⊢
 have a7 := s6.textS_len 128
 refine gX ?_
 refine H.Ad rfl rfl rfl (text_cs f _ cb s6 (most := 128) (by omega) (by decide)) ?_
 generalize hs7 : s6.textS 128 = s7 at a7 ⊢
 have a8 := s7.textS_len 32
 refine gU ?_
 refine H.Ad rfl rfl rfl (text_cs f _ cb s7 (most := 32) (by omega) (by decide)) ?_
 generalize hs8 : s7.textS 32 = s8 at a8 ⊢
 refine gX ?_
 refine H.Ad rfl rfl rfl (hash_cs f _ cb s8 (by omega)) ?_
 refine gX ?_
 generalize hr : (⟨(s.num 1 : Nat), (s2.num 8 : Nat), s1.byte, baOf (s4.text 32), baOf (s5.text 128), baOf (s6.text 128), baOf (s7.text 32), (s3.num 8 : Nat), s8.hash⟩ : Req) = r
 refine H.Ap (vs := b32 s8.hash) (ls' := r.vals) rfl rfl rfl (zae rfl) rfl ?_ ?_ (by repeat constructor) ?_
 ·subst hr; rfl
 ·exact (show 8 + 32 ≤ 40 by decide)
 refine gA ?_
 refine H.Aj (ls := r.vals) rfl rfl rfl (Rd.ofRow (by repeat constructor)) rfl rfl ?_
 refine H.Ap (ls := r.vals) (vs := r.vals) (ls' := r.vals) rfl rfl rfl (zae rfl) rfl rfl (Nat.le_refl 40) (by repeat constructor) ?_
 refine ga ?_
 exact H.retD rfl rfl rfl (Rd.ofRow (by repeat constructor)) rfl (fun _ s => s.drop (.there _ (.here _ _))) ⟨rfl, rfl, rfl⟩
theorem get_view (hl : s.l.length ≤ 1000000000) (x : Bod) (qp : Option Addr) (qc : Nat) :
  Fn Tryz.prog 184 [.pointer (some ⟨cb, 0, none⟩), .pointer (some ⟨xb, pre.length, none⟩)] f (cutC f cb s :: bodAt xb T pre post x qp qc :: F)
   (Ret (.tuple #[]) f (cutC f cb (s.skip 8) :: bodAt xb T pre post { x with view := (s.num 8 : Nat) } qp qc :: F)) := by
 refine Fn.enter Tryz.func184 rfl Tryz.ntmps184 rfl (L := [(0, _), (1, _)]) ⟨rfl, rfl, trivial⟩ fun base => ?_
 repeat (first | ((apply H.Ah); (iterate 3 exact rfl)) | (apply H.Al))
 refine H.Ad rfl rfl rfl (word_cs f _ cb s (by omega)) ?_
 repeat (first | ((apply H.Az); (iterate 3 exact rfl)) | (apply H.Ao; (iterate 3 exact rfl); exact inferInstance; exact rfl) | (apply H.Bi; (iterate 4 exact rfl); (repeat (first | exact .here _ _ _ | apply At.there))))
 ·exact SetV.mid (l := x.vals qp qc) (l' := ({ x with view := (s.num 8 : Nat) } : Bod).vals qp qc) (i := 1) (by repeat (first | exact .here _ _ _ | apply SetV.there)) pre post
 refine gA ?_
 exact H.end0 rfl (fun _ h => h) ⟨rfl, rfl, rfl⟩
theorem get_commit (hl : s.l.length ≤ 1000000000) (x : Bod) (qp : Option Addr) (qc : Nat) :
  Fn Tryz.prog 141 [.pointer (some ⟨cb, 0, none⟩), .pointer (some ⟨xb, pre.length, none⟩)] f (cutC f cb s :: bodAt xb T pre post x qp qc :: F)
   (Ret (.tuple #[]) f (cutC f cb ((s.skip 8).skip 8) :: bodAt xb T pre post { x with view := (s.num 8 : Nat), k := ((s.skip 8).num 8 : Nat) } qp qc :: F)) := by
 have a1 := s.skip_len 8
 refine Fn.enter Tryz.func141 rfl Tryz.ntmps141 rfl (L := [(0, _), (1, _)]) ⟨rfl, rfl, trivial⟩ fun base => ?_
 refine gU ?_
 refine H.Ad rfl rfl rfl (word_cs f _ cb s (by omega)) ?_
 repeat (((apply H.Ah); (iterate 3 exact rfl)))
 refine H.Ad rfl rfl rfl (word_cs f _ cb (s.skip 8) (by omega)) ?_
 repeat (first | ((apply H.Az); (iterate 3 exact rfl)) | (apply H.Ao; (iterate 3 exact rfl); exact inferInstance; exact rfl) | (apply H.Bi; (iterate 4 exact rfl); (repeat (first | exact .here _ _ _ | apply At.there))))
 ·exact SetV.mid (l := x.vals qp qc) (l' := ({ x with view := (s.num 8 : Nat) } : Bod).vals qp qc) (i := 1) (by repeat (first | exact .here _ _ _ | apply SetV.there)) pre post
 repeat (first | ((apply H.Az); (iterate 3 exact rfl)) | (apply H.Ao; (iterate 3 exact rfl); exact inferInstance; exact rfl) | (apply H.Bi; (iterate 4 exact rfl); (repeat (first | exact .here _ _ _ | apply At.there))))
 ·exact SetV.mid (l := ({ x with view := (s.num 8 : Nat) } : Bod).vals qp qc) (l' := ({ x with view := (s.num 8 : Nat), k := ((s.skip 8).num 8 : Nat) } : Bod).vals qp qc) (i := 2) (by repeat (first | exact .here _ _ _ | apply SetV.there)) pre post
 refine gA ?_
 exact H.end0 rfl (fun _ h => h) ⟨rfl, rfl, rfl⟩
theorem get_check (hl : s.l.length ≤ 1000000000) (x : Bod) (qp : Option Addr) (qc : Nat) :
  Fn Tryz.prog 151 [.pointer (some ⟨cb, 0, none⟩), .pointer (some ⟨xb, pre.length, none⟩)] f (cutC f cb s :: bodAt xb T pre post x qp qc :: F)
   (Ret (.tuple #[]) f (cutC f cb ((s.skip 8).skip 32) :: bodAt xb T pre post { x with k := (s.num 8 : Nat), dig := (s.skip 8).hash } qp qc :: F)) := by
 have a1 := s.skip_len 8
 refine Fn.enter Tryz.func151 rfl Tryz.ntmps151 rfl (L := [(0, _), (1, _)]) ⟨rfl, rfl, trivial⟩ fun base => ?_
 refine gU ?_
 refine H.Ad rfl rfl rfl (word_cs f _ cb s (by omega)) ?_
 repeat (((apply H.Ah); (iterate 3 exact rfl)))
 refine H.Ad rfl rfl rfl (hash_cs f _ cb (s.skip 8) (by omega)) ?_
 repeat (first | ((apply H.Az); (iterate 3 exact rfl)) | (apply H.Ao; (iterate 3 exact rfl); exact inferInstance; exact rfl) | (apply H.Bi; (iterate 4 exact rfl); (repeat (first | exact .here _ _ _ | apply At.there))))
 ·exact SetV.mid (l := x.vals qp qc) (l' := ({ x with k := (s.num 8 : Nat) } : Bod).vals qp qc) (i := 2) (by repeat (first | exact .here _ _ _ | apply SetV.there)) pre post
 refine gX ?_
 refine H.Ap (vs := b32 (s.skip 8).hash) (ls' := pre ++ ({ x with k := (s.num 8 : Nat), dig := (s.skip 8).hash } : Bod).vals qp qc ++ post) rfl rfl rfl (zae rfl) rfl ?_ ?_ (.there _ (.here _ _ _)) ?_
 ·exact splice_mid pre (({ x with k := (s.num 8 : Nat) } : Bod).vals qp qc) post 44 _ (Nat.le_refl 76)
 ·rw [List.length_append, List.length_append, Bod.vals_len]
  show pre.length + 44 + 32 ≤ _
  omega
 refine gA ?_
 exact H.end0 rfl (fun _ h => h) ⟨rfl, rfl, rfl⟩
theorem get_prepare (hl : s.l.length ≤ 1000000000) (x : Bod) (qp : Option Addr) (qc : Nat) :
  Fn Tryz.prog 135 [.pointer (some ⟨cb, 0, none⟩), .pointer (some ⟨xb, pre.length, none⟩)] f (cutC f cb s :: bodAt xb T pre post x qp qc :: F)
   (Ret (.tuple #[]) f (cutC f cb ((s.skip 8).reqS 32 128) :: bodAt xb T pre post { x with view := (s.num 8 : Nat), req := (s.skip 8).req 32 128 } qp qc :: F)) := by
 have a1 := s.skip_len 8
 refine Fn.enter Tryz.func135 rfl Tryz.ntmps135 rfl (L := [(0, _), (1, _)]) ⟨rfl, rfl, trivial⟩ fun base => ?_
 refine gU ?_
 refine H.Ad rfl rfl rfl (word_cs f _ cb s (by omega)) ?_
 repeat (((apply H.Ah); (iterate 3 exact rfl)))
 refine H.Ad rfl rfl rfl (getReq_cs f _ cb (s.skip 8) (by omega)) ?_
 generalize (s.skip 8).req 32 128 = r
 repeat (first | ((apply H.Az); (iterate 3 exact rfl)) | (apply H.Ao; (iterate 3 exact rfl); exact inferInstance; exact rfl) | (apply H.Bi; (iterate 4 exact rfl); (repeat (first | exact .here _ _ _ | apply At.there))))
 ·exact SetV.mid (l := x.vals qp qc) (l' := ({ x with view := (s.num 8 : Nat) } : Bod).vals qp qc) (i := 1) (by repeat (first | exact .here _ _ _ | apply SetV.there)) pre post
 refine gX ?_
 refine H.Ap (vs := r.vals) (ls' := pre ++ ({ x with view := (s.num 8 : Nat), req := r } : Bod).vals qp qc ++ post) rfl rfl rfl (zae rfl) rfl ?_ ?_ (.there _ (.here _ _ _)) ?_
 ·exact splice_mid pre (({ x with view := (s.num 8 : Nat) } : Bod).vals qp qc) post 3 _ (show 3 + 40 ≤ 76 by decide)
 ·rw [List.length_append, List.length_append, Bod.vals_len]
  show pre.length + 3 + 40 ≤ _
  omega
 refine gA ?_
 exact H.end0 rfl (fun _ h => h) ⟨rfl, rfl, rfl⟩
end
theorem BAt.first {P : Program} {f : Frag} {A : List HP} {p : Option Addr} {c k0 : Nat} {l : List UInt8} (h : BAt f p l) (hk : k0 ≤ l.length) : ∀ base w, Sat base w f A → (Builtin.firstCells 1 k0 (.slice p l.length c)).run P w = .ok (bytesV (l.take k0)).toArray w := fun base w s => by
 rcases h with rfl | ⟨b, off, cs, T, fr, rfl, hb, hc⟩
 ·have h0 : k0 = 0 := Nat.le_zero.1 hk
  subst h0
  exact (BAt.src (P := P) (A := A) (c := c) (p := p) (l := []) (.inl rfl)).cells base w s
 ·have hrd : Rd f A b off (bytesV l) := Rd.imm hb (fun i hi => hc i (by rwa [zaf] at hi))
  have := firstCells_part (P := P) (m := l.length) (c := c) (k0 := k0) hrd (by rw [zaf]; exact hk) base w s
  rwa [show (bytesV l).take k0 = bytesV (l.take k0) from List.map_take.symm] at this
def spliceB (part : List UInt8) (n : Nat) (c : List UInt8) : List UInt8 := part.take n ++ c ++ part.drop (n + c.length)
theorem blocks_app (s : Sha.S8) (b c : List UInt8) : ∀ q, 64 * q ≤ b.length → Sha.blocks s (b ++ c) q = Sha.blocks s b q
 | 0, _ => rfl
 | q + 1, h => by
  have ih := blocks_app s b c q (by omega)
  show Sha.block (Sha.blocks s (b ++ c) q) (((b ++ c).drop (64 * q)).take 64) = Sha.block (Sha.blocks s b q) ((b.drop (64 * q)).take 64)
  rw [ih, List.drop_append_of_le_length (by omega), List.take_append_of_le_length (by rw [List.length_drop]; omega)]
structure HSt (b : List UInt8) (s : Sha.S8) (part : List UInt8) (n : Nat) : Prop where
 q : ∃ q, b.length = 64 * q + n ∧ s = Sha.blocks Sha.start b q ∧ part.take n = b.drop (64 * q)
 lt : n < 64
 len : part.length = 64
theorem spliceB_len {part c : List UInt8} {n : Nat} (h : part.length = 64) (hn : n + c.length ≤ 64) : (spliceB part n c).length = 64 := by
 unfold spliceB
 rw [List.length_append, List.length_append, List.length_take, List.length_drop, h]
 omega
theorem spliceB_take {part c : List UInt8} {n : Nat} (h : part.length = 64) (hn : n + c.length ≤ 64) : (spliceB part n c).take (n + c.length) = part.take n ++ c := by
 unfold spliceB
 rw [List.take_append_of_le_length (by rw [List.length_append, List.length_take, h]; omega), List.take_of_length_le (by rw [List.length_append, List.length_take, h]; omega)]
theorem HSt.more {b : List UInt8} {s : Sha.S8} {part c : List UInt8} {n : Nat} (h : HSt b s part n) (hn : n + c.length < 64) : HSt (b ++ c) s (spliceB part n c) (n + c.length) := by
 obtain ⟨⟨q, h1, h2, h3⟩, h4, h5⟩ := h
 refine ⟨⟨q, by rw [List.length_append]; omega, by rw [h2, blocks_app _ b c q (by omega)], ?_⟩, hn, spliceB_len h5 (by omega)⟩
 rw [spliceB_take h5 (by omega), h3, List.drop_append_of_le_length (by omega)]
theorem HSt.full {b : List UInt8} {s : Sha.S8} {part c : List UInt8} {n : Nat} (h : HSt b s part n) (hn : n + c.length = 64) : HSt (b ++ c) (Sha.block s (spliceB part n c)) (spliceB part n c) 0 := by
 obtain ⟨⟨q, h1, h2, h3⟩, h4, h5⟩ := h
 have hl := spliceB_len (c := c) (n := n) h5 (by omega)
 have ht := spliceB_take (c := c) (n := n) h5 (by omega)
 rw [hn, List.take_of_length_le (by omega)] at ht
 have hd : (b ++ c).drop (64 * q) = spliceB part n c := by rw [ht, h3, List.drop_append_of_le_length (by omega)]
 refine ⟨⟨q + 1, by rw [List.length_append]; omega, ?_, ?_⟩, by decide, hl⟩
 ·show _ = Sha.block (Sha.blocks Sha.start (b ++ c) q) (((b ++ c).drop (64 * q)).take 64)
  rw [hd, List.take_of_length_le (by omega), blocks_app _ b c q (by omega), ← h2]
 ·rw [List.take_zero, List.drop_eq_nil_of_le (by rw [List.length_append]; omega)]
def hRow (s : Sha.S8) (part : List UInt8) (n all : Nat) : List Value := s.vals ++ bytesV part ++ [.int .i64 (n : Nat), .int .u64 (all : Nat)]
theorem hRow_len (s : Sha.S8) (part : List UInt8) (n all : Nat) (h : part.length = 64) : (hRow s part n all).length = 74 := by
 unfold hRow
 rw [List.length_append, List.length_append, zaf, h]
 rfl
theorem hRow_n (s : Sha.S8) (part : List UInt8) (n all : Nat) (h : part.length = 64) : (hRow s part n all)[72]? = some (.int .i64 (n : Nat)) := by
 unfold hRow
 have hl : (s.vals ++ bytesV part).length = 72 := by rw [List.length_append, zaf, h]; rfl
 rw [List.getElem?_append_right (by omega), hl]
 rfl
theorem hRow_all (s : Sha.S8) (part : List UInt8) (n all : Nat) (h : part.length = 64) : (hRow s part n all)[73]? = some (.int .u64 (all : Nat)) := by
 unfold hRow
 have hl : (s.vals ++ bytesV part).length = 72 := by rw [List.length_append, zaf, h]; rfl
 rw [List.getElem?_append_right (by omega), hl]
 rfl
theorem hRow_setn (s : Sha.S8) (part : List UInt8) (n m all : Nat) (h : part.length = 64) : SetV (hRow s part n all) 72 (.int .i64 (m : Nat)) (hRow s part m all) := by
 have hl : (s.vals ++ bytesV part).length = 72 := by rw [List.length_append, zaf, h]; rfl
 have := SetV.mid (SetV.here (.int .i64 (n : Nat)) (.int .i64 (m : Nat)) [.int .u64 (all : Nat)]) (s.vals ++ bytesV part) []
 rw [hl, List.append_nil, List.append_nil] at this
 exact this
theorem hRow_setall (s : Sha.S8) (part : List UInt8) (n all al2 : Nat) (h : part.length = 64) : SetV (hRow s part n all) 73 (.int .u64 (al2 : Nat)) (hRow s part n al2) := by
 have hl : (s.vals ++ bytesV part).length = 72 := by rw [List.length_append, zaf, h]; rfl
 have := SetV.mid (SetV.there (.int .i64 (n : Nat)) (SetV.here (.int .u64 (all : Nat)) (.int .u64 (al2 : Nat)) [])) (s.vals ++ bytesV part) []
 rw [hl, List.append_nil, List.append_nil] at this
 exact this
theorem hRow_part (s : Sha.S8) (part c : List UInt8) (n all : Nat) (h : part.length = 64) (hn : n + c.length ≤ 64) : splice (hRow s part n all) (8 + n) (bytesV c) = hRow s (spliceB part n c) n all := by
 unfold hRow
 have := splice_mid s.vals (bytesV part) [.int .i64 (n : Nat), .int .u64 (all : Nat)] n (bytesV c) (by rw [zaf, zaf, h]; exact hn)
 rw [show s.vals.length = 8 from rfl] at this
 rw [this]
 congr 2
 unfold splice spliceB
 rw [zag, zag, zaf]
 unfold bytesV
 rw [List.map_take, List.map_drop]
theorem hRow_s (s s2 : Sha.S8) (part : List UInt8) (n all : Nat) : splice (hRow s part n all) 0 s2.vals = hRow s2 part n all := by
 unfold hRow splice
 rw [List.take_zero, List.nil_append, List.append_assoc, List.append_assoc]
 rfl
theorem hRow_rdp {f : Frag} {A A' : List HP} {hb : Nat} {T : TypeId} {s : Sha.S8} {part : List UInt8} {n all : Nat} (h : At A (row hb T (hRow s part n all)) A' (row hb T (hRow s part n all))) : Rd f A hb (0 + 8) (bytesV part) := by
 have h1 := Rd.ofRow (f := f) h
 exact h1.sub rfl
theorem hRow_rds {f : Frag} {A A' : List HP} {hb : Nat} {T : TypeId} {s : Sha.S8} {part : List UInt8} {n all : Nat} (h : At A (row hb T (hRow s part n all)) A' (row hb T (hRow s part n all))) : Rd f A hb (0 + 0) s.vals := by
 have h1 := Rd.ofRow (f := f) h
 unfold hRow at h1
 rw [List.append_assoc] at h1
 exact Rd.sub (pre := []) h1 rfl
def hashH (hb : Nat) (b : List UInt8) : HP := pack (fun i : Sha.S8 × List UInt8 × Nat => HSt b i.1 i.2.1 i.2.2) (fun i => [row hb 212 (hRow i.1 i.2.1 i.2.2 b.length)])
theorem hashH_fold {hb : Nat} {b : List UInt8} {F : List HP} {s : Sha.S8} {part : List UInt8} {n : Nat} (h : HSt b s part n) : ∀ x, stars (row hb 212 (hRow s part n b.length) :: F) x → stars (hashH hb b :: F) x :=
 pack_fold (ι := Sha.S8 × List UInt8 × Nat) (B := fun i => [row hb 212 (hRow i.1 i.2.1 i.2.2 b.length)]) (s, part, n) h
section
variable (f : Frag) (F : List HP)
theorem sstart_fn : Fn Tryz.prog 109 [] f F (Ret (.agg Sha.start.vals.toArray) f F) := by
 refine Fn.enter Tryz.func109 rfl Tryz.ntmps109 rfl (L := []) trivial fun base => ?_
 refine gA ?_
 refine H.Av (ls := List.replicate 8 (.int .u32 0)) rfl rfl rfl fun kb => ?_
 refine gA ?_
 refine H.buildA (out := Sha.start.vals) rfl rfl rfl rfl rfl ?_
 refine H.Ap (ls := List.replicate 8 (.int .u32 0)) (vs := Sha.start.vals) (ls' := Sha.start.vals) rfl rfl rfl (zae rfl) rfl rfl (Nat.le_refl 8) (by repeat constructor) ?_
 refine ga ?_
 exact H.retD rfl rfl rfl (Rd.ofRow (by repeat constructor)) rfl (fun _ s => s.drop (.here _ _)) ⟨rfl, rfl, rfl⟩
theorem HSt.new : HSt [] Sha.start (List.replicate 64 0) 0 := ⟨⟨0, rfl, rfl, rfl⟩, by decide, by rw [List.length_replicate]⟩
theorem snew_fn : Fn Tryz.prog 75 [] f F (RetE (fun hb => .pointer (some ⟨hb, 0, none⟩)) f (fun hb => hashH hb [] :: F)) := by
 refine Fn.enter Tryz.func75 rfl Tryz.ntmps75 rfl (L := []) trivial fun base => ?_
 refine gU ?_
 refine H.Ad rfl rfl rfl (sstart_fn f _) ?_
 refine H.Bc (out := hRow Sha.start (List.replicate 64 0) 0 0) rfl rfl rfl (by kernel_rfl) rfl ?_
 refine H.box (ls := hRow Sha.start (List.replicate 64 0) 0 0) rfl rfl rfl rfl fun hb => ?_
 refine ga ?_
 refine H.imp (hashH_fold (b := []) HSt.new) ?_
 exact H.Ac rfl rfl (fun _ h => h) ⟨hb, rfl, rfl, rfl⟩
set_option maxRecDepth 20000 in
set_option maxHeartbeats 1600000 in
theorem swrite_fn (htab : TabAt f) {hb : Nat} {b c : List UInt8} {p : Option Addr} {cap : Nat} (hc : BAt f p c) (hcap : c.length ≤ cap) (hl : b.length + c.length ≤ 1000000000000) : Fn Tryz.prog 76 [.pointer (some ⟨hb, 0, none⟩), .slice p c.length cap] f (hashH hb b :: F) (Ret (.tuple #[]) f (hashH hb (b ++ c) :: F)) := by
 refine Fn.unpack fun i0 hi0 => ?_
 obtain ⟨s0, part0, n0⟩ := i0
 have hi0 : HSt b s0 part0 n0 := hi0
 have hlen0 := hi0.len
 have e1 : IntKind.u64.wrap ((b.length : Int) + ((c.length : Nat) : Int)) = (((b ++ c).length : Nat) : Int) := by rw [wr_u64 (by omega), List.length_append]; omega
 have e2 : IntKind.u64.wrap ((c.length : Nat) : Int) = ((c.length : Nat) : Int) := wr_u64 (by omega)
 refine Fn.enter Tryz.func76 rfl Tryz.ntmps76 rfl (L := [(0, _), (1, _)]) ⟨rfl, rfl, trivial⟩ fun base => ?_
 show H _ _ _ _ _ (row hb _ (hRow s0 part0 n0 b.length) :: F) _
 repeat (first | (refine H.Ag rfl rfl rfl (.at0 (Rd.ofRow (by repeat constructor)) (hRow_all s0 part0 n0 b.length hlen0)) rfl ?_) | (apply H.ar; (iterate 4 exact rfl); exact e1; exact rfl) | (refine H.Bi (v := .int .u64 (((b ++ c).length : Nat) : Int)) (ls' := hRow s0 part0 n0 (b ++ c).length) rfl rfl rfl rfl (by repeat constructor) (hRow_setall s0 part0 n0 b.length (b ++ c).length hlen0) ?_) | ((first | apply H.Ah | apply H.Az | apply H.Bg); (iterate 3 exact rfl)) | (apply H.Ao; (iterate 3 exact rfl); exact inferInstance; exact rfl) | (first | apply H.seq | apply H.Al | apply H.nil | apply H.Am) | ((apply H.Bn; (iterate 2 exact rfl)); (with_reducible apply wr_u64; omega); exact rfl) | ((apply H.ptrNil); (iterate 5 exact rfl)) | (apply H.Cg; exact rfl) | (first | apply H.Bh | apply H.Bb))
 have hst0 : HSt (b ++ c.take 0) s0 part0 n0 := by rw [List.take_zero, List.append_nil]; exact hi0
 clear hi0 hlen0 e1 e2
 refine H.Ax (ι := Nat × Sha.S8 × List UInt8 × Nat × Option Addr × Nat) (fun i => [(0, .pointer (some ⟨hb, 0, none⟩)), (1, .slice i.2.2.2.2.1 (c.length - i.1) i.2.2.2.2.2)]) (fun _ => f)
  (fun i => row hb 212 (hRow i.2.1 i.2.2.1 i.2.2.2.1 (b ++ c).length) :: F) (fun i => i.1 ≤ c.length ∧ HSt (b ++ c.take i.1) i.2.1 i.2.2.1 i.2.2.2.1 ∧ BAt f i.2.2.2.2.1 (c.drop i.1) ∧ c.length - i.1 ≤ i.2.2.2.2.2) (fun i => c.length - i.1)
  (0, s0, part0, n0, p, cap) ⟨Nat.zero_le _, hst0, by rw [List.drop_zero]; exact hc, by omega⟩ ⟨rfl, rfl, trivial⟩ rfl rfl fun i hi => ?_
 obtain ⟨m, s, part, n, q, qc⟩ := i
 obtain ⟨hm, hst, hq, hqc⟩ : m ≤ c.length ∧ HSt (b ++ c.take m) s part n ∧ BAt f q (c.drop m) ∧ c.length - m ≤ qc := hi
 have hlen := hst.len
 have hn := hst.lt
 show H _ _ _ [_, (1, .slice q (c.length - m) qc)] _ (row hb _ (hRow s part n (b ++ c).length) :: F) _
 by_cases hlt : m < c.length
 ·obtain ⟨k, hk⟩ : ∃ k, Nat.min (c.length - m) (64 - n) = k := ⟨_, rfl⟩
  have hk1 : k ≤ c.length - m ∧ k ≤ 64 - n ∧ (k = c.length - m ∨ k = 64 - n) := by rw [← hk, show Nat.min (c.length - m) (64 - n) = min (c.length - m) (64 - n) from rfl]; omega
  have hdl : (c.drop m).length = c.length - m := List.length_drop
  have htl : ((c.drop m).take k).length = k := by rw [List.length_take, hdl]; omega
  have htk : c.take m ++ (c.drop m).take k = c.take (m + k) := by rw [← List.take_add]
  have e3 : IntKind.i64.wrap ((n : Int) + (k : Int)) = ((n + k : Nat) : Int) := by rw [wr_i64 (by omega)]; omega
  refine gG ?_
  refine H.drawC [0, 1, 2, 3, 4, 5, 6, 7, 8] (by kernel_rfl) (by decide +kernel) (by repeat (first | exact zab | refine zaa ?_ | refine zac ?_ | refine zad ?_)) (S := [_]) rfl ?_
  refine HB.Af [(0, false), (1, false), (2, false), (3, false), (4, false), (5, false), (6, false), (7, false), (8, false)] 2 (by kernel_rfl) ?_
  repeat (first | (refine HQ.Ag rfl rfl rfl (.at0 (Rd.ofRow (by repeat constructor)) (hRow_n s part n (b ++ c).length hlen)) rfl ?_) | ((first | apply HQ.Ah | apply HQ.Az); (iterate 3 exact rfl)) | (apply HQ.Ao; (iterate 3 exact rfl); exact inferInstance; exact rfl))
  refine HQ.Cd (lo := some (.tmp 26)) (mx := none) (hi := none) (lv := n) (hv := 64) (mv := 64) rfl rfl ⟨_, _, rfl, rfl⟩ rfl rfl (fun h => by cases h) (by omega) (by omega) (by decide) rfl ?_
  rw [slP_ne (by omega)]
  refine gB ?_
  refine HQ.Ae rfl ?_
  refine HB.next [] (by kernel_rfl) (S' := []) rfl ?_
  refine HB.ev1 (i := 9) (by kernel_rfl) rfl ?_
  refine H.copy (k0 := k) (m := c.length - m) (cs := bytesV ((c.drop m).take k)) (ls := hRow s part n (b ++ c).length) (ls' := hRow s (spliceB part n ((c.drop m).take k)) n (b ++ c).length) rfl rfl rfl rfl
   (by have := (BAt.src (P := Tryz.prog) (A := []) (c := qc) hq).len; rwa [hdl] at this) hk (by have := fun A => BAt.first (P := Tryz.prog) (A := A) (c := qc) hq (k0 := k) (by omega); rw [hdl] at this; exact this _)
   (by rw [show 0 + 8 + n * 1 = 8 + n by omega]; exact hRow_part s part _ n _ hlen (by omega)) (by rw [zaf, htl, hRow_len _ _ _ _ hlen]; omega) (zah _) (by repeat constructor) ?_
  refine gA ?_
  refine H.on0 rfl ?_
  refine HB.Af [(10, false)] 0 (by kernel_rfl) ?_
  refine gB ?_
  refine HQ.Ae rfl ?_
  refine HB.Aq (by kernel_rfl) ?_
  have hlen2 : (spliceB part n ((c.drop m).take k)).length = 64 := spliceB_len hlen (by omega)
  refine gU ?_
  refine H.slice (lo := some (.tmp 31)) (hi := none) (mx := none) (lv := k) (hv := c.length - m) (mv := qc) rfl rfl ⟨_, _, rfl, rfl⟩ rfl rfl (fun h => by cases h) (by omega) hqc (Nat.le_refl _) rfl ?_
  repeat (first | (refine H.Ag rfl rfl rfl (.at0 (Rd.ofRow (by repeat constructor)) (hRow_n s _ n (b ++ c).length hlen2)) rfl ?_) | (apply H.ar; (iterate 4 exact rfl); exact e3; exact rfl) | (refine H.Bi (v := .int .i64 ((n + k : Nat) : Int)) (ls' := hRow s (spliceB part n ((c.drop m).take k)) (n + k) (b ++ c).length) rfl rfl rfl rfl (by repeat constructor) (hRow_setn s _ n (n + k) _ hlen2) ?_) | (refine H.Ag rfl rfl rfl (.at0 (Rd.ofRow (by repeat constructor)) (hRow_n s _ (n + k) (b ++ c).length hlen2)) rfl ?_) | ((first | apply H.Ah | apply H.Ak | apply H.Az); (iterate 3 exact rfl)) | (apply H.Ao; (iterate 3 exact rfl); exact inferInstance; exact rfl) | (first | apply H.seq | apply H.Al | apply H.nil | apply H.Am) | ((apply H.cmp); (iterate 5 exact rfl)))
  have hbat : BAt f (slP q k qc 1) (c.drop (m + k)) := by
   have := hq.drop (n := k) (c := qc) (by omega) (by omega)
   rwa [List.drop_drop] at this
  have hsl : c.length - m - k = c.length - (m + k) := by omega
  rw [hsl]
  by_cases hfull : n + k = 64
  ·have hst2 : HSt (b ++ c.take (m + k)) (Sha.block s (spliceB part n ((c.drop m).take k))) (spliceB part n ((c.drop m).take k)) 0 := by
    have := hst.full (c := (c.drop m).take k) (by omega)
    rwa [List.append_assoc, htk] at this
   generalize spliceB part n ((c.drop m).take k) = part2 at hlen2 hst2 ⊢
   refine gG ?_
   refine H.drawN (by kernel_rfl) (by decide +kernel) (by repeat (first | exact zab | refine zaa ?_ | refine zac ?_ | refine zad ?_)) ?_
   refine HN.move (i := 1) (by kernel_rfl) rfl rfl rfl rfl ?_
   refine HN.phase [0, 2, 3, 4, 5, 6, 7, 8, 9, 10, 11, 12] (S := [_]) rfl ?_
   refine HB.Af [(0, false), (2, false), (3, false), (4, false), (5, false), (6, false), (7, false), (8, false), (9, false)] 7 (by kernel_rfl) ?_
   repeat (first | (refine HQ.Aj (ls := s.vals) rfl rfl rfl (hRow_rds (by repeat constructor)) rfl rfl ?_) | (refine HQ.Aj (ls := bytesV part2) rfl rfl rfl (hRow_rdp (by repeat constructor)) (by rw [zaf]; exact hlen2) rfl ?_) | ((first | apply HQ.Ah | apply HQ.Az); (iterate 3 exact rfl)) | (apply HQ.Ao; (iterate 3 exact rfl); exact inferInstance; exact rfl))
   refine HQ.Ae rfl ?_
   refine HB.ev1 (i := 10) (by kernel_rfl) rfl ?_
   refine H.Ad rfl rfl rfl (sblock_fn f _ htab hlen2) ?_
   refine gA ?_
   refine H.on0 rfl ?_
   refine HB.Af [(11, false), (12, false)] 4 (by kernel_rfl) ?_
   refine gJ ?_
   refine HQ.Ae rfl ?_
   refine HB.next [] (by kernel_rfl) (S' := []) rfl ?_
   refine HB.ev1 (i := 13) (by kernel_rfl) rfl ?_
   generalize Sha.block s part2 = s2 at hst2 ⊢
   refine H.Ap (ls := hRow s part2 (n + k) (b ++ c).length) (vs := s2.vals) (ls' := hRow s2 part2 (n + k) (b ++ c).length) rfl rfl rfl (zae rfl) rfl (hRow_s _ _ _ _ _) (by rw [hRow_len _ _ _ _ hlen2]; show 8 ≤ 74; decide) (by repeat constructor) ?_
   refine gA ?_
   refine H.on0 rfl ?_
   refine HB.Af [(14, false), (15, false)] 1 (by kernel_rfl) ?_
   refine gJ ?_
   refine HQ.Ae rfl ?_
   refine HB.ev1 (i := 16) (by kernel_rfl) rfl ?_
   refine H.Bi (v := .int .i64 ((0 : Nat) : Int)) (ls' := hRow s2 part2 0 (b ++ c).length) rfl rfl rfl rfl (by repeat constructor) (hRow_setn s2 part2 (n + k) 0 _ hlen2) ?_
   refine gA ?_
   refine H.on0 rfl ?_
   refine HB.Aq (by kernel_rfl) ?_
   refine ga ?_
   exact H.Au (m + k, s2, part2, 0, slP q k qc 1, qc - k) ⟨by show m + k ≤ c.length; omega, hst2, hbat, by show c.length - (m + k) ≤ qc - k; omega⟩ (by show c.length - (m + k) < c.length - m; omega) ⟨rfl, rfl, trivial⟩ rfl rfl
  ·have hst2 : HSt (b ++ c.take (m + k)) s (spliceB part n ((c.drop m).take k)) (n + k) := by
    have := hst.more (c := (c.drop m).take k) (by omega)
    rw [List.append_assoc, htk, htl] at this
    exact this
   generalize spliceB part n ((c.drop m).take k) = part2 at hlen2 hst2 ⊢
   refine gV ?_
   exact H.Au (m + k, s, part2, n + k, slP q k qc 1, qc - k) ⟨by show m + k ≤ c.length; omega, hst2, hbat, by show c.length - (m + k) ≤ qc - k; omega⟩ (by show c.length - (m + k) < c.length - m; omega) ⟨rfl, rfl, trivial⟩ rfl rfl
 ·have hmc : m = c.length := by omega
  rw [hmc, List.take_length] at hst
  clear hq hqc hc
  subst hmc
  refine gV ?_
  refine H.imp (hashH_fold hst) ?_
  exact H.end0 rfl (fun _ h => h) ⟨rfl, rfl, rfl⟩
end
theorem bodAt_rd {f : Frag} {A A' : List HP} {xb : Nat} {T : TypeId} {pre post : List Value} {x : Bod} {qp : Option Addr} {qc : Nat} (h : At A (bodAt xb T pre post x qp qc) A' (bodAt xb T pre post x qp qc)) : Rd f A xb pre.length (x.vals qp qc) := by
 have h1 := Rd.ofRow (f := f) h
 have h2 := h1.sub (pre := pre) (l := x.vals qp qc) (post := post) rfl
 rwa [Nat.zero_add] at h2
section
variable (f : Frag) (F : List HP) (cb : Nat) (s : Cs) (xb : Nat) (T : TypeId) (pre post : List Value)
def qs (qp : Option Addr) (qc : Nat) (q : List (Int × Int)) : HP := slc qp q.length qc 88 2 (q.flatMap pairV)
theorem get_newview (hl : s.l.length ≤ 1000000000) (x : Bod) (hx : x.q = []) :
  Fn Tryz.prog 145 [.pointer (some ⟨cb, 0, none⟩), .pointer (some ⟨xb, pre.length, none⟩)] f (cutC f cb s :: bodAt xb T pre post x none 0 :: F)
   (RetE (fun _ : Option Addr × Nat => .tuple #[]) f (fun i => cutC f cb (Cs.pairs ((s.skip 8).num 1) ((s.skip 8).skip 1) []).2 ::
    bodAt xb T pre post { x with view := (s.num 8 : Nat), q := (Cs.pairs ((s.skip 8).num 1) ((s.skip 8).skip 1) []).1 } i.1 i.2 :: qs i.1 i.2 (Cs.pairs ((s.skip 8).num 1) ((s.skip 8).skip 1) []).1 :: F)) := by
 have a1 := s.skip_len 8
 have a2 := (s.skip 8).skip_len 1
 have n1 := (s.skip 8).num1_lt
 refine Fn.enter Tryz.func145 rfl Tryz.ntmps145 rfl (L := [(0, _), (1, _)]) ⟨rfl, rfl, trivial⟩ fun base => ?_
 repeat (first | ((apply H.Ah); (iterate 3 exact rfl)) | (first | apply H.seq | apply H.Al))
 refine H.Ad rfl rfl rfl (word_cs f _ cb s (by omega)) ?_
 repeat (first | ((apply H.Az); (iterate 3 exact rfl)) | (apply H.Ao; (iterate 3 exact rfl); exact inferInstance; exact rfl) | (apply H.Bi; (iterate 4 exact rfl); (repeat (first | exact .here _ _ _ | apply At.there))))
 ·exact SetV.mid (l := x.vals none 0) (l' := ({ x with view := (s.num 8 : Nat), q := [] } : Bod).vals none 0) (i := 1) (by rw [show x.vals none 0 = ({ x with q := [] } : Bod).vals none 0 by rw [← hx]]; exact (by repeat (first | exact .here _ _ _ | apply SetV.there))) pre post
 refine gU ?_
 refine H.Ad rfl rfl rfl (byte_cs f _ cb (s.skip 8) (by omega)) ?_
 refine ga ?_
 generalize hs0 : (s.skip 8).skip 1 = s0 at a2 ⊢
 generalize hN : (s.skip 8).num 1 = N at n1 ⊢
 refine H.slc0 88 2 ?_
 refine H.Aa (.there _ (.here _ _)) ?_
 refine H.Aa (.there _ (.there _ (.here _ _))) ?_
 refine H.Ax (ι := Nat × Cs × List (Int × Int) × Option Addr × Nat) (fun i => [(4, .int .u8 (i.1 : Int)), (0, .pointer (some ⟨cb, 0, none⟩)), (1, .pointer (some ⟨xb, pre.length, none⟩))]) (fun _ => f)
  (fun i => bodAt xb T pre post { x with view := (s.num 8 : Nat), q := i.2.2.1 } i.2.2.2.1 i.2.2.2.2 :: cutC f cb i.2.1 :: qs i.2.2.2.1 i.2.2.2.2 i.2.2.1 :: F)
  (fun i => i.1 < 256 ∧ i.2.2.1.length + i.1 ≤ 255 ∧ i.2.1.l.length ≤ s.l.length ∧ Cs.pairs N s0 [] = Cs.pairs i.1 i.2.1 i.2.2.1) (fun i => i.1) (N, s0, [], none, 0) ⟨n1, by show 0 + N ≤ 255; omega, by show s0.l.length ≤ _; omega, rfl⟩ ⟨rfl, rfl, rfl, trivial⟩ rfl rfl fun i hi => ?_
 obtain ⟨n, s', acc, qp, qc⟩ := i
 obtain ⟨hn, hacc, hlen, hp⟩ : n < 256 ∧ acc.length + n ≤ 255 ∧ s'.l.length ≤ s.l.length ∧ Cs.pairs N s0 [] = Cs.pairs n s' acc := hi
 rw [hp]
 show H _ _ _ [(4, .int .u8 (n : Int)), (0, .pointer (some ⟨cb, 0, none⟩)), (1, .pointer (some ⟨xb, pre.length, none⟩))] _ (bodAt xb T pre post { x with view := (s.num 8 : Nat), q := acc } qp qc :: cutC f cb s' :: qs qp qc acc :: F) _
 cases n with
 | zero =>
  have h0 : ¬ (0 < ((0 : Nat) : Int)) := by omega
  have hp0 : Cs.pairs 0 s' acc = (acc, s') := rfl
  rw [hp0]
  refine gW ?_
  refine H.Aa (.there _ (.here _ _)) ?_
  exact H.end0 rfl (fun _ h => h) ⟨(qp, qc), rfl, rfl, rfl⟩
 | succ n =>
  have h0 : 0 < ((n + 1 : Nat) : Int) := by omega
  refine H.Aa (.there _ (.here _ _)) ?_
  refine gQ ?_
  refine H.Ad rfl rfl rfl (ok_cs f _ cb s') ?_
  cases hbad : s'.bad with
  | true =>
   have hp0 : Cs.pairs (n + 1) s' acc = (acc, s') := by simp [Cs.pairs, hbad]
   rw [hp0]
   refine gN ?_
   exact H.end0 rfl (fun _ h => h) ⟨(qp, qc), rfl, rfl, rfl⟩
  | false =>
   have hp0 : Cs.pairs (n + 1) s' acc = Cs.pairs n ((s'.skip 1).skip 8) (acc ++ [(((s'.num 1 : Nat) : Int), (((s'.skip 1).num 8 : Nat) : Int))]) := by simp [Cs.pairs, hbad]
   rw [hp0]
   have b1 := s'.skip_len 1
   have b2 := (s'.skip 1).skip_len 8
   have m1 := s'.num1_lt
   refine gN ?_
   refine H.Aa (.there _ (.here _ _)) ?_
   refine H.drawC [0, 1, 2, 3, 4, 5, 6, 7, 8, 9, 10, 11, 12] (by kernel_rfl) (by decide +kernel) (by repeat (first | exact zab | refine zaa ?_ | refine zac ?_ | refine zad ?_)) (S := [_]) rfl ?_
   refine HB.Af [(0, false), (1, false), (2, false), (3, false), (4, false), (5, false), (8, false)] 9 (by kernel_rfl) ?_
   refine gJ ?_
   refine HQ.Ag rfl rfl rfl (.of (bodAt_rd (by repeat constructor)) (i := 43) rfl) rfl ?_
   refine gB ?_
   refine HQ.Ae rfl ?_
   refine HB.ev1 (i := 6) (by kernel_rfl) rfl ?_
   refine H.Aa (.there _ (.here _ _)) ?_
   refine H.Ad rfl rfl rfl (byte_cs f _ cb s' (by omega)) ?_
   refine gA ?_
   refine H.Aa (.there _ (.here _ _)) ?_
   refine H.on0 rfl ?_
   refine HB.Af [(7, false)] 7 (by kernel_rfl) ?_
   refine gT ?_
   refine HQ.Ae rfl ?_
   refine HB.ev1 (i := 9) (by kernel_rfl) rfl ?_
   refine H.Aa (.there _ (.here _ _)) ?_
   refine H.Ad rfl rfl rfl (word_cs f _ cb (s'.skip 1) (by omega)) ?_
   refine gA ?_
   refine H.Aa (.there _ (.here _ _)) ?_
   refine H.on0 rfl ?_
   refine HB.Af [(10, false)] 5 (by kernel_rfl) ?_
   refine gT ?_
   refine HQ.Ae rfl ?_
   generalize hpr : ((((s'.num 1 : Nat) : Int), (((s'.skip 1).num 8 : Nat) : Int)) : Int × Int) = pr
   refine HB.ev1 (i := 11) (by kernel_rfl) rfl ?_
   refine H.Bd (out := pairV pr) rfl rfl rfl rfl (by decide) (by decide) (by subst hpr; rfl) rfl fun tb => ?_
   refine gA ?_
   refine H.Aa (.there _ (.here _ _)) ?_
   refine H.on0 rfl ?_
   refine HB.ev1 (i := 12) (by kernel_rfl) rfl ?_
   refine H.Bf (m := 1) (news := pairV pr) rfl rfl rfl rfl rfl (fun p' c' => (by repeat constructor)) (Src.slice (Rd.ofRow (by repeat constructor)) rfl) (zae rfl) rfl (show acc.length + 1 ≤ _ by omega) (show (acc.length + 1) * _ ≤ _ by omega) fun p' c' => ?_
   refine gA ?_
   refine H.on0 rfl ?_
   refine HB.next [] (by kernel_rfl) (S' := []) rfl ?_
   refine HB.Af [(13, false), (14, false)] 1 (by kernel_rfl) ?_
   refine gJ ?_
   refine HQ.Ae rfl ?_
   refine HB.ev1 (i := 15) (by kernel_rfl) rfl ?_
   repeat ((apply H.Bi; (iterate 4 exact rfl); (repeat (exact .here _ _ _))))
   have e : Value.slice p' (acc.length + 1) c' = .slice p' (acc ++ [pr]).length c' := by rw [List.length_append]; rfl
   ·rw [e]
    exact SetV.mid (l := ({ x with view := (s.num 8 : Nat), q := acc } : Bod).vals qp qc) (l' := ({ x with view := (s.num 8 : Nat), q := acc ++ [pr] } : Bod).vals p' c') (i := 43) (by repeat (first | exact .here _ _ _ | apply SetV.there)) pre post
   refine gA ?_
   refine H.on0 rfl ?_
   refine HB.Aq (by kernel_rfl) ?_
   refine H.Ab (.there _ (.here _ _)) ?_
   refine gK ?_
   refine H.know (d := 4) (u := .int .u8 (n : Int)) rfl (congrArg (Value.int .u8) (by omega)) ?_
   have e2 : qs p' c' (acc ++ [pr]) = slc p' (acc.length + 1) c' 88 2 (acc.flatMap pairV ++ pairV pr) := by
    unfold qs; rw [List.length_append, List.flatMap_append]; simp
   refine H.Au (n, (s'.skip 1).skip 8, acc ++ [pr], p', c') ⟨by show n < 256; omega, by show (acc ++ [pr]).length + n ≤ 255; rw [List.length_append]; simp only [List.length_cons, List.length_nil]; omega, by show ((s'.skip 1).skip 8).l.length ≤ _; omega, ?_⟩ (Nat.lt_succ_self n) ⟨rfl, rfl, rfl, trivial⟩ rfl ?_
   ·exact rfl
   ·show _ = bodAt xb T pre post { x with view := (s.num 8 : Nat), q := acc ++ [pr] } p' c' :: cutC f cb ((s'.skip 1).skip 8) :: qs p' c' (acc ++ [pr]) :: F
    rw [e2]
    rfl
end
theorem u8_b8 (z : Int) : IntKind.u8.wrap z = ((b8 z).toNat : Int) := u8_wrap z
theorem zar {f : Frag} {A A' : List HP} {xb : Nat} {T : TypeId} {x : Bod} {q : Option Addr} {qc : Nat} (h : At A (row xb T (x.vals q qc)) A' (row xb T (x.vals q qc))) : Rd f A xb (0 + 3) x.req.vals := by
 have h1 := Rd.ofRow (f := f) h
 have e : x.vals q qc = [.int .u8 (x.kind.toNat : Nat), .int .u64 x.view, .int .u64 x.k] ++ x.req.vals ++ ([.slice q x.q.length qc] ++ b32 x.dig) := rfl
 rw [e] at h1
 exact h1.sub rfl
theorem row_rtag {f : Frag} {A A' : List HP} {xb : Nat} {T : TypeId} {x : Bod} {q : Option Addr} {qc : Nat} (h : At A (row xb T (x.vals q qc)) A' (row xb T (x.vals q qc))) : Rd f A xb (0 + 3 + 8) (bytesV (b32L x.req.tag)) := by
 have h1 := Rd.ofRow (f := f) h
 have e : x.vals q qc = ([.int .u8 (x.kind.toNat : Nat), .int .u64 x.view, .int .u64 x.k] ++ [.int .i64 x.req.client, .int .u64 x.req.time, .int .u8 (x.req.kind.toNat : Nat), .string x.req.key, .string x.req.val, .string x.req.old, .string x.req.to, .int .u64 x.req.amount]) ++ bytesV (b32L x.req.tag) ++ ([.slice q x.q.length qc] ++ b32 x.dig) := rfl
 rw [e] at h1
 exact h1.sub rfl
theorem row_dig {f : Frag} {A A' : List HP} {xb : Nat} {T : TypeId} {x : Bod} {q : Option Addr} {qc : Nat} (h : At A (row xb T (x.vals q qc)) A' (row xb T (x.vals q qc))) : Rd f A xb (0 + 44) (bytesV (b32L x.dig)) := by
 have h1 := Rd.ofRow (f := f) h
 have e : x.vals q qc = ([.int .u8 (x.kind.toNat : Nat), .int .u64 x.view, .int .u64 x.k] ++ x.req.vals ++ [.slice q x.q.length qc]) ++ bytesV (b32L x.dig) ++ [] := (List.append_nil _).symm
 rw [e] at h1
 exact h1.sub rfl
theorem Req.bytes_len (r : Req) : r.bytes.length = 26 + r.key.size + r.val.size + r.old.size + r.to.size := by
 unfold Req.bytes textB
 simp only [List.length_append, be_len, zap]
 show 2 + 8 + 8 + _ + _ + _ + _ = _
 omega
section
variable (f : Frag) (A : List HP) (x : Bod) (q : Option Addr) (qc : Nat)
theorem may_prepare : Fn Tryz.prog 138 [.agg (x.vals q qc).toArray] f A (Ret (.bool (decide x.req.asked)) f A) := by
 refine Fn.enter Tryz.func138 rfl Tryz.ntmps138 rfl (L := [(0, _)]) ⟨rfl, trivial⟩ fun base => ?_
 refine gA ?_
 refine H.box (ls := x.vals q qc) rfl rfl rfl rfl fun xb => ?_
 refine gX ?_
 refine H.Aj (ls := x.req.vals) rfl rfl rfl (zar (by repeat constructor)) rfl rfl ?_
 refine H.Ad rfl rfl rfl (asked_fn f _ x.req) ?_
 refine ga ?_
 refine H.Ab (.here _ _) ?_
 exact H.Ac rfl rfl (fun _ h => h) ⟨rfl, rfl, rfl⟩
theorem may_newview (hq : QAt f q x.q) (hl : x.q.length ≤ 1000000000000) : Fn Tryz.prog 148 [.agg (x.vals q qc).toArray] f A (Ret (.bool (decide (1 ≤ x.view) && (quo 0 x.q && decide (0 < x.q.length)))) f A) := by
 by_cases hv : 1 ≤ x.view
 ·refine Fn.enter Tryz.func148 rfl Tryz.ntmps148 rfl (L := [(0, _)]) ⟨rfl, trivial⟩ fun base => ?_
  refine gA ?_
  refine H.box (ls := x.vals q qc) rfl rfl rfl rfl fun xb => ?_
  refine gE ?_
  refine H.Ad rfl rfl rfl (quorum_fn f _ hq hl) ?_
  refine gV ?_
  refine H.Ab (.here _ _) ?_
  exact H.Ac rfl rfl (fun _ h => h) ⟨by rw [decide_eq_true hv, Bool.true_and], rfl, rfl⟩
 ·refine Fn.enter Tryz.func148 rfl Tryz.ntmps148 rfl (L := [(0, _)]) ⟨rfl, trivial⟩ fun base => ?_
  refine gA ?_
  refine H.box (ls := x.vals q qc) rfl rfl rfl rfl fun xb => ?_
  refine gZ ?_
  refine H.Ab (.here _ _) ?_
  exact H.Ac rfl rfl (fun _ h => h) ⟨by rw [decide_eq_false hv, Bool.false_and], rfl, rfl⟩
theorem put_commit {p : Option Addr} {c : Nat} {l : List UInt8} (hs : Src Tryz.prog f A (.slice p l.length c) 1 l.length (bytesV l)) (hn : p = none → l = []) (hl : l.length ≤ 100000000) :
  Fn Tryz.prog 140 [.slice p l.length c, .agg (x.vals q qc).toArray] f A (BytesR (l ++ (be 8 x.view ++ be 8 x.k)) f A) := by
 refine Fn.enter Tryz.func140 rfl Tryz.ntmps140 rfl (L := [(0, _), (1, _)]) ⟨rfl, rfl, trivial⟩ fun base => ?_
 refine gA ?_
 refine H.box (ls := x.vals q qc) rfl rfl rfl rfl fun xb => ?_
 refine gU ?_
 refine H.Ay (by kernel_rfl) (by decide +kernel) (by repeat (first | exact zab | refine zaa ?_ | refine zac ?_ | refine zad ?_)) (S := [_]) rfl ?_
 refine HB.Af [(0, false), (1, false), (2, false), (4, false), (5, false)] 3 (by kernel_rfl) ?_
 refine gJ ?_
 refine HQ.Ae rfl ?_
 refine HB.ev1 (i := 3) (by kernel_rfl) rfl ?_
 refine H.Ar rfl rfl rfl (word_fn f _ hs.cons hn (by omega)) fun p1 c1 => ?_
 refine gA ?_
 refine H.Aa (.there _ (.here _ _)) ?_
 refine H.on0 rfl ?_
 refine HB.ev1 (i := 6) (by kernel_rfl) rfl ?_
 have h1 : (l ++ be 8 x.view).length = l.length + 8 := by rw [List.length_append, be_len]
 generalize hl1 : l ++ be 8 x.view = l1 at h1
 refine H.Ce (.there _ (.here _ _ _)) (by omega) fun b3 hp => ?_
 subst hp
 refine H.Ar rfl rfl rfl (word_fn (l := l1) f _ (Src.slcS (.there _ (.here _ _ _)) (by rw [zaf]; exact (Nat.mul_one _).symm)) (fun h => by cases h) (by omega)) fun p4 c4 => ?_
 refine gA ?_
 refine H.Ab (.there _ (.there _ (.here _ _))) ?_
 refine H.Aa (.there _ (.here _ _)) ?_
 refine H.on0 rfl ?_
 refine HB.Af [(7, false)] 0 (by kernel_rfl) ?_
 refine gB ?_
 refine HQ.Ae rfl ?_
 refine HB.Aq (by kernel_rfl) ?_
 refine ga ?_
 refine H.Ab (.here _ _) ?_
 exact H.Ac rfl rfl (fun _ h => h) ⟨p4, c4, by rw [← List.append_assoc, hl1], rfl, by rw [← List.append_assoc, hl1]; rfl⟩
theorem put_prepare {p : Option Addr} {c : Nat} {l : List UInt8} (hs : Src Tryz.prog f A (.slice p l.length c) 1 l.length (bytesV l)) (hn : p = none → l = []) (ha : x.req.asked) (hl : l.length ≤ 100000000) :
  Fn Tryz.prog 132 [.slice p l.length c, .agg (x.vals q qc).toArray] f A (BytesR (l ++ (be 8 x.view ++ x.req.bytes ++ b32L x.req.tag)) f A) := by
 have hb : x.req.bytes.length ≤ 1000 := by
  obtain ⟨_, _, _, _, ⟨k1, k2⟩, k3, k4⟩ := ha
  rw [Req.bytes_len]; omega
 refine Fn.enter Tryz.func132 rfl Tryz.ntmps132 rfl (L := [(0, _), (1, _)]) ⟨rfl, rfl, trivial⟩ fun base => ?_
 refine gA ?_
 refine H.box (ls := x.vals q qc) rfl rfl rfl rfl fun xb => ?_
 refine gU ?_
 refine H.Ay (by kernel_rfl) (by decide +kernel) (by repeat (first | exact zab | refine zaa ?_ | refine zac ?_ | refine zad ?_)) (S := [_]) rfl ?_
 refine HB.Af [(0, false), (1, false), (2, false), (4, false), (5, false), (7, false), (8, false), (9, false)] 4 (by kernel_rfl) ?_
 refine gJ ?_
 refine HQ.Aj (ls := x.req.vals) rfl rfl rfl (zar (by repeat constructor)) rfl rfl ?_
 refine gJ ?_
 refine HQ.Cd (lo := none) (hi := none) (mx := none) (lv := 0) (hv := 32) (mv := 32) rfl rfl rfl rfl rfl (fun h => by cases h) (by decide) (by decide) (by decide) rfl ?_
 refine HQ.Ae rfl ?_
 refine HB.ev1 (i := 3) (by kernel_rfl) rfl ?_
 refine H.Ar rfl rfl rfl (word_fn f _ hs.cons hn (by omega)) fun p1 c1 => ?_
 refine gA ?_
 refine H.Aa (.there _ (.here _ _)) ?_
 refine H.on0 rfl ?_
 refine HB.ev1 (i := 6) (by kernel_rfl) rfl ?_
 have h1 : (l ++ be 8 x.view).length = l.length + 8 := by rw [List.length_append, be_len]
 generalize hl1 : l ++ be 8 x.view = l1 at h1
 refine H.Aa (.there _ (.here _ _)) ?_
 refine H.Ar rfl rfl rfl (request_fn f _ x.req ha (by omega)) fun p2 c2 => ?_
 have h2 : (l1 ++ x.req.bytes).length = l1.length + x.req.bytes.length := List.length_append
 generalize hl2 : l1 ++ x.req.bytes = l2 at h2
 refine gA ?_
 refine H.Aa (.there _ (.here _ _)) ?_
 refine H.on0 rfl ?_
 refine HB.ev1 (i := 10) (by kernel_rfl) rfl ?_
 refine H.Bf (m := 32) rfl rfl rfl rfl rfl (fun p' c' => (by repeat constructor)) (Src.slice (row_rtag (by repeat constructor)) rfl) (zah _) rfl (by omega) (by omega) fun p3 c3 => ?_
 refine gA ?_
 refine H.on0 rfl ?_
 refine HB.Af [(11, false)] 0 (by kernel_rfl) ?_
 refine gB ?_
 refine HQ.Ae rfl ?_
 refine HB.Aq (by kernel_rfl) ?_
 refine ga ?_
 refine H.Ab (.here _ _) ?_
 have e3 : (l ++ (be 8 x.view ++ x.req.bytes ++ b32L x.req.tag)) = l2 ++ b32L x.req.tag := by rw [← hl2, ← hl1]; simp only [List.append_assoc]
 exact H.Ac rfl rfl (fun _ h => h) ⟨p3, c3, by rw [e3, List.length_append]; rfl, rfl, by rw [e3, List.length_append, zag]; rfl⟩
theorem put_check {p : Option Addr} {c : Nat} {l : List UInt8} (hs : Src Tryz.prog f A (.slice p l.length c) 1 l.length (bytesV l)) (hn : p = none → l = []) (hl : l.length ≤ 100000000) :
  Fn Tryz.prog 150 [.slice p l.length c, .agg (x.vals q qc).toArray] f A (BytesR (l ++ (be 8 x.k ++ b32L x.dig)) f A) := by
 refine Fn.enter Tryz.func150 rfl Tryz.ntmps150 rfl (L := [(0, _), (1, _)]) ⟨rfl, rfl, trivial⟩ fun base => ?_
 refine gA ?_
 refine H.box (ls := x.vals q qc) rfl rfl rfl rfl fun xb => ?_
 refine gU ?_
 refine H.Ay (by kernel_rfl) (by decide +kernel) (by repeat (first | exact zab | refine zaa ?_ | refine zac ?_ | refine zad ?_)) (S := [_]) rfl ?_
 refine HB.Af [(0, false), (1, false), (2, false), (4, false), (5, false)] 3 (by kernel_rfl) ?_
 refine gJ ?_
 refine HQ.Cd (lo := none) (hi := none) (mx := none) (lv := 0) (hv := 32) (mv := 32) rfl rfl rfl rfl rfl (fun h => by cases h) (by decide) (by decide) (by decide) rfl ?_
 refine HQ.Ae rfl ?_
 refine HB.ev1 (i := 3) (by kernel_rfl) rfl ?_
 refine H.Ar rfl rfl rfl (word_fn f _ hs.cons hn (by omega)) fun p1 c1 => ?_
 refine gA ?_
 refine H.Aa (.there _ (.here _ _)) ?_
 refine H.on0 rfl ?_
 refine HB.ev1 (i := 6) (by kernel_rfl) rfl ?_
 have h1 : (l ++ be 8 x.k).length = l.length + 8 := by rw [List.length_append, be_len]
 generalize hl1 : l ++ be 8 x.k = l1 at h1
 refine H.Bf (m := 32) rfl rfl rfl rfl rfl (fun p' c' => (by repeat constructor)) (Src.slice (row_dig (by repeat constructor)) rfl) (zah _) rfl (by omega) (by omega) fun p3 c3 => ?_
 refine gA ?_
 refine H.on0 rfl ?_
 refine HB.Af [(7, false)] 0 (by kernel_rfl) ?_
 refine gB ?_
 refine HQ.Ae rfl ?_
 refine HB.Aq (by kernel_rfl) ?_
 refine ga ?_
 refine H.Ab (.here _ _) ?_
 have e3 : (l ++ (be 8 x.k ++ b32L x.dig)) = l1 ++ b32L x.dig := by rw [← hl1]; simp only [List.append_assoc]
 exact H.Ac rfl rfl (fun _ h => h) ⟨p3, c3, by rw [e3, List.length_append]; rfl, rfl, by rw [e3, List.length_append, zag]; rfl⟩
theorem put_view {p : Option Addr} {c : Nat} {l : List UInt8} (hs : Src Tryz.prog f A (.slice p l.length c) 1 l.length (bytesV l)) (hn : p = none → l = []) (hl : l.length ≤ 100000000) :
  Fn Tryz.prog 183 [.slice p l.length c, .agg (x.vals q qc).toArray] f A (BytesR (l ++ be 8 x.view) f A) := view1_fn f A x q qc hs hn (by omega)
theorem put_newview {p : Option Addr} {c : Nat} {l : List UInt8} (hs : Src Tryz.prog f A (.slice p l.length c) 1 l.length (bytesV l)) (hn : p = none → l = []) (hq : QAt f q x.q) (hql : x.q.length ≤ 1000) (hl : l.length ≤ 100000000) :
  Fn Tryz.prog 144 [.slice p l.length c, .agg (x.vals q qc).toArray] f A (BytesR (l ++ (be 8 x.view ++ [b8 x.q.length] ++ x.q.flatMap pairB)) f A) := by
 have h1 : (l ++ be 8 x.view).length = l.length + 8 := by rw [List.length_append, be_len]
 refine Fn.enter Tryz.func144 rfl Tryz.ntmps144 rfl (L := [(0, _), (1, _)]) ⟨rfl, rfl, trivial⟩ fun base => ?_
 refine gA ?_
 refine H.box (ls := x.vals q qc) rfl rfl rfl rfl fun xb => ?_
 refine gU ?_
 refine H.cut (ι := Option Addr × Nat) (fun i => [(0, .slice i.1 ((l ++ be 8 x.view).length + 1) i.2), (3, .pointer (some ⟨xb, 0, none⟩))]) (fun _ => f) (fun i => row xb 52 (x.vals q qc) :: slc i.1 ((l ++ be 8 x.view).length + 1) i.2 5 1 (bytesV (l ++ be 8 x.view) ++ bytesV [b8 x.q.length]) :: A) (fun _ => True) _ (fun i _ => ?_) ?_
 ·obtain ⟨p1, c1⟩ := i
  generalize hl0 : l ++ be 8 x.view ++ [b8 x.q.length] = l0
  have e0 : l0.length = (l ++ be 8 x.view).length + 1 := by rw [← hl0, List.length_append]; rfl
  have e1 : bytesV l0 = bytesV (l ++ be 8 x.view) ++ bytesV [b8 x.q.length] := by rw [← hl0, zag]
  show H _ _ _ [(0, .slice p1 ((l ++ be 8 x.view).length + 1) c1), _] _ (row _ _ _ :: slc p1 ((l ++ be 8 x.view).length + 1) c1 _ _ (bytesV (l ++ be 8 x.view) ++ bytesV [b8 x.q.length]) :: A) _
  rw [← e0, ← e1]
  refine gF ?_
  refine H.Ax (ι := Nat × Option Addr × Nat) (fun i => [(20, .int .i64 (i.1 : Int)), (19, .int .i64 (x.q.length : Nat)), (18, .slice q x.q.length qc), (0, .slice i.2.1 (l0 ++ (x.q.take i.1).flatMap pairB).length i.2.2), (3, .pointer (some ⟨xb, 0, none⟩))]) (fun _ => f)
   (fun i => row xb 52 (x.vals q qc) :: slc i.2.1 (l0 ++ (x.q.take i.1).flatMap pairB).length i.2.2 5 1 (bytesV (l0 ++ (x.q.take i.1).flatMap pairB)) :: A)
   (fun i => i.1 ≤ x.q.length ∧ (l0 ++ (x.q.take i.1).flatMap pairB).length = l0.length + 9 * i.1) (fun i => x.q.length - i.1) (0, p1, c1) ⟨Nat.zero_le _, by simp⟩ ⟨rfl, rfl, rfl, ?_, rfl, trivial⟩ rfl ?_ fun i hi => ?_
  ·show some (Value.slice p1 l0.length c1) = some (Value.slice p1 (l0 ++ []).length c1)
   rw [List.append_nil]
  ·show _ = _ :: slc p1 (l0 ++ []).length c1 _ 1 (bytesV (l0 ++ [])) :: A
   rw [List.append_nil]
  ·obtain ⟨i, p', c'⟩ := i
   obtain ⟨hi, hlen⟩ : i ≤ x.q.length ∧ (l0 ++ (x.q.take i).flatMap pairB).length = l0.length + 9 * i := hi
   show H _ _ _ [(20, .int .i64 (i : Int)), _, _, (0, .slice p' (l0 ++ (x.q.take i).flatMap pairB).length c'), _] _ (_ :: slc p' (l0 ++ (x.q.take i).flatMap pairB).length c' _ 1 (bytesV (l0 ++ (x.q.take i).flatMap pairB)) :: A) _
   generalize hacc : l0 ++ (x.q.take i).flatMap pairB = acc at hlen
   by_cases hlt : i < x.q.length
   ·have hx : x.q[i]? = some x.q[i] := List.getElem?_eq_getElem hlt
    generalize x.q[i] = pr at hx
    have e3 : l0 ++ (x.q.take (i + 1)).flatMap pairB = acc ++ [b8 pr.1] ++ be 8 pr.2 := by
     rw [List.take_add_one, hx, ← hacc]; simp [pairB]
    obtain ⟨b, off, cs, T, fr, rfl, hfb, hcs⟩ := hq i pr hx
    have rd : ∀ A, Rd f A b (off + i * 2) (pairV pr) := fun A => Rd.imm hfb hcs
    clear hcs hfb
    refine gG ?_
    refine H.Bt rfl rfl rfl rfl hlt rfl ?_
    refine H.Aj (ls := pairV pr) rfl rfl rfl (rd _) rfl rfl ?_
    refine H.Av rfl rfl rfl fun pb => ?_
    refine H.Ap (ls := [.int .i64 0, .int .u64 0]) (vs := pairV pr) (ls' := pairV pr) rfl rfl rfl (zae rfl) rfl rfl (Nat.le_refl 2) (by repeat constructor) ?_
    refine gA ?_
    refine H.Ay (by kernel_rfl) (by decide +kernel) (by repeat (first | exact zab | refine zaa ?_ | refine zac ?_ | refine zad ?_)) (S := [_]) rfl ?_
    refine HB.Af [(0, false), (1, false), (2, false), (3, false), (6, false), (7, false)] 4 (by kernel_rfl) ?_
    refine gT ?_
    rw [u8_b8]
    refine HQ.Ae rfl ?_
    refine HB.ev1 (i := 4) (by kernel_rfl) rfl ?_
    refine H.Bd (out := bytesV [b8 pr.1]) rfl rfl rfl rfl (by decide) (by decide) rfl rfl fun tb => ?_
    refine gA ?_
    refine H.Aa (.there _ (.here _ _)) ?_
    refine H.on0 rfl ?_
    refine HB.ev1 (i := 5) (by kernel_rfl) rfl ?_
    refine H.Bf (m := 1) rfl rfl rfl rfl rfl (fun p' c' => (by repeat constructor)) (Src.slice (Rd.ofRow (.there _ (.here _ _ _))) rfl) (zah _) rfl (by omega) (by omega) fun p3 c3 => ?_
    refine gA ?_
    refine H.Ab (.there _ (.here _ _)) ?_
    refine H.on0 rfl ?_
    refine HB.ev1 (i := 8) (by kernel_rfl) rfl ?_
    have f0 : (acc ++ [b8 pr.1]).length = acc.length + 1 := by rw [List.length_append]; rfl
    have f1 : bytesV (acc ++ [b8 pr.1]) = bytesV acc ++ bytesV [b8 pr.1] := zag _ _
    generalize acc ++ [b8 pr.1] = l4 at f0 f1 e3
    show H _ _ _ _ _ (row _ _ _ :: row _ _ _ :: slc p3 (acc.length + 1) c3 _ _ (bytesV acc ++ bytesV [b8 pr.1]) :: A) _
    rw [← f0, ← f1]
    refine H.Ce (.there _ (.there _ (.here _ _ _))) (by omega) fun b3 hp => ?_
    subst hp
    refine H.Ar rfl rfl rfl (word_fn (l := l4) f _ (Src.slcS (.there _ (.there _ (.here _ _ _))) (by rw [zaf]; exact (Nat.mul_one _).symm)) (fun h => by cases h) (by omega)) fun p4 c4 => ?_
    refine gA ?_
    refine H.Ab (.there _ (.there _ (.there _ (.here _ _)))) ?_
    refine H.Aa (.there _ (.here _ _)) ?_
    refine H.on0 rfl ?_
    refine HB.Af [(9, false)] 0 (by kernel_rfl) ?_
    refine gB ?_
    refine HQ.Ae rfl ?_
    refine HB.Aq (by kernel_rfl) ?_
    refine gK ?_
    refine H.Ab (.here _ _) ?_
    refine H.Aa (.there _ (.here _ _)) ?_
    refine H.Au (i + 1, p4, c4) ⟨by show i + 1 ≤ x.q.length; omega, ?_⟩ (by show x.q.length - (i + 1) < x.q.length - i; omega) ⟨rfl, rfl, rfl, ?_, rfl, trivial⟩ rfl ?_
    ·show (l0 ++ (x.q.take (i + 1)).flatMap pairB).length = l0.length + 9 * (i + 1)
     rw [e3, List.length_append, be_len]; omega
    ·show some _ = some (Value.slice p4 (l0 ++ (x.q.take (i + 1)).flatMap pairB).length c4)
     rw [e3]
    ·show _ = _ :: slc p4 (l0 ++ (x.q.take (i + 1)).flatMap pairB).length c4 _ 1 (bytesV (l0 ++ (x.q.take (i + 1)).flatMap pairB)) :: A
     rw [e3]
   ·have : i = x.q.length := by omega
    subst this
    rw [List.take_length] at hacc
    refine gV ?_
    refine H.Ab (.here _ _) ?_
    have e9 : l ++ (be 8 x.view ++ [b8 x.q.length] ++ x.q.flatMap pairB) = acc := by rw [← hacc, ← hl0]; simp only [List.append_assoc]
    exact H.Ac rfl rfl (fun _ h => h) ⟨p', c', by rw [e9], rfl, by rw [e9]⟩
 ·refine H.Ay (by kernel_rfl) (by decide +kernel) (by repeat (first | exact zab | refine zaa ?_ | refine zac ?_ | refine zad ?_)) (S := [_]) rfl ?_
  refine HB.Af [(0, false), (1, false), (2, false), (4, false), (5, false), (6, false), (7, false)] 4 (by kernel_rfl) ?_
  refine gT ?_
  rw [u8_b8]
  refine HQ.Ae rfl ?_
  refine HB.ev2 (i := 3) (j := 8) (by kernel_rfl) rfl rfl ?_ ?_
  ·refine H.Ar rfl rfl rfl (word_fn f _ hs.cons hn (by omega)) fun p1 c1 => ?_
   refine gA ?_
   refine H.Aa (.there _ (.here _ _)) ?_
   refine H.on0 rfl ?_
   refine HB.ev1 (i := 8) (by kernel_rfl) rfl ?_
   refine H.Bd (out := bytesV [b8 x.q.length]) rfl rfl rfl rfl (by decide) (by decide) rfl rfl fun tb => ?_
   refine gA ?_
   refine H.Aa (.there _ (.here _ _)) ?_
   refine H.on0 rfl ?_
   refine HB.ev1 (i := 9) (by kernel_rfl) rfl ?_
   refine H.Bf (m := 1) rfl rfl rfl rfl rfl (fun p' c' => (by repeat constructor)) (Src.slice (Rd.ofRow (.there _ (.here _ _ _))) rfl) (zah _) rfl (by omega) (by omega) fun p3 c3 => ?_
   refine gA ?_
   refine H.Ab (.there _ (.here _ _)) ?_
   refine H.on0 rfl ?_
   refine HB.Af [(10, false)] 0 (by kernel_rfl) ?_
   refine gB ?_
   refine HQ.Ae rfl ?_
   refine HB.Aq (by kernel_rfl) ?_
   exact H.meet (p3, c3) trivial ⟨rfl, rfl, trivial⟩ rfl rfl
  ·refine H.Bd (out := bytesV [b8 x.q.length]) rfl rfl rfl rfl (by decide) (by decide) rfl rfl fun tb => ?_
   refine gA ?_
   refine H.Aa (.there _ (.here _ _)) ?_
   refine H.on0 rfl ?_
   refine HB.ev1 (i := 3) (by kernel_rfl) rfl ?_
   refine H.Ar rfl rfl rfl (word_fn f _ hs.cons.cons hn (by omega)) fun p1 c1 => ?_
   refine gA ?_
   refine H.Aa (.there _ (.here _ _)) ?_
   refine H.on0 rfl ?_
   refine HB.ev1 (i := 9) (by kernel_rfl) rfl ?_
   refine H.Bf (m := 1) rfl rfl rfl rfl rfl (fun p' c' => (by repeat constructor)) (Src.slice (Rd.ofRow (.there _ (.there _ (.here _ _ _)))) rfl) (zah _) rfl (by omega) (by omega) fun p3 c3 => ?_
   refine gA ?_
   refine H.Ab (.there _ (.there _ (.here _ _))) ?_
   refine H.on0 rfl ?_
   refine HB.Af [(10, false)] 0 (by kernel_rfl) ?_
   refine gB ?_
   refine HQ.Ae rfl ?_
   refine HB.Aq (by kernel_rfl) ?_
   exact H.meet (p3, c3) trivial ⟨rfl, rfl, trivial⟩ rfl rfl
end
theorem eqC_pair (p r : Int × Int) : eqC (pairV p) (pairV r) = decide (p = r) := by
 obtain ⟨a, b⟩ := p
 obtain ⟨c, d⟩ := r
 simp only [pairV, eqC, eqv, Bool.and_true, Prod.mk.injEq]
 by_cases h1 : a = c <;> by_cases h2 : b = d <;> simp [h1, h2]
def Bod.eqB (a b : Bod) : Bool := decide ((a.kind.toNat : Int) = b.kind.toNat) && decide (a.view = b.view) && decide (a.k = b.k) && eqC a.req.vals b.req.vals && decide (a.q = b.q) && eqC (b32 a.dig) (b32 b.dig)
def Bod.may (x : Bod) : Bool := Bod.eqB x.own x && decide (x.view < 1073741824) && x.mayK x.kind.toNat
section
variable (f : Frag) (F : List HP)
theorem take_eq_succ {α : Type} {l m : List α} {i : Nat} {x y : α} (h : l.take i = m.take i) (hx : l[i]? = some x) (hy : m[i]? = some y) (e : x = y) : l.take (i + 1) = m.take (i + 1) := by
 rw [List.take_add_one, List.take_add_one, h, hx, hy, e]
theorem equalPairs_fn {p r : Option Addr} {c d : Nat} {l m : List (Int × Int)} (hp : QAt f p l) (hr : QAt f r m) (hl : l.length ≤ 1000000000) :
  Fn Tryz.prog 154 [.slice p l.length c, .slice r m.length d] f F (Ret (.bool (decide (l = m))) f F) := by
 by_cases hlen : (l.length : Int) = m.length
 ·have hlen' : l.length = m.length := by omega
  refine Fn.enter Tryz.func154 rfl Tryz.ntmps154 rfl (L := [(0, _), (1, _)]) ⟨rfl, rfl, trivial⟩ fun base => ?_
  refine gV ?_
  rw [decide_eq_false (by omega)]
  skip
  refine H.Ax (ι := Nat) (fun i => [(13, .int .i64 (i : Int)), (12, .int .i64 (l.length : Nat)), (0, .slice p l.length c), (1, .slice r m.length d)]) (fun _ => f) (fun _ => F) (fun i => i ≤ l.length ∧ l.take i = m.take i) (fun i => l.length - i) 0 ⟨Nat.zero_le _, rfl⟩ ⟨rfl, rfl, rfl, rfl, trivial⟩ rfl rfl fun i hi => ?_
  obtain ⟨hi, htk⟩ : i ≤ l.length ∧ l.take i = m.take i := hi
  by_cases hlt : i < l.length
  ·have hx : l[i]? = some l[i] := List.getElem?_eq_getElem hlt
   have hy : m[i]? = some (m[i]'(by omega)) := List.getElem?_eq_getElem (by omega)
   generalize l[i] = x at hx
   generalize m[i]'(by omega) = y at hy
   obtain ⟨b, off, cs, T, fr, rfl, hfb, hcs⟩ := hp i x hx
   obtain ⟨b2, off2, cs2, T2, fr2, rfl, hfb2, hcs2⟩ := hr i y hy
   have rd : ∀ A, Rd f A b (off + i * 2) (pairV x) := fun A => Rd.imm hfb hcs
   have rd2 : ∀ A, Rd f A b2 (off2 + i * 2) (pairV y) := fun A => Rd.imm hfb2 hcs2
   refine gG ?_
   refine H.Bp (by kernel_rfl) (by decide +kernel) (by repeat (first | exact zab | refine zaa ?_ | refine zac ?_ | refine zad ?_)) ?_
   refine gB ?_
   refine HQ.Bt rfl rfl rfl rfl hlt rfl ?_
   refine HQ.Aj (ls := pairV x) rfl rfl rfl (rd _) rfl rfl ?_
   refine gB ?_
   refine HQ.Bt rfl rfl rfl rfl (by omega) rfl ?_
   refine HQ.Aj (ls := pairV y) rfl rfl rfl (rd2 _) rfl rfl ?_
   refine HQ.aggNe (D := 4) (b := !decide (x = y)) rfl rfl rfl rfl (by kernel_rfl) (by kernel_rfl) (by kernel_rfl) (by kernel_rfl) (by decide) (by rw [eqC_pair]) rfl ?_
   by_cases hxy : x = y
   ·rw [decide_eq_true hxy]
    refine gT ?_
    refine gR ?_
    exact H.Au (i + 1) ⟨by show i + 1 ≤ l.length; omega, take_eq_succ htk hx hy hxy⟩ (by show l.length - (i + 1) < l.length - i; omega) ⟨rfl, rfl, rfl, rfl, trivial⟩ rfl rfl
   ·rw [decide_eq_false hxy]
    refine gT ?_
    refine gD ?_
    refine H.Ac rfl rfl (fun _ h => h) ⟨?_, rfl, rfl⟩
    rw [decide_eq_false]
    rintro rfl
    rw [hx] at hy
    exact hxy (Option.some.inj hy)
  ·have : i = l.length := by omega
   subst this
   refine gV ?_
   refine H.Ac rfl rfl (fun _ h => h) ⟨?_, rfl, rfl⟩
   rw [decide_eq_true]
   rwa [List.take_length, hlen', List.take_length] at htk
 ·refine Fn.enter Tryz.func154 rfl Tryz.ntmps154 rfl (L := [(0, _), (1, _)]) ⟨rfl, rfl, trivial⟩ fun base => ?_
  refine gG ?_
  refine H.Ac rfl rfl (fun _ h => h) ⟨?_, rfl, rfl⟩
  rw [decide_eq_false]
  rintro rfl
  exact hlen rfl
theorem same_fn {a b : Bod} {p r : Option Addr} {c d : Nat} (hp : QAt f p a.q) (hr : QAt f r b.q) (hl : a.q.length ≤ 1000000000) :
  Fn Tryz.prog 105 [.agg (a.vals p c).toArray, .agg (b.vals r d).toArray] f F (Ret (.bool (Bod.eqB a b)) f F) := by
 by_cases h1 : (a.kind.toNat : Int) = b.kind.toNat
 ·skip
  by_cases h2 : a.view = b.view
  ·skip
   by_cases h3 : a.k = b.k
   ·skip
    by_cases h4 : eqC a.req.vals b.req.vals = true
    ·skip
     by_cases h5 : a.q = b.q
     ·skip
      try simp only [Bool.not_eq_true] at *
      refine Fn.enter Tryz.func105 rfl Tryz.ntmps105 rfl (L := [(0, _), (1, _)]) ⟨rfl, rfl, trivial⟩ fun base => ?_
      repeat (first | ((first | apply H.Ah | apply H.Ak); (iterate 3 exact rfl)) | (apply H.Ao; (iterate 3 exact rfl); exact inferInstance; exact rfl) | (apply H.Ag; (iterate 3 exact rfl); apply Rd1.ofRow; (repeat (first | exact .here _ _ _ | apply At.there)); (iterate 2 exact rfl)) | (first | apply H.seq | apply H.Al | apply H.nil | apply H.Am) | ((apply H.cmp); (iterate 5 exact rfl)) | (apply H.Be; (iterate 4 exact rfl)) | (apply H.ret) | (apply H.Bk; (iterate 3 exact rfl); (assumption)) | ((apply H.gtrue); (iterate 3 exact rfl); assumption) | (refine H.box (ls := a.vals p c) rfl rfl rfl rfl fun ab => ?_) | (refine H.box (ls := b.vals r d) rfl rfl rfl rfl fun bb => ?_) | (refine H.Aj (ls := a.req.vals) rfl rfl rfl (zar (by repeat constructor)) rfl rfl ?_) | (refine H.Aj (ls := b.req.vals) rfl rfl rfl (zar (by repeat constructor)) rfl rfl ?_) | (refine H.aggEq (xs := a.req.vals) (ys := b.req.vals) (D := 4) rfl rfl rfl rfl (by kernel_rfl) (by kernel_rfl) (by kernel_rfl) (by kernel_rfl) (by decide) rfl rfl ?_) | (refine H.Ad rfl rfl rfl (equalPairs_fn f _ hp hr hl) ?_) | (refine H.Aj (ls := bytesV (b32L a.dig)) rfl rfl rfl (row_dig (by repeat constructor)) rfl rfl ?_) | (refine H.Aj (ls := bytesV (b32L b.dig)) rfl rfl rfl (row_dig (by repeat constructor)) rfl rfl ?_) | (refine H.aggEq (xs := bytesV (b32L a.dig)) (ys := bytesV (b32L b.dig)) (b := eqC (b32 a.dig) (b32 b.dig)) (D := 4) rfl rfl rfl rfl (by kernel_rfl) (by kernel_rfl) (by kernel_rfl) (by kernel_rfl) (by decide) rfl rfl ?_))
      refine H.Ab (.here _ _) ?_
      refine H.Ab (.here _ _) ?_
      refine H.Ac rfl rfl (fun _ h => h) ⟨?_, rfl, rfl⟩
      simp [Bod.eqB, *]
     ·skip
      try simp only [Bool.not_eq_true] at *
      refine Fn.enter Tryz.func105 rfl Tryz.ntmps105 rfl (L := [(0, _), (1, _)]) ⟨rfl, rfl, trivial⟩ fun base => ?_
      repeat (first | ((first | apply H.Ah | apply H.Ak); (iterate 3 exact rfl)) | (apply H.Ao; (iterate 3 exact rfl); exact inferInstance; exact rfl) | (apply H.Ag; (iterate 3 exact rfl); apply Rd1.ofRow; (repeat (first | exact .here _ _ _ | apply At.there)); (iterate 2 exact rfl)) | (first | apply H.seq | apply H.Al | apply H.nil | apply H.Am) | ((apply H.cmp); (iterate 5 exact rfl)) | (apply H.Bl; (iterate 2 exact rfl)) | (apply H.Be; (iterate 4 exact rfl)) | ((apply H.Aw); (iterate 4 exact rfl)) | (apply H.ret) | (apply H.Bk; (iterate 3 exact rfl); (assumption)) | (apply H.gno; (iterate 3 exact rfl); (assumption)) | ((apply H.gtrue); (iterate 3 exact rfl); assumption) | (refine H.box (ls := a.vals p c) rfl rfl rfl rfl fun ab => ?_) | (refine H.box (ls := b.vals r d) rfl rfl rfl rfl fun bb => ?_) | (refine H.Aj (ls := a.req.vals) rfl rfl rfl (zar (by repeat constructor)) rfl rfl ?_) | (refine H.Aj (ls := b.req.vals) rfl rfl rfl (zar (by repeat constructor)) rfl rfl ?_) | (refine H.aggEq (xs := a.req.vals) (ys := b.req.vals) (D := 4) rfl rfl rfl rfl (by kernel_rfl) (by kernel_rfl) (by kernel_rfl) (by kernel_rfl) (by decide) rfl rfl ?_) | (refine H.Ad rfl rfl rfl (equalPairs_fn f _ hp hr hl) ?_))
      refine H.Ab (.here _ _) ?_
      refine H.Ab (.here _ _) ?_
      refine H.Ac rfl rfl (fun _ h => h) ⟨?_, rfl, rfl⟩
      simp [Bod.eqB, *]
    ·skip
     try simp only [Bool.not_eq_true] at *
     refine Fn.enter Tryz.func105 rfl Tryz.ntmps105 rfl (L := [(0, _), (1, _)]) ⟨rfl, rfl, trivial⟩ fun base => ?_
     repeat (first | ((first | apply H.Ah | apply H.Ak); (iterate 3 exact rfl)) | (apply H.Ao; (iterate 3 exact rfl); exact inferInstance; exact rfl) | (apply H.Ag; (iterate 3 exact rfl); apply Rd1.ofRow; (repeat (first | exact .here _ _ _ | apply At.there)); (iterate 2 exact rfl)) | (first | apply H.seq | apply H.Al | apply H.nil | apply H.Am) | ((apply H.cmp); (iterate 5 exact rfl)) | (apply H.Bl; (iterate 2 exact rfl)) | (apply H.Be; (iterate 4 exact rfl)) | ((apply H.Aw); (iterate 4 exact rfl)) | (apply H.ret) | (apply H.Bk; (iterate 3 exact rfl); (assumption)) | (apply H.gfalse; (iterate 3 exact rfl); assumption) | (refine H.box (ls := a.vals p c) rfl rfl rfl rfl fun ab => ?_) | (refine H.box (ls := b.vals r d) rfl rfl rfl rfl fun bb => ?_) | (refine H.Aj (ls := a.req.vals) rfl rfl rfl (zar (by repeat constructor)) rfl rfl ?_) | (refine H.Aj (ls := b.req.vals) rfl rfl rfl (zar (by repeat constructor)) rfl rfl ?_) | (refine H.aggEq (xs := a.req.vals) (ys := b.req.vals) (D := 4) rfl rfl rfl rfl (by kernel_rfl) (by kernel_rfl) (by kernel_rfl) (by kernel_rfl) (by decide) rfl rfl ?_))
     refine H.Ab (.here _ _) ?_
     refine H.Ab (.here _ _) ?_
     refine H.Ac rfl rfl (fun _ h => h) ⟨?_, rfl, rfl⟩
     simp [Bod.eqB, *]
   ·skip
    try simp only [Bool.not_eq_true] at *
    refine Fn.enter Tryz.func105 rfl Tryz.ntmps105 rfl (L := [(0, _), (1, _)]) ⟨rfl, rfl, trivial⟩ fun base => ?_
    repeat (first | ((first | apply H.Ah | apply H.Ak); (iterate 3 exact rfl)) | (apply H.Ao; (iterate 3 exact rfl); exact inferInstance; exact rfl) | (apply H.Ag; (iterate 3 exact rfl); apply Rd1.ofRow; (repeat (first | exact .here _ _ _ | apply At.there)); (iterate 2 exact rfl)) | (first | apply H.seq | apply H.Al | apply H.nil | apply H.Am) | ((apply H.cmp); (iterate 5 exact rfl)) | (apply H.Bl; (iterate 2 exact rfl)) | (apply H.Be; (iterate 4 exact rfl)) | ((apply H.Aw); (iterate 4 exact rfl)) | (apply H.ret) | (apply H.Bk; (iterate 3 exact rfl); (assumption)) | (apply H.gno; (iterate 3 exact rfl); (assumption)) | (refine H.box (ls := a.vals p c) rfl rfl rfl rfl fun ab => ?_) | (refine H.box (ls := b.vals r d) rfl rfl rfl rfl fun bb => ?_))
    refine H.Ab (.here _ _) ?_
    refine H.Ab (.here _ _) ?_
    refine H.Ac rfl rfl (fun _ h => h) ⟨?_, rfl, rfl⟩
    simp [Bod.eqB, *]
  ·skip
   try simp only [Bool.not_eq_true] at *
   refine Fn.enter Tryz.func105 rfl Tryz.ntmps105 rfl (L := [(0, _), (1, _)]) ⟨rfl, rfl, trivial⟩ fun base => ?_
   repeat (first | ((first | apply H.Ah | apply H.Ak); (iterate 3 exact rfl)) | (apply H.Ao; (iterate 3 exact rfl); exact inferInstance; exact rfl) | (apply H.Ag; (iterate 3 exact rfl); apply Rd1.ofRow; (repeat (first | exact .here _ _ _ | apply At.there)); (iterate 2 exact rfl)) | (first | apply H.seq | apply H.Al | apply H.nil | apply H.Am) | ((apply H.cmp); (iterate 5 exact rfl)) | (apply H.Bl; (iterate 2 exact rfl)) | (apply H.Be; (iterate 4 exact rfl)) | ((apply H.Aw); (iterate 4 exact rfl)) | (apply H.ret) | (apply H.Bk; (iterate 3 exact rfl); (assumption)) | (apply H.gno; (iterate 3 exact rfl); (assumption)) | (refine H.box (ls := a.vals p c) rfl rfl rfl rfl fun ab => ?_) | (refine H.box (ls := b.vals r d) rfl rfl rfl rfl fun bb => ?_))
   refine H.Ab (.here _ _) ?_
   refine H.Ab (.here _ _) ?_
   refine H.Ac rfl rfl (fun _ h => h) ⟨?_, rfl, rfl⟩
   simp [Bod.eqB, *]
 ·skip
  try simp only [Bool.not_eq_true] at *
  refine Fn.enter Tryz.func105 rfl Tryz.ntmps105 rfl (L := [(0, _), (1, _)]) ⟨rfl, rfl, trivial⟩ fun base => ?_
  repeat (first | ((first | apply H.Ah | apply H.Ak); (iterate 3 exact rfl)) | (apply H.Ao; (iterate 3 exact rfl); exact inferInstance; exact rfl) | (apply H.Ag; (iterate 3 exact rfl); apply Rd1.ofRow; (repeat (first | exact .here _ _ _ | apply At.there)); (iterate 2 exact rfl)) | (first | apply H.seq | apply H.Al | apply H.nil | apply H.Am) | ((apply H.cmp); (iterate 5 exact rfl)) | (apply H.Bl; (iterate 2 exact rfl)) | ((apply H.Aw); (iterate 4 exact rfl)) | (apply H.ret) | (apply H.gno; (iterate 3 exact rfl); (assumption)) | (refine H.box (ls := a.vals p c) rfl rfl rfl rfl fun ab => ?_) | (refine H.box (ls := b.vals r d) rfl rfl rfl rfl fun bb => ?_))
  refine H.Ab (.here _ _) ?_
  refine H.Ab (.here _ _) ?_
  refine H.Ac rfl rfl (fun _ h => h) ⟨?_, rfl, rfl⟩
  simp [Bod.eqB, *]
end
def fnV (f : FuncId) : Value := .func (.func f) #[] #[]
def codecCells (a b c : FuncId) : List Value := [fnV a, fnV b, fnV c]
def codecV (a b c : FuncId) : Value := .agg (codecCells a b c).toArray
def encU8 : Int → Value := fun k => Value.int .u8 k
instance keyU8 : KeyT Tryz.prog 5 encU8 := keyT_int ⟨Tryz.underlying5⟩
def codecsM : List (Int × Value) := [
 (1, codecV 132 135 138),
 (2, codecV 140 141 142),
 (3, codecV 183 184 185),
 (5, codecV 183 184 185),
 (4, codecV 144 145 148),
 (6, codecV 150 151 142)]
theorem Fn.monoA {P : Program} {fid : FuncId} {args : List Value} {f : Frag} {A : List HP} {R R' : Value → Frag → List HP → Prop} (h : Fn P fid args f A R)
  (hr : ∀ v f' A', R v f' A' → ∃ A'', R' v f' A'' ∧ ∀ x, stars A' x → stars A'' x) : Fn P fid args f A R' :=
 fun base w s => (h base w s).mono fun _ _ ⟨v, f', A', e, r, s'⟩ => by
  obtain ⟨A'', r', hx⟩ := hr _ _ _ r
  exact ⟨v, f', A'', e, r', s'.imp hx⟩
theorem stars_nil_slc {T : TypeId} {sz : Nat} {x : Frag} {A : List HP} (h : stars A x) : stars (slc none 0 0 T sz [] :: A) x :=
 ⟨nil0, x, (Dj.nil x).symm, (nil_un x).symm, slc_nil none T sz, h⟩
def MayC (fid : FuncId) (kind : Nat) : Prop := ∀ (f : Frag) (A : List HP) (x : Bod) (q : Option Addr) (qc : Nat), QAt f q x.q → x.q.length ≤ 1000000000 → Fn Tryz.prog fid [.agg (x.vals q qc).toArray] f A (Ret (.bool (x.mayK kind)) f A)
def PutC (fid : FuncId) (kind : Nat) : Prop := ∀ (f : Frag) (A : List HP) (x : Bod) (q : Option Addr) (qc : Nat) (p : Option Addr) (c : Nat) (l : List UInt8), Src Tryz.prog f A (.slice p l.length c) 1 l.length (bytesV l) → (p = none → l = []) → QAt f q x.q → x.mayK kind = true → x.q.length ≤ 11 → l.length ≤ 100000000 →
 Fn Tryz.prog fid [.slice p l.length c, .agg (x.vals q qc).toArray] f A (BytesR (l ++ x.putK kind) f A)
def GetR (f : Frag) (F : List HP) (cb : Nat) (xb : Nat) (T : TypeId) (pre post : List Value) (r : Bod × Cs) : Value → Frag → List HP → Prop :=
 RetE (fun _ : Option Addr × Nat => .tuple #[]) f (fun i => cutC f cb r.2 :: bodAt xb T pre post r.1 i.1 i.2 :: qs i.1 i.2 r.1.q :: F)
def GetC (fid : FuncId) (kind : Nat) : Prop := ∀ (f : Frag) (F : List HP) (cb : Nat) (s : Cs) (xb : Nat) (T : TypeId) (pre post : List Value) (k8 : UInt8), s.l.length ≤ 1000000000 →
 Fn Tryz.prog fid [.pointer (some ⟨cb, 0, none⟩), .pointer (some ⟨xb, pre.length, none⟩)] f (cutC f cb s :: bodAt xb T pre post (Bod.zero k8) none 0 :: F) (GetR f F cb xb T pre post (s.bodyK 32 128 k8 kind))
theorem getC_of {fid : FuncId} {kind : Nat} (h : ∀ (f : Frag) (F : List HP) (cb : Nat) (s : Cs) (xb : Nat) (T : TypeId) (pre post : List Value) (k8 : UInt8), s.l.length ≤ 1000000000 →
  (s.bodyK 32 128 k8 kind).1.q = [] ∧ Fn Tryz.prog fid [.pointer (some ⟨cb, 0, none⟩), .pointer (some ⟨xb, pre.length, none⟩)] f (cutC f cb s :: bodAt xb T pre post (Bod.zero k8) none 0 :: F)
   (Ret (.tuple #[]) f (cutC f cb (s.bodyK 32 128 k8 kind).2 :: bodAt xb T pre post (s.bodyK 32 128 k8 kind).1 none 0 :: F))) : GetC fid kind := fun f F cb s xb T pre post k8 hl => by
 obtain ⟨hq, hf⟩ := h f F cb s xb T pre post k8 hl
 refine hf.monoA fun v f' A' hr => ?_
 obtain ⟨rfl, rfl, rfl⟩ := hr
 refine ⟨_, ⟨(none, 0), rfl, rfl, rfl⟩, ?_⟩
 refine keep_stars (keep_stars ?_)
 intro x hx
 rw [hq]
 exact stars_nil_slc hx
theorem may1 : MayC 138 1 := fun f A x q qc _ _ => may_prepare f A x q qc
theorem may2 : MayC 142 2 := fun f A x q qc _ _ => k_fn f A x q qc
theorem may6 : MayC 142 6 := fun f A x q qc _ _ => k_fn f A x q qc
theorem may3 : MayC 185 3 := fun f A x q qc _ _ => view3_fn f A x q qc
theorem may5 : MayC 185 5 := fun f A x q qc _ _ => view3_fn f A x q qc
theorem may4 : MayC 148 4 := fun f A x q qc hq hl => may_newview f A x q qc hq (by omega)
theorem put1 : PutC 132 1 := fun f A x q qc p c l hs hn _ hm _ hl => put_prepare f A x q qc hs hn (of_decide_eq_true hm) hl
theorem put2 : PutC 140 2 := fun f A x q qc p c l hs hn _ _ _ hl => put_commit f A x q qc hs hn hl
theorem put3 : PutC 183 3 := fun f A x q qc p c l hs hn _ _ _ hl => put_view f A x q qc hs hn hl
theorem put5 : PutC 183 5 := fun f A x q qc p c l hs hn _ _ _ hl => put_view f A x q qc hs hn hl
theorem put6 : PutC 150 6 := fun f A x q qc p c l hs hn _ _ _ hl => put_check f A x q qc hs hn hl
theorem put4 : PutC 144 4 := fun f A x q qc p c l hs hn hq _ hql hl => put_newview f A x q qc hs hn hq (by omega) hl
theorem get1 : GetC 135 1 := getC_of fun f F cb s xb T pre post k8 hl => ⟨rfl, get_prepare f F cb s xb T pre post hl (Bod.zero k8) none 0⟩
theorem get2 : GetC 141 2 := getC_of fun f F cb s xb T pre post k8 hl => ⟨rfl, get_commit f F cb s xb T pre post hl (Bod.zero k8) none 0⟩
theorem get3 : GetC 184 3 := getC_of fun f F cb s xb T pre post k8 hl => ⟨rfl, get_view f F cb s xb T pre post hl (Bod.zero k8) none 0⟩
theorem get5 : GetC 184 5 := getC_of fun f F cb s xb T pre post k8 hl => ⟨rfl, get_view f F cb s xb T pre post hl (Bod.zero k8) none 0⟩
theorem get6 : GetC 151 6 := getC_of fun f F cb s xb T pre post k8 hl => ⟨rfl, get_check f F cb s xb T pre post hl (Bod.zero k8) none 0⟩
theorem get4 : GetC 145 4 := fun f F cb s xb T pre post k8 hl => get_newview f F cb s xb T pre post hl (Bod.zero k8) rfl
section
variable (f : Frag) (F : List HP)
theorem view_fn : Fn Tryz.prog 143 [] f F (Ret (codecV 183 184 185) f F) := by
 refine Fn.enter Tryz.func143 rfl Tryz.ntmps143 rfl (L := []) trivial fun base => ?_
 refine gA ?_
 refine H.Av (ls := [.nilFunc, .nilFunc, .nilFunc]) rfl rfl rfl fun vb => ?_
 refine gH ?_
 refine H.Ap (ls := [.nilFunc, .nilFunc, .nilFunc]) (vs := codecCells _ _ _) (ls' := codecCells _ _ _) rfl rfl rfl (zae rfl) rfl rfl (Nat.le_refl 3) (by repeat constructor) ?_
 refine ga ?_
 exact H.retD rfl rfl rfl (Rd.ofRow (by repeat constructor)) rfl (fun _ s => s.drop (.here _ _)) ⟨rfl, rfl, rfl⟩
theorem codecs_fn : Fn Tryz.prog 103 [] f F (RetE (fun b => .map (some b)) f (fun b => mp b encU8 codecsM :: F)) := by
 refine Fn.enter Tryz.func103 rfl Tryz.ntmps103 rfl (L := []) trivial fun base => ?_
 refine gU ?_
 refine H.makeMap encU8 rfl rfl fun mb => ?_
 repeat (first | ((first | apply H.Ah | apply H.Ak); (iterate 3 exact rfl)) | (first | apply H.nil | apply H.Am) | ((apply H.Bc); (iterate 5 exact rfl)) | (apply H.ret) | (refine H.mapInsert (enc := encU8) rfl rfl rfl rfl (.here _ _ _) rfl ?_) | (refine H.Ad rfl rfl rfl (view_fn f _) ?_))
 exact H.Ac rfl rfl (fun _ h => h) ⟨mb, rfl, rfl, rfl⟩
end
end Go.Proofs.YtdcjlgigcbinjaaGreatDoor
