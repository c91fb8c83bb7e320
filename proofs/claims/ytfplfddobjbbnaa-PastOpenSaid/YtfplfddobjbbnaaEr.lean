/- The engine, part r: from a contract of a law to its row: 'it returns true, and each argument reads as it did'. No program in sight; no conditions. -/
import Derived.Test.YtfplfddobjbbnaaEh
import Derived.ProofKit
import Derived.Lib.SmallJoins
import Derived.Deep.Slices
import Derived.Deep.Fields
namespace Go.Proofs.Ytfplfddobjbbnaa
set_option linter.unusedSectionVars false
set_option linter.unusedSimpArgs false
set_option linter.unusedVariables false
open Go Go.ChangeShapes Go.WideShapes Go.RowKit Go.Deep

/-- The memory as it stands when the law is called. -/
def memOf (W : World) : Frag := fun k => W.heap[k]?
theorem sat_start (W : World) : Sat W W (memOf W) [] :=
  ⟨rfl, rfl, rfl, Nat.le_refl _, fun _ _ h => h, nil0, rfl, Dj.nil _, fun k o h => by cases h⟩
theorem Sat.below {W w : World} {A : List HP} (s : Sat W w (memOf W) A) : Below W.heap.size W w :=
  ⟨s.os, s.tape, s.output, s.size, fun k hk => by
    have e : W.heap[k]? = some W.heap[k] := Array.getElem?_eq_getElem hk
    rw [e]; exact s.imm k _ e⟩

section
variable {H' : Type} {enc : TypeId × Value → H'} {P : Program}
theorem trodAll_below {W W' : World} (hl : laidOutB P = true) (hb : Below W.heap.size W W') {sp : Nat → Bool} : ∀ {ts : List TypeId} {vs : List Value} {ds : List (DataW H')} {ps : List MemPlace},
    (∀ t ∈ ts, P.readableRec t = true ∧ t < P.types.size) → DataW.TrodAll enc P W 0 (fun _ => true) true ts vs ds ps → (∀ x ∈ ps, x.block < W.heap.size) → (∀ x ∈ ps, sp x.block = true) →
    DataW.TrodAll enc P W' 0 sp true ts vs ds ps
  | [], [], [], _, _, h, _, _ => h
  | t :: ts, v :: vs, d :: ds, ps, hr, h, hlt, hsp => by
    obtain ⟨p, q, h1, h2, rfl⟩ := h
    exact ⟨p, q, WideElems.Trod_stays hl (hr t (by simp)).1 (hr t (by simp)).2 h1 (fun x hx => hb.same (hlt x (by simp [hx]))) (fun x hx => hsp x (by simp [hx])),
      trodAll_below hl hb (fun u hu => hr u (by simp [hu])) h2 (fun x hx => hlt x (by simp [hx])) (fun x hx => hsp x (by simp [hx])), rfl⟩

theorem trodAll_len {W : World} {b : Nat} {sp : Nat → Bool} {hd : Bool} : ∀ {ts : List TypeId} {vs : List Value} {ds : List (DataW H')} {ps : List MemPlace}, DataW.TrodAll enc P W b sp hd ts vs ds ps → ds.length = ts.length
  | [], [], [], _, _ => rfl
  | _ :: _, _ :: _, _ :: _, _, h => by
    obtain ⟨p, q, h1, h2, rfl⟩ := h
    simp [trodAll_len h2]

theorem post_own {fn : Func} {s : ChangeSpec} {apart fresh handsOn again : Bool} {W W' : World} {args : Array Value} {v : Value} {ds : List (DataW H')} {p : List MemPlace}
    (hW : DataW.Whole enc P fn.params.toList s.vars apart W args.toList ds [] p) (hv : s.vars = [])
    (hA : DataW.TrodAll enc P W 0 (fun _ => true) true fn.params.toList args.toList ds p)
    (hl : laidOutB P = true) (hts : ∀ t ∈ fn.params.toList, P.readableRec t = true ∧ t < P.types.size)
    (hres : ∀ (b : Nat) (sp : Nat → Bool) (hd : Bool), DataW.TrodAll enc P W' b sp hd fn.resultTypes.toList (v.resultList fn.resultTypes.size) (s.fn H' (ds ++ [])).results [])
    (hargs : (s.fn H' (ds ++ [])).args = ds) (hvars : (s.fn H' (ds ++ [])).vars = [])
    (hb : Below W.heap.size W W')
    (hok : ∀ (j : Nat) (t : TypeId) (r : Value), fn.resultTypes[j]? = some t → (v.resultList fn.resultTypes.size)[j]? = some r → Value.okWide P W' .any 0 t r) :
    s.post enc P fn apart fresh handsOn again W args v W' := by
  have hlt := hW.lt
  have hold : ∀ x ∈ p, (fun b => decide (b < W.heap.size)) x.block = true := fun x hx => by simpa using hlt x hx
  have args' : ∀ sp : Nat → Bool, (∀ x ∈ p, sp x.block = true) → DataW.TrodAll enc P W' 0 sp true fn.params.toList args.toList (s.fn H' (ds ++ [])).args p := fun sp hsp => by
    rw [hargs]; exact trodAll_below hl hb hts hA hlt hsp
  have vars' : ∀ sp : Nat → Bool, DataW.TrodVars enc P W' sp s.vars (s.fn H' (ds ++ [])).vars [] := fun sp => by rw [hvars, hv]; exact rfl
  refine ⟨ds, [], p, [], p, [], hW, hres _ _ _, args' _ hold, vars' _, World.keptBut_mono (fun x hx => ⟨hx, ?_⟩) (hb.frame (· ∈ p)), fun _ => ?_⟩
  · exact .inr (by simpa using hx)
  · obtain ⟨_, _, _, _, _, hz, hn⟩ := hW
    refine ⟨hok, _, _, ([] ++ p) ++ [], ⟨[] ++ p, [], trodAll_append (args' _ (fun _ _ => rfl)) (hres _ _ _), vars' _, rfl, ?_, ?_⟩, ?_⟩
    · intro b off hp
      have hp' : MemPlace.cell b off ∈ p := by simpa using hp
      rw [hb.frozen (p := ⟨b, off, none⟩) (hlt _ hp')]
      exact hz b off hp'
    · intro ha
      have := hn ha
      simpa using this
    · intro x hx _
      simpa using hx
end

/-! ### Arguments: what their cells are -/

/-- These cells read as a value of the type t. -/
def Reads (P : Program) (W : World) (t : TypeId) (cs : List Value) : Prop :=
  ∃ (H' : Type) (enc : TypeId × Value → H') (base : Nat) (spare : Nat → Bool) (held : Bool) (fuel : Nat) (x : DataW H' × List MemPlace), DataW.trod enc P W base spare held fuel t cs = some x
def ArgOk (P : Program) (W : World) (t : TypeId) (v : Value) : Prop := (∃ b, Value.okWide P W .any b t v) ∧ Reads P W t v.cells.toList
def ArgsOk (P : Program) (W : World) : List TypeId → List Value → Prop
  | [], [] => True
  | t :: ts, v :: vs => ArgOk P W t v ∧ ArgsOk P W ts vs
  | _, _ => False
theorem argsOk_of {H' : Type} {enc : TypeId × Value → H'} {P : Program} {W : World} {b : Nat} {sp : Nat → Bool} {hd : Bool} : ∀ {ts : List TypeId} {vs : List Value} {ds : List (DataW H')} {ps : List MemPlace},
    DataW.TrodAll enc P W b sp hd ts vs ds ps → (∀ (j : Nat) t v, ts[j]? = some t → vs[j]? = some v → ∃ b, Value.okWide P W .any b t v) → ArgsOk P W ts vs
  | [], [], [], _, _, _ => trivial
  | t :: ts, v :: vs, d :: ds, _, h, hv => by
    obtain ⟨p, q, ⟨n, h1⟩, h2, rfl⟩ := h
    exact ⟨⟨hv 0 t v rfl rfl, H', enc, b, sp, hd, n, _, h1⟩, argsOk_of h2 fun j t v => hv (j + 1) t v⟩

/-- A number's bounds. -/
theorem wf_int {k : IntKind} {z : Int} (h : (Lit.int k z).wf = true) : k.min ≤ z ∧ z ≤ k.max := by
  simpa [Lit.wf] using h
theorem Reads.int {P : Program} {W : World} {t : TypeId} {cs : List Value} {k : IntKind} (ht : P.underlying t = some (.int k)) (h : Reads P W t cs) : ∃ z, cs = [.int k z] ∧ k.min ≤ z ∧ z ≤ k.max := by
  obtain ⟨H', enc, b, sp, hd, n, x, h⟩ := h
  obtain ⟨z, h1, _, h2⟩ := DataW.trod_int ht h
  exact ⟨z, h1, wf_int h2⟩
theorem ArgOk.int {P : Program} {W : World} {t : TypeId} {v : Value} {k : IntKind} (ht : P.underlying t = some (.int k)) (h : ArgOk P W t v) : ∃ z, v = .int k z ∧ k.min ≤ z ∧ z ≤ k.max := by
  obtain ⟨⟨b, h1⟩, h2⟩ := h
  obtain ⟨z, rfl⟩ := okWide_int ht h1
  obtain ⟨z', e, h3⟩ := h2.int ht
  simp [Value.cells] at e
  subst e
  exact ⟨z, rfl, h3⟩
theorem Reads.struct {P : Program} {W : World} {t : TypeId} {cs : List Value} {fs : Array Field} (ht : P.underlying t = some (.struct fs)) (h : Reads P W t cs) :
    cs.length = P.cellsOf t ∧ ∀ (i : Nat) (f : Field), fs[i]? = some f → Reads P W f.type ((cs.drop f.offset).take (P.cellsOf f.type)) := by
  obtain ⟨H', enc, b, sp, hd, n, x, h⟩ := h
  obtain ⟨xs, n, rfl, _, h1, h2, h3⟩ := DataW.trod_struct ht h
  refine ⟨h1, fun i f hf => ?_⟩
  have hi : i < xs.length := by rw [h2]; exact (Array.getElem?_eq_some_iff.1 hf).1
  exact ⟨H', enc, b, sp, hd, n, xs[i], (h3 i f hf).trans (List.getElem?_eq_getElem hi)⟩
theorem ArgOk.struct {P : Program} {W : World} {t : TypeId} {v : Value} {fs : Array Field} (ht : P.underlying t = some (.struct fs)) (h : ArgOk P W t v) : ∃ cs, v = .agg cs ∧ Reads P W t cs.toList := by
  obtain ⟨⟨b, h1⟩, h2⟩ := h
  obtain ⟨cs, rfl, _⟩ := okWide_struct ht h1
  exact ⟨cs, rfl, h2⟩

/-- The elements of a slice that stands in memory: element i's cells are g i. -/
def ElemsAt (f : Frag) (p : Option Addr) (sz n : Nat) (g : Nat → List Value) : Prop :=
  ∀ i, i < n → (g i).length = sz ∧ ∃ b off cs T fr, p = some ⟨b, off, none⟩ ∧ f b = some (.cells cs T fr) ∧ ∀ j, j < sz → cs[off + i * sz + j]? = (g i)[j]?
theorem add_add' (a : Addr) (i j : Nat) : (a.add i).add j = a.add (i + j) := by
  unfold Addr.add
  by_cases h : i = 0
  · subst h; simp
  · by_cases h2 : j = 0
    · subst h2; simp
    · have : ¬ i + j = 0 := by omega
      simp [h, h2, this, Nat.add_assoc]
theorem cell_spot {W : World} {a : Addr} {v : Value} (h : W.cell? a = some v) : ∃ cs T fr, a = ⟨a.block, a.off, none⟩ ∧ W.heap[a.block]? = some (.cells cs T fr) ∧ cs[a.off]? = some v := by
  unfold World.cell? at h
  split at h
  · rename_i c T fr e
    split at h
    · cases h
    · rename_i hs
      refine ⟨c, T, fr, ?_, e, h⟩
      obtain ⟨b, o, s⟩ := a
      cases s with
      | none => rfl
      | some x => simp at hs
  · cases h
theorem Reads.slice {P : Program} {W : World} {t e : TypeId} {cs : List Value} (ht : P.underlying t = some (.slice e)) (h0 : 0 < P.cellsOf e) (h : Reads P W t cs) :
    ∃ (p : Option Addr) (n c : Nat) (g : Nat → List Value), cs = [.slice p n c] ∧ n ≤ c ∧ c ≤ maxLen ∧ ElemsAt (memOf W) p (P.cellsOf e) n g ∧ ∀ i, i < n → Reads P W e (g i) := by
  obtain ⟨H', enc, b, sp, hd, n, x, h⟩ := h
  rcases open_slice ht h with ⟨rfl, _⟩ | ⟨a, len, cap, m, k, D, Pl, rfl, hb, hl, hm, hmm, _, hi⟩
  · exact ⟨none, 0, 0, fun _ => [], rfl, Nat.le_refl _, by simp [maxLen], fun i hi => by omega, fun i hi => by omega⟩
  · have hlm : len ≤ m := by subst hmm; split <;> omega
    have hi' : ∀ i, ∃ cs', i < len → (W.cells? b (a.add (i * P.cellsOf e)) (P.cellsOf e) = some cs' ∧ Reads P W e cs') := fun i => by
      by_cases hil : i < len
      · obtain ⟨cs', h1, h2⟩ := hi i (by omega)
        exact ⟨cs', fun _ => ⟨h1, H', enc, b, sp, hd, k, _, h2⟩⟩
      · exact ⟨[], fun h => absurd h hil⟩
    obtain ⟨g, hG⟩ : ∃ g : Nat → List Value, ∀ i, i < len → W.cells? b (a.add (i * P.cellsOf e)) (P.cellsOf e) = some (g i) ∧ Reads P W e (g i) := ⟨fun i => (hi' i).choose, fun i h => (hi' i).choose_spec h⟩
    refine ⟨some a, len, cap, g, rfl, hl, hm, fun i hil => ?_, fun i hil => (hG i hil).2⟩
    obtain ⟨_, hlen, hget⟩ := World.cells?_some (hG i hil).1
    refine ⟨hlen, ?_⟩
    -- the base address bears no spot
    have hspot : ∃ cs T fr, a = ⟨a.block, a.off, none⟩ ∧ W.heap[a.block]? = some (.cells cs T fr) := by
      obtain ⟨_, hl0, hg0⟩ := World.cells?_some (hG 0 (by omega)).1
      have h00 := hg0 0 h0
      have : (g 0)[0]? = some ((g 0)[0]'(by omega)) := List.getElem?_eq_getElem (by omega)
      rw [this] at h00
      have e1 : (a.add (0 * P.cellsOf e)).add 0 = a := by simp [Addr.add]
      rw [e1] at h00
      obtain ⟨cs, T, fr, h1, h2, _⟩ := cell_spot h00
      exact ⟨cs, T, fr, h1, h2⟩
    obtain ⟨cs, T, fr, hs, hh⟩ := hspot
    refine ⟨a.block, a.off, cs, T, fr, by rw [← hs], hh, fun j hj => ?_⟩
    have hg := hget j hj
    have hv : (g i)[j]? = some ((g i)[j]'(by omega)) := List.getElem?_eq_getElem (by omega)
    rw [hv] at hg
    have ha : (a.add (i * P.cellsOf e)).add j = ⟨a.block, a.off + (i * P.cellsOf e + j), none⟩ := by
      rw [add_add', hs, add_none]
    rw [ha] at hg
    simp only [World.cell?, hh, Option.isSome_none, Bool.false_eq_true, if_false] at hg
    rw [hv, ← hg, Nat.add_assoc]
theorem ArgOk.slice {P : Program} {W : World} {t e : TypeId} {v : Value} (ht : P.underlying t = some (.slice e)) (h0 : 0 < P.cellsOf e) (h : ArgOk P W t v) :
    ∃ (p : Option Addr) (n c : Nat) (g : Nat → List Value), v = .slice p n c ∧ n ≤ c ∧ c ≤ maxLen ∧ ElemsAt (memOf W) p (P.cellsOf e) n g ∧ ∀ i, i < n → Reads P W e (g i) := by
  obtain ⟨⟨b, h1⟩, h2⟩ := h
  obtain ⟨p, n, c, g, e1, r⟩ := h2.slice ht h0
  refine ⟨p, n, c, g, ?_, r⟩
  obtain ⟨p', n', c', rfl⟩ := okWide_slice ht h1
  simpa [Value.cells] using e1

theorem elems_list {α : Type} {vals : α → List Value} {Q : α → Prop} {g : Nat → List Value} : ∀ {n : Nat}, (∀ i, i < n → ∃ x, Q x ∧ g i = vals x) → ∃ xs : List α, xs.length = n ∧ (∀ x ∈ xs, Q x) ∧ ∀ i x, xs[i]? = some x → g i = vals x
  | 0, _ => ⟨[], rfl, by simp, by simp⟩
  | n + 1, h => by
    obtain ⟨xs, h1, h2, h3⟩ := elems_list (n := n) fun i hi => h i (by omega)
    obtain ⟨x, hq, hx⟩ := h n (by omega)
    refine ⟨xs ++ [x], by simp [h1], ?_, ?_⟩
    · intro y hy
      simp only [List.mem_append, List.mem_singleton] at hy
      rcases hy with hy | rfl
      · exact h2 y hy
      · exact hq
    · intro i y hy
      rw [List.getElem?_append] at hy
      split at hy
      · exact h3 i y hy
      · rename_i hi
        have : i - xs.length = 0 := by
          rcases Nat.eq_zero_or_pos (i - xs.length) with h | h
          · exact h
          · rw [List.getElem?_eq_none (by simp; omega)] at hy; cases hy
        rw [this] at hy
        have e : i = n := by omega
        simp at hy
        subst hy; subst e
        exact hx
/-- A list that stands in memory, sz cells an element. -/
def ListAt {α : Type} (f : Frag) (p : Option Addr) (sz : Nat) (vals : α → List Value) (xs : List α) : Prop :=
  ∀ i x, xs[i]? = some x → ∃ b off cs T fr, p = some ⟨b, off, none⟩ ∧ f b = some (.cells cs T fr) ∧ ∀ j, j < (vals x).length → cs[off + i * sz + j]? = (vals x)[j]?
theorem Reads.list {P : Program} {W : World} {t e : TypeId} {cs : List Value} {α : Type} {vals : α → List Value} {Q : α → Prop} {sz : Nat} (ht : P.underlying t = some (.slice e)) (hsz : P.cellsOf e = sz) (h0 : 0 < sz)
    (hr : ∀ cs, Reads P W e cs → ∃ x, Q x ∧ cs = vals x) (h : Reads P W t cs) :
    ∃ (p : Option Addr) (c : Nat) (xs : List α), cs = [.slice p xs.length c] ∧ xs.length ≤ c ∧ c ≤ maxLen ∧ (∀ x ∈ xs, Q x) ∧ ListAt (memOf W) p sz vals xs := by
  subst hsz
  obtain ⟨p, n, c, g, e1, h1, h2, h3, h4⟩ := h.slice ht h0
  obtain ⟨xs, rfl, hq, hg⟩ := elems_list fun i hi => hr _ (h4 i hi)
  refine ⟨p, c, xs, e1, h1, h2, hq, fun i x hx => ?_⟩
  have hi : i < xs.length := by
    rcases Nat.lt_or_ge i xs.length with h | h
    · exact h
    · rw [List.getElem?_eq_none h] at hx; cases hx
  obtain ⟨hl, b, off, cs, T, fr, a1, a2, a3⟩ := h3 i hi
  refine ⟨b, off, cs, T, fr, a1, a2, fun j hj => ?_⟩
  rw [← hg i x hx] at hj ⊢
  exact a3 j (by omega)
theorem ArgOk.list {P : Program} {W : World} {t e : TypeId} {v : Value} {α : Type} {vals : α → List Value} {Q : α → Prop} {sz : Nat} (ht : P.underlying t = some (.slice e)) (hsz : P.cellsOf e = sz) (h0 : 0 < sz)
    (hr : ∀ cs, Reads P W e cs → ∃ x, Q x ∧ cs = vals x) (h : ArgOk P W t v) :
    ∃ (p : Option Addr) (c : Nat) (xs : List α), v = .slice p xs.length c ∧ xs.length ≤ c ∧ c ≤ maxLen ∧ (∀ x ∈ xs, Q x) ∧ ListAt (memOf W) p sz vals xs := by
  obtain ⟨⟨b, h1⟩, h2⟩ := h
  obtain ⟨p, c, xs, e1, r⟩ := h2.list ht hsz h0 hr
  refine ⟨p, c, xs, ?_, r⟩
  obtain ⟨p', n', c', rfl⟩ := okWide_slice ht h1
  simpa [Value.cells] using e1

/-- A law that returns true and leaves its arguments. -/
theorem lawRow {H' : Type} {enc : TypeId × Value → H'} {a : Assume} {C : Checked} {os : Os} {fid : FuncId} {fn : Func} {s : ChangeSpec} {conds : List PathCond} {apart fresh handsOn again : Bool} {tb : TypeId}
    (own : ownKnob C.prog.godebug = none) (started : os.Started) (noInit : C.prog.inits.idxOf? fid = none) (hfn : C.prog.funcs[fid]? = some fn)
    (witness : ∃ (w : World) (tape : Tape) (i : Input), w.os = os ∧ (w.forCall tape i).Shaped C.prog ∧ i.vars = [] ∧ Input.okWide C.prog (w.forCall tape i) .any w.heap.size fid i ∧
      s.pre6 enc C.prog fn conds apart (w.forCall tape i).memory i.args ∧ a.holds C.prog (lone (Frame.enter C.prog fid i.args .normal) [] (w.forCall tape i)))
    (htb : C.prog.underlying tb = some .bool) (hres : fn.resultTypes = #[tb]) (hv : s.vars = []) (hl : laidOutB C.prog = true)
    (hts : fn.params.toList.all (fun t => C.prog.readableRec t && Nat.blt t C.prog.types.size) = true)
    (hs : ∀ ds : List (DataW H'), ds.length = fn.params.toList.length → s.fn H' ds = { results := [.lit (.bool true)], args := ds })
    (law : ∀ (W : World) (args : List Value), ArgsOk C.prog W fn.params.toList args → Fn C.prog fid args (memOf W) [] (Ret (.bool true) (memOf W) [])) :
    ReturnsInHanded a C os fid .any (s.pre6 enc C.prog fn conds apart) (s.post enc C.prog fn apart fresh handsOn again) := by
  refine returnsInHanded_of_change own started noInit hfn witness ?_
  intro W base args ds gs before hval hW _ _
  have hW' := hW
  obtain ⟨p, q, hA, hV, rfl, _, _⟩ := hW
  rw [hv] at hV
  obtain ⟨rfl, rfl⟩ := trodVars_none hV
  rw [List.append_nil] at hW'
  have hts' : ∀ t ∈ fn.params.toList, C.prog.readableRec t = true ∧ t < C.prog.types.size := fun t ht => by
    have := List.all_eq_true.1 hts t ht
    simp only [Bool.and_eq_true] at this
    exact ⟨this.1, by have := this.2; simpa [Nat.blt_eq] using this⟩
  have hlen := trodAll_len hA
  have e := hs ds hlen
  have hc := law W args.toList (argsOk_of hA fun j t v h1 h2 => ⟨base, hval j t v (by simpa using h1) (by simpa using h2)⟩) W W (sat_start W)
  refine hc.mono ?_
  rintro x w' ⟨v, f', A', rfl, ⟨rfl, rfl, rfl⟩, hsat⟩
  refine ⟨_, rfl, post_own hW' hv hA hl hts' ?_ (by rw [List.append_nil, e]) (by rw [List.append_nil, e]) hsat.below ?_⟩
  · intro b sp hd
    rw [List.append_nil, e, hres]
    exact trodAll_mk1 (shut_bool htb true)
  · exact ok_one hres rfl (okWide_bool_mk htb true)

end Go.Proofs.Ytfplfddobjbbnaa
