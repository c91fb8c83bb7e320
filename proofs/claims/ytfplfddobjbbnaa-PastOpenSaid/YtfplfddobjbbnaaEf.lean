/- The engine, part f: a region that draws its order. Its operations that only read are taken first; the others come one at a time. No program in sight; no conditions. -/
import Derived.Test.YtfplfddobjbbnaaEe
import Derived.Orders
import Derived.StillTail
namespace Go.Proofs.Ytfplfddobjbbnaa
set_option linter.unusedSectionVars false
set_option linter.unusedSimpArgs false
set_option linter.unusedVariables false
open Go

section
variable {P : Program} {ops : Array Oper} {Q : Exit → Act → World → Prop} {C : World → Prop}

/-- Whatever order is picked from here on; all worlds on the way to the cut are of the class C. -/
def wpAnyC (P : Program) (C : World → Prop) (ops : Array Oper) (Q : Exit → Act → World → Prop) (cut : Array Bool) : Nat → Array Bool → Act → World → Prop
  | 0, listed, a, w => C w ∧ Region.ready .any ops listed = [] ∧ Q .normal a w
  | fuel + 1, listed, a, w => C w ∧ if listed = cut then wpAny P .any ops Q (fuel + 1) listed a w else ((Region.ready .any ops listed = [] → Q .normal a w) ∧
    ∀ i ∈ Region.ready .any ops listed, wpOp P ops Q i (wpAnyC P C ops Q cut fuel (listed.setIfInBounds i true)) a w)

theorem wpAnyC.any {cut : Array Bool} : ∀ (fuel : Nat) (listed : Array Bool) (a : Act) (w : World), wpAnyC P C ops Q cut fuel listed a w → wpAny P .any ops Q fuel listed a w
  | 0, _, _, _, h => h.2
  | fuel + 1, listed, _, _, h => by
    have h2 := h.2
    split at h2
    · exact h2
    · exact ⟨h2.1, fun i hi => wpOp_mono (fun a w => wpAnyC.any fuel _ a w) (h2.2 i hi)⟩
theorem wpAnyC.cls {cut : Array Bool} {fuel : Nat} {listed : Array Bool} {a : Act} {w : World} (h : wpAnyC P C ops Q cut fuel listed a w) : C w := by
  cases fuel <;> exact h.1

/-- An operation's value in every world of the class. -/
def YieldsC (P : Program) (C : World → Prop) (ops : Array Oper) (o : Oper) (v : Value) (a : Act) : Prop :=
  (Region.wanted o (yielded ops a.tmps) = true ∧ ∀ w, C w → (execOp a.eval o).run P w = .ok (.value v) w) ∨
  (Region.wanted o (yielded ops a.tmps) = false ∧ v = undef)
theorem YieldsC.wpOp {i : Nat} {o : Oper} {v : Value} {a : Act} (hi : ops[i]? = some o) (hy : YieldsC P C ops o v a)
    {K : Act → World → Prop} {w : World} (hc : C w) (h : K (a.put o.dst v) w) : wpOp P ops Q i K a w := by
  unfold Go.wpOp
  simp only [hi]
  rcases hy with ⟨hw, hv⟩ | ⟨hw, rfl⟩
  · simp only [hw, if_true, Oper.wp, hv w hc, Oper.upon]; exact .inl h
  · simp only [hw, Bool.false_eq_true, if_false]; exact h
theorem YieldsC.of_same {o : Oper} {v : Value} {a a' : Act} (hy : YieldsC P C ops o v a) (he : execOp a'.eval o = execOp a.eval o)
    (hw : Region.wanted o (yielded ops a'.tmps) = Region.wanted o (yielded ops a.tmps)) : YieldsC P C ops o v a' := by
  unfold YieldsC at *
  rw [he, hw]
  exact hy

theorem wpOp_putC {j : Nat} {oi oj : Oper} {v : Value} (hj : ops[j]? = some oj) (hap : oi.apart ops oj = true)
    (hsi : ∀ cs b, oi.op ≠ .select cs b) (hsj : ∀ cs b, oj.op ≠ .select cs b)
    (hQ : ∀ c a w, Q (.panic c) (a.put oi.dst v) w → Q (.panic c) a w) {K : Act → World → Prop} {a : Act} {w : World}
    (hy : YieldsC P C ops oi v a) (h : wpOp P ops Q j K (a.put oi.dst v) w) :
    wpOp P ops Q j (fun a' w' => YieldsC P C ops oi v a' ∧ K (a'.put oi.dst v) w') a w := by
  obtain ⟨h1, h2, h3⟩ := Oper.apart_spec hap
  have keep : ∀ (a : Act), YieldsC P C ops oi v a → ∀ u, YieldsC P C ops oi v (a.put oj.dst u) := fun a hy u =>
    hy.of_same (execOp_put oi hsi a oj.dst u h3) (wanted_put oi a oj.dst u h3)
  have keepD : ∀ d, YieldsC P C ops oi v { a with defers := d :: a.defers } := fun d => hy.of_same rfl rfl
  unfold wpOp at *
  simp only [hj] at *
  rw [wanted_put oj a oi.dst v h1] at h
  split
  · rename_i hw
    simp only [hw, if_true] at h
    rcases h with h | ⟨hasks, hlets⟩
    case inr => exact .inr ⟨by unfold Oper.asks at *; rw [execOp_put oj hsj a oi.dst v h1] at hasks; exact hasks, hlets⟩
    refine .inl ?_
    unfold Oper.wp at *
    rw [execOp_put oj hsj a oi.dst v h1] at h
    generalize (execOp a.eval oj).run P w = r at *
    cases r with
    | ok n w' =>
      cases n <;> simp only [Oper.upon] at h ⊢
      case value u => exact ⟨keep a hy u, by rw [← Act.put_comm a v u h2]; exact h⟩
      case skip => exact ⟨keep a hy _, by rw [← Act.put_comm a v undef h2]; exact h⟩
      case defer d =>
        refine ⟨keep _ (keepD d) _, ?_⟩
        rw [← Act.put_comm _ v undef h2, ← Act.put_defers]
        exact h
      case enter f args =>
        refine Calls.mono h fun e w'' he => ?_
        cases e with
        | returned u => exact ⟨keep a hy u, by rw [← Act.put_comm a v u h2]; exact he⟩
        | panicked c => exact hQ _ _ _ he
        | outgrown => exact he
      case row row args => exact Rows.mono h fun u w'' he => ⟨keep a hy u, by rw [← Act.put_comm a v u h2]; exact he⟩
    | halt x w' =>
      cases x <;> simp only [Oper.upon] at h ⊢
      case panic u => exact hQ _ _ _ h
  · rename_i hw
    simp only [hw] at h
    exact ⟨keep a hy _, by rw [← Act.put_comm a v undef h2]; exact h⟩

/-- What is listed came behind all that it waits for. -/
def closedB (ops : Array Oper) (listed : Array Bool) : Bool := (List.range ops.size).all fun k => !listed.getD k false || match ops[k]? with
  | some o => o.after.all fun e => !Region.binds .any e || listed.getD e.on false
  | none => true
def Closed (ops : Array Oper) (listed : Array Bool) : Prop := ∀ (k : Nat) (o : Oper), ops[k]? = some o → listed.getD k false = true → ∀ e ∈ o.after, Region.binds .any e = true → listed.getD e.on false = true
theorem closed_of {ops : Array Oper} {listed : Array Bool} (h : closedB ops listed = true) : Closed ops listed := fun k o ho hk e he hb => by
  have hlt : k < ops.size := (Array.getElem?_eq_some_iff.1 ho).1
  have := List.all_eq_true.1 h k (List.mem_range.2 hlt)
  rw [ho, hk] at this
  simp only [Bool.not_true, Bool.false_or, Array.all_eq_true_iff_forall_mem] at this
  have h2 := this e he
  rw [hb] at h2
  simpa using h2
theorem Closed.put {ops : Array Oper} {listed : Array Bool} (h : Closed ops listed) {j : Nat} (hj : j ∈ Region.ready .any ops listed) : Closed ops (listed.setIfInBounds j true) := fun k o ho hk e he hb => by
  obtain ⟨hjun, oj, hoj, hall⟩ := mem_ready.1 hj
  have key : ∀ m, listed.getD m false = true → (listed.setIfInBounds j true).getD m false = true := fun m hm => by
    by_cases c : j = m
    · subst c
      have : j < listed.size := by
        rcases Nat.lt_or_ge j listed.size with h' | h'
        · exact h'
        · simp [Array.getElem?_eq_none h'] at hm
      simp [this]
    · rw [getD_set_ne false c]; exact hm
  by_cases c : j = k
  · subst c
    rw [hoj] at ho
    cases ho
    exact key _ (hall e he hb)
  · rw [getD_set_ne false c] at hk
    exact key _ (h k o ho hk e he hb)
/-- Nothing beyond the cut comes ahead of i. -/
def barB (ops : Array Oper) (cut : Array Bool) (i : Nat) : Bool :=
  cut.size == 0 || (cut.getD i false && (((List.range ops.size).any fun k => !(k == i) && cut.getD k false && match ops[k]? with
    | some o => o.after.any fun e => Region.binds .any e && e.on == i
    | none => false) || (Region.ready .any ops (cut.setIfInBounds i false)).all fun j => j == i || cut.getD j false))
theorem ready_false {ops : Array Oper} {listed : Array Bool} {i : Nat} (hi : i ∈ Region.ready .any ops listed) : listed.getD i true = false := (mem_ready.1 hi).1
theorem getD_both {l : Array Bool} {i : Nat} (h : l.getD i true = false) : i < l.size ∧ l.getD i false = false := by
  rcases Nat.lt_or_ge i l.size with h' | h'
  · exact ⟨h', by simpa [h'] using h⟩
  · simp [Array.getElem?_eq_none h'] at h
theorem barB_ne {ops : Array Oper} {cut listed : Array Bool} {i : Nat} (h : barB ops cut i = true) (hi : i ∈ Region.ready .any ops listed) : listed ≠ cut := by
  rintro rfl
  have h1 := getD_both (ready_false hi)
  unfold barB at h
  rw [h1.2] at h
  simp at h
  have := h1.1
  rw [h] at this
  simp at this
theorem barB_two {ops : Array Oper} {cut listed : Array Bool} {i j : Nat} (h : barB ops cut i = true) (hcl : Closed ops listed) (hi : i ∈ Region.ready .any ops listed) (hj : j ∈ Region.ready .any ops listed) (hji : j ≠ i) : listed.setIfInBounds i true ≠ cut := by
  intro e
  have h1 := getD_both (ready_false hi)
  have h2 := getD_both (ready_false hj)
  have e2 : cut.setIfInBounds i false = listed := by
    rw [← e]
    apply Array.ext_getElem?
    intro k
    by_cases hk : i = k
    · subst hk
      have := h1.1
      have h3 := h1.2
      simp [this] at h3
      simp [this, h3]
    · rw [Array.getElem?_setIfInBounds_ne hk, Array.getElem?_setIfInBounds_ne hk]
  unfold barB at h
  rw [e2] at h
  have hs : cut.size = listed.size := by rw [← e]; simp
  have h4 : (cut.size == 0) = false := by
    have := h1.1
    rw [beq_eq_false_iff_ne]; omega
  rw [h4, Bool.false_or, Bool.and_eq_true, Bool.or_eq_true] at h
  rcases h.2 with hdep | h7
  · obtain ⟨k, hk, hk2⟩ := List.any_eq_true.1 hdep
    simp only [Bool.and_eq_true, Bool.not_eq_true', beq_eq_false_iff_ne] at hk2
    obtain ⟨⟨hki, hck⟩, hm⟩ := hk2
    have hlk : listed.getD k false = true := by
      rw [← e, getD_set_ne false (Ne.symm hki)] at hck; exact hck
    cases ho : ops[k]? with
    | none => rw [ho] at hm; cases hm
    | some o =>
      rw [ho] at hm
      obtain ⟨x, hx, hx2⟩ := Array.any_eq_true'.1 hm
      simp only [Bool.and_eq_true, beq_iff_eq] at hx2
      have := hcl k o ho hlk x hx hx2.1
      rw [hx2.2, h1.2] at this
      cases this
  have h5 := List.all_eq_true.1 h7 j hj
  have h6 : cut.getD j false = false := by
    rw [← e, getD_set_ne false (Ne.symm hji)]
    exact h2.2
  rw [h6] at h5
  simp at h5
  exact hji h5

/-- It may be taken first. -/
theorem wpAnyC_first {cut : Array Bool} {i : Nat} {oi : Oper} {v : Value} (hi : ops[i]? = some oi) (hsel : ∀ (j : Nat) (o : Oper) cs b, ops[j]? = some o → o.op ≠ .select cs b)
    (hQ : ∀ c a w, Q (.panic c) (a.put oi.dst v) w → Q (.panic c) a w) (hbar : barB ops cut i = true) :
    ∀ (fuel : Nat) (listed : Array Bool) (a : Act) (w : World),
      (∀ j oj, ops[j]? = some oj → j ≠ i → listed.getD j true = false → (∀ e ∈ oj.after, Region.binds .any e = true → e.on ≠ i) → oi.apart ops oj = true) →
      i ∈ Region.ready .any ops listed → Closed ops listed → YieldsC P C ops oi v a →
      wpAnyC P C ops Q cut fuel (listed.setIfInBounds i true) (a.put oi.dst v) w → wpAnyC P C ops Q cut (fuel + 1) listed a w := by
  intro fuel
  induction fuel with
  | zero =>
    intro listed a w _ hr hcl hy H
    refine ⟨H.1, ?_⟩
    rw [if_neg (barB_ne hbar hr)]
    refine ⟨fun h => (by rw [h] at hr; cases hr), fun j hj => ?_⟩
    by_cases hji : j = i
    · subst hji; exact hy.wpOp hi H.1 H
    · have := ready_mono hj hji
      rw [H.2.1] at this
      cases this
  | succ fuel ih =>
    intro listed a w hfree hr hcl hy H
    refine ⟨H.1, ?_⟩
    rw [if_neg (barB_ne hbar hr)]
    refine ⟨fun h => (by rw [h] at hr; cases hr), fun j hj => ?_⟩
    by_cases hji : j = i
    · subst hji; exact hy.wpOp hi H.1 H
    · have H2 := H.2
      rw [if_neg (barB_two hbar hcl hr hj hji)] at H2
      have h1 := H2.2 j (ready_mono hj hji)
      obtain ⟨hjun, oj, hoj, hall⟩ := mem_ready.1 hj
      have hnot : ∀ e ∈ oj.after, Region.binds .any e = true → e.on ≠ i := fun e he hb heq => by
        have h1 := hall e he hb
        have h0 := (mem_ready.1 hr).1
        rw [heq] at h1
        rcases Nat.lt_or_ge i listed.size with h' | h'
        · simp [h'] at h0 h1; rw [h0] at h1; cases h1
        · simp [Array.getElem?_eq_none h'] at h1
      have h2 := wpOp_putC hoj (hfree j oj hoj hji hjun hnot) (fun cs b => hsel i oi cs b hi) (fun cs b => hsel j oj cs b hoj) hQ hy h1
      have hfree' : ∀ k ok, ops[k]? = some ok → k ≠ i → (listed.setIfInBounds j true).getD k true = false →
          (∀ e ∈ ok.after, Region.binds .any e = true → e.on ≠ i) → oi.apart ops ok = true := fun k ok hk hki hun hno => by
        refine hfree k ok hk hki ?_ hno
        by_cases hjk : j = k
        · subst hjk; exact hjun
        · rw [getD_set_ne true hjk] at hun; exact hun
      refine wpOp_mono (fun a' w' h3 => ih (listed.setIfInBounds j true) a' w' hfree' (ready_mono hr (Ne.symm hji)) (hcl.put hj) h3.1 ?_) h2
      rw [Array.setIfInBounds_comm _ _ hji]
      exact h3.2
theorem wpAnyC_take {cut : Array Bool} {i : Nat} {oi : Oper} {v : Value} {fuel : Nat} {listed : Array Bool} {a : Act} {w : World} (hi : ops[i]? = some oi)
    (hs : Region.noSelect ops = true) (hf : Region.free .any ops listed i = true) (hbar : barB ops cut i = true) (hcl : closedB ops listed = true) (hr : (Region.ready .any ops listed).contains i = true)
    (hQ : ∀ c a w, Q (.panic c) (a.put oi.dst v) w → Q (.panic c) a w) (hy : YieldsC P C ops oi v a)
    (h : wpAnyC P C ops Q cut fuel (listed.setIfInBounds i true) (a.put oi.dst v) w) : wpAnyC P C ops Q cut (fuel + 1) listed a w :=
  wpAnyC_first hi (Region.noSelect_spec hs) hQ hbar fuel listed a w (Region.free_spec hi hf) (by simpa using hr) (closed_of hcl) hy h
theorem wpAnyC_one {cut : Array Bool} {i : Nat} {fuel : Nat} {listed : Array Bool} {a : Act} {w : World} (hr : Region.ready .any ops listed = [i]) (hne : listed ≠ cut) (hc : C w)
    (h : wpOp P ops Q i (wpAnyC P C ops Q cut fuel (listed.setIfInBounds i true)) a w) : wpAnyC P C ops Q cut (fuel + 1) listed a w := by
  refine ⟨hc, ?_⟩
  rw [if_neg hne]
  exact ⟨(fun h0 => by rw [hr] at h0; simp at h0), (fun j hj => by rw [hr] at hj; simp at hj; subst hj; exact h)⟩
end

/-- How far a drawing region has come: what is listed; where this phase ends; how many operations are left behind it. -/
structure Lst where
  a : Array Bool
  cut : Array Bool
  left : Nat
def Lst.setIfInBounds (l : Lst) (i : Nat) (b : Bool) : Lst := ⟨l.a.setIfInBounds i b, l.cut, l.left⟩

/-- An order in which the operations are gone through: (i, false): i only reads, may be taken first; (i, true): nothing but i may come now. -/
def ordOK (ops : Array Oper) : Lst → List (Nat × Bool) → Bool
  | listed, [] => match listed.left with
    | 0 => Region.ready .any ops listed.a == []
    | _ + 1 => listed.a == listed.cut
  | listed, (i, true) :: r => Region.ready .any ops listed.a == [i] && (listed.a != listed.cut) && ordOK ops (listed.setIfInBounds i true) r
  | listed, (i, false) :: r => (Region.ready .any ops listed.a).contains i && Region.free .any ops listed.a i && barB ops listed.cut i && closedB ops listed.a && ordOK ops (listed.setIfInBounds i true) r

def pickOps (l : List Oper) : List (Nat × Bool) → List Oper
  | [] => []
  | (i, _) :: r => match getO l i with
    | some o => o :: pickOps l r
    | none => []

/-- A panic's way out does not look at the temporaries. -/
def Post.blind (P : Program) (q : Post) : Prop := ∀ (c : List PanicEntry) (a : Act) (dst : Option Tmp) (v : Value) (w : World), q.den P (.panic c) (a.put dst v) w → q.den P (.panic c) a w

structure Ext where
  listed : Lst
  todo : List (Nat × Bool)
/-- In a region that draws: S is what the reads may read; V the rest of what is owned. -/
structure HQ (V : List HP) (ξ : Ext) (P : Program) (base : World) (n : Nat) (L : Env) (f : Frag) (S : List HP) (K : Kont) : Prop where
  out : ∀ l q, K = .ops l (pickOps l ξ.todo) q → Region.noSelect l.toArray = true → q.blind P → ordOK l.toArray ξ.listed ξ.todo = true → (∀ t ∈ ξ.todo, (getO l t.1).isSome) →
    ∀ a w, Fr n a L → Sat base w f (S ++ V) → wpAnyC P (fun w => ∃ V, Sat base w f (S ++ V)) l.toArray (q.den P) ξ.listed.cut (ξ.todo.length + ξ.listed.left) ξ.listed.a a w

section rules
variable {P : Program} {base : World} {n : Nat} {L : Env} {f : Frag} {A V : List HP} {q : Post} {ξ : Ext}
variable {l rest : List Oper} {d : Nat} {ty : TypeId} {pos : String} {af : Array Edge} {gd : Option (Nat × Bool)}

theorem sat_left {w : World} {B : List HP} (s : Sat base w f (A ++ B)) : Sat base w f A := by
  obtain ⟨a1, a2, a3, a4, a5, m, hm, hd, hw⟩ := s
  rw [stars_append] at hm
  obtain ⟨m1, m2, dj, rfl, h1, _⟩ := hm
  exact ⟨a1, a2, a3, a4, a5, m1, h1, (Dj.un_right.1 hd).1, fun k o hk => hw k o (by simp [un, hk])⟩

theorem HQ.opV {op : Op} {v : Value} (hw : want? l L gd = true) (hd : Nat.ble (d + 1) n = true)
    (hx : ∀ a w, Fr n a L → Sat base w f A → (execOp a.eval ⟨some d, op, ty, pos, af, gd⟩).run P w = .ok (.value v) w)
    {ls : Lst} {ti : Nat} {tt : List (Nat × Bool)}
    (k : HQ V ⟨ls.setIfInBounds ti true, tt⟩ P base n ((d, v) :: L) f A (.ops l rest q)) : HQ V ⟨ls, (ti, false) :: tt⟩ P base n L f A (.ops l (⟨some d, op, ty, pos, af, gd⟩ :: rest) q) := .mk fun l' q' hK hs hb ho hg a w hf s => by
  simp only [Kont.ops.injEq] at hK
  obtain ⟨rfl, hp, rfl⟩ := hK
  have hgi := hg (ti, false) (by simp)
  cases hgo : getO l ti with
  | none => simp [hgo] at hgi
  | some o =>
    simp only [pickOps, hgo, List.cons.injEq] at hp
    obtain ⟨ho1, hp2⟩ := hp
    simp only [ordOK, Bool.and_eq_true] at ho
    have hk := k.out l q (by rw [hp2]) hs hb ho.2 (fun t' ht => hg t' (by simp at ht ⊢; exact .inr ht)) _ w (hf.put (Nat.le_of_ble_eq_true hd) v) s
    subst ho1
    rw [show ((ti, false) :: tt).length + ls.left = (tt.length + ls.left) + 1 by simp only [List.length_cons]; omega]
    exact wpAnyC_take (oi := ⟨some d, op, ty, pos, af, gd⟩) (v := v) (by rw [List.getElem?_toArray, ← getO_eq]; exact hgo) hs ho.1.1.1.2 ho.1.1.2 ho.1.2 ho.1.1.1.1 (fun c a w h => hb c a _ _ w h) (.inl ⟨hf.want hw, fun w' ⟨V', s'⟩ => hx a w' hf (sat_left s')⟩) hk
theorem HQ.pass {op : Op} (hw : skip? l L gd = true) (hd : Nat.ble (d + 1) n = true) {ls : Lst} {ti : Nat} {tt : List (Nat × Bool)}
    (k : HQ V ⟨ls.setIfInBounds ti true, tt⟩ P base n ((d, .tuple #[]) :: L) f A (.ops l rest q)) : HQ V ⟨ls, (ti, false) :: tt⟩ P base n L f A (.ops l (⟨some d, op, ty, pos, af, gd⟩ :: rest) q) := .mk fun l' q' hK hs hb ho hg a w hf s => by
  simp only [Kont.ops.injEq] at hK
  obtain ⟨rfl, hp, rfl⟩ := hK
  have hgi := hg (ti, false) (by simp)
  cases hgo : getO l ti with
  | none => simp [hgo] at hgi
  | some o =>
    simp only [pickOps, hgo, List.cons.injEq] at hp
    obtain ⟨ho1, hp2⟩ := hp
    simp only [ordOK, Bool.and_eq_true] at ho
    have hk := k.out l q (by rw [hp2]) hs hb ho.2 (fun t' ht => hg t' (by simp at ht ⊢; exact .inr ht)) _ w (hf.put (Nat.le_of_ble_eq_true hd) _) s
    subst ho1
    rw [show ((ti, false) :: tt).length + ls.left = (tt.length + ls.left) + 1 by simp only [List.length_cons]; omega]
    exact wpAnyC_take (oi := ⟨some d, op, ty, pos, af, gd⟩) (v := undef) (by rw [List.getElem?_toArray, ← getO_eq]; exact hgo) hs ho.1.1.1.2 ho.1.1.2 ho.1.2 ho.1.1.1.1 (fun c a w h => hb c a _ _ w h) (.inr ⟨hf.skip hw, rfl⟩) hk

/-- What comes behind an operation that may write. -/
def backPost (P : Program) (base : World) (f : Frag) (S : List HP) (ξ : Ext) (l : List Oper) (q : Post) : Exit → Act → World → Prop
  | .normal, a, w => wpAnyC P (fun w => ∃ V, Sat base w f (S ++ V)) l.toArray (q.den P) ξ.listed.cut (ξ.todo.length + ξ.listed.left) ξ.listed.a a w
  | e, a, w => q.den P e a w

theorem upon_mono {o : Oper} {a : Act} {K K' : Act → World → Prop} {Q Q' : Exit → Act → World → Prop} (h : ∀ a w, K a w → K' a w) (hq : ∀ c a w, Q (.panic c) a w → Q' (.panic c) a w) (ho : ∀ a w, Q .outgrown a w → Q' .outgrown a w) {w : World}
    (hh : o.wp P a w K Q) : o.wp P a w K' Q' := by
  unfold Oper.wp at *
  generalize (execOp a.eval o).run P w = r at *
  cases r with
  | ok n w' =>
    cases n <;> simp only [Oper.upon] at hh ⊢
    case value => exact h _ _ hh
    case skip => exact h _ _ hh
    case defer => exact h _ _ hh
    case enter =>
      refine Calls.mono hh fun e w'' he => ?_
      cases e with
      | returned v => exact h _ _ he
      | panicked c => exact hq _ _ _ he
      | outgrown => obtain ⟨x, y, z⟩ := he; exact ⟨x, y, ho _ _ z⟩
    case row => exact Rows.mono hh fun _ _ he => h _ _ he
  | halt x w' =>
    cases x <;> simp only [Oper.upon] at hh ⊢
    exact hq _ _ _ hh

/-- An operation that may write: nothing else may come now. -/
def evPost (P : Program) (base : World) (f : Frag) (S : List HP) (ξ : Ext) (l rest : List Oper) (q : Post) (e : Exit) (a : Act) (w : World) : Prop :=
  Region.noSelect l.toArray = true → q.blind P → ordOK l.toArray ξ.listed ξ.todo = true → (∀ t ∈ ξ.todo, (getO l t.1).isSome) → rest = pickOps l ξ.todo → backPost P base f S ξ l q e a w

theorem HQ.event {o : Oper} {ls : Lst} {i : Nat} {t : List (Nat × Bool)}
    (k : H P base n L f (A ++ V) (.ops l [o] (.fn (evPost P base f A ⟨ls.setIfInBounds i true, t⟩ l rest q)))) :
    HQ V ⟨ls, (i, true) :: t⟩ P base n L f A (.ops l (o :: rest) q) := .mk fun l' q' hK hs hb ho hg a w hf s => by
  simp only [Kont.ops.injEq] at hK
  obtain ⟨rfl, hp, rfl⟩ := hK
  have hgi := hg (i, true) (by simp)
  cases hgo : getO l i with
  | none => simp [hgo] at hgi
  | some o' =>
    simp only [pickOps, hgo, List.cons.injEq] at hp
    obtain ⟨rfl, hp2⟩ := hp
    simp only [ordOK, Bool.and_eq_true] at ho
    have hk := k.out a w hf s
    have hr : Region.ready .any l.toArray ls.a = [i] := by simpa using ho.1.1
    have hne : ls.a ≠ ls.cut := by simpa using ho.1.2
    rw [show ((i, true) :: t).length + ls.left = (t.length + ls.left) + 1 by simp only [List.length_cons]; omega]
    refine wpAnyC_one hr hne ⟨V, s⟩ ?_
    have h2 : ∀ t' ∈ t, (getO l t'.1).isSome := fun t' ht => hg t' (by simp at ht ⊢; exact .inr ht)
    unfold wpOp
    rw [List.getElem?_toArray, ← getO_eq, hgo]
    show if Region.wanted o (yielded l.toArray a.tmps) = true then _ else _
    have hk' : wpList P l.toArray (evPost P base f A ⟨ls.setIfInBounds i true, t⟩ l rest q) [o] a w := hk
    simp only [wpList] at hk'
    have e1 : ∀ a w, evPost P base f A ⟨ls.setIfInBounds i true, t⟩ l rest q .normal a w →
        wpAnyC P (fun w => ∃ V, Sat base w f (A ++ V)) l.toArray (q.den P) ls.cut (t.length + ls.left) (ls.a.setIfInBounds i true) a w := fun a w h => h hs hb ho.2 h2 hp2
    by_cases hw : Region.wanted o (yielded l.toArray a.tmps) = true
    · rw [if_pos hw] at hk' ⊢
      rcases hk' with h | ⟨hasks, x, y, z⟩
      · exact .inl (upon_mono e1 (fun c a w h => h hs hb ho.2 h2 hp2) (fun a w h => h hs hb ho.2 h2 hp2) h)
      · exact .inr ⟨hasks, x, y, z hs hb ho.2 h2 hp2⟩
    · rw [if_neg hw] at hk' ⊢
      exact e1 _ _ hk'

theorem H.back {B V' : List HP} (hB : B = A ++ V') (k : HQ V' ξ P base n L f A (.ops l rest q)) :
    H P base n L f B (.out .normal (.fn (evPost P base f A ξ l rest q))) := .mk fun a w hf s hs hb h1 h2 h3 => by
  subst hB; subst h3
  exact k.out l q rfl hs hb h1 h2 a w hf s

theorem HQ.nil {a cut : Array Bool} (k : H P base n L f (A ++ V) (.out .normal q)) : HQ V ⟨⟨a, cut, 0⟩, []⟩ P base n L f A (.ops l [] q) := .mk fun l' q' hK hs hb ho hg a w hf s => by
  simp only [Kont.ops.injEq] at hK
  obtain ⟨rfl, hp, rfl⟩ := hK
  exact ⟨⟨V, s⟩, by simpa [ordOK] using ho, k.out a w hf s⟩
theorem HQ.done {ls : Lst} (h0 : ls.left = 0) (k : H P base n L f (A ++ V) (.out .normal q)) : HQ V ⟨ls, []⟩ P base n L f A (.ops l [] q) := by
  obtain ⟨a, cut, left⟩ := ls
  simp only at h0
  subst h0
  exact HQ.nil k

def lstAfter (a : Array Bool) (t : List (Nat × Bool)) : Array Bool := t.foldl (fun a x => a.setIfInBounds x.1 true) a
def cutOf (a : Array Bool) (t : List (Nat × Bool)) : Nat → Array Bool
  | 0 => #[]
  | _ + 1 => lstAfter a t
/-- At the cut: the next phase, in which other cells are read. -/
theorem HQ.next {ls : Lst} (todo : List (Nat × Bool)) (left : Nat) (hn : (ordOK l.toArray ⟨ls.a, cutOf ls.a todo left, left⟩ todo && todo.all (fun t => (getO l t.1).isSome) && (todo.length + left == ls.left) && Nat.blt 0 ls.left) = true)
    {S' V' : List HP} (hB : A ++ V = S' ++ V') (k : HQ V' ⟨⟨ls.a, cutOf ls.a todo left, left⟩, todo⟩ P base n L f S' (.ops l (pickOps l todo) q)) : HQ V ⟨ls, []⟩ P base n L f A (.ops l [] q) := .mk fun l' q' hK hs hb ho hg a w hf s => by
  simp only [Kont.ops.injEq] at hK
  obtain ⟨rfl, hp, rfl⟩ := hK
  simp only [Bool.and_eq_true, List.all_eq_true, beq_iff_eq] at hn
  obtain ⟨⟨⟨h1, h2⟩, h3⟩, h4⟩ := hn
  have s' := s
  rw [hB] at s'
  have := (k.out l q rfl hs hb h1 h2 a w hf s').any
  obtain ⟨la, lc, ll⟩ := ls
  simp only at h3 h4 this ⊢
  cases ll with
  | zero => simp [Nat.blt] at h4
  | succ m =>
    have hcut : la = lc := by simpa [ordOK] using ho
    simp only [List.length_nil, Nat.zero_add]
    refine ⟨⟨V, s⟩, ?_⟩
    rw [if_pos hcut]
    rw [h3] at this
    exact this

/-- Operations k, k + 1, .. in their order, all of which only read. -/
def qt : Nat → Nat → List (Nat × Bool)
  | 0, _ => []
  | n + 1, k => (k, false) :: qt n (k + 1)
/-- A region that draws its order; its first phase. -/
theorem H.drawP {id : Nat} {B : List HP} (todo : List (Nat × Bool)) (left : Nat) (hm : P.follows .mixedOrders = true) (hn : (Region.noSelect l.toArray && ordOK l.toArray ⟨Array.replicate l.length false, cutOf (Array.replicate l.length false) todo left, left⟩ todo && todo.all (fun t => (getO l t.1).isSome) && (todo.length + left == l.length)) = true) (hb : q.blind P)
    {S V : List HP} (hB : B = S ++ V) (k : HQ V ⟨⟨Array.replicate l.length false, cutOf (Array.replicate l.length false) todo left, left⟩, todo⟩ P base n L f S (.ops l (pickOps l todo) q)) : H P base n L f B (.code (.region id l.toArray true) q) := .mk fun a w hf s => by
  simp only [Bool.and_eq_true, List.all_eq_true, beq_iff_eq] at hn
  obtain ⟨⟨⟨h1, h2⟩, h3⟩, h4⟩ := hn
  refine wp_region_any hm ?_
  subst hB
  have s' : Sat base { w with drawn := w.drawn + 1 } f (S ++ V) := s.same rfl rfl rfl rfl
  have := k.out l q rfl h1 hb h2 h3 a _ hf s'
  simp only [h4] at this
  simpa using wpAnyC.any _ _ _ _ this
/-- A region that draws its order. -/
theorem H.draw {id : Nat} {B : List HP} (todo : List (Nat × Bool)) (hm : P.follows .mixedOrders = true) (hn : (Region.noSelect l.toArray && ordOK l.toArray ⟨Array.replicate l.length false, #[], 0⟩ todo && todo.all (fun t => (getO l t.1).isSome) && (todo.length == l.length)) = true) (hb : q.blind P)
    {S V : List HP} (hB : B = S ++ V) (k : HQ V ⟨⟨Array.replicate l.length false, #[], 0⟩, todo⟩ P base n L f S (.ops l (pickOps l todo) q)) : H P base n L f B (.code (.region id l.toArray true) q) :=
  H.drawP todo 0 hm hn hb hB k

/-- One all of whose operations only read, in the order of the text. -/
theorem H.drawQ {id : Nat} (hm : P.follows .mixedOrders = true) (hn : (Region.noSelect l.toArray && ordOK l.toArray ⟨Array.replicate l.length false, #[], 0⟩ (qt l.length 0) && (qt l.length 0).all (fun t => (getO l t.1).isSome) && ((qt l.length 0).length == l.length)) = true) (hb : q.blind P)
    (k : HQ [] ⟨⟨Array.replicate l.length false, #[], 0⟩, qt l.length 0⟩ P base n L f A (.ops l (pickOps l (qt l.length 0)) q)) : H P base n L f A (.code (.region id l.toArray true) q) :=
  H.draw _ hm hn hb (List.append_nil A).symm k
theorem HQ.done0 {ls : Lst} (h0 : ls.left = 0) (k : H P base n L f A (.out .normal q)) : HQ [] ⟨ls, []⟩ P base n L f A (.ops l [] q) := HQ.done h0 (by rw [List.append_nil]; exact k)
theorem blind_fn {fn : Func} {R : Value → Frag → List HP → Prop} : (Post.fn (FnPost P fn base R)).blind P := fun c a dst v w h => by
  obtain ⟨h1, h2⟩ := h
  exact ⟨by cases dst <;> simpa [Act.put] using h1, h2⟩
theorem blind_seq {y : Code} {q : Post} (h : q.blind P) : (Post.seq y q).blind P := fun c a dst v w h' => h c a dst v w h'
theorem blind_block {id : Nat} {q : Post} (h : q.blind P) : (Post.block id q).blind P := fun c a dst v w h' => h c a dst v w h'
theorem blind_loop {I : Act → World → Prop} {q : Post} (h : q.blind P) : (Post.loop I q).blind P := fun c a dst v w h' => h c a dst v w h'

/-- In a region all of whose operations but the last ones (tl) only read. -/
structure HS (tl : List Oper) (P : Program) (base : World) (n : Nat) (L : Env) (f : Frag) (A : List HP) (K : Kont) : Prop where
  out : ∀ l rest q, K = .ops l rest q → ∀ a w, Fr n a L → Sat base w f A → wpStill P l.toArray w (fun a' => wpList P l.toArray (q.den P) tl a' w) rest a

variable {tl : List Oper}
theorem HS.opV {op : Op} {v : Value} (hw : want? l L gd = true) (hd : Nat.ble (d + 1) n = true)
    (hx : ∀ a w, Fr n a L → Sat base w f A → (execOp a.eval ⟨some d, op, ty, pos, af, gd⟩).run P w = .ok (.value v) w)
    (k : HS tl P base n ((d, v) :: L) f A (.ops l rest q)) : HS tl P base n L f A (.ops l (⟨some d, op, ty, pos, af, gd⟩ :: rest) q) := .mk fun l' r' q' hK a w hf s => by
  simp only [Kont.ops.injEq] at hK
  obtain ⟨rfl, rfl, rfl⟩ := hK
  unfold wpStill
  rw [if_pos (hf.want (o := ⟨some d, op, ty, pos, af, gd⟩) hw)]
  unfold Oper.still
  rw [hx a w hf s]
  exact ⟨rfl, k.out l rest q rfl _ _ (hf.put (Nat.le_of_ble_eq_true hd) v) s⟩
theorem HS.pass {op : Op} (hw : skip? l L gd = true) (hd : Nat.ble (d + 1) n = true)
    (k : HS tl P base n ((d, .tuple #[]) :: L) f A (.ops l rest q)) : HS tl P base n L f A (.ops l (⟨some d, op, ty, pos, af, gd⟩ :: rest) q) := .mk fun l' r' q' hK a w hf s => by
  simp only [Kont.ops.injEq] at hK
  obtain ⟨rfl, rfl, rfl⟩ := hK
  unfold wpStill
  rw [if_neg (by rw [hf.skip (o := ⟨some d, op, ty, pos, af, gd⟩) hw]; simp)]
  exact k.out l rest q rfl _ _ (hf.put (Nat.le_of_ble_eq_true hd) _) s
theorem HS.done (k : H P base n L f A (.ops l tl q)) : HS tl P base n L f A (.ops l [] q) := .mk fun l' r' q' hK a w hf s => by
  simp only [Kont.ops.injEq] at hK
  obtain ⟨rfl, rfl, rfl⟩ := hK
  exact k.out a w hf s
def tk : Nat → List Oper → List Oper
  | 0, _ => []
  | _, [] => []
  | n + 1, o :: r => o :: tk n r
def dr : Nat → List Oper → List Oper
  | 0, l => l
  | _ + 1, [] => []
  | n + 1, _ :: r => dr n r
theorem tk_eq : ∀ (k : Nat) (l : List Oper), tk k l = l.take k
  | 0, l => by simp [tk]
  | k + 1, [] => by simp [tk]
  | k + 1, o :: r => by simp [tk, tk_eq k r]
theorem dr_eq : ∀ (k : Nat) (l : List Oper), dr k l = l.drop k
  | 0, l => by simp [dr]
  | k + 1, [] => by simp [dr]
  | k + 1, o :: r => by simp [dr, dr_eq k r]
/-- The first k operations only read. -/
theorem H.drawT {id : Nat} (m : Nat) (hm : P.follows .mixedOrders = true) (hB : Region.lexTailB .any l.toArray m = true)
    (k : HS (dr m l) P base n L f A (.ops l (tk m l) q)) : H P base n L f A (.code (.region id l.toArray true) q) := .mk fun a w hf s =>
  wp_region_still_tail m hm hB (by
    have := k.out l (tk m l) q rfl a { w with drawn := w.drawn + 1 } hf (s.same rfl rfl rfl rfl)
    rw [tk_eq, dr_eq] at this
    exact this)
theorem HS.know {e : Nat} {v u : Value} {K : Kont} (hv : look? L e = some v) (he : v = u) (h : HS tl P base n ((e, u) :: L) f A K) : HS tl P base n L f A K := .mk fun l r q hK a w hf s => by
  refine h.out l r q hK a w ⟨hf.size, hf.defers, fun i x hi => ?_⟩ s
  rw [look?_cons] at hi
  by_cases c : e = i
  · subst c; simp at hi; subst hi; rw [← he]; exact hf.get _ _ hv
  · simp [c] at hi; exact hf.get _ _ hi
theorem HS.gset {o : Oper} {j : Nat} {b : Bool} {c : Bool} {e : Nat} {p1 : Op} {t1 : TypeId} {q1 : String} {a1 : Array Edge} {g1 : Option (Nat × Bool)} (hg : o.guard = some (j, b)) (hj : getO l j = some ⟨some e, p1, t1, q1, a1, g1⟩) (hv : look? L e = some (.bool c)) (ht : c = true → HS tl P base n ((e, .bool true) :: L) f A (.ops l (o :: rest) q))
    (hf : c = false → HS tl P base n ((e, .bool false) :: L) f A (.ops l (o :: rest) q)) : HS tl P base n L f A (.ops l (o :: rest) q) := by
  have _ := hg
  have _ := hj
  cases c with
  | true => exact HS.know hv rfl (ht rfl)
  | false => exact HS.know hv rfl (hf rfl)

variable {κ : Type} [DecidableEq κ] {enc : κ → Value}
theorem HQ.know {e : Nat} {v u : Value} {K : Kont} (hv : look? L e = some v) (he : v = u) (h : HQ V ξ P base n ((e, u) :: L) f A K) : HQ V ξ P base n L f A K := .mk fun l q hK hs hb ho hg a w hf s => by
  refine h.out l q hK hs hb ho hg a w ⟨hf.size, hf.defers, fun i x hi => ?_⟩ s
  rw [look?_cons] at hi
  by_cases c : e = i
  · subst c; simp at hi; subst hi; rw [← he]; exact hf.get _ _ hv
  · simp [c] at hi; exact hf.get _ _ hi
theorem HQ.gset {o : Oper} {j : Nat} {b : Bool} {c : Bool} {e : Nat} {p1 : Op} {t1 : TypeId} {q1 : String} {a1 : Array Edge} {g1 : Option (Nat × Bool)} (hg : o.guard = some (j, b)) (hj : getO l j = some ⟨some e, p1, t1, q1, a1, g1⟩) (hv : look? L e = some (.bool c)) (ht : c = true → HQ V ξ P base n ((e, .bool true) :: L) f A (.ops l (o :: rest) q))
    (hf : c = false → HQ V ξ P base n ((e, .bool false) :: L) f A (.ops l (o :: rest) q)) : HQ V ξ P base n L f A (.ops l (o :: rest) q) := by
  have _ := hg
  have _ := hj
  cases c with
  | true => exact HQ.know hv rfl (ht rfl)
  | false => exact HQ.know hv rfl (hf rfl)
theorem HQ.move {x : Operand} {v : Value} (hw : want? l L gd = true) (hx : ev? L x = some v) (hd : Nat.ble (d + 1) n = true) {lst : Lst} {ti : Nat} {tt : List (Nat × Bool)}
    (k : HQ V ⟨lst.setIfInBounds ti true, tt⟩ P base n ((d, v) :: L) f A (.ops l rest q)) : HQ V ⟨lst, (ti, false) :: tt⟩ P base n L f A (.ops l (⟨some d, .move x, ty, pos, af, gd⟩ :: rest) q) :=
  HQ.opV hw hd (fun a w hf _ => by simp [execOp, hf.eval hx]) k
theorem HQ.assign {x : Operand} {v : Value} (hw : want? l L gd = true) (hx : ev? L x = some v) (hd : Nat.ble (d + 1) n = true) {lst : Lst} {ti : Nat} {tt : List (Nat × Bool)}
    (k : HQ V ⟨lst.setIfInBounds ti true, tt⟩ P base n ((d, v) :: L) f A (.ops l rest q)) : HQ V ⟨lst, (ti, false) :: tt⟩ P base n L f A (.ops l (⟨some d, .assign x, ty, pos, af, gd⟩ :: rest) q) :=
  HQ.opV hw hd (fun a w hf _ => by simp [execOp, hf.eval hx]) k
theorem HQ.pickT {c x y : Operand} {v : Value} (hw : want? l L gd = true) (hc : ev? L c = some (.bool true)) (hx : ev? L x = some v) (hd : Nat.ble (d + 1) n = true) {lst : Lst} {ti : Nat} {tt : List (Nat × Bool)}
    (k : HQ V ⟨lst.setIfInBounds ti true, tt⟩ P base n ((d, v) :: L) f A (.ops l rest q)) : HQ V ⟨lst, (ti, false) :: tt⟩ P base n L f A (.ops l (⟨some d, .pick c x y, ty, pos, af, gd⟩ :: rest) q) :=
  HQ.opV hw hd (fun a w hf _ => by simp [execOp, hf.eval hx, hf.eval hc, asBool]) k
theorem HQ.pickF {c x y : Operand} {v : Value} (hw : want? l L gd = true) (hc : ev? L c = some (.bool false)) (hx : ev? L y = some v) (hd : Nat.ble (d + 1) n = true) {lst : Lst} {ti : Nat} {tt : List (Nat × Bool)}
    (k : HQ V ⟨lst.setIfInBounds ti true, tt⟩ P base n ((d, v) :: L) f A (.ops l rest q)) : HQ V ⟨lst, (ti, false) :: tt⟩ P base n L f A (.ops l (⟨some d, .pick c x y, ty, pos, af, gd⟩ :: rest) q) :=
  HQ.opV hw hd (fun a w hf _ => by simp [execOp, hf.eval hx, hf.eval hc, asBool]) k
theorem HQ.nilCheck {x : Operand} {p : Addr} (hw : want? l L gd = true) (hx : ev? L x = some (.pointer (some p))) (hd : Nat.ble (d + 1) n = true) {lst : Lst} {ti : Nat} {tt : List (Nat × Bool)}
    (k : HQ V ⟨lst.setIfInBounds ti true, tt⟩ P base n ((d, .pointer (some p)) :: L) f A (.ops l rest q)) : HQ V ⟨lst, (ti, false) :: tt⟩ P base n L f A (.ops l (⟨some d, .nilCheck x, ty, pos, af, gd⟩ :: rest) q) :=
  HQ.opV hw hd (fun a w hf _ => by simp [execOp, hf.eval hx]) k
theorem HQ.cmp {op : BinOp} {xt yt : TypeId} {x y : Operand} {k : IntKind} {p p2 : Int} {b : Bool} (hw : want? l L gd = true) (hx : ev? L x = some (.int k p)) (hy : ev? L y = some (.int k p2)) (hc : cmpP op p p2 = some b) (hd : Nat.ble (d + 1) n = true) {lst : Lst} {ti : Nat} {tt : List (Nat × Bool)}
    (kk : HQ V ⟨lst.setIfInBounds ti true, tt⟩ P base n ((d, .bool b) :: L) f A (.ops l rest q)) : HQ V ⟨lst, (ti, false) :: tt⟩ P base n L f A (.ops l (⟨some d, .binOp op xt x y yt, ty, pos, af, gd⟩ :: rest) q) :=
  HQ.opV hw hd (fun a w hf _ => by
    cases op <;> simp only [cmpP, Option.some.injEq, reduceCtorEq] at hc <;> subst hc <;>
      simp [execOp, eqGuard, binOp, Op.intCmp, hf.eval hx, hf.eval hy] <;> by_cases e : p = p2 <;> simp [e]) kk
theorem HQ.ar {op : BinOp} {xt yt : TypeId} {x y : Operand} {k : IntKind} {p p2 r z : Int} (hw : want? l L gd = true) (hx : ev? L x = some (.int k p)) (hy : ev? L y = some (.int k p2)) (hc : arP op k p p2 = some r) (hz : r = z) (hd : Nat.ble (d + 1) n = true) {lst : Lst} {ti : Nat} {tt : List (Nat × Bool)}
    (kk : HQ V ⟨lst.setIfInBounds ti true, tt⟩ P base n ((d, .int k z) :: L) f A (.ops l rest q)) : HQ V ⟨lst, (ti, false) :: tt⟩ P base n L f A (.ops l (⟨some d, .binOp op xt x y yt, ty, pos, af, gd⟩ :: rest) q) :=
  HQ.opV hw hd (fun a w hf _ => by
    cases op <;> simp only [arP, Option.some.injEq, reduceCtorEq] at hc <;> subst hc <;> subst hz <;>
      simp [execOp, eqGuard, binOp, Op.intArith, hf.eval hx, hf.eval hy]) kk
theorem HQ.quo {xt yt : TypeId} {x y : Operand} {k : IntKind} {p p2 z : Int} (hw : want? l L gd = true) (hx : ev? L x = some (.int k p)) (hy : ev? L y = some (.int k p2)) (h0 : p2 ≠ 0) (hz : k.wrap (p.tdiv p2) = z) (hd : Nat.ble (d + 1) n = true) {lst : Lst} {ti : Nat} {tt : List (Nat × Bool)}
    (kk : HQ V ⟨lst.setIfInBounds ti true, tt⟩ P base n ((d, .int k z) :: L) f A (.ops l rest q)) : HQ V ⟨lst, (ti, false) :: tt⟩ P base n L f A (.ops l (⟨some d, .binOp .quo xt x y yt, ty, pos, af, gd⟩ :: rest) q) :=
  HQ.opV hw hd (fun a w hf _ => by subst hz; simp [execOp, eqGuard, binOp, Op.intDiv, hf.eval hx, hf.eval hy, h0]) kk
theorem HQ.rem {xt yt : TypeId} {x y : Operand} {k : IntKind} {p p2 z : Int} (hw : want? l L gd = true) (hx : ev? L x = some (.int k p)) (hy : ev? L y = some (.int k p2)) (h0 : p2 ≠ 0) (hz : p.tmod p2 = z) (hd : Nat.ble (d + 1) n = true) {lst : Lst} {ti : Nat} {tt : List (Nat × Bool)}
    (kk : HQ V ⟨lst.setIfInBounds ti true, tt⟩ P base n ((d, .int k z) :: L) f A (.ops l rest q)) : HQ V ⟨lst, (ti, false) :: tt⟩ P base n L f A (.ops l (⟨some d, .binOp .rem xt x y yt, ty, pos, af, gd⟩ :: rest) q) :=
  HQ.opV hw hd (fun a w hf _ => by subst hz; simp [execOp, eqGuard, binOp, Op.intDiv, hf.eval hx, hf.eval hy, h0]) kk
theorem HQ.beq {op : BinOp} {xt yt : TypeId} {x y : Operand} {p p2 b : Bool} [hu : Und P xt .bool] (hw : want? l L gd = true) (hx : ev? L x = some (.bool p)) (hy : ev? L y = some (.bool p2)) (ho : op = .eql) (hb : (p == p2) = b) (hd : Nat.ble (d + 1) n = true) {lst : Lst} {ti : Nat} {tt : List (Nat × Bool)}
    (kk : HQ V ⟨lst.setIfInBounds ti true, tt⟩ P base n ((d, .bool b) :: L) f A (.ops l rest q)) : HQ V ⟨lst, (ti, false) :: tt⟩ P base n L f A (.ops l (⟨some d, .binOp op xt x y yt, ty, pos, af, gd⟩ :: rest) q) :=
  HQ.opV hw hd (fun a w hf _ => by
    subst ho; subst hb
    refine run_bin _ ?_ ?_
    · rw [hf.eval hx, hf.eval hy]; exact run_guard_bool _ _ _ _ _ _ _
    · rw [hf.eval hx, hf.eval hy]
      show Sem.run P (do pure (Value.bool (← Op.equal xt (.bool p) (.bool p2)))) w = _
      simp [run_equal_bool hu]) kk
theorem HQ.bne {op : BinOp} {xt yt : TypeId} {x y : Operand} {p p2 b : Bool} [hu : Und P xt .bool] (hw : want? l L gd = true) (hx : ev? L x = some (.bool p)) (hy : ev? L y = some (.bool p2)) (ho : op = .neq) (hb : (!(p == p2)) = b) (hd : Nat.ble (d + 1) n = true) {lst : Lst} {ti : Nat} {tt : List (Nat × Bool)}
    (kk : HQ V ⟨lst.setIfInBounds ti true, tt⟩ P base n ((d, .bool b) :: L) f A (.ops l rest q)) : HQ V ⟨lst, (ti, false) :: tt⟩ P base n L f A (.ops l (⟨some d, .binOp op xt x y yt, ty, pos, af, gd⟩ :: rest) q) :=
  HQ.opV hw hd (fun a w hf _ => by
    subst ho; subst hb
    refine run_bin _ ?_ ?_
    · rw [hf.eval hx, hf.eval hy]; exact run_guard_bool _ _ _ _ _ _ _
    · rw [hf.eval hx, hf.eval hy]
      show Sem.run P (do pure (Value.bool (!(← Op.equal xt (.bool p) (.bool p2))))) w = _
      simp [run_equal_bool hu]) kk
theorem HQ.ptrNil {op : BinOp} {xt yt e : TypeId} {x y : Operand} {p : Option Addr} {b : Bool} [hu : Und P xt (.pointer e)] (hw : want? l L gd = true) (hx : ev? L x = some (.pointer p)) (hy : ev? L y = some (.pointer none)) (hb : nilP op p = some b) (hd : Nat.ble (d + 1) n = true) {lst : Lst} {ti : Nat} {tt : List (Nat × Bool)}
    (kk : HQ V ⟨lst.setIfInBounds ti true, tt⟩ P base n ((d, .bool b) :: L) f A (.ops l rest q)) : HQ V ⟨lst, (ti, false) :: tt⟩ P base n L f A (.ops l (⟨some d, .binOp op xt x y yt, ty, pos, af, gd⟩ :: rest) q) :=
  HQ.opV hw hd (fun a w hf _ => by
    refine run_bin _ ?_ ?_
    · rw [hf.eval hx, hf.eval hy]; exact run_guard_ptr _ _ _ _ _ _ _
    · rw [hf.eval hx, hf.eval hy]
      have e1 : Sem.run P (do pure (Value.bool (← Op.equal xt (.pointer p) (.pointer none)))) w = .ok (.bool p.isNone) w := by simp [run_equal_pn hu]
      have e2 : Sem.run P (do pure (Value.bool (!(← Op.equal xt (.pointer p) (.pointer none))))) w = .ok (.bool (!p.isNone)) w := by simp [run_equal_pn hu]
      cases op <;> cases p <;> simp only [nilP, Option.some.injEq, reduceCtorEq] at hb <;> subst hb <;> first | exact e1 | exact e2) kk
theorem HQ.not {x : Operand} {xt : TypeId} {b c : Bool} (hw : want? l L gd = true) (hx : ev? L x = some (.bool b)) (hb : (!b) = c) (hd : Nat.ble (d + 1) n = true) {lst : Lst} {ti : Nat} {tt : List (Nat × Bool)}
    (k : HQ V ⟨lst.setIfInBounds ti true, tt⟩ P base n ((d, .bool c) :: L) f A (.ops l rest q)) : HQ V ⟨lst, (ti, false) :: tt⟩ P base n L f A (.ops l (⟨some d, .unOp .not xt x, ty, pos, af, gd⟩ :: rest) q) :=
  HQ.opV hw hd (fun a w hf _ => by subst hb; simp [execOp, Op.unary, hf.eval hx]) k
theorem HQ.conv_int {s t : TypeId} {x : Operand} {i j : IntKind} {p z : Int} {ds : TypeDesc} [hs : Und P s ds] [ht : Und P t (.int j)] (hw : want? l L gd = true) (hx : ev? L x = some (.int i p)) (hz : j.wrap p = z) (hd : Nat.ble (d + 1) n = true) {lst : Lst} {ti : Nat} {tt : List (Nat × Bool)}
    (k : HQ V ⟨lst.setIfInBounds ti true, tt⟩ P base n ((d, .int j z) :: L) f A (.ops l rest q)) : HQ V ⟨lst, (ti, false) :: tt⟩ P base n L f A (.ops l (⟨some d, .convert s t x, ty, pos, af, gd⟩ :: rest) q) :=
  HQ.opV hw hd (fun a w hf _ => by
    subst hz
    have h1 := hs.run w
    have h2 := ht.run w
    simp only [execOp, convert, hf.eval hx, Sem.run_bind, h1, h2, Result.andThen_ok]
    cases ds <;> simp [Conv.intToInt]) k
theorem HQ.extract {x : Operand} {i : Nat} {vs : List Value} {v : Value} (hw : want? l L gd = true) (hx : ev? L x = some (.tuple vs.toArray)) (hv : nthV vs i = some v) (hd : Nat.ble (d + 1) n = true) {lst : Lst} {ti : Nat} {tt : List (Nat × Bool)}
    (k : HQ V ⟨lst.setIfInBounds ti true, tt⟩ P base n ((d, v) :: L) f A (.ops l rest q)) : HQ V ⟨lst, (ti, false) :: tt⟩ P base n L f A (.ops l (⟨some d, .extract x i, ty, pos, af, gd⟩ :: rest) q) :=
  HQ.opV hw hd (fun a w hf _ => by
    rw [nthV_eq] at hv
    simp [execOp, Instr.extract, hf.eval hx, hv]) k
theorem HQ.gdec {o : Oper} {j : Nat} {b : Bool} {e : Nat} {p1 : Op} {t1 : TypeId} {q1 : String} {a1 : Array Edge} {g1 : Option (Nat × Bool)} {p : Prop} {_ : Decidable p} (hg : o.guard = some (j, b)) (hj : getO l j = some ⟨some e, p1, t1, q1, a1, g1⟩) (hv : look? L e = some (.bool (decide p)))
    (ht : p → HQ V ξ P base n ((e, .bool true) :: L) f A (.ops l (o :: rest) q)) (hf : ¬ p → HQ V ξ P base n ((e, .bool false) :: L) f A (.ops l (o :: rest) q)) : HQ V ξ P base n L f A (.ops l (o :: rest) q) :=
  HQ.gset hg hj hv (fun h => ht (of_decide_eq_true h)) (fun h => hf (of_decide_eq_false h))
theorem HQ.gyes {o : Oper} {j : Nat} {b : Bool} {e : Nat} {p1 : Op} {t1 : TypeId} {q1 : String} {a1 : Array Edge} {g1 : Option (Nat × Bool)} {p : Prop} {_ : Decidable p} (hg : o.guard = some (j, b)) (hj : getO l j = some ⟨some e, p1, t1, q1, a1, g1⟩) (hv : look? L e = some (.bool (decide p)))
    (hp : p) (ht : HQ V ξ P base n ((e, .bool true) :: L) f A (.ops l (o :: rest) q)) : HQ V ξ P base n L f A (.ops l (o :: rest) q) :=
  HQ.gdec hg hj hv (fun _ => ht) (fun h => absurd hp h)
theorem HQ.gno {o : Oper} {j : Nat} {b : Bool} {e : Nat} {p1 : Op} {t1 : TypeId} {q1 : String} {a1 : Array Edge} {g1 : Option (Nat × Bool)} {p : Prop} {_ : Decidable p} (hg : o.guard = some (j, b)) (hj : getO l j = some ⟨some e, p1, t1, q1, a1, g1⟩) (hv : look? L e = some (.bool (decide p)))
    (hp : ¬ p) (hf : HQ V ξ P base n ((e, .bool false) :: L) f A (.ops l (o :: rest) q)) : HQ V ξ P base n L f A (.ops l (o :: rest) q) :=
  HQ.gdec hg hj hv (fun h => absurd h hp) (fun _ => hf)
theorem HQ.gtrue {o : Oper} {j : Nat} {b : Bool} {c : Bool} {e : Nat} {p1 : Op} {t1 : TypeId} {q1 : String} {a1 : Array Edge} {g1 : Option (Nat × Bool)} (hg : o.guard = some (j, b)) (hj : getO l j = some ⟨some e, p1, t1, q1, a1, g1⟩) (hv : look? L e = some (.bool c))
    (hp : c = true) (ht : HQ V ξ P base n ((e, .bool true) :: L) f A (.ops l (o :: rest) q)) : HQ V ξ P base n L f A (.ops l (o :: rest) q) :=
  HQ.gset hg hj hv (fun _ => ht) (fun h => by rw [hp] at h; cases h)
theorem HQ.gfalse {o : Oper} {j : Nat} {b : Bool} {c : Bool} {e : Nat} {p1 : Op} {t1 : TypeId} {q1 : String} {a1 : Array Edge} {g1 : Option (Nat × Bool)} (hg : o.guard = some (j, b)) (hj : getO l j = some ⟨some e, p1, t1, q1, a1, g1⟩) (hv : look? L e = some (.bool c))
    (hp : c = false) (ht : HQ V ξ P base n ((e, .bool false) :: L) f A (.ops l (o :: rest) q)) : HQ V ξ P base n L f A (.ops l (o :: rest) q) :=
  HQ.gset hg hj hv (fun h => by rw [hp] at h; cases h) (fun _ => ht)
theorem HQ.fieldAddr {st : TypeId} {x : Operand} {i b off m : Nat} {fs : List Field} {nm tg pk : String} {ft : TypeId} {fo bo : Nat} {em : Bool} [hu : Und P st (.struct fs.toArray)] (hw : want? l L gd = true)
    (hx : ev? L x = some (.pointer (some ⟨b, off, none⟩))) (hf : nthF fs i = some ⟨nm, ft, fo, em, tg, pk, bo⟩) (hs : Siz P ft (m + 1)) (hd : Nat.ble (d + 1) n = true) {lst : Lst} {ti : Nat} {tt : List (Nat × Bool)}
    (k : HQ V ⟨lst.setIfInBounds ti true, tt⟩ P base n ((d, .pointer (some ⟨b, off + fo, none⟩)) :: L) f A (.ops l rest q)) : HQ V ⟨lst, (ti, false) :: tt⟩ P base n L f A (.ops l (⟨some d, .fieldAddr st x i, ty, pos, af, gd⟩ :: rest) q) :=
  HQ.opV hw hd (fun a w hfr _ => by
    rw [nthF_eq] at hf
    simp [execOp, Instr.fieldAt, hfr.eval hx, hu.run, hf, Instr.sureAddr, fieldPlace, hs.run, add_none]) k
theorem HQ.load1 {t : TypeId} {dd : TypeDesc} {x : Operand} {b off : Nat} {v : Value} [hu : Und P t dd] (hw : want? l L gd = true) (hx : ev? L x = some (.pointer (some ⟨b, off, none⟩))) (ha : aggD dd = false)
    (hr : Rd1 f A b off v) (hd : Nat.ble (d + 1) n = true) {lst : Lst} {ti : Nat} {tt : List (Nat × Bool)}
    (k : HQ V ⟨lst.setIfInBounds ti true, tt⟩ P base n ((d, v) :: L) f A (.ops l rest q)) : HQ V ⟨lst, (ti, false) :: tt⟩ P base n L f A (.ops l (⟨some d, .load t x, ty, pos, af, gd⟩ :: rest) q) :=
  HQ.opV hw hd (fun a w hfr s => by simp [execOp, hfr.eval hx, run_loadAt1 hu ha (hr base w s)]) k
theorem HQ.loadN {t : TypeId} {dd : TypeDesc} {m : Nat} {x : Operand} {b off : Nat} {ls : List Value} [hu : Und P t dd] [hs : Siz P t m] (hw : want? l L gd = true) (hx : ev? L x = some (.pointer (some ⟨b, off, none⟩))) (ha : aggD dd = true)
    (hr : Rd f A b off ls) (hm : ls.length = m) (hd : Nat.ble (d + 1) n = true) {lst : Lst} {ti : Nat} {tt : List (Nat × Bool)}
    (k : HQ V ⟨lst.setIfInBounds ti true, tt⟩ P base n ((d, .agg ls.toArray) :: L) f A (.ops l rest q)) : HQ V ⟨lst, (ti, false) :: tt⟩ P base n L f A (.ops l (⟨some d, .load t x, ty, pos, af, gd⟩ :: rest) q) :=
  HQ.opV hw hd (fun a w hfr s => by simp [execOp, hfr.eval hx, run_loadAtN hu ha hs (hr base w s) hm]) k
theorem HQ.len_slice {t e : TypeId} {x : Operand} {p : Option Addr} {m c : Nat} [hu : Und P t (.slice e)] (hw : want? l L gd = true) (hx : ev? L x = some (.slice p m c)) (hd : Nat.ble (d + 1) n = true) {lst : Lst} {ti : Nat} {tt : List (Nat × Bool)}
    (k : HQ V ⟨lst.setIfInBounds ti true, tt⟩ P base n ((d, .int .i64 (m : Nat)) :: L) f A (.ops l rest q)) : HQ V ⟨lst, (ti, false) :: tt⟩ P base n L f A (.ops l (⟨some d, .call ⟨.builtin .len, #[x], #[t]⟩, ty, pos, af, gd⟩ :: rest) q) :=
  HQ.opV hw hd (fun a w hfr _ => by
    simp [execOp, resolve, invoke, builtin, Builtin.len_, hfr.eval hx, hu.run, goInt]) k
theorem HQ.len_string {t : TypeId} {x : Operand} {s : ByteArray} [hu : Und P t .string] (hw : want? l L gd = true) (hx : ev? L x = some (.string s)) (hd : Nat.ble (d + 1) n = true) {lst : Lst} {ti : Nat} {tt : List (Nat × Bool)}
    (k : HQ V ⟨lst.setIfInBounds ti true, tt⟩ P base n ((d, .int .i64 (s.size : Nat)) :: L) f A (.ops l rest q)) : HQ V ⟨lst, (ti, false) :: tt⟩ P base n L f A (.ops l (⟨some d, .call ⟨.builtin .len, #[x], #[t]⟩, ty, pos, af, gd⟩ :: rest) q) :=
  HQ.opV hw hd (fun a w hfr _ => by
    simp [execOp, resolve, invoke, builtin, Builtin.len_, hfr.eval hx, hu.run, goInt]) k
theorem HQ.index_slice {t e : TypeId} {x y : Operand} {b off m c i sz : Nat} {ik : IntKind} {z : Int} [hu : Und P t (.slice e)] [hs : Siz P e sz] (hw : want? l L gd = true)
    (hx : ev? L x = some (.slice (some ⟨b, off, none⟩) m c)) (hy : ev? L y = some (.int ik z)) (hq : z = (i : Nat)) (hi : i < m) (hd : Nat.ble (d + 1) n = true) {lst : Lst} {ti : Nat} {tt : List (Nat × Bool)}
    (k : HQ V ⟨lst.setIfInBounds ti true, tt⟩ P base n ((d, .pointer (some ⟨b, off + i * sz, none⟩)) :: L) f A (.ops l rest q)) : HQ V ⟨lst, (ti, false) :: tt⟩ P base n L f A (.ops l (⟨some d, .indexAddr t x y, ty, pos, af, gd⟩ :: rest) q) :=
  HQ.opV hw hd (fun a w hfr _ => by
    subst hq
    simp only [execOp, Instr.indexAt, hfr.eval hx, hfr.eval hy, Sem.run_bind, asIntOf, Sem.run_pure, Result.andThen_ok, hu.run]
    simp [hi, hs.run, add_none]) k
theorem HQ.index_array {t e : TypeId} {x y : Operand} {b off m i sz : Nat} {ik : IntKind} {z : Int} [hu : Und P t (.array m e)] [hs : Siz P e sz] (hw : want? l L gd = true)
    (hx : ev? L x = some (.pointer (some ⟨b, off, none⟩))) (hy : ev? L y = some (.int ik z)) (hq : z = (i : Nat)) (hi : i < m) (hd : Nat.ble (d + 1) n = true) {lst : Lst} {ti : Nat} {tt : List (Nat × Bool)}
    (k : HQ V ⟨lst.setIfInBounds ti true, tt⟩ P base n ((d, .pointer (some ⟨b, off + i * sz, none⟩)) :: L) f A (.ops l rest q)) : HQ V ⟨lst, (ti, false) :: tt⟩ P base n L f A (.ops l (⟨some d, .indexAddr t x y, ty, pos, af, gd⟩ :: rest) q) :=
  HQ.opV hw hd (fun a w hfr _ => by
    subst hq
    simp only [execOp, Instr.indexAt, hfr.eval hx, hfr.eval hy, Sem.run_bind, asIntOf, Sem.run_pure, Result.andThen_ok, hu.run, Instr.sureAddr]
    simp [hi, hs.run, add_none]) k
theorem HQ.index1 {t e : TypeId} {x y : Operand} {b off m c i : Nat} {ik : IntKind} {z : Int} [hu : Und P t (.slice e)] [hs : Siz P e 1] (hw : want? l L gd = true)
    (hx : ev? L x = some (.slice (some ⟨b, off, none⟩) m c)) (hy : ev? L y = some (.int ik z)) (hq : z = (i : Nat)) (hi : i < m) (hd : Nat.ble (d + 1) n = true) {lst : Lst} {ti : Nat} {tt : List (Nat × Bool)}
    (k : HQ V ⟨lst.setIfInBounds ti true, tt⟩ P base n ((d, .pointer (some ⟨b, off + i, none⟩)) :: L) f A (.ops l rest q)) : HQ V ⟨lst, (ti, false) :: tt⟩ P base n L f A (.ops l (⟨some d, .indexAddr t x y, ty, pos, af, gd⟩ :: rest) q) :=
  HQ.opV hw hd (fun a w hfr _ => by
    subst hq
    simp only [execOp, Instr.indexAt, hfr.eval hx, hfr.eval hy, Sem.run_bind, asIntOf, Sem.run_pure, Result.andThen_ok, hu.run]
    simp [hi, hs.run, add_none]) k
theorem HQ.index0 {t e : TypeId} {x y : Operand} {b m c i sz : Nat} {ik : IntKind} {z : Int} [hu : Und P t (.slice e)] [hs : Siz P e sz] (hw : want? l L gd = true)
    (hx : ev? L x = some (.slice (some ⟨b, 0, none⟩) m c)) (hy : ev? L y = some (.int ik z)) (hq : z = (i : Nat)) (hi : i < m) (hd : Nat.ble (d + 1) n = true) {lst : Lst} {ti : Nat} {tt : List (Nat × Bool)}
    (k : HQ V ⟨lst.setIfInBounds ti true, tt⟩ P base n ((d, .pointer (some ⟨b, i * sz, none⟩)) :: L) f A (.ops l rest q)) : HQ V ⟨lst, (ti, false) :: tt⟩ P base n L f A (.ops l (⟨some d, .indexAddr t x y, ty, pos, af, gd⟩ :: rest) q) :=
  HQ.opV hw hd (fun a w hfr _ => by
    subst hq
    simp only [execOp, Instr.indexAt, hfr.eval hx, hfr.eval hy, Sem.run_bind, asIntOf, Sem.run_pure, Result.andThen_ok, hu.run]
    simp [hi, hs.run, add_none]) k
theorem HQ.lookup {t kt et : TypeId} {x y : Operand} {b : Nat} {m : List (κ × Value)} {k : κ} {z v kv : Value} {A' : List HP} [hu : Und P t (.map kt et)] [hk : KeyT P kt enc] [hz : Zer P et z] (hw : want? l L gd = true)
    (hx : ev? L x = some (.map (some b))) (hy : ev? L y = some kv) (hA : At A (mp b enc m) A' (mp b enc m)) (hkv : kv = enc k) (hv : (getKV m k).getD z = v) (hd : Nat.ble (d + 1) n = true) {lst : Lst} {ti : Nat} {tt : List (Nat × Bool)}
    (kk : HQ V ⟨lst.setIfInBounds ti true, tt⟩ P base n ((d, v) :: L) f A (.ops l rest q)) : HQ V ⟨lst, (ti, false) :: tt⟩ P base n L f A (.ops l (⟨some d, .lookup t x y false, ty, pos, af, gd⟩ :: rest) q) :=
  HQ.opV hw hd (fun a w hfr s => by
    subst hv; subst hkv
    have h := run_lookup_mp (c := false) (k := k) hu hk hz s hA
    simp only [execOp, hfr.eval hx, hfr.eval hy, Sem.run_bind, h, Result.andThen_ok, Sem.run_pure]
    rfl) kk
theorem HQ.lookup2 {t kt et : TypeId} {x y : Operand} {b : Nat} {m : List (κ × Value)} {k : κ} {z v kv : Value} {i : Bool} {A' : List HP} [hu : Und P t (.map kt et)] [hk : KeyT P kt enc] [hz : Zer P et z] (hw : want? l L gd = true)
    (hx : ev? L x = some (.map (some b))) (hy : ev? L y = some kv) (hA : At A (mp b enc m) A' (mp b enc m)) (hkv : kv = enc k) (hv : (getKV m k).getD z = v) (hi : (getKV m k).isSome = i) (hd : Nat.ble (d + 1) n = true) {lst : Lst} {ti : Nat} {tt : List (Nat × Bool)}
    (kk : HQ V ⟨lst.setIfInBounds ti true, tt⟩ P base n ((d, .tuple #[v, .bool i]) :: L) f A (.ops l rest q)) : HQ V ⟨lst, (ti, false) :: tt⟩ P base n L f A (.ops l (⟨some d, .lookup t x y true, ty, pos, af, gd⟩ :: rest) q) :=
  HQ.opV hw hd (fun a w hfr s => by
    subst hv; subst hkv; subst hi
    have h := run_lookup_mp (c := true) (k := k) hu hk hz s hA
    simp only [execOp, hfr.eval hx, hfr.eval hy, Sem.run_bind, h, Result.andThen_ok, Sem.run_pure]
    rfl) kk
theorem HQ.len_map {t kt et : TypeId} {x : Operand} {b : Nat} {m : List (κ × Value)} {A' : List HP} [hu : Und P t (.map kt et)] (hw : want? l L gd = true)
    (hx : ev? L x = some (.map (some b))) (hA : At A (mp b enc m) A' (mp b enc m)) (hd : Nat.ble (d + 1) n = true) {lst : Lst} {ti : Nat} {tt : List (Nat × Bool)}
    (kk : HQ V ⟨lst.setIfInBounds ti true, tt⟩ P base n ((d, .int .i64 (m.length : Nat)) :: L) f A (.ops l rest q)) : HQ V ⟨lst, (ti, false) :: tt⟩ P base n L f A (.ops l (⟨some d, .call ⟨.builtin .len, #[x], #[t]⟩, ty, pos, af, gd⟩ :: rest) q) :=
  HQ.opV hw hd (fun a w hfr s => by
    obtain ⟨es, clock, hm, _, _, _, hb⟩ := s.mp_at hA
    subst hm
    simp [execOp, resolve, invoke, builtin, Builtin.len_, hfr.eval hx, hu.run, goInt, run_getMap hb]) kk
theorem HS.move {x : Operand} {v : Value} (hw : want? l L gd = true) (hx : ev? L x = some v) (hd : Nat.ble (d + 1) n = true)
    (k : HS tl P base n ((d, v) :: L) f A (.ops l rest q)) : HS tl P base n L f A (.ops l (⟨some d, .move x, ty, pos, af, gd⟩ :: rest) q) :=
  HS.opV hw hd (fun a w hf _ => by simp [execOp, hf.eval hx]) k
theorem HS.assign {x : Operand} {v : Value} (hw : want? l L gd = true) (hx : ev? L x = some v) (hd : Nat.ble (d + 1) n = true)
    (k : HS tl P base n ((d, v) :: L) f A (.ops l rest q)) : HS tl P base n L f A (.ops l (⟨some d, .assign x, ty, pos, af, gd⟩ :: rest) q) :=
  HS.opV hw hd (fun a w hf _ => by simp [execOp, hf.eval hx]) k
theorem HS.pickT {c x y : Operand} {v : Value} (hw : want? l L gd = true) (hc : ev? L c = some (.bool true)) (hx : ev? L x = some v) (hd : Nat.ble (d + 1) n = true)
    (k : HS tl P base n ((d, v) :: L) f A (.ops l rest q)) : HS tl P base n L f A (.ops l (⟨some d, .pick c x y, ty, pos, af, gd⟩ :: rest) q) :=
  HS.opV hw hd (fun a w hf _ => by simp [execOp, hf.eval hx, hf.eval hc, asBool]) k
theorem HS.pickF {c x y : Operand} {v : Value} (hw : want? l L gd = true) (hc : ev? L c = some (.bool false)) (hx : ev? L y = some v) (hd : Nat.ble (d + 1) n = true)
    (k : HS tl P base n ((d, v) :: L) f A (.ops l rest q)) : HS tl P base n L f A (.ops l (⟨some d, .pick c x y, ty, pos, af, gd⟩ :: rest) q) :=
  HS.opV hw hd (fun a w hf _ => by simp [execOp, hf.eval hx, hf.eval hc, asBool]) k
theorem HS.nilCheck {x : Operand} {p : Addr} (hw : want? l L gd = true) (hx : ev? L x = some (.pointer (some p))) (hd : Nat.ble (d + 1) n = true)
    (k : HS tl P base n ((d, .pointer (some p)) :: L) f A (.ops l rest q)) : HS tl P base n L f A (.ops l (⟨some d, .nilCheck x, ty, pos, af, gd⟩ :: rest) q) :=
  HS.opV hw hd (fun a w hf _ => by simp [execOp, hf.eval hx]) k
theorem HS.cmp {op : BinOp} {xt yt : TypeId} {x y : Operand} {k : IntKind} {p p2 : Int} {b : Bool} (hw : want? l L gd = true) (hx : ev? L x = some (.int k p)) (hy : ev? L y = some (.int k p2)) (hc : cmpP op p p2 = some b) (hd : Nat.ble (d + 1) n = true)
    (kk : HS tl P base n ((d, .bool b) :: L) f A (.ops l rest q)) : HS tl P base n L f A (.ops l (⟨some d, .binOp op xt x y yt, ty, pos, af, gd⟩ :: rest) q) :=
  HS.opV hw hd (fun a w hf _ => by
    cases op <;> simp only [cmpP, Option.some.injEq, reduceCtorEq] at hc <;> subst hc <;>
      simp [execOp, eqGuard, binOp, Op.intCmp, hf.eval hx, hf.eval hy] <;> by_cases e : p = p2 <;> simp [e]) kk
theorem HS.ar {op : BinOp} {xt yt : TypeId} {x y : Operand} {k : IntKind} {p p2 r z : Int} (hw : want? l L gd = true) (hx : ev? L x = some (.int k p)) (hy : ev? L y = some (.int k p2)) (hc : arP op k p p2 = some r) (hz : r = z) (hd : Nat.ble (d + 1) n = true)
    (kk : HS tl P base n ((d, .int k z) :: L) f A (.ops l rest q)) : HS tl P base n L f A (.ops l (⟨some d, .binOp op xt x y yt, ty, pos, af, gd⟩ :: rest) q) :=
  HS.opV hw hd (fun a w hf _ => by
    cases op <;> simp only [arP, Option.some.injEq, reduceCtorEq] at hc <;> subst hc <;> subst hz <;>
      simp [execOp, eqGuard, binOp, Op.intArith, hf.eval hx, hf.eval hy]) kk
theorem HS.quo {xt yt : TypeId} {x y : Operand} {k : IntKind} {p p2 z : Int} (hw : want? l L gd = true) (hx : ev? L x = some (.int k p)) (hy : ev? L y = some (.int k p2)) (h0 : p2 ≠ 0) (hz : k.wrap (p.tdiv p2) = z) (hd : Nat.ble (d + 1) n = true)
    (kk : HS tl P base n ((d, .int k z) :: L) f A (.ops l rest q)) : HS tl P base n L f A (.ops l (⟨some d, .binOp .quo xt x y yt, ty, pos, af, gd⟩ :: rest) q) :=
  HS.opV hw hd (fun a w hf _ => by subst hz; simp [execOp, eqGuard, binOp, Op.intDiv, hf.eval hx, hf.eval hy, h0]) kk
theorem HS.rem {xt yt : TypeId} {x y : Operand} {k : IntKind} {p p2 z : Int} (hw : want? l L gd = true) (hx : ev? L x = some (.int k p)) (hy : ev? L y = some (.int k p2)) (h0 : p2 ≠ 0) (hz : p.tmod p2 = z) (hd : Nat.ble (d + 1) n = true)
    (kk : HS tl P base n ((d, .int k z) :: L) f A (.ops l rest q)) : HS tl P base n L f A (.ops l (⟨some d, .binOp .rem xt x y yt, ty, pos, af, gd⟩ :: rest) q) :=
  HS.opV hw hd (fun a w hf _ => by subst hz; simp [execOp, eqGuard, binOp, Op.intDiv, hf.eval hx, hf.eval hy, h0]) kk
theorem HS.beq {op : BinOp} {xt yt : TypeId} {x y : Operand} {p p2 b : Bool} [hu : Und P xt .bool] (hw : want? l L gd = true) (hx : ev? L x = some (.bool p)) (hy : ev? L y = some (.bool p2)) (ho : op = .eql) (hb : (p == p2) = b) (hd : Nat.ble (d + 1) n = true)
    (kk : HS tl P base n ((d, .bool b) :: L) f A (.ops l rest q)) : HS tl P base n L f A (.ops l (⟨some d, .binOp op xt x y yt, ty, pos, af, gd⟩ :: rest) q) :=
  HS.opV hw hd (fun a w hf _ => by
    subst ho; subst hb
    refine run_bin _ ?_ ?_
    · rw [hf.eval hx, hf.eval hy]; exact run_guard_bool _ _ _ _ _ _ _
    · rw [hf.eval hx, hf.eval hy]
      show Sem.run P (do pure (Value.bool (← Op.equal xt (.bool p) (.bool p2)))) w = _
      simp [run_equal_bool hu]) kk
theorem HS.bne {op : BinOp} {xt yt : TypeId} {x y : Operand} {p p2 b : Bool} [hu : Und P xt .bool] (hw : want? l L gd = true) (hx : ev? L x = some (.bool p)) (hy : ev? L y = some (.bool p2)) (ho : op = .neq) (hb : (!(p == p2)) = b) (hd : Nat.ble (d + 1) n = true)
    (kk : HS tl P base n ((d, .bool b) :: L) f A (.ops l rest q)) : HS tl P base n L f A (.ops l (⟨some d, .binOp op xt x y yt, ty, pos, af, gd⟩ :: rest) q) :=
  HS.opV hw hd (fun a w hf _ => by
    subst ho; subst hb
    refine run_bin _ ?_ ?_
    · rw [hf.eval hx, hf.eval hy]; exact run_guard_bool _ _ _ _ _ _ _
    · rw [hf.eval hx, hf.eval hy]
      show Sem.run P (do pure (Value.bool (!(← Op.equal xt (.bool p) (.bool p2))))) w = _
      simp [run_equal_bool hu]) kk
theorem HS.ptrNil {op : BinOp} {xt yt e : TypeId} {x y : Operand} {p : Option Addr} {b : Bool} [hu : Und P xt (.pointer e)] (hw : want? l L gd = true) (hx : ev? L x = some (.pointer p)) (hy : ev? L y = some (.pointer none)) (hb : nilP op p = some b) (hd : Nat.ble (d + 1) n = true)
    (kk : HS tl P base n ((d, .bool b) :: L) f A (.ops l rest q)) : HS tl P base n L f A (.ops l (⟨some d, .binOp op xt x y yt, ty, pos, af, gd⟩ :: rest) q) :=
  HS.opV hw hd (fun a w hf _ => by
    refine run_bin _ ?_ ?_
    · rw [hf.eval hx, hf.eval hy]; exact run_guard_ptr _ _ _ _ _ _ _
    · rw [hf.eval hx, hf.eval hy]
      have e1 : Sem.run P (do pure (Value.bool (← Op.equal xt (.pointer p) (.pointer none)))) w = .ok (.bool p.isNone) w := by simp [run_equal_pn hu]
      have e2 : Sem.run P (do pure (Value.bool (!(← Op.equal xt (.pointer p) (.pointer none))))) w = .ok (.bool (!p.isNone)) w := by simp [run_equal_pn hu]
      cases op <;> cases p <;> simp only [nilP, Option.some.injEq, reduceCtorEq] at hb <;> subst hb <;> first | exact e1 | exact e2) kk
theorem HS.not {x : Operand} {xt : TypeId} {b c : Bool} (hw : want? l L gd = true) (hx : ev? L x = some (.bool b)) (hb : (!b) = c) (hd : Nat.ble (d + 1) n = true)
    (k : HS tl P base n ((d, .bool c) :: L) f A (.ops l rest q)) : HS tl P base n L f A (.ops l (⟨some d, .unOp .not xt x, ty, pos, af, gd⟩ :: rest) q) :=
  HS.opV hw hd (fun a w hf _ => by subst hb; simp [execOp, Op.unary, hf.eval hx]) k
theorem HS.conv_int {s t : TypeId} {x : Operand} {i j : IntKind} {p z : Int} {ds : TypeDesc} [hs : Und P s ds] [ht : Und P t (.int j)] (hw : want? l L gd = true) (hx : ev? L x = some (.int i p)) (hz : j.wrap p = z) (hd : Nat.ble (d + 1) n = true)
    (k : HS tl P base n ((d, .int j z) :: L) f A (.ops l rest q)) : HS tl P base n L f A (.ops l (⟨some d, .convert s t x, ty, pos, af, gd⟩ :: rest) q) :=
  HS.opV hw hd (fun a w hf _ => by
    subst hz
    have h1 := hs.run w
    have h2 := ht.run w
    simp only [execOp, convert, hf.eval hx, Sem.run_bind, h1, h2, Result.andThen_ok]
    cases ds <;> simp [Conv.intToInt]) k
theorem HS.extract {x : Operand} {i : Nat} {vs : List Value} {v : Value} (hw : want? l L gd = true) (hx : ev? L x = some (.tuple vs.toArray)) (hv : nthV vs i = some v) (hd : Nat.ble (d + 1) n = true)
    (k : HS tl P base n ((d, v) :: L) f A (.ops l rest q)) : HS tl P base n L f A (.ops l (⟨some d, .extract x i, ty, pos, af, gd⟩ :: rest) q) :=
  HS.opV hw hd (fun a w hf _ => by
    rw [nthV_eq] at hv
    simp [execOp, Instr.extract, hf.eval hx, hv]) k
theorem HS.gdec {o : Oper} {j : Nat} {b : Bool} {e : Nat} {p1 : Op} {t1 : TypeId} {q1 : String} {a1 : Array Edge} {g1 : Option (Nat × Bool)} {p : Prop} {_ : Decidable p} (hg : o.guard = some (j, b)) (hj : getO l j = some ⟨some e, p1, t1, q1, a1, g1⟩) (hv : look? L e = some (.bool (decide p)))
    (ht : p → HS tl P base n ((e, .bool true) :: L) f A (.ops l (o :: rest) q)) (hf : ¬ p → HS tl P base n ((e, .bool false) :: L) f A (.ops l (o :: rest) q)) : HS tl P base n L f A (.ops l (o :: rest) q) :=
  HS.gset hg hj hv (fun h => ht (of_decide_eq_true h)) (fun h => hf (of_decide_eq_false h))
theorem HS.gyes {o : Oper} {j : Nat} {b : Bool} {e : Nat} {p1 : Op} {t1 : TypeId} {q1 : String} {a1 : Array Edge} {g1 : Option (Nat × Bool)} {p : Prop} {_ : Decidable p} (hg : o.guard = some (j, b)) (hj : getO l j = some ⟨some e, p1, t1, q1, a1, g1⟩) (hv : look? L e = some (.bool (decide p)))
    (hp : p) (ht : HS tl P base n ((e, .bool true) :: L) f A (.ops l (o :: rest) q)) : HS tl P base n L f A (.ops l (o :: rest) q) :=
  HS.gdec hg hj hv (fun _ => ht) (fun h => absurd hp h)
theorem HS.gno {o : Oper} {j : Nat} {b : Bool} {e : Nat} {p1 : Op} {t1 : TypeId} {q1 : String} {a1 : Array Edge} {g1 : Option (Nat × Bool)} {p : Prop} {_ : Decidable p} (hg : o.guard = some (j, b)) (hj : getO l j = some ⟨some e, p1, t1, q1, a1, g1⟩) (hv : look? L e = some (.bool (decide p)))
    (hp : ¬ p) (hf : HS tl P base n ((e, .bool false) :: L) f A (.ops l (o :: rest) q)) : HS tl P base n L f A (.ops l (o :: rest) q) :=
  HS.gdec hg hj hv (fun h => absurd h hp) (fun _ => hf)
theorem HS.gtrue {o : Oper} {j : Nat} {b : Bool} {c : Bool} {e : Nat} {p1 : Op} {t1 : TypeId} {q1 : String} {a1 : Array Edge} {g1 : Option (Nat × Bool)} (hg : o.guard = some (j, b)) (hj : getO l j = some ⟨some e, p1, t1, q1, a1, g1⟩) (hv : look? L e = some (.bool c))
    (hp : c = true) (ht : HS tl P base n ((e, .bool true) :: L) f A (.ops l (o :: rest) q)) : HS tl P base n L f A (.ops l (o :: rest) q) :=
  HS.gset hg hj hv (fun _ => ht) (fun h => by rw [hp] at h; cases h)
theorem HS.gfalse {o : Oper} {j : Nat} {b : Bool} {c : Bool} {e : Nat} {p1 : Op} {t1 : TypeId} {q1 : String} {a1 : Array Edge} {g1 : Option (Nat × Bool)} (hg : o.guard = some (j, b)) (hj : getO l j = some ⟨some e, p1, t1, q1, a1, g1⟩) (hv : look? L e = some (.bool c))
    (hp : c = false) (ht : HS tl P base n ((e, .bool false) :: L) f A (.ops l (o :: rest) q)) : HS tl P base n L f A (.ops l (o :: rest) q) :=
  HS.gset hg hj hv (fun h => by rw [hp] at h; cases h) (fun _ => ht)
theorem HS.fieldAddr {st : TypeId} {x : Operand} {i b off m : Nat} {fs : List Field} {nm tg pk : String} {ft : TypeId} {fo bo : Nat} {em : Bool} [hu : Und P st (.struct fs.toArray)] (hw : want? l L gd = true)
    (hx : ev? L x = some (.pointer (some ⟨b, off, none⟩))) (hf : nthF fs i = some ⟨nm, ft, fo, em, tg, pk, bo⟩) (hs : Siz P ft (m + 1)) (hd : Nat.ble (d + 1) n = true)
    (k : HS tl P base n ((d, .pointer (some ⟨b, off + fo, none⟩)) :: L) f A (.ops l rest q)) : HS tl P base n L f A (.ops l (⟨some d, .fieldAddr st x i, ty, pos, af, gd⟩ :: rest) q) :=
  HS.opV hw hd (fun a w hfr _ => by
    rw [nthF_eq] at hf
    simp [execOp, Instr.fieldAt, hfr.eval hx, hu.run, hf, Instr.sureAddr, fieldPlace, hs.run, add_none]) k
theorem HS.load1 {t : TypeId} {dd : TypeDesc} {x : Operand} {b off : Nat} {v : Value} [hu : Und P t dd] (hw : want? l L gd = true) (hx : ev? L x = some (.pointer (some ⟨b, off, none⟩))) (ha : aggD dd = false)
    (hr : Rd1 f A b off v) (hd : Nat.ble (d + 1) n = true)
    (k : HS tl P base n ((d, v) :: L) f A (.ops l rest q)) : HS tl P base n L f A (.ops l (⟨some d, .load t x, ty, pos, af, gd⟩ :: rest) q) :=
  HS.opV hw hd (fun a w hfr s => by simp [execOp, hfr.eval hx, run_loadAt1 hu ha (hr base w s)]) k
theorem HS.loadN {t : TypeId} {dd : TypeDesc} {m : Nat} {x : Operand} {b off : Nat} {ls : List Value} [hu : Und P t dd] [hs : Siz P t m] (hw : want? l L gd = true) (hx : ev? L x = some (.pointer (some ⟨b, off, none⟩))) (ha : aggD dd = true)
    (hr : Rd f A b off ls) (hm : ls.length = m) (hd : Nat.ble (d + 1) n = true)
    (k : HS tl P base n ((d, .agg ls.toArray) :: L) f A (.ops l rest q)) : HS tl P base n L f A (.ops l (⟨some d, .load t x, ty, pos, af, gd⟩ :: rest) q) :=
  HS.opV hw hd (fun a w hfr s => by simp [execOp, hfr.eval hx, run_loadAtN hu ha hs (hr base w s) hm]) k
theorem HS.len_slice {t e : TypeId} {x : Operand} {p : Option Addr} {m c : Nat} [hu : Und P t (.slice e)] (hw : want? l L gd = true) (hx : ev? L x = some (.slice p m c)) (hd : Nat.ble (d + 1) n = true)
    (k : HS tl P base n ((d, .int .i64 (m : Nat)) :: L) f A (.ops l rest q)) : HS tl P base n L f A (.ops l (⟨some d, .call ⟨.builtin .len, #[x], #[t]⟩, ty, pos, af, gd⟩ :: rest) q) :=
  HS.opV hw hd (fun a w hfr _ => by
    simp [execOp, resolve, invoke, builtin, Builtin.len_, hfr.eval hx, hu.run, goInt]) k
theorem HS.len_string {t : TypeId} {x : Operand} {s : ByteArray} [hu : Und P t .string] (hw : want? l L gd = true) (hx : ev? L x = some (.string s)) (hd : Nat.ble (d + 1) n = true)
    (k : HS tl P base n ((d, .int .i64 (s.size : Nat)) :: L) f A (.ops l rest q)) : HS tl P base n L f A (.ops l (⟨some d, .call ⟨.builtin .len, #[x], #[t]⟩, ty, pos, af, gd⟩ :: rest) q) :=
  HS.opV hw hd (fun a w hfr _ => by
    simp [execOp, resolve, invoke, builtin, Builtin.len_, hfr.eval hx, hu.run, goInt]) k
theorem HS.index_slice {t e : TypeId} {x y : Operand} {b off m c i sz : Nat} {ik : IntKind} {z : Int} [hu : Und P t (.slice e)] [hs : Siz P e sz] (hw : want? l L gd = true)
    (hx : ev? L x = some (.slice (some ⟨b, off, none⟩) m c)) (hy : ev? L y = some (.int ik z)) (hq : z = (i : Nat)) (hi : i < m) (hd : Nat.ble (d + 1) n = true)
    (k : HS tl P base n ((d, .pointer (some ⟨b, off + i * sz, none⟩)) :: L) f A (.ops l rest q)) : HS tl P base n L f A (.ops l (⟨some d, .indexAddr t x y, ty, pos, af, gd⟩ :: rest) q) :=
  HS.opV hw hd (fun a w hfr _ => by
    subst hq
    simp only [execOp, Instr.indexAt, hfr.eval hx, hfr.eval hy, Sem.run_bind, asIntOf, Sem.run_pure, Result.andThen_ok, hu.run]
    simp [hi, hs.run, add_none]) k
theorem HS.index_array {t e : TypeId} {x y : Operand} {b off m i sz : Nat} {ik : IntKind} {z : Int} [hu : Und P t (.array m e)] [hs : Siz P e sz] (hw : want? l L gd = true)
    (hx : ev? L x = some (.pointer (some ⟨b, off, none⟩))) (hy : ev? L y = some (.int ik z)) (hq : z = (i : Nat)) (hi : i < m) (hd : Nat.ble (d + 1) n = true)
    (k : HS tl P base n ((d, .pointer (some ⟨b, off + i * sz, none⟩)) :: L) f A (.ops l rest q)) : HS tl P base n L f A (.ops l (⟨some d, .indexAddr t x y, ty, pos, af, gd⟩ :: rest) q) :=
  HS.opV hw hd (fun a w hfr _ => by
    subst hq
    simp only [execOp, Instr.indexAt, hfr.eval hx, hfr.eval hy, Sem.run_bind, asIntOf, Sem.run_pure, Result.andThen_ok, hu.run, Instr.sureAddr]
    simp [hi, hs.run, add_none]) k
theorem HS.index1 {t e : TypeId} {x y : Operand} {b off m c i : Nat} {ik : IntKind} {z : Int} [hu : Und P t (.slice e)] [hs : Siz P e 1] (hw : want? l L gd = true)
    (hx : ev? L x = some (.slice (some ⟨b, off, none⟩) m c)) (hy : ev? L y = some (.int ik z)) (hq : z = (i : Nat)) (hi : i < m) (hd : Nat.ble (d + 1) n = true)
    (k : HS tl P base n ((d, .pointer (some ⟨b, off + i, none⟩)) :: L) f A (.ops l rest q)) : HS tl P base n L f A (.ops l (⟨some d, .indexAddr t x y, ty, pos, af, gd⟩ :: rest) q) :=
  HS.opV hw hd (fun a w hfr _ => by
    subst hq
    simp only [execOp, Instr.indexAt, hfr.eval hx, hfr.eval hy, Sem.run_bind, asIntOf, Sem.run_pure, Result.andThen_ok, hu.run]
    simp [hi, hs.run, add_none]) k
theorem HS.index0 {t e : TypeId} {x y : Operand} {b m c i sz : Nat} {ik : IntKind} {z : Int} [hu : Und P t (.slice e)] [hs : Siz P e sz] (hw : want? l L gd = true)
    (hx : ev? L x = some (.slice (some ⟨b, 0, none⟩) m c)) (hy : ev? L y = some (.int ik z)) (hq : z = (i : Nat)) (hi : i < m) (hd : Nat.ble (d + 1) n = true)
    (k : HS tl P base n ((d, .pointer (some ⟨b, i * sz, none⟩)) :: L) f A (.ops l rest q)) : HS tl P base n L f A (.ops l (⟨some d, .indexAddr t x y, ty, pos, af, gd⟩ :: rest) q) :=
  HS.opV hw hd (fun a w hfr _ => by
    subst hq
    simp only [execOp, Instr.indexAt, hfr.eval hx, hfr.eval hy, Sem.run_bind, asIntOf, Sem.run_pure, Result.andThen_ok, hu.run]
    simp [hi, hs.run, add_none]) k
theorem HS.lookup {t kt et : TypeId} {x y : Operand} {b : Nat} {m : List (κ × Value)} {k : κ} {z v kv : Value} {A' : List HP} [hu : Und P t (.map kt et)] [hk : KeyT P kt enc] [hz : Zer P et z] (hw : want? l L gd = true)
    (hx : ev? L x = some (.map (some b))) (hy : ev? L y = some kv) (hA : At A (mp b enc m) A' (mp b enc m)) (hkv : kv = enc k) (hv : (getKV m k).getD z = v) (hd : Nat.ble (d + 1) n = true)
    (kk : HS tl P base n ((d, v) :: L) f A (.ops l rest q)) : HS tl P base n L f A (.ops l (⟨some d, .lookup t x y false, ty, pos, af, gd⟩ :: rest) q) :=
  HS.opV hw hd (fun a w hfr s => by
    subst hv; subst hkv
    have h := run_lookup_mp (c := false) (k := k) hu hk hz s hA
    simp only [execOp, hfr.eval hx, hfr.eval hy, Sem.run_bind, h, Result.andThen_ok, Sem.run_pure]
    rfl) kk
theorem HS.lookup2 {t kt et : TypeId} {x y : Operand} {b : Nat} {m : List (κ × Value)} {k : κ} {z v kv : Value} {i : Bool} {A' : List HP} [hu : Und P t (.map kt et)] [hk : KeyT P kt enc] [hz : Zer P et z] (hw : want? l L gd = true)
    (hx : ev? L x = some (.map (some b))) (hy : ev? L y = some kv) (hA : At A (mp b enc m) A' (mp b enc m)) (hkv : kv = enc k) (hv : (getKV m k).getD z = v) (hi : (getKV m k).isSome = i) (hd : Nat.ble (d + 1) n = true)
    (kk : HS tl P base n ((d, .tuple #[v, .bool i]) :: L) f A (.ops l rest q)) : HS tl P base n L f A (.ops l (⟨some d, .lookup t x y true, ty, pos, af, gd⟩ :: rest) q) :=
  HS.opV hw hd (fun a w hfr s => by
    subst hv; subst hkv; subst hi
    have h := run_lookup_mp (c := true) (k := k) hu hk hz s hA
    simp only [execOp, hfr.eval hx, hfr.eval hy, Sem.run_bind, h, Result.andThen_ok, Sem.run_pure]
    rfl) kk
theorem HS.len_map {t kt et : TypeId} {x : Operand} {b : Nat} {m : List (κ × Value)} {A' : List HP} [hu : Und P t (.map kt et)] (hw : want? l L gd = true)
    (hx : ev? L x = some (.map (some b))) (hA : At A (mp b enc m) A' (mp b enc m)) (hd : Nat.ble (d + 1) n = true)
    (kk : HS tl P base n ((d, .int .i64 (m.length : Nat)) :: L) f A (.ops l rest q)) : HS tl P base n L f A (.ops l (⟨some d, .call ⟨.builtin .len, #[x], #[t]⟩, ty, pos, af, gd⟩ :: rest) q) :=
  HS.opV hw hd (fun a w hfr s => by
    obtain ⟨es, clock, hm, _, _, _, hb⟩ := s.mp_at hA
    subst hm
    simp [execOp, resolve, invoke, builtin, Builtin.len_, hfr.eval hx, hu.run, goInt, run_getMap hb]) kk
end rules
end Go.Proofs.Ytfplfddobjbbnaa
