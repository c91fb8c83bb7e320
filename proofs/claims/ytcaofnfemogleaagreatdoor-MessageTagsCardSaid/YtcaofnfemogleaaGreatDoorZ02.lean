/- Parts of the proof, one behind the other, each under its own heading. No conditions. -/
import Derived.Test.YtcaofnfemogleaaGreatDoorZ01
import Derived.Orders
import Derived.StillTail
import Derived.IntWalk
import Derived.ChangeKeysEq
import Derived.Laws.StructEq
/- The engine, part f: a region that draws its order. Its operations that only read are taken first; the others come one at a time. No program in sight; no conditions. -/
namespace Go.Proofs.YtcaofnfemogleaaGreatDoor
set_option linter.unusedSectionVars false
set_option linter.unusedSimpArgs false
set_option linter.unusedVariables false
open Go

section
variable {P : Program} {ops : Array Oper} {Q : Exit → Act → World → Prop} {C : World → Prop}

/-- Whatever order is picked from here on; all worlds on the way to the cut are of the class C. -/
def wpAnyC (P : Program) (C : World → Prop) (ops : Array Oper) (Q : Exit → Act → World → Prop) (cut : Array Bool) : Nat → Array Bool → Act → World → Prop
  | 0, listed, a, w => C w ∧ Region.ready .any ops listed = [] ∧ Q .normal a w
  | fuel + 1, listed, a, w => C w ∧ if listed = cut then wpAny P .any ops Q (fuel + 1) listed a w else ((Region.ready .any ops listed = [] → Q .normal a w) ∧
    ∀ i ∈ Region.ready .any ops listed, wpOp P ops Q i (wpAnyC P C ops Q cut fuel (listed.setIfInBounds i true)) a w)

theorem wpAnyC.any {cut : Array Bool} : ∀ (fuel : Nat) (listed : Array Bool) (a : Act) (w : World), wpAnyC P C ops Q cut fuel listed a w → wpAny P .any ops Q fuel listed a w
  | 0, _, _, _, h => h.2
  | fuel + 1, listed, _, _, h => by
    have h2 := h.2
    split at h2
    · exact h2
    · exact ⟨h2.1, fun i hi => wpOp_mono (fun a w => wpAnyC.any fuel _ a w) (h2.2 i hi)⟩
theorem wpAnyC.cls {cut : Array Bool} {fuel : Nat} {listed : Array Bool} {a : Act} {w : World} (h : wpAnyC P C ops Q cut fuel listed a w) : C w := by
  cases fuel <;> exact h.1

/-- An operation's value in every world of the class. -/
def YieldsC (P : Program) (C : World → Prop) (ops : Array Oper) (o : Oper) (v : Value) (a : Act) : Prop :=
  (Region.wanted o (yielded ops a.tmps) = true ∧ ∀ w, C w → (execOp a.eval o).run P w = .ok (.value v) w) ∨
  (Region.wanted o (yielded ops a.tmps) = false ∧ v = undef)
theorem YieldsC.wpOp {i : Nat} {o : Oper} {v : Value} {a : Act} (hi : ops[i]? = some o) (hy : YieldsC P C ops o v a)
    {K : Act → World → Prop} {w : World} (hc : C w) (h : K (a.put o.dst v) w) : wpOp P ops Q i K a w := by
  unfold Go.wpOp
  simp only [hi]
  rcases hy with ⟨hw, hv⟩ | ⟨hw, rfl⟩
  · simp only [hw, if_true, Oper.wp, hv w hc, Oper.upon]; exact .inl h
  · simp only [hw, Bool.false_eq_true, if_false]; exact h
theorem YieldsC.of_same {o : Oper} {v : Value} {a a' : Act} (hy : YieldsC P C ops o v a) (he : execOp a'.eval o = execOp a.eval o)
    (hw : Region.wanted o (yielded ops a'.tmps) = Region.wanted o (yielded ops a.tmps)) : YieldsC P C ops o v a' := by
  unfold YieldsC at *
  rw [he, hw]
  exact hy

theorem wpOp_putC {j : Nat} {oi oj : Oper} {v : Value} (hj : ops[j]? = some oj) (hap : oi.apart ops oj = true)
    (hsi : ∀ cs b, oi.op ≠ .select cs b) (hsj : ∀ cs b, oj.op ≠ .select cs b)
    (hQ : ∀ c a w, Q (.panic c) (a.put oi.dst v) w → Q (.panic c) a w) {K : Act → World → Prop} {a : Act} {w : World}
    (hy : YieldsC P C ops oi v a) (h : wpOp P ops Q j K (a.put oi.dst v) w) :
    wpOp P ops Q j (fun a' w' => YieldsC P C ops oi v a' ∧ K (a'.put oi.dst v) w') a w := by
  obtain ⟨h1, h2, h3⟩ := Oper.apart_spec hap
  have keep : ∀ (a : Act), YieldsC P C ops oi v a → ∀ u, YieldsC P C ops oi v (a.put oj.dst u) := fun a hy u =>
    hy.of_same (execOp_put oi hsi a oj.dst u h3) (wanted_put oi a oj.dst u h3)
  have keepD : ∀ d, YieldsC P C ops oi v { a with defers := d :: a.defers } := fun d => hy.of_same rfl rfl
  unfold wpOp at *
  simp only [hj] at *
  rw [wanted_put oj a oi.dst v h1] at h
  split
  · rename_i hw
    simp only [hw, if_true] at h
    rcases h with h | ⟨hasks, hlets⟩
    case inr => exact .inr ⟨by unfold Oper.asks at *; rw [execOp_put oj hsj a oi.dst v h1] at hasks; exact hasks, hlets⟩
    refine .inl ?_
    unfold Oper.wp at *
    rw [execOp_put oj hsj a oi.dst v h1] at h
    generalize (execOp a.eval oj).run P w = r at *
    cases r with
    | ok n w' =>
      cases n <;> simp only [Oper.upon] at h ⊢
      case value u => exact ⟨keep a hy u, by rw [← Act.put_comm a v u h2]; exact h⟩
      case skip => exact ⟨keep a hy _, by rw [← Act.put_comm a v undef h2]; exact h⟩
      case defer d =>
        refine ⟨keep _ (keepD d) _, ?_⟩
        rw [← Act.put_comm _ v undef h2, ← Act.put_defers]
        exact h
      case enter f args =>
        refine Calls.mono h fun e w'' he => ?_
        cases e with
        | returned u => exact ⟨keep a hy u, by rw [← Act.put_comm a v u h2]; exact he⟩
        | panicked c => exact hQ _ _ _ he
        | outgrown => exact he
      case row row args => exact Rows.mono h fun u w'' he => ⟨keep a hy u, by rw [← Act.put_comm a v u h2]; exact he⟩
    | halt x w' =>
      cases x <;> simp only [Oper.upon] at h ⊢
      case panic u => exact hQ _ _ _ h
  · rename_i hw
    simp only [hw] at h
    exact ⟨keep a hy _, by rw [← Act.put_comm a v undef h2]; exact h⟩

/-- What is listed came behind all that it waits for. -/
def closedB (ops : Array Oper) (listed : Array Bool) : Bool := (List.range ops.size).all fun k => !listed.getD k false || match ops[k]? with
  | some o => o.after.all fun e => !Region.binds .any e || listed.getD e.on false
  | none => true
def Closed (ops : Array Oper) (listed : Array Bool) : Prop := ∀ (k : Nat) (o : Oper), ops[k]? = some o → listed.getD k false = true → ∀ e ∈ o.after, Region.binds .any e = true → listed.getD e.on false = true
theorem closed_of {ops : Array Oper} {listed : Array Bool} (h : closedB ops listed = true) : Closed ops listed := fun k o ho hk e he hb => by
  have hlt : k < ops.size := (Array.getElem?_eq_some_iff.1 ho).1
  have := List.all_eq_true.1 h k (List.mem_range.2 hlt)
  rw [ho, hk] at this
  simp only [Bool.not_true, Bool.false_or, Array.all_eq_true_iff_forall_mem] at this
  have h2 := this e he
  rw [hb] at h2
  simpa using h2
theorem Closed.put {ops : Array Oper} {listed : Array Bool} (h : Closed ops listed) {j : Nat} (hj : j ∈ Region.ready .any ops listed) : Closed ops (listed.setIfInBounds j true) := fun k o ho hk e he hb => by
  obtain ⟨hjun, oj, hoj, hall⟩ := mem_ready.1 hj
  have key : ∀ m, listed.getD m false = true → (listed.setIfInBounds j true).getD m false = true := fun m hm => by
    by_cases c : j = m
    · subst c
      have : j < listed.size := by
        rcases Nat.lt_or_ge j listed.size with h' | h'
        · exact h'
        · simp [Array.getElem?_eq_none h'] at hm
      simp [this]
    · rw [getD_set_ne false c]; exact hm
  by_cases c : j = k
  · subst c
    rw [hoj] at ho
    cases ho
    exact key _ (hall e he hb)
  · rw [getD_set_ne false c] at hk
    exact key _ (h k o ho hk e he hb)
/-- Nothing beyond the cut comes ahead of i. -/
def barB (ops : Array Oper) (cut : Array Bool) (i : Nat) : Bool :=
  cut.size == 0 || (cut.getD i false && (((List.range ops.size).any fun k => !(k == i) && cut.getD k false && match ops[k]? with
    | some o => o.after.any fun e => Region.binds .any e && e.on == i
    | none => false) || (Region.ready .any ops (cut.setIfInBounds i false)).all fun j => j == i || cut.getD j false))
theorem ready_false {ops : Array Oper} {listed : Array Bool} {i : Nat} (hi : i ∈ Region.ready .any ops listed) : listed.getD i true = false := (mem_ready.1 hi).1
theorem getD_both {l : Array Bool} {i : Nat} (h : l.getD i true = false) : i < l.size ∧ l.getD i false = false := by
  rcases Nat.lt_or_ge i l.size with h' | h'
  · exact ⟨h', by simpa [h'] using h⟩
  · simp [Array.getElem?_eq_none h'] at h
theorem barB_ne {ops : Array Oper} {cut listed : Array Bool} {i : Nat} (h : barB ops cut i = true) (hi : i ∈ Region.ready .any ops listed) : listed ≠ cut := by
  rintro rfl
  have h1 := getD_both (ready_false hi)
  unfold barB at h
  rw [h1.2] at h
  simp at h
  have := h1.1
  rw [h] at this
  simp at this
theorem barB_two {ops : Array Oper} {cut listed : Array Bool} {i j : Nat} (h : barB ops cut i = true) (hcl : Closed ops listed) (hi : i ∈ Region.ready .any ops listed) (hj : j ∈ Region.ready .any ops listed) (hji : j ≠ i) : listed.setIfInBounds i true ≠ cut := by
  intro e
  have h1 := getD_both (ready_false hi)
  have h2 := getD_both (ready_false hj)
  have e2 : cut.setIfInBounds i false = listed := by
    rw [← e]
    apply Array.ext_getElem?
    intro k
    by_cases hk : i = k
    · subst hk
      have := h1.1
      have h3 := h1.2
      simp [this] at h3
      simp [this, h3]
    · rw [Array.getElem?_setIfInBounds_ne hk, Array.getElem?_setIfInBounds_ne hk]
  unfold barB at h
  rw [e2] at h
  have hs : cut.size = listed.size := by rw [← e]; simp
  have h4 : (cut.size == 0) = false := by
    have := h1.1
    rw [beq_eq_false_iff_ne]; omega
  rw [h4, Bool.false_or, Bool.and_eq_true, Bool.or_eq_true] at h
  rcases h.2 with hdep | h7
  · obtain ⟨k, hk, hk2⟩ := List.any_eq_true.1 hdep
    simp only [Bool.and_eq_true, Bool.not_eq_true', beq_eq_false_iff_ne] at hk2
    obtain ⟨⟨hki, hck⟩, hm⟩ := hk2
    have hlk : listed.getD k false = true := by
      rw [← e, getD_set_ne false (Ne.symm hki)] at hck; exact hck
    cases ho : ops[k]? with
    | none => rw [ho] at hm; cases hm
    | some o =>
      rw [ho] at hm
      obtain ⟨x, hx, hx2⟩ := Array.any_eq_true'.1 hm
      simp only [Bool.and_eq_true, beq_iff_eq] at hx2
      have := hcl k o ho hlk x hx hx2.1
      rw [hx2.2, h1.2] at this
      cases this
  have h5 := List.all_eq_true.1 h7 j hj
  have h6 : cut.getD j false = false := by
    rw [← e, getD_set_ne false (Ne.symm hji)]
    exact h2.2
  rw [h6] at h5
  simp at h5
  exact hji h5

/-- It may be taken first. -/
theorem wpAnyC_first {cut : Array Bool} {i : Nat} {oi : Oper} {v : Value} (hi : ops[i]? = some oi) (hsel : ∀ (j : Nat) (o : Oper) cs b, ops[j]? = some o → o.op ≠ .select cs b)
    (hQ : ∀ c a w, Q (.panic c) (a.put oi.dst v) w → Q (.panic c) a w) (hbar : barB ops cut i = true) :
    ∀ (fuel : Nat) (listed : Array Bool) (a : Act) (w : World),
      (∀ j oj, ops[j]? = some oj → j ≠ i → listed.getD j true = false → (∀ e ∈ oj.after, Region.binds .any e = true → e.on ≠ i) → oi.apart ops oj = true) →
      i ∈ Region.ready .any ops listed → Closed ops listed → YieldsC P C ops oi v a →
      wpAnyC P C ops Q cut fuel (listed.setIfInBounds i true) (a.put oi.dst v) w → wpAnyC P C ops Q cut (fuel + 1) listed a w := by
  intro fuel
  induction fuel with
  | zero =>
    intro listed a w _ hr hcl hy H
    refine ⟨H.1, ?_⟩
    rw [if_neg (barB_ne hbar hr)]
    refine ⟨fun h => (by rw [h] at hr; cases hr), fun j hj => ?_⟩
    by_cases hji : j = i
    · subst hji; exact hy.wpOp hi H.1 H
    · have := ready_mono hj hji
      rw [H.2.1] at this
      cases this
  | succ fuel ih =>
    intro listed a w hfree hr hcl hy H
    refine ⟨H.1, ?_⟩
    rw [if_neg (barB_ne hbar hr)]
    refine ⟨fun h => (by rw [h] at hr; cases hr), fun j hj => ?_⟩
    by_cases hji : j = i
    · subst hji; exact hy.wpOp hi H.1 H
    · have H2 := H.2
      rw [if_neg (barB_two hbar hcl hr hj hji)] at H2
      have h1 := H2.2 j (ready_mono hj hji)
      obtain ⟨hjun, oj, hoj, hall⟩ := mem_ready.1 hj
      have hnot : ∀ e ∈ oj.after, Region.binds .any e = true → e.on ≠ i := fun e he hb heq => by
        have h1 := hall e he hb
        have h0 := (mem_ready.1 hr).1
        rw [heq] at h1
        rcases Nat.lt_or_ge i listed.size with h' | h'
        · simp [h'] at h0 h1; rw [h0] at h1; cases h1
        · simp [Array.getElem?_eq_none h'] at h1
      have h2 := wpOp_putC hoj (hfree j oj hoj hji hjun hnot) (fun cs b => hsel i oi cs b hi) (fun cs b => hsel j oj cs b hoj) hQ hy h1
      have hfree' : ∀ k ok, ops[k]? = some ok → k ≠ i → (listed.setIfInBounds j true).getD k true = false →
          (∀ e ∈ ok.after, Region.binds .any e = true → e.on ≠ i) → oi.apart ops ok = true := fun k ok hk hki hun hno => by
        refine hfree k ok hk hki ?_ hno
        by_cases hjk : j = k
        · subst hjk; exact hjun
        · rw [getD_set_ne true hjk] at hun; exact hun
      refine wpOp_mono (fun a' w' h3 => ih (listed.setIfInBounds j true) a' w' hfree' (ready_mono hr (Ne.symm hji)) (hcl.put hj) h3.1 ?_) h2
      rw [Array.setIfInBounds_comm _ _ hji]
      exact h3.2
theorem wpAnyC_take {cut : Array Bool} {i : Nat} {oi : Oper} {v : Value} {fuel : Nat} {listed : Array Bool} {a : Act} {w : World} (hi : ops[i]? = some oi)
    (hs : Region.noSelect ops = true) (hf : Region.free .any ops listed i = true) (hbar : barB ops cut i = true) (hcl : closedB ops listed = true) (hr : (Region.ready .any ops listed).contains i = true)
    (hQ : ∀ c a w, Q (.panic c) (a.put oi.dst v) w → Q (.panic c) a w) (hy : YieldsC P C ops oi v a)
    (h : wpAnyC P C ops Q cut fuel (listed.setIfInBounds i true) (a.put oi.dst v) w) : wpAnyC P C ops Q cut (fuel + 1) listed a w :=
  wpAnyC_first hi (Region.noSelect_spec hs) hQ hbar fuel listed a w (Region.free_spec hi hf) (by simpa using hr) (closed_of hcl) hy h
theorem wpAnyC_one {cut : Array Bool} {i : Nat} {fuel : Nat} {listed : Array Bool} {a : Act} {w : World} (hr : Region.ready .any ops listed = [i]) (hne : listed ≠ cut) (hc : C w)
    (h : wpOp P ops Q i (wpAnyC P C ops Q cut fuel (listed.setIfInBounds i true)) a w) : wpAnyC P C ops Q cut (fuel + 1) listed a w := by
  refine ⟨hc, ?_⟩
  rw [if_neg hne]
  exact ⟨(fun h0 => by rw [hr] at h0; simp at h0), (fun j hj => by rw [hr] at hj; simp at hj; subst hj; exact h)⟩
end

/-- How far a drawing region has come: what is listed; where this phase ends; how many operations are left behind it. -/
structure Lst where
  a : Array Bool
  cut : Array Bool
  left : Nat
  /-- The rest is gone through otherwise. -/
  opn : Bool
def Lst.setIfInBounds (l : Lst) (i : Nat) (b : Bool) : Lst := ⟨l.a.setIfInBounds i b, l.cut, l.left, l.opn⟩

/-- An order in which the operations are gone through: (i, false): i only reads, may be taken first; (i, true): nothing but i may come now. -/
def ordOK (ops : Array Oper) : Lst → List (Nat × Bool) → Bool
  | listed, [] => match listed.opn with
    | true => true
    | false => match listed.left with
      | 0 => Region.ready .any ops listed.a == []
      | _ + 1 => listed.a == listed.cut
  | listed, (i, true) :: r => Region.ready .any ops listed.a == [i] && (listed.a != listed.cut) && ordOK ops (listed.setIfInBounds i true) r
  | listed, (i, false) :: r => (Region.ready .any ops listed.a).contains i && Region.free .any ops listed.a i && barB ops listed.cut i && closedB ops listed.a && ordOK ops (listed.setIfInBounds i true) r

def pickOps (l : List Oper) : List (Nat × Bool) → List Oper
  | [] => []
  | (i, _) :: r => match getO l i with
    | some o => o :: pickOps l r
    | none => []

/-- A panic's way out does not look at the temporaries. -/
def Post.blind (P : Program) (q : Post) : Prop := ∀ (c : List PanicEntry) (a : Act) (dst : Option Tmp) (v : Value) (w : World), q.den P (.panic c) (a.put dst v) w → q.den P (.panic c) a w

structure Ext where
  listed : Lst
  todo : List (Nat × Bool)
/-- In a region that draws: S is what the reads may read; V the rest of what is owned. -/
structure HQ (V : List HP) (ξ : Ext) (P : Program) (base : World) (n : Nat) (L : Env) (f : Frag) (S : List HP) (K : Kont) : Prop where
  out : ∀ l q, K = .ops l (pickOps l ξ.todo) q → Region.noSelect l.toArray = true → q.blind P → ordOK l.toArray ξ.listed ξ.todo = true → (∀ t ∈ ξ.todo, (getO l t.1).isSome) →
    ∀ a w, Fr n a L → Sat base w f (S ++ V) → wpAnyC P (fun w => ∃ V, Sat base w f (S ++ V)) l.toArray (q.den P) ξ.listed.cut (ξ.todo.length + ξ.listed.left) ξ.listed.a a w

section rules
variable {P : Program} {base : World} {n : Nat} {L : Env} {f : Frag} {A V : List HP} {q : Post} {ξ : Ext}
variable {l rest : List Oper} {d : Nat} {ty : TypeId} {pos : String} {af : Array Edge} {gd : Option (Nat × Bool)}

theorem sat_left {w : World} {B : List HP} (s : Sat base w f (A ++ B)) : Sat base w f A := by
  obtain ⟨a1, a2, a3, a4, a5, m, hm, hd, hw⟩ := s
  rw [stars_append] at hm
  obtain ⟨m1, m2, dj, rfl, h1, _⟩ := hm
  exact ⟨a1, a2, a3, a4, a5, m1, h1, (Dj.un_right.1 hd).1, fun k o hk => hw k o (by simp [un, hk])⟩

theorem HQ.opV {op : Op} {v : Value} (hw : want? l L gd = true) (hd : Nat.ble (d + 1) n = true)
    (hx : ∀ a w, Fr n a L → Sat base w f A → (execOp a.eval ⟨some d, op, ty, pos, af, gd⟩).run P w = .ok (.value v) w)
    {ls : Lst} {ti : Nat} {tt : List (Nat × Bool)}
    (k : HQ V ⟨ls.setIfInBounds ti true, tt⟩ P base n ((d, v) :: L) f A (.ops l rest q)) : HQ V ⟨ls, (ti, false) :: tt⟩ P base n L f A (.ops l (⟨some d, op, ty, pos, af, gd⟩ :: rest) q) := .mk fun l' q' hK hs hb ho hg a w hf s => by
  simp only [Kont.ops.injEq] at hK
  obtain ⟨rfl, hp, rfl⟩ := hK
  have hgi := hg (ti, false) (by simp)
  cases hgo : getO l ti with
  | none => simp [hgo] at hgi
  | some o =>
    simp only [pickOps, hgo, List.cons.injEq] at hp
    obtain ⟨ho1, hp2⟩ := hp
    simp only [ordOK, Bool.and_eq_true] at ho
    have hk := k.out l q (by rw [hp2]) hs hb ho.2 (fun t' ht => hg t' (by simp at ht ⊢; exact .inr ht)) _ w (hf.put (Nat.le_of_ble_eq_true hd) v) s
    subst ho1
    rw [show ((ti, false) :: tt).length + ls.left = (tt.length + ls.left) + 1 by simp only [List.length_cons]; omega]
    exact wpAnyC_take (oi := ⟨some d, op, ty, pos, af, gd⟩) (v := v) (by rw [List.getElem?_toArray, ← getO_eq]; exact hgo) hs ho.1.1.1.2 ho.1.1.2 ho.1.2 ho.1.1.1.1 (fun c a w h => hb c a _ _ w h) (.inl ⟨hf.want hw, fun w' ⟨V', s'⟩ => hx a w' hf (sat_left s')⟩) hk
theorem HQ.pass {op : Op} (hw : skip? l L gd = true) (hd : Nat.ble (d + 1) n = true) {ls : Lst} {ti : Nat} {tt : List (Nat × Bool)}
    (k : HQ V ⟨ls.setIfInBounds ti true, tt⟩ P base n ((d, .tuple #[]) :: L) f A (.ops l rest q)) : HQ V ⟨ls, (ti, false) :: tt⟩ P base n L f A (.ops l (⟨some d, op, ty, pos, af, gd⟩ :: rest) q) := .mk fun l' q' hK hs hb ho hg a w hf s => by
  simp only [Kont.ops.injEq] at hK
  obtain ⟨rfl, hp, rfl⟩ := hK
  have hgi := hg (ti, false) (by simp)
  cases hgo : getO l ti with
  | none => simp [hgo] at hgi
  | some o =>
    simp only [pickOps, hgo, List.cons.injEq] at hp
    obtain ⟨ho1, hp2⟩ := hp
    simp only [ordOK, Bool.and_eq_true] at ho
    have hk := k.out l q (by rw [hp2]) hs hb ho.2 (fun t' ht => hg t' (by simp at ht ⊢; exact .inr ht)) _ w (hf.put (Nat.le_of_ble_eq_true hd) _) s
    subst ho1
    rw [show ((ti, false) :: tt).length + ls.left = (tt.length + ls.left) + 1 by simp only [List.length_cons]; omega]
    exact wpAnyC_take (oi := ⟨some d, op, ty, pos, af, gd⟩) (v := undef) (by rw [List.getElem?_toArray, ← getO_eq]; exact hgo) hs ho.1.1.1.2 ho.1.1.2 ho.1.2 ho.1.1.1.1 (fun c a w h => hb c a _ _ w h) (.inr ⟨hf.skip hw, rfl⟩) hk

/-- What comes behind an operation that may write. -/
def backPost (P : Program) (base : World) (f : Frag) (S : List HP) (ξ : Ext) (l : List Oper) (q : Post) : Exit → Act → World → Prop
  | .normal, a, w => wpAnyC P (fun w => ∃ V, Sat base w f (S ++ V)) l.toArray (q.den P) ξ.listed.cut (ξ.todo.length + ξ.listed.left) ξ.listed.a a w
  | e, a, w => q.den P e a w

theorem upon_mono {o : Oper} {a : Act} {K K' : Act → World → Prop} {Q Q' : Exit → Act → World → Prop} (h : ∀ a w, K a w → K' a w) (hq : ∀ c a w, Q (.panic c) a w → Q' (.panic c) a w) (ho : ∀ a w, Q .outgrown a w → Q' .outgrown a w) {w : World}
    (hh : o.wp P a w K Q) : o.wp P a w K' Q' := by
  unfold Oper.wp at *
  generalize (execOp a.eval o).run P w = r at *
  cases r with
  | ok n w' =>
    cases n <;> simp only [Oper.upon] at hh ⊢
    case value => exact h _ _ hh
    case skip => exact h _ _ hh
    case defer => exact h _ _ hh
    case enter =>
      refine Calls.mono hh fun e w'' he => ?_
      cases e with
      | returned v => exact h _ _ he
      | panicked c => exact hq _ _ _ he
      | outgrown => obtain ⟨x, y, z⟩ := he; exact ⟨x, y, ho _ _ z⟩
    case row => exact Rows.mono hh fun _ _ he => h _ _ he
  | halt x w' =>
    cases x <;> simp only [Oper.upon] at hh ⊢
    exact hq _ _ _ hh

/-- An operation that may write: nothing else may come now. -/
def evPost (P : Program) (base : World) (f : Frag) (S : List HP) (ξ : Ext) (l rest : List Oper) (q : Post) (e : Exit) (a : Act) (w : World) : Prop :=
  Region.noSelect l.toArray = true → q.blind P → ordOK l.toArray ξ.listed ξ.todo = true → (∀ t ∈ ξ.todo, (getO l t.1).isSome) → rest = pickOps l ξ.todo → backPost P base f S ξ l q e a w

theorem HQ.event {o : Oper} {ls : Lst} {i : Nat} {t : List (Nat × Bool)}
    (k : H P base n L f (A ++ V) (.ops l [o] (.fn (evPost P base f A ⟨ls.setIfInBounds i true, t⟩ l rest q)))) :
    HQ V ⟨ls, (i, true) :: t⟩ P base n L f A (.ops l (o :: rest) q) := .mk fun l' q' hK hs hb ho hg a w hf s => by
  simp only [Kont.ops.injEq] at hK
  obtain ⟨rfl, hp, rfl⟩ := hK
  have hgi := hg (i, true) (by simp)
  cases hgo : getO l i with
  | none => simp [hgo] at hgi
  | some o' =>
    simp only [pickOps, hgo, List.cons.injEq] at hp
    obtain ⟨rfl, hp2⟩ := hp
    simp only [ordOK, Bool.and_eq_true] at ho
    have hk := k.out a w hf s
    have hr : Region.ready .any l.toArray ls.a = [i] := by simpa using ho.1.1
    have hne : ls.a ≠ ls.cut := by simpa using ho.1.2
    rw [show ((i, true) :: t).length + ls.left = (t.length + ls.left) + 1 by simp only [List.length_cons]; omega]
    refine wpAnyC_one hr hne ⟨V, s⟩ ?_
    have h2 : ∀ t' ∈ t, (getO l t'.1).isSome := fun t' ht => hg t' (by simp at ht ⊢; exact .inr ht)
    unfold wpOp
    rw [List.getElem?_toArray, ← getO_eq, hgo]
    show if Region.wanted o (yielded l.toArray a.tmps) = true then _ else _
    have hk' : wpList P l.toArray (evPost P base f A ⟨ls.setIfInBounds i true, t⟩ l rest q) [o] a w := hk
    simp only [wpList] at hk'
    have e1 : ∀ a w, evPost P base f A ⟨ls.setIfInBounds i true, t⟩ l rest q .normal a w →
        wpAnyC P (fun w => ∃ V, Sat base w f (A ++ V)) l.toArray (q.den P) ls.cut (t.length + ls.left) (ls.a.setIfInBounds i true) a w := fun a w h => h hs hb ho.2 h2 hp2
    by_cases hw : Region.wanted o (yielded l.toArray a.tmps) = true
    · rw [if_pos hw] at hk' ⊢
      rcases hk' with h | ⟨hasks, x, y, z⟩
      · exact .inl (upon_mono e1 (fun c a w h => h hs hb ho.2 h2 hp2) (fun a w h => h hs hb ho.2 h2 hp2) h)
      · exact .inr ⟨hasks, x, y, z hs hb ho.2 h2 hp2⟩
    · rw [if_neg hw] at hk' ⊢
      exact e1 _ _ hk'

theorem H.back {B V' : List HP} (hB : B = A ++ V') (k : HQ V' ξ P base n L f A (.ops l rest q)) :
    H P base n L f B (.out .normal (.fn (evPost P base f A ξ l rest q))) := .mk fun a w hf s hs hb h1 h2 h3 => by
  subst hB; subst h3
  exact k.out l q rfl hs hb h1 h2 a w hf s

theorem HQ.nil {a cut : Array Bool} (k : H P base n L f (A ++ V) (.out .normal q)) : HQ V ⟨⟨a, cut, 0, false⟩, []⟩ P base n L f A (.ops l [] q) := .mk fun l' q' hK hs hb ho hg a w hf s => by
  simp only [Kont.ops.injEq] at hK
  obtain ⟨rfl, hp, rfl⟩ := hK
  exact ⟨⟨V, s⟩, by simpa [ordOK] using ho, k.out a w hf s⟩
theorem HQ.done {ls : Lst} (h0 : (ls.left, ls.opn) = (0, false)) (k : H P base n L f (A ++ V) (.out .normal q)) : HQ V ⟨ls, []⟩ P base n L f A (.ops l [] q) := by
  obtain ⟨a, cut, left, opn⟩ := ls
  simp only [Prod.mk.injEq] at h0
  obtain ⟨rfl, rfl⟩ := h0
  exact HQ.nil k

def lstAfter (a : Array Bool) (t : List (Nat × Bool)) : Array Bool := t.foldl (fun a x => a.setIfInBounds x.1 true) a
def cutOf (a : Array Bool) (t : List (Nat × Bool)) : Nat → Array Bool
  | 0 => #[]
  | _ + 1 => lstAfter a t
/-- At the cut: the next phase, in which other cells are read. -/
theorem HQ.next {ls : Lst} (todo : List (Nat × Bool)) (left : Nat) (hn : (ordOK l.toArray ⟨ls.a, cutOf ls.a todo left, left, false⟩ todo && todo.all (fun t => (getO l t.1).isSome) && (todo.length + left == ls.left) && Nat.blt 0 ls.left && !ls.opn) = true)
    {S' V' : List HP} (hB : A ++ V = S' ++ V') (k : HQ V' ⟨⟨ls.a, cutOf ls.a todo left, left, false⟩, todo⟩ P base n L f S' (.ops l (pickOps l todo) q)) : HQ V ⟨ls, []⟩ P base n L f A (.ops l [] q) := .mk fun l' q' hK hs hb ho hg a w hf s => by
  simp only [Kont.ops.injEq] at hK
  obtain ⟨rfl, hp, rfl⟩ := hK
  simp only [Bool.and_eq_true, List.all_eq_true, beq_iff_eq] at hn
  obtain ⟨⟨⟨⟨h1, h2⟩, h3⟩, h4⟩, h5⟩ := hn
  have s' := s
  rw [hB] at s'
  have := (k.out l q rfl hs hb h1 h2 a w hf s').any
  obtain ⟨la, lc, ll, lo⟩ := ls
  simp only [Bool.not_eq_true'] at h3 h4 h5 this ⊢
  subst h5
  cases ll with
  | zero => simp [Nat.blt] at h4
  | succ m =>
    have hcut : la = lc := by simpa [ordOK] using ho
    simp only [List.length_nil, Nat.zero_add]
    refine ⟨⟨V, s⟩, ?_⟩
    rw [if_pos hcut]
    rw [h3] at this
    exact this

/-- Operations k, k + 1, .. in their order, all of which only read. -/
def qt : Nat → Nat → List (Nat × Bool)
  | 0, _ => []
  | n + 1, k => (k, false) :: qt n (k + 1)
/-- A region that draws its order; its first phase. -/
theorem H.drawP {id : Nat} {B : List HP} (todo : List (Nat × Bool)) (left : Nat) (hm : P.follows .mixedOrders = true) (hn : (Region.noSelect l.toArray && ordOK l.toArray ⟨Array.replicate l.length false, cutOf (Array.replicate l.length false) todo left, left, false⟩ todo && todo.all (fun t => (getO l t.1).isSome) && (todo.length + left == l.length)) = true) (hb : q.blind P)
    {S V : List HP} (hB : B = S ++ V) (k : HQ V ⟨⟨Array.replicate l.length false, cutOf (Array.replicate l.length false) todo left, left, false⟩, todo⟩ P base n L f S (.ops l (pickOps l todo) q)) : H P base n L f B (.code (.region id l.toArray true) q) := .mk fun a w hf s => by
  simp only [Bool.and_eq_true, List.all_eq_true, beq_iff_eq] at hn
  obtain ⟨⟨⟨h1, h2⟩, h3⟩, h4⟩ := hn
  refine wp_region_any hm ?_
  subst hB
  have s' : Sat base { w with drawn := w.drawn + 1 } f (S ++ V) := s.same rfl rfl rfl rfl
  have := k.out l q rfl h1 hb h2 h3 a _ hf s'
  simp only [h4] at this
  simpa using wpAnyC.any _ _ _ _ this
/-- A region that draws its order. -/
theorem H.draw {id : Nat} {B : List HP} (todo : List (Nat × Bool)) (hm : P.follows .mixedOrders = true) (hn : (Region.noSelect l.toArray && ordOK l.toArray ⟨Array.replicate l.length false, #[], 0, false⟩ todo && todo.all (fun t => (getO l t.1).isSome) && (todo.length == l.length)) = true) (hb : q.blind P)
    {S V : List HP} (hB : B = S ++ V) (k : HQ V ⟨⟨Array.replicate l.length false, #[], 0, false⟩, todo⟩ P base n L f S (.ops l (pickOps l todo) q)) : H P base n L f B (.code (.region id l.toArray true) q) :=
  H.drawP todo 0 hm hn hb hB k

/-- One all of whose operations only read, in the order of the text. -/
theorem H.drawQ {id : Nat} (hm : P.follows .mixedOrders = true) (hn : (Region.noSelect l.toArray && ordOK l.toArray ⟨Array.replicate l.length false, #[], 0, false⟩ (qt l.length 0) && (qt l.length 0).all (fun t => (getO l t.1).isSome) && ((qt l.length 0).length == l.length)) = true) (hb : q.blind P)
    (k : HQ [] ⟨⟨Array.replicate l.length false, #[], 0, false⟩, qt l.length 0⟩ P base n L f A (.ops l (pickOps l (qt l.length 0)) q)) : H P base n L f A (.code (.region id l.toArray true) q) :=
  H.draw _ hm hn hb (List.append_nil A).symm k
theorem HQ.done0 {ls : Lst} (h0 : (ls.left, ls.opn) = (0, false)) (k : H P base n L f A (.out .normal q)) : HQ [] ⟨ls, []⟩ P base n L f A (.ops l [] q) := HQ.done h0 (by rw [List.append_nil]; exact k)
theorem blind_fn {fn : Func} {R : Value → Frag → List HP → Prop} : (Post.fn (FnPost P fn base R)).blind P := fun c a dst v w h => by
  obtain ⟨h1, h2⟩ := h
  exact ⟨by cases dst <;> simpa [Act.put] using h1, h2⟩
theorem blind_seq {y : Code} {q : Post} (h : q.blind P) : (Post.seq y q).blind P := fun c a dst v w h' => h c a dst v w h'
theorem blind_block {id : Nat} {q : Post} (h : q.blind P) : (Post.block id q).blind P := fun c a dst v w h' => h c a dst v w h'
theorem blind_loop {I : Act → World → Prop} {q : Post} (h : q.blind P) : (Post.loop I q).blind P := fun c a dst v w h' => h c a dst v w h'

/-- In a region all of whose operations but the last ones (tl) only read. -/
structure HS (tl : List Oper) (P : Program) (base : World) (n : Nat) (L : Env) (f : Frag) (A : List HP) (K : Kont) : Prop where
  out : ∀ l rest q, K = .ops l rest q → ∀ a w, Fr n a L → Sat base w f A → wpStill P l.toArray w (fun a' => wpList P l.toArray (q.den P) tl a' w) rest a

variable {tl : List Oper}
theorem HS.opV {op : Op} {v : Value} (hw : want? l L gd = true) (hd : Nat.ble (d + 1) n = true)
    (hx : ∀ a w, Fr n a L → Sat base w f A → (execOp a.eval ⟨some d, op, ty, pos, af, gd⟩).run P w = .ok (.value v) w)
    (k : HS tl P base n ((d, v) :: L) f A (.ops l rest q)) : HS tl P base n L f A (.ops l (⟨some d, op, ty, pos, af, gd⟩ :: rest) q) := .mk fun l' r' q' hK a w hf s => by
  simp only [Kont.ops.injEq] at hK
  obtain ⟨rfl, rfl, rfl⟩ := hK
  unfold wpStill
  rw [if_pos (hf.want (o := ⟨some d, op, ty, pos, af, gd⟩) hw)]
  unfold Oper.still
  rw [hx a w hf s]
  exact ⟨rfl, k.out l rest q rfl _ _ (hf.put (Nat.le_of_ble_eq_true hd) v) s⟩
theorem HS.pass {op : Op} (hw : skip? l L gd = true) (hd : Nat.ble (d + 1) n = true)
    (k : HS tl P base n ((d, .tuple #[]) :: L) f A (.ops l rest q)) : HS tl P base n L f A (.ops l (⟨some d, op, ty, pos, af, gd⟩ :: rest) q) := .mk fun l' r' q' hK a w hf s => by
  simp only [Kont.ops.injEq] at hK
  obtain ⟨rfl, rfl, rfl⟩ := hK
  unfold wpStill
  rw [if_neg (by rw [hf.skip (o := ⟨some d, op, ty, pos, af, gd⟩) hw]; simp)]
  exact k.out l rest q rfl _ _ (hf.put (Nat.le_of_ble_eq_true hd) _) s
theorem HS.done (k : H P base n L f A (.ops l tl q)) : HS tl P base n L f A (.ops l [] q) := .mk fun l' r' q' hK a w hf s => by
  simp only [Kont.ops.injEq] at hK
  obtain ⟨rfl, rfl, rfl⟩ := hK
  exact k.out a w hf s
def tk : Nat → List Oper → List Oper
  | 0, _ => []
  | _, [] => []
  | n + 1, o :: r => o :: tk n r
def dr : Nat → List Oper → List Oper
  | 0, l => l
  | _ + 1, [] => []
  | n + 1, _ :: r => dr n r
theorem tk_eq : ∀ (k : Nat) (l : List Oper), tk k l = l.take k
  | 0, l => by simp [tk]
  | k + 1, [] => by simp [tk]
  | k + 1, o :: r => by simp [tk, tk_eq k r]
theorem dr_eq : ∀ (k : Nat) (l : List Oper), dr k l = l.drop k
  | 0, l => by simp [dr]
  | k + 1, [] => by simp [dr]
  | k + 1, o :: r => by simp [dr, dr_eq k r]
/-- The first k operations only read. -/
theorem H.drawT {id : Nat} (m : Nat) (hm : P.follows .mixedOrders = true) (hB : Region.lexTailB .any l.toArray m = true)
    (k : HS (dr m l) P base n L f A (.ops l (tk m l) q)) : H P base n L f A (.code (.region id l.toArray true) q) := .mk fun a w hf s =>
  wp_region_still_tail m hm hB (by
    have := k.out l (tk m l) q rfl a { w with drawn := w.drawn + 1 } hf (s.same rfl rfl rfl rfl)
    rw [tk_eq, dr_eq] at this
    exact this)
theorem HS.know {e : Nat} {v u : Value} {K : Kont} (hv : look? L e = some v) (he : v = u) (h : HS tl P base n ((e, u) :: L) f A K) : HS tl P base n L f A K := .mk fun l r q hK a w hf s => by
  refine h.out l r q hK a w ⟨hf.size, hf.defers, fun i x hi => ?_⟩ s
  rw [look?_cons] at hi
  by_cases c : e = i
  · subst c; simp at hi; subst hi; rw [← he]; exact hf.get _ _ hv
  · simp [c] at hi; exact hf.get _ _ hi
theorem HS.gset {o : Oper} {j : Nat} {b : Bool} {c : Bool} {e : Nat} {p1 : Op} {t1 : TypeId} {q1 : String} {a1 : Array Edge} {g1 : Option (Nat × Bool)} (hg : o.guard = some (j, b)) (hj : getO l j = some ⟨some e, p1, t1, q1, a1, g1⟩) (hv : look? L e = some (.bool c)) (ht : c = true → HS tl P base n ((e, .bool true) :: L) f A (.ops l (o :: rest) q))
    (hf : c = false → HS tl P base n ((e, .bool false) :: L) f A (.ops l (o :: rest) q)) : HS tl P base n L f A (.ops l (o :: rest) q) := by
  have _ := hg
  have _ := hj
  cases c with
  | true => exact HS.know hv rfl (ht rfl)
  | false => exact HS.know hv rfl (hf rfl)

variable {κ : Type} [DecidableEq κ] {enc : κ → Value}
theorem HQ.know {e : Nat} {v u : Value} {K : Kont} (hv : look? L e = some v) (he : v = u) (h : HQ V ξ P base n ((e, u) :: L) f A K) : HQ V ξ P base n L f A K := .mk fun l q hK hs hb ho hg a w hf s => by
  refine h.out l q hK hs hb ho hg a w ⟨hf.size, hf.defers, fun i x hi => ?_⟩ s
  rw [look?_cons] at hi
  by_cases c : e = i
  · subst c; simp at hi; subst hi; rw [← he]; exact hf.get _ _ hv
  · simp [c] at hi; exact hf.get _ _ hi
theorem HQ.gset {o : Oper} {j : Nat} {b : Bool} {c : Bool} {e : Nat} {p1 : Op} {t1 : TypeId} {q1 : String} {a1 : Array Edge} {g1 : Option (Nat × Bool)} (hg : o.guard = some (j, b)) (hj : getO l j = some ⟨some e, p1, t1, q1, a1, g1⟩) (hv : look? L e = some (.bool c)) (ht : c = true → HQ V ξ P base n ((e, .bool true) :: L) f A (.ops l (o :: rest) q))
    (hf : c = false → HQ V ξ P base n ((e, .bool false) :: L) f A (.ops l (o :: rest) q)) : HQ V ξ P base n L f A (.ops l (o :: rest) q) := by
  have _ := hg
  have _ := hj
  cases c with
  | true => exact HQ.know hv rfl (ht rfl)
  | false => exact HQ.know hv rfl (hf rfl)
theorem HQ.move {x : Operand} {v : Value} (hw : want? l L gd = true) (hx : ev? L x = some v) (hd : Nat.ble (d + 1) n = true) {lst : Lst} {ti : Nat} {tt : List (Nat × Bool)}
    (k : HQ V ⟨lst.setIfInBounds ti true, tt⟩ P base n ((d, v) :: L) f A (.ops l rest q)) : HQ V ⟨lst, (ti, false) :: tt⟩ P base n L f A (.ops l (⟨some d, .move x, ty, pos, af, gd⟩ :: rest) q) :=
  HQ.opV hw hd (fun a w hf _ => by simp [execOp, hf.eval hx]) k
theorem HQ.assign {x : Operand} {v : Value} (hw : want? l L gd = true) (hx : ev? L x = some v) (hd : Nat.ble (d + 1) n = true) {lst : Lst} {ti : Nat} {tt : List (Nat × Bool)}
    (k : HQ V ⟨lst.setIfInBounds ti true, tt⟩ P base n ((d, v) :: L) f A (.ops l rest q)) : HQ V ⟨lst, (ti, false) :: tt⟩ P base n L f A (.ops l (⟨some d, .assign x, ty, pos, af, gd⟩ :: rest) q) :=
  HQ.opV hw hd (fun a w hf _ => by simp [execOp, hf.eval hx]) k
theorem HQ.pickT {c x y : Operand} {v : Value} (hw : want? l L gd = true) (hc : ev? L c = some (.bool true)) (hx : ev? L x = some v) (hd : Nat.ble (d + 1) n = true) {lst : Lst} {ti : Nat} {tt : List (Nat × Bool)}
    (k : HQ V ⟨lst.setIfInBounds ti true, tt⟩ P base n ((d, v) :: L) f A (.ops l rest q)) : HQ V ⟨lst, (ti, false) :: tt⟩ P base n L f A (.ops l (⟨some d, .pick c x y, ty, pos, af, gd⟩ :: rest) q) :=
  HQ.opV hw hd (fun a w hf _ => by simp [execOp, hf.eval hx, hf.eval hc, asBool]) k
theorem HQ.pickF {c x y : Operand} {v : Value} (hw : want? l L gd = true) (hc : ev? L c = some (.bool false)) (hx : ev? L y = some v) (hd : Nat.ble (d + 1) n = true) {lst : Lst} {ti : Nat} {tt : List (Nat × Bool)}
    (k : HQ V ⟨lst.setIfInBounds ti true, tt⟩ P base n ((d, v) :: L) f A (.ops l rest q)) : HQ V ⟨lst, (ti, false) :: tt⟩ P base n L f A (.ops l (⟨some d, .pick c x y, ty, pos, af, gd⟩ :: rest) q) :=
  HQ.opV hw hd (fun a w hf _ => by simp [execOp, hf.eval hx, hf.eval hc, asBool]) k
theorem HQ.nilCheck {x : Operand} {p : Addr} (hw : want? l L gd = true) (hx : ev? L x = some (.pointer (some p))) (hd : Nat.ble (d + 1) n = true) {lst : Lst} {ti : Nat} {tt : List (Nat × Bool)}
    (k : HQ V ⟨lst.setIfInBounds ti true, tt⟩ P base n ((d, .pointer (some p)) :: L) f A (.ops l rest q)) : HQ V ⟨lst, (ti, false) :: tt⟩ P base n L f A (.ops l (⟨some d, .nilCheck x, ty, pos, af, gd⟩ :: rest) q) :=
  HQ.opV hw hd (fun a w hf _ => by simp [execOp, hf.eval hx]) k
theorem HQ.cmp {op : BinOp} {xt yt : TypeId} {x y : Operand} {k : IntKind} {p p2 : Int} {b : Bool} (hw : want? l L gd = true) (hx : ev? L x = some (.int k p)) (hy : ev? L y = some (.int k p2)) (hc : cmpP op p p2 = some b) (hd : Nat.ble (d + 1) n = true) {lst : Lst} {ti : Nat} {tt : List (Nat × Bool)}
    (kk : HQ V ⟨lst.setIfInBounds ti true, tt⟩ P base n ((d, .bool b) :: L) f A (.ops l rest q)) : HQ V ⟨lst, (ti, false) :: tt⟩ P base n L f A (.ops l (⟨some d, .binOp op xt x y yt, ty, pos, af, gd⟩ :: rest) q) :=
  HQ.opV hw hd (fun a w hf _ => by
    cases op <;> simp only [cmpP, Option.some.injEq, reduceCtorEq] at hc <;> subst hc <;>
      simp [execOp, eqGuard, binOp, Op.intCmp, hf.eval hx, hf.eval hy] <;> by_cases e : p = p2 <;> simp [e]) kk
theorem HQ.ar {op : BinOp} {xt yt : TypeId} {x y : Operand} {k : IntKind} {p p2 r z : Int} (hw : want? l L gd = true) (hx : ev? L x = some (.int k p)) (hy : ev? L y = some (.int k p2)) (hc : arP op k p p2 = some r) (hz : r = z) (hd : Nat.ble (d + 1) n = true) {lst : Lst} {ti : Nat} {tt : List (Nat × Bool)}
    (kk : HQ V ⟨lst.setIfInBounds ti true, tt⟩ P base n ((d, .int k z) :: L) f A (.ops l rest q)) : HQ V ⟨lst, (ti, false) :: tt⟩ P base n L f A (.ops l (⟨some d, .binOp op xt x y yt, ty, pos, af, gd⟩ :: rest) q) :=
  HQ.opV hw hd (fun a w hf _ => by
    cases op <;> simp only [arP, Option.some.injEq, reduceCtorEq] at hc <;> subst hc <;> subst hz <;>
      simp [execOp, eqGuard, binOp, Op.intArith, hf.eval hx, hf.eval hy]) kk
theorem HQ.quo {xt yt : TypeId} {x y : Operand} {k : IntKind} {p p2 z : Int} (hw : want? l L gd = true) (hx : ev? L x = some (.int k p)) (hy : ev? L y = some (.int k p2)) (h0 : p2 ≠ 0) (hz : k.wrap (p.tdiv p2) = z) (hd : Nat.ble (d + 1) n = true) {lst : Lst} {ti : Nat} {tt : List (Nat × Bool)}
    (kk : HQ V ⟨lst.setIfInBounds ti true, tt⟩ P base n ((d, .int k z) :: L) f A (.ops l rest q)) : HQ V ⟨lst, (ti, false) :: tt⟩ P base n L f A (.ops l (⟨some d, .binOp .quo xt x y yt, ty, pos, af, gd⟩ :: rest) q) :=
  HQ.opV hw hd (fun a w hf _ => by subst hz; simp [execOp, eqGuard, binOp, Op.intDiv, hf.eval hx, hf.eval hy, h0]) kk
theorem HQ.rem {xt yt : TypeId} {x y : Operand} {k : IntKind} {p p2 z : Int} (hw : want? l L gd = true) (hx : ev? L x = some (.int k p)) (hy : ev? L y = some (.int k p2)) (h0 : p2 ≠ 0) (hz : p.tmod p2 = z) (hd : Nat.ble (d + 1) n = true) {lst : Lst} {ti : Nat} {tt : List (Nat × Bool)}
    (kk : HQ V ⟨lst.setIfInBounds ti true, tt⟩ P base n ((d, .int k z) :: L) f A (.ops l rest q)) : HQ V ⟨lst, (ti, false) :: tt⟩ P base n L f A (.ops l (⟨some d, .binOp .rem xt x y yt, ty, pos, af, gd⟩ :: rest) q) :=
  HQ.opV hw hd (fun a w hf _ => by subst hz; simp [execOp, eqGuard, binOp, Op.intDiv, hf.eval hx, hf.eval hy, h0]) kk
theorem HQ.beq {op : BinOp} {xt yt : TypeId} {x y : Operand} {p p2 b : Bool} [hu : Und P xt .bool] (hw : want? l L gd = true) (hx : ev? L x = some (.bool p)) (hy : ev? L y = some (.bool p2)) (ho : op = .eql) (hb : (p == p2) = b) (hd : Nat.ble (d + 1) n = true) {lst : Lst} {ti : Nat} {tt : List (Nat × Bool)}
    (kk : HQ V ⟨lst.setIfInBounds ti true, tt⟩ P base n ((d, .bool b) :: L) f A (.ops l rest q)) : HQ V ⟨lst, (ti, false) :: tt⟩ P base n L f A (.ops l (⟨some d, .binOp op xt x y yt, ty, pos, af, gd⟩ :: rest) q) :=
  HQ.opV hw hd (fun a w hf _ => by
    subst ho; subst hb
    refine run_bin _ ?_ ?_
    · rw [hf.eval hx, hf.eval hy]; exact run_guard_bool _ _ _ _ _ _ _
    · rw [hf.eval hx, hf.eval hy]
      show Sem.run P (do pure (Value.bool (← Op.equal xt (.bool p) (.bool p2)))) w = _
      simp [run_equal_bool hu]) kk
theorem HQ.bne {op : BinOp} {xt yt : TypeId} {x y : Operand} {p p2 b : Bool} [hu : Und P xt .bool] (hw : want? l L gd = true) (hx : ev? L x = some (.bool p)) (hy : ev? L y = some (.bool p2)) (ho : op = .neq) (hb : (!(p == p2)) = b) (hd : Nat.ble (d + 1) n = true) {lst : Lst} {ti : Nat} {tt : List (Nat × Bool)}
    (kk : HQ V ⟨lst.setIfInBounds ti true, tt⟩ P base n ((d, .bool b) :: L) f A (.ops l rest q)) : HQ V ⟨lst, (ti, false) :: tt⟩ P base n L f A (.ops l (⟨some d, .binOp op xt x y yt, ty, pos, af, gd⟩ :: rest) q) :=
  HQ.opV hw hd (fun a w hf _ => by
    subst ho; subst hb
    refine run_bin _ ?_ ?_
    · rw [hf.eval hx, hf.eval hy]; exact run_guard_bool _ _ _ _ _ _ _
    · rw [hf.eval hx, hf.eval hy]
      show Sem.run P (do pure (Value.bool (!(← Op.equal xt (.bool p) (.bool p2))))) w = _
      simp [run_equal_bool hu]) kk
theorem HQ.ptrNil {op : BinOp} {xt yt e : TypeId} {x y : Operand} {p : Option Addr} {b : Bool} [hu : Und P xt (.pointer e)] (hw : want? l L gd = true) (hx : ev? L x = some (.pointer p)) (hy : ev? L y = some (.pointer none)) (hb : nilP op p = some b) (hd : Nat.ble (d + 1) n = true) {lst : Lst} {ti : Nat} {tt : List (Nat × Bool)}
    (kk : HQ V ⟨lst.setIfInBounds ti true, tt⟩ P base n ((d, .bool b) :: L) f A (.ops l rest q)) : HQ V ⟨lst, (ti, false) :: tt⟩ P base n L f A (.ops l (⟨some d, .binOp op xt x y yt, ty, pos, af, gd⟩ :: rest) q) :=
  HQ.opV hw hd (fun a w hf _ => by
    refine run_bin _ ?_ ?_
    · rw [hf.eval hx, hf.eval hy]; exact run_guard_ptr _ _ _ _ _ _ _
    · rw [hf.eval hx, hf.eval hy]
      have e1 : Sem.run P (do pure (Value.bool (← Op.equal xt (.pointer p) (.pointer none)))) w = .ok (.bool p.isNone) w := by simp [run_equal_pn hu]
      have e2 : Sem.run P (do pure (Value.bool (!(← Op.equal xt (.pointer p) (.pointer none))))) w = .ok (.bool (!p.isNone)) w := by simp [run_equal_pn hu]
      cases op <;> cases p <;> simp only [nilP, Option.some.injEq, reduceCtorEq] at hb <;> subst hb <;> first | exact e1 | exact e2) kk
theorem HQ.not {x : Operand} {xt : TypeId} {b c : Bool} (hw : want? l L gd = true) (hx : ev? L x = some (.bool b)) (hb : (!b) = c) (hd : Nat.ble (d + 1) n = true) {lst : Lst} {ti : Nat} {tt : List (Nat × Bool)}
    (k : HQ V ⟨lst.setIfInBounds ti true, tt⟩ P base n ((d, .bool c) :: L) f A (.ops l rest q)) : HQ V ⟨lst, (ti, false) :: tt⟩ P base n L f A (.ops l (⟨some d, .unOp .not xt x, ty, pos, af, gd⟩ :: rest) q) :=
  HQ.opV hw hd (fun a w hf _ => by subst hb; simp [execOp, Op.unary, hf.eval hx]) k
theorem HQ.conv_int {s t : TypeId} {x : Operand} {i j : IntKind} {p z : Int} {ds : TypeDesc} [hs : Und P s ds] [ht : Und P t (.int j)] (hw : want? l L gd = true) (hx : ev? L x = some (.int i p)) (hz : j.wrap p = z) (hd : Nat.ble (d + 1) n = true) {lst : Lst} {ti : Nat} {tt : List (Nat × Bool)}
    (k : HQ V ⟨lst.setIfInBounds ti true, tt⟩ P base n ((d, .int j z) :: L) f A (.ops l rest q)) : HQ V ⟨lst, (ti, false) :: tt⟩ P base n L f A (.ops l (⟨some d, .convert s t x, ty, pos, af, gd⟩ :: rest) q) :=
  HQ.opV hw hd (fun a w hf _ => by
    subst hz
    have h1 := hs.run w
    have h2 := ht.run w
    simp only [execOp, convert, hf.eval hx, Sem.run_bind, h1, h2, Result.andThen_ok]
    cases ds <;> simp [Conv.intToInt]) k
theorem HQ.extract {x : Operand} {i : Nat} {vs : List Value} {v : Value} (hw : want? l L gd = true) (hx : ev? L x = some (.tuple vs.toArray)) (hv : nthV vs i = some v) (hd : Nat.ble (d + 1) n = true) {lst : Lst} {ti : Nat} {tt : List (Nat × Bool)}
    (k : HQ V ⟨lst.setIfInBounds ti true, tt⟩ P base n ((d, v) :: L) f A (.ops l rest q)) : HQ V ⟨lst, (ti, false) :: tt⟩ P base n L f A (.ops l (⟨some d, .extract x i, ty, pos, af, gd⟩ :: rest) q) :=
  HQ.opV hw hd (fun a w hf _ => by
    rw [nthV_eq] at hv
    simp [execOp, Instr.extract, hf.eval hx, hv]) k
theorem HQ.gdec {o : Oper} {j : Nat} {b : Bool} {e : Nat} {p1 : Op} {t1 : TypeId} {q1 : String} {a1 : Array Edge} {g1 : Option (Nat × Bool)} {p : Prop} {_ : Decidable p} (hg : o.guard = some (j, b)) (hj : getO l j = some ⟨some e, p1, t1, q1, a1, g1⟩) (hv : look? L e = some (.bool (decide p)))
    (ht : p → HQ V ξ P base n ((e, .bool true) :: L) f A (.ops l (o :: rest) q)) (hf : ¬ p → HQ V ξ P base n ((e, .bool false) :: L) f A (.ops l (o :: rest) q)) : HQ V ξ P base n L f A (.ops l (o :: rest) q) :=
  HQ.gset hg hj hv (fun h => ht (of_decide_eq_true h)) (fun h => hf (of_decide_eq_false h))
theorem HQ.gyes {o : Oper} {j : Nat} {b : Bool} {e : Nat} {p1 : Op} {t1 : TypeId} {q1 : String} {a1 : Array Edge} {g1 : Option (Nat × Bool)} {p : Prop} {_ : Decidable p} (hg : o.guard = some (j, b)) (hj : getO l j = some ⟨some e, p1, t1, q1, a1, g1⟩) (hv : look? L e = some (.bool (decide p)))
    (hp : p) (ht : HQ V ξ P base n ((e, .bool true) :: L) f A (.ops l (o :: rest) q)) : HQ V ξ P base n L f A (.ops l (o :: rest) q) :=
  HQ.gdec hg hj hv (fun _ => ht) (fun h => absurd hp h)
theorem HQ.gno {o : Oper} {j : Nat} {b : Bool} {e : Nat} {p1 : Op} {t1 : TypeId} {q1 : String} {a1 : Array Edge} {g1 : Option (Nat × Bool)} {p : Prop} {_ : Decidable p} (hg : o.guard = some (j, b)) (hj : getO l j = some ⟨some e, p1, t1, q1, a1, g1⟩) (hv : look? L e = some (.bool (decide p)))
    (hp : ¬ p) (hf : HQ V ξ P base n ((e, .bool false) :: L) f A (.ops l (o :: rest) q)) : HQ V ξ P base n L f A (.ops l (o :: rest) q) :=
  HQ.gdec hg hj hv (fun h => absurd h hp) (fun _ => hf)
theorem HQ.gtrue {o : Oper} {j : Nat} {b : Bool} {c : Bool} {e : Nat} {p1 : Op} {t1 : TypeId} {q1 : String} {a1 : Array Edge} {g1 : Option (Nat × Bool)} (hg : o.guard = some (j, b)) (hj : getO l j = some ⟨some e, p1, t1, q1, a1, g1⟩) (hv : look? L e = some (.bool c))
    (hp : c = true) (ht : HQ V ξ P base n ((e, .bool true) :: L) f A (.ops l (o :: rest) q)) : HQ V ξ P base n L f A (.ops l (o :: rest) q) :=
  HQ.gset hg hj hv (fun _ => ht) (fun h => by rw [hp] at h; cases h)
theorem HQ.gfalse {o : Oper} {j : Nat} {b : Bool} {c : Bool} {e : Nat} {p1 : Op} {t1 : TypeId} {q1 : String} {a1 : Array Edge} {g1 : Option (Nat × Bool)} (hg : o.guard = some (j, b)) (hj : getO l j = some ⟨some e, p1, t1, q1, a1, g1⟩) (hv : look? L e = some (.bool c))
    (hp : c = false) (ht : HQ V ξ P base n ((e, .bool false) :: L) f A (.ops l (o :: rest) q)) : HQ V ξ P base n L f A (.ops l (o :: rest) q) :=
  HQ.gset hg hj hv (fun h => by rw [hp] at h; cases h) (fun _ => ht)
theorem HQ.fieldAddr {st : TypeId} {x : Operand} {i b off m : Nat} {fs : List Field} {nm tg pk : String} {ft : TypeId} {fo bo : Nat} {em : Bool} [hu : Und P st (.struct fs.toArray)] (hw : want? l L gd = true)
    (hx : ev? L x = some (.pointer (some ⟨b, off, none⟩))) (hf : nthF fs i = some ⟨nm, ft, fo, em, tg, pk, bo⟩) (hs : Siz P ft (m + 1)) (hd : Nat.ble (d + 1) n = true) {lst : Lst} {ti : Nat} {tt : List (Nat × Bool)}
    (k : HQ V ⟨lst.setIfInBounds ti true, tt⟩ P base n ((d, .pointer (some ⟨b, off + fo, none⟩)) :: L) f A (.ops l rest q)) : HQ V ⟨lst, (ti, false) :: tt⟩ P base n L f A (.ops l (⟨some d, .fieldAddr st x i, ty, pos, af, gd⟩ :: rest) q) :=
  HQ.opV hw hd (fun a w hfr _ => by
    rw [nthF_eq] at hf
    simp [execOp, Instr.fieldAt, hfr.eval hx, hu.run, hf, Instr.sureAddr, fieldPlace, hs.run, add_none]) k
theorem HQ.load1 {t : TypeId} {dd : TypeDesc} {x : Operand} {b off : Nat} {v : Value} [hu : Und P t dd] (hw : want? l L gd = true) (hx : ev? L x = some (.pointer (some ⟨b, off, none⟩))) (ha : aggD dd = false)
    (hr : Rd1 f A b off v) (hd : Nat.ble (d + 1) n = true) {lst : Lst} {ti : Nat} {tt : List (Nat × Bool)}
    (k : HQ V ⟨lst.setIfInBounds ti true, tt⟩ P base n ((d, v) :: L) f A (.ops l rest q)) : HQ V ⟨lst, (ti, false) :: tt⟩ P base n L f A (.ops l (⟨some d, .load t x, ty, pos, af, gd⟩ :: rest) q) :=
  HQ.opV hw hd (fun a w hfr s => by simp [execOp, hfr.eval hx, run_loadAt1 hu ha (hr base w s)]) k
theorem HQ.loadN {t : TypeId} {dd : TypeDesc} {m : Nat} {x : Operand} {b off : Nat} {ls : List Value} [hu : Und P t dd] [hs : Siz P t m] (hw : want? l L gd = true) (hx : ev? L x = some (.pointer (some ⟨b, off, none⟩))) (ha : aggD dd = true)
    (hr : Rd f A b off ls) (hm : ls.length = m) (hd : Nat.ble (d + 1) n = true) {lst : Lst} {ti : Nat} {tt : List (Nat × Bool)}
    (k : HQ V ⟨lst.setIfInBounds ti true, tt⟩ P base n ((d, .agg ls.toArray) :: L) f A (.ops l rest q)) : HQ V ⟨lst, (ti, false) :: tt⟩ P base n L f A (.ops l (⟨some d, .load t x, ty, pos, af, gd⟩ :: rest) q) :=
  HQ.opV hw hd (fun a w hfr s => by simp [execOp, hfr.eval hx, run_loadAtN hu ha hs (hr base w s) hm]) k
theorem HQ.len_slice {t e : TypeId} {x : Operand} {p : Option Addr} {m c : Nat} [hu : Und P t (.slice e)] (hw : want? l L gd = true) (hx : ev? L x = some (.slice p m c)) (hd : Nat.ble (d + 1) n = true) {lst : Lst} {ti : Nat} {tt : List (Nat × Bool)}
    (k : HQ V ⟨lst.setIfInBounds ti true, tt⟩ P base n ((d, .int .i64 (m : Nat)) :: L) f A (.ops l rest q)) : HQ V ⟨lst, (ti, false) :: tt⟩ P base n L f A (.ops l (⟨some d, .call ⟨.builtin .len, #[x], #[t]⟩, ty, pos, af, gd⟩ :: rest) q) :=
  HQ.opV hw hd (fun a w hfr _ => by
    simp [execOp, resolve, invoke, builtin, Builtin.len_, hfr.eval hx, hu.run, goInt]) k
theorem HQ.len_string {t : TypeId} {x : Operand} {s : ByteArray} [hu : Und P t .string] (hw : want? l L gd = true) (hx : ev? L x = some (.string s)) (hd : Nat.ble (d + 1) n = true) {lst : Lst} {ti : Nat} {tt : List (Nat × Bool)}
    (k : HQ V ⟨lst.setIfInBounds ti true, tt⟩ P base n ((d, .int .i64 (s.size : Nat)) :: L) f A (.ops l rest q)) : HQ V ⟨lst, (ti, false) :: tt⟩ P base n L f A (.ops l (⟨some d, .call ⟨.builtin .len, #[x], #[t]⟩, ty, pos, af, gd⟩ :: rest) q) :=
  HQ.opV hw hd (fun a w hfr _ => by
    simp [execOp, resolve, invoke, builtin, Builtin.len_, hfr.eval hx, hu.run, goInt]) k
theorem HQ.index_slice {t e : TypeId} {x y : Operand} {b off m c i sz : Nat} {ik : IntKind} {z : Int} [hu : Und P t (.slice e)] [hs : Siz P e sz] (hw : want? l L gd = true)
    (hx : ev? L x = some (.slice (some ⟨b, off, none⟩) m c)) (hy : ev? L y = some (.int ik z)) (hq : z = (i : Nat)) (hi : i < m) (hd : Nat.ble (d + 1) n = true) {lst : Lst} {ti : Nat} {tt : List (Nat × Bool)}
    (k : HQ V ⟨lst.setIfInBounds ti true, tt⟩ P base n ((d, .pointer (some ⟨b, off + i * sz, none⟩)) :: L) f A (.ops l rest q)) : HQ V ⟨lst, (ti, false) :: tt⟩ P base n L f A (.ops l (⟨some d, .indexAddr t x y, ty, pos, af, gd⟩ :: rest) q) :=
  HQ.opV hw hd (fun a w hfr _ => by
    subst hq
    simp only [execOp, Instr.indexAt, hfr.eval hx, hfr.eval hy, Sem.run_bind, asIntOf, Sem.run_pure, Result.andThen_ok, hu.run]
    simp [hi, hs.run, add_none]) k
theorem HQ.index_array {t e : TypeId} {x y : Operand} {b off m i sz : Nat} {ik : IntKind} {z : Int} [hu : Und P t (.array m e)] [hs : Siz P e sz] (hw : want? l L gd = true)
    (hx : ev? L x = some (.pointer (some ⟨b, off, none⟩))) (hy : ev? L y = some (.int ik z)) (hq : z = (i : Nat)) (hi : i < m) (hd : Nat.ble (d + 1) n = true) {lst : Lst} {ti : Nat} {tt : List (Nat × Bool)}
    (k : HQ V ⟨lst.setIfInBounds ti true, tt⟩ P base n ((d, .pointer (some ⟨b, off + i * sz, none⟩)) :: L) f A (.ops l rest q)) : HQ V ⟨lst, (ti, false) :: tt⟩ P base n L f A (.ops l (⟨some d, .indexAddr t x y, ty, pos, af, gd⟩ :: rest) q) :=
  HQ.opV hw hd (fun a w hfr _ => by
    subst hq
    simp only [execOp, Instr.indexAt, hfr.eval hx, hfr.eval hy, Sem.run_bind, asIntOf, Sem.run_pure, Result.andThen_ok, hu.run, Instr.sureAddr]
    simp [hi, hs.run, add_none]) k
theorem HQ.index1 {t e : TypeId} {x y : Operand} {b off m c i : Nat} {ik : IntKind} {z : Int} [hu : Und P t (.slice e)] [hs : Siz P e 1] (hw : want? l L gd = true)
    (hx : ev? L x = some (.slice (some ⟨b, off, none⟩) m c)) (hy : ev? L y = some (.int ik z)) (hq : z = (i : Nat)) (hi : i < m) (hd : Nat.ble (d + 1) n = true) {lst : Lst} {ti : Nat} {tt : List (Nat × Bool)}
    (k : HQ V ⟨lst.setIfInBounds ti true, tt⟩ P base n ((d, .pointer (some ⟨b, off + i, none⟩)) :: L) f A (.ops l rest q)) : HQ V ⟨lst, (ti, false) :: tt⟩ P base n L f A (.ops l (⟨some d, .indexAddr t x y, ty, pos, af, gd⟩ :: rest) q) :=
  HQ.opV hw hd (fun a w hfr _ => by
    subst hq
    simp only [execOp, Instr.indexAt, hfr.eval hx, hfr.eval hy, Sem.run_bind, asIntOf, Sem.run_pure, Result.andThen_ok, hu.run]
    simp [hi, hs.run, add_none]) k
theorem HQ.index0 {t e : TypeId} {x y : Operand} {b m c i sz : Nat} {ik : IntKind} {z : Int} [hu : Und P t (.slice e)] [hs : Siz P e sz] (hw : want? l L gd = true)
    (hx : ev? L x = some (.slice (some ⟨b, 0, none⟩) m c)) (hy : ev? L y = some (.int ik z)) (hq : z = (i : Nat)) (hi : i < m) (hd : Nat.ble (d + 1) n = true) {lst : Lst} {ti : Nat} {tt : List (Nat × Bool)}
    (k : HQ V ⟨lst.setIfInBounds ti true, tt⟩ P base n ((d, .pointer (some ⟨b, i * sz, none⟩)) :: L) f A (.ops l rest q)) : HQ V ⟨lst, (ti, false) :: tt⟩ P base n L f A (.ops l (⟨some d, .indexAddr t x y, ty, pos, af, gd⟩ :: rest) q) :=
  HQ.opV hw hd (fun a w hfr _ => by
    subst hq
    simp only [execOp, Instr.indexAt, hfr.eval hx, hfr.eval hy, Sem.run_bind, asIntOf, Sem.run_pure, Result.andThen_ok, hu.run]
    simp [hi, hs.run, add_none]) k
theorem HQ.lookup {t kt et : TypeId} {x y : Operand} {b : Nat} {m : List (κ × Value)} {k : κ} {z v kv : Value} {A' : List HP} [hu : Und P t (.map kt et)] [hk : KeyT P kt enc] [hz : Zer P et z] (hw : want? l L gd = true)
    (hx : ev? L x = some (.map (some b))) (hy : ev? L y = some kv) (hA : At A (mp b enc m) A' (mp b enc m)) (hkv : kv = enc k) (hv : (getKV m k).getD z = v) (hd : Nat.ble (d + 1) n = true) {lst : Lst} {ti : Nat} {tt : List (Nat × Bool)}
    (kk : HQ V ⟨lst.setIfInBounds ti true, tt⟩ P base n ((d, v) :: L) f A (.ops l rest q)) : HQ V ⟨lst, (ti, false) :: tt⟩ P base n L f A (.ops l (⟨some d, .lookup t x y false, ty, pos, af, gd⟩ :: rest) q) :=
  HQ.opV hw hd (fun a w hfr s => by
    subst hv; subst hkv
    have h := run_lookup_mp (c := false) (k := k) hu hk hz s hA
    simp only [execOp, hfr.eval hx, hfr.eval hy, Sem.run_bind, h, Result.andThen_ok, Sem.run_pure]
    rfl) kk
theorem HQ.lookup2 {t kt et : TypeId} {x y : Operand} {b : Nat} {m : List (κ × Value)} {k : κ} {z v kv : Value} {i : Bool} {A' : List HP} [hu : Und P t (.map kt et)] [hk : KeyT P kt enc] [hz : Zer P et z] (hw : want? l L gd = true)
    (hx : ev? L x = some (.map (some b))) (hy : ev? L y = some kv) (hA : At A (mp b enc m) A' (mp b enc m)) (hkv : kv = enc k) (hv : (getKV m k).getD z = v) (hi : (getKV m k).isSome = i) (hd : Nat.ble (d + 1) n = true) {lst : Lst} {ti : Nat} {tt : List (Nat × Bool)}
    (kk : HQ V ⟨lst.setIfInBounds ti true, tt⟩ P base n ((d, .tuple #[v, .bool i]) :: L) f A (.ops l rest q)) : HQ V ⟨lst, (ti, false) :: tt⟩ P base n L f A (.ops l (⟨some d, .lookup t x y true, ty, pos, af, gd⟩ :: rest) q) :=
  HQ.opV hw hd (fun a w hfr s => by
    subst hv; subst hkv; subst hi
    have h := run_lookup_mp (c := true) (k := k) hu hk hz s hA
    simp only [execOp, hfr.eval hx, hfr.eval hy, Sem.run_bind, h, Result.andThen_ok, Sem.run_pure]
    rfl) kk
theorem HQ.len_map {t kt et : TypeId} {x : Operand} {b : Nat} {m : List (κ × Value)} {A' : List HP} [hu : Und P t (.map kt et)] (hw : want? l L gd = true)
    (hx : ev? L x = some (.map (some b))) (hA : At A (mp b enc m) A' (mp b enc m)) (hd : Nat.ble (d + 1) n = true) {lst : Lst} {ti : Nat} {tt : List (Nat × Bool)}
    (kk : HQ V ⟨lst.setIfInBounds ti true, tt⟩ P base n ((d, .int .i64 (m.length : Nat)) :: L) f A (.ops l rest q)) : HQ V ⟨lst, (ti, false) :: tt⟩ P base n L f A (.ops l (⟨some d, .call ⟨.builtin .len, #[x], #[t]⟩, ty, pos, af, gd⟩ :: rest) q) :=
  HQ.opV hw hd (fun a w hfr s => by
    obtain ⟨es, clock, hm, _, _, _, hb⟩ := s.mp_at hA
    subst hm
    simp [execOp, resolve, invoke, builtin, Builtin.len_, hfr.eval hx, hu.run, goInt, run_getMap hb]) kk
theorem HS.move {x : Operand} {v : Value} (hw : want? l L gd = true) (hx : ev? L x = some v) (hd : Nat.ble (d + 1) n = true)
    (k : HS tl P base n ((d, v) :: L) f A (.ops l rest q)) : HS tl P base n L f A (.ops l (⟨some d, .move x, ty, pos, af, gd⟩ :: rest) q) :=
  HS.opV hw hd (fun a w hf _ => by simp [execOp, hf.eval hx]) k
theorem HS.assign {x : Operand} {v : Value} (hw : want? l L gd = true) (hx : ev? L x = some v) (hd : Nat.ble (d + 1) n = true)
    (k : HS tl P base n ((d, v) :: L) f A (.ops l rest q)) : HS tl P base n L f A (.ops l (⟨some d, .assign x, ty, pos, af, gd⟩ :: rest) q) :=
  HS.opV hw hd (fun a w hf _ => by simp [execOp, hf.eval hx]) k
theorem HS.pickT {c x y : Operand} {v : Value} (hw : want? l L gd = true) (hc : ev? L c = some (.bool true)) (hx : ev? L x = some v) (hd : Nat.ble (d + 1) n = true)
    (k : HS tl P base n ((d, v) :: L) f A (.ops l rest q)) : HS tl P base n L f A (.ops l (⟨some d, .pick c x y, ty, pos, af, gd⟩ :: rest) q) :=
  HS.opV hw hd (fun a w hf _ => by simp [execOp, hf.eval hx, hf.eval hc, asBool]) k
theorem HS.pickF {c x y : Operand} {v : Value} (hw : want? l L gd = true) (hc : ev? L c = some (.bool false)) (hx : ev? L y = some v) (hd : Nat.ble (d + 1) n = true)
    (k : HS tl P base n ((d, v) :: L) f A (.ops l rest q)) : HS tl P base n L f A (.ops l (⟨some d, .pick c x y, ty, pos, af, gd⟩ :: rest) q) :=
  HS.opV hw hd (fun a w hf _ => by simp [execOp, hf.eval hx, hf.eval hc, asBool]) k
theorem HS.nilCheck {x : Operand} {p : Addr} (hw : want? l L gd = true) (hx : ev? L x = some (.pointer (some p))) (hd : Nat.ble (d + 1) n = true)
    (k : HS tl P base n ((d, .pointer (some p)) :: L) f A (.ops l rest q)) : HS tl P base n L f A (.ops l (⟨some d, .nilCheck x, ty, pos, af, gd⟩ :: rest) q) :=
  HS.opV hw hd (fun a w hf _ => by simp [execOp, hf.eval hx]) k
theorem HS.cmp {op : BinOp} {xt yt : TypeId} {x y : Operand} {k : IntKind} {p p2 : Int} {b : Bool} (hw : want? l L gd = true) (hx : ev? L x = some (.int k p)) (hy : ev? L y = some (.int k p2)) (hc : cmpP op p p2 = some b) (hd : Nat.ble (d + 1) n = true)
    (kk : HS tl P base n ((d, .bool b) :: L) f A (.ops l rest q)) : HS tl P base n L f A (.ops l (⟨some d, .binOp op xt x y yt, ty, pos, af, gd⟩ :: rest) q) :=
  HS.opV hw hd (fun a w hf _ => by
    cases op <;> simp only [cmpP, Option.some.injEq, reduceCtorEq] at hc <;> subst hc <;>
      simp [execOp, eqGuard, binOp, Op.intCmp, hf.eval hx, hf.eval hy] <;> by_cases e : p = p2 <;> simp [e]) kk
theorem HS.ar {op : BinOp} {xt yt : TypeId} {x y : Operand} {k : IntKind} {p p2 r z : Int} (hw : want? l L gd = true) (hx : ev? L x = some (.int k p)) (hy : ev? L y = some (.int k p2)) (hc : arP op k p p2 = some r) (hz : r = z) (hd : Nat.ble (d + 1) n = true)
    (kk : HS tl P base n ((d, .int k z) :: L) f A (.ops l rest q)) : HS tl P base n L f A (.ops l (⟨some d, .binOp op xt x y yt, ty, pos, af, gd⟩ :: rest) q) :=
  HS.opV hw hd (fun a w hf _ => by
    cases op <;> simp only [arP, Option.some.injEq, reduceCtorEq] at hc <;> subst hc <;> subst hz <;>
      simp [execOp, eqGuard, binOp, Op.intArith, hf.eval hx, hf.eval hy]) kk
theorem HS.quo {xt yt : TypeId} {x y : Operand} {k : IntKind} {p p2 z : Int} (hw : want? l L gd = true) (hx : ev? L x = some (.int k p)) (hy : ev? L y = some (.int k p2)) (h0 : p2 ≠ 0) (hz : k.wrap (p.tdiv p2) = z) (hd : Nat.ble (d + 1) n = true)
    (kk : HS tl P base n ((d, .int k z) :: L) f A (.ops l rest q)) : HS tl P base n L f A (.ops l (⟨some d, .binOp .quo xt x y yt, ty, pos, af, gd⟩ :: rest) q) :=
  HS.opV hw hd (fun a w hf _ => by subst hz; simp [execOp, eqGuard, binOp, Op.intDiv, hf.eval hx, hf.eval hy, h0]) kk
theorem HS.rem {xt yt : TypeId} {x y : Operand} {k : IntKind} {p p2 z : Int} (hw : want? l L gd = true) (hx : ev? L x = some (.int k p)) (hy : ev? L y = some (.int k p2)) (h0 : p2 ≠ 0) (hz : p.tmod p2 = z) (hd : Nat.ble (d + 1) n = true)
    (kk : HS tl P base n ((d, .int k z) :: L) f A (.ops l rest q)) : HS tl P base n L f A (.ops l (⟨some d, .binOp .rem xt x y yt, ty, pos, af, gd⟩ :: rest) q) :=
  HS.opV hw hd (fun a w hf _ => by subst hz; simp [execOp, eqGuard, binOp, Op.intDiv, hf.eval hx, hf.eval hy, h0]) kk
theorem HS.beq {op : BinOp} {xt yt : TypeId} {x y : Operand} {p p2 b : Bool} [hu : Und P xt .bool] (hw : want? l L gd = true) (hx : ev? L x = some (.bool p)) (hy : ev? L y = some (.bool p2)) (ho : op = .eql) (hb : (p == p2) = b) (hd : Nat.ble (d + 1) n = true)
    (kk : HS tl P base n ((d, .bool b) :: L) f A (.ops l rest q)) : HS tl P base n L f A (.ops l (⟨some d, .binOp op xt x y yt, ty, pos, af, gd⟩ :: rest) q) :=
  HS.opV hw hd (fun a w hf _ => by
    subst ho; subst hb
    refine run_bin _ ?_ ?_
    · rw [hf.eval hx, hf.eval hy]; exact run_guard_bool _ _ _ _ _ _ _
    · rw [hf.eval hx, hf.eval hy]
      show Sem.run P (do pure (Value.bool (← Op.equal xt (.bool p) (.bool p2)))) w = _
      simp [run_equal_bool hu]) kk
theorem HS.bne {op : BinOp} {xt yt : TypeId} {x y : Operand} {p p2 b : Bool} [hu : Und P xt .bool] (hw : want? l L gd = true) (hx : ev? L x = some (.bool p)) (hy : ev? L y = some (.bool p2)) (ho : op = .neq) (hb : (!(p == p2)) = b) (hd : Nat.ble (d + 1) n = true)
    (kk : HS tl P base n ((d, .bool b) :: L) f A (.ops l rest q)) : HS tl P base n L f A (.ops l (⟨some d, .binOp op xt x y yt, ty, pos, af, gd⟩ :: rest) q) :=
  HS.opV hw hd (fun a w hf _ => by
    subst ho; subst hb
    refine run_bin _ ?_ ?_
    · rw [hf.eval hx, hf.eval hy]; exact run_guard_bool _ _ _ _ _ _ _
    · rw [hf.eval hx, hf.eval hy]
      show Sem.run P (do pure (Value.bool (!(← Op.equal xt (.bool p) (.bool p2))))) w = _
      simp [run_equal_bool hu]) kk
theorem HS.ptrNil {op : BinOp} {xt yt e : TypeId} {x y : Operand} {p : Option Addr} {b : Bool} [hu : Und P xt (.pointer e)] (hw : want? l L gd = true) (hx : ev? L x = some (.pointer p)) (hy : ev? L y = some (.pointer none)) (hb : nilP op p = some b) (hd : Nat.ble (d + 1) n = true)
    (kk : HS tl P base n ((d, .bool b) :: L) f A (.ops l rest q)) : HS tl P base n L f A (.ops l (⟨some d, .binOp op xt x y yt, ty, pos, af, gd⟩ :: rest) q) :=
  HS.opV hw hd (fun a w hf _ => by
    refine run_bin _ ?_ ?_
    · rw [hf.eval hx, hf.eval hy]; exact run_guard_ptr _ _ _ _ _ _ _
    · rw [hf.eval hx, hf.eval hy]
      have e1 : Sem.run P (do pure (Value.bool (← Op.equal xt (.pointer p) (.pointer none)))) w = .ok (.bool p.isNone) w := by simp [run_equal_pn hu]
      have e2 : Sem.run P (do pure (Value.bool (!(← Op.equal xt (.pointer p) (.pointer none))))) w = .ok (.bool (!p.isNone)) w := by simp [run_equal_pn hu]
      cases op <;> cases p <;> simp only [nilP, Option.some.injEq, reduceCtorEq] at hb <;> subst hb <;> first | exact e1 | exact e2) kk
theorem HS.not {x : Operand} {xt : TypeId} {b c : Bool} (hw : want? l L gd = true) (hx : ev? L x = some (.bool b)) (hb : (!b) = c) (hd : Nat.ble (d + 1) n = true)
    (k : HS tl P base n ((d, .bool c) :: L) f A (.ops l rest q)) : HS tl P base n L f A (.ops l (⟨some d, .unOp .not xt x, ty, pos, af, gd⟩ :: rest) q) :=
  HS.opV hw hd (fun a w hf _ => by subst hb; simp [execOp, Op.unary, hf.eval hx]) k
theorem HS.conv_int {s t : TypeId} {x : Operand} {i j : IntKind} {p z : Int} {ds : TypeDesc} [hs : Und P s ds] [ht : Und P t (.int j)] (hw : want? l L gd = true) (hx : ev? L x = some (.int i p)) (hz : j.wrap p = z) (hd : Nat.ble (d + 1) n = true)
    (k : HS tl P base n ((d, .int j z) :: L) f A (.ops l rest q)) : HS tl P base n L f A (.ops l (⟨some d, .convert s t x, ty, pos, af, gd⟩ :: rest) q) :=
  HS.opV hw hd (fun a w hf _ => by
    subst hz
    have h1 := hs.run w
    have h2 := ht.run w
    simp only [execOp, convert, hf.eval hx, Sem.run_bind, h1, h2, Result.andThen_ok]
    cases ds <;> simp [Conv.intToInt]) k
theorem HS.extract {x : Operand} {i : Nat} {vs : List Value} {v : Value} (hw : want? l L gd = true) (hx : ev? L x = some (.tuple vs.toArray)) (hv : nthV vs i = some v) (hd : Nat.ble (d + 1) n = true)
    (k : HS tl P base n ((d, v) :: L) f A (.ops l rest q)) : HS tl P base n L f A (.ops l (⟨some d, .extract x i, ty, pos, af, gd⟩ :: rest) q) :=
  HS.opV hw hd (fun a w hf _ => by
    rw [nthV_eq] at hv
    simp [execOp, Instr.extract, hf.eval hx, hv]) k
theorem HS.gdec {o : Oper} {j : Nat} {b : Bool} {e : Nat} {p1 : Op} {t1 : TypeId} {q1 : String} {a1 : Array Edge} {g1 : Option (Nat × Bool)} {p : Prop} {_ : Decidable p} (hg : o.guard = some (j, b)) (hj : getO l j = some ⟨some e, p1, t1, q1, a1, g1⟩) (hv : look? L e = some (.bool (decide p)))
    (ht : p → HS tl P base n ((e, .bool true) :: L) f A (.ops l (o :: rest) q)) (hf : ¬ p → HS tl P base n ((e, .bool false) :: L) f A (.ops l (o :: rest) q)) : HS tl P base n L f A (.ops l (o :: rest) q) :=
  HS.gset hg hj hv (fun h => ht (of_decide_eq_true h)) (fun h => hf (of_decide_eq_false h))
theorem HS.gyes {o : Oper} {j : Nat} {b : Bool} {e : Nat} {p1 : Op} {t1 : TypeId} {q1 : String} {a1 : Array Edge} {g1 : Option (Nat × Bool)} {p : Prop} {_ : Decidable p} (hg : o.guard = some (j, b)) (hj : getO l j = some ⟨some e, p1, t1, q1, a1, g1⟩) (hv : look? L e = some (.bool (decide p)))
    (hp : p) (ht : HS tl P base n ((e, .bool true) :: L) f A (.ops l (o :: rest) q)) : HS tl P base n L f A (.ops l (o :: rest) q) :=
  HS.gdec hg hj hv (fun _ => ht) (fun h => absurd hp h)
theorem HS.gno {o : Oper} {j : Nat} {b : Bool} {e : Nat} {p1 : Op} {t1 : TypeId} {q1 : String} {a1 : Array Edge} {g1 : Option (Nat × Bool)} {p : Prop} {_ : Decidable p} (hg : o.guard = some (j, b)) (hj : getO l j = some ⟨some e, p1, t1, q1, a1, g1⟩) (hv : look? L e = some (.bool (decide p)))
    (hp : ¬ p) (hf : HS tl P base n ((e, .bool false) :: L) f A (.ops l (o :: rest) q)) : HS tl P base n L f A (.ops l (o :: rest) q) :=
  HS.gdec hg hj hv (fun h => absurd h hp) (fun _ => hf)
theorem HS.gtrue {o : Oper} {j : Nat} {b : Bool} {c : Bool} {e : Nat} {p1 : Op} {t1 : TypeId} {q1 : String} {a1 : Array Edge} {g1 : Option (Nat × Bool)} (hg : o.guard = some (j, b)) (hj : getO l j = some ⟨some e, p1, t1, q1, a1, g1⟩) (hv : look? L e = some (.bool c))
    (hp : c = true) (ht : HS tl P base n ((e, .bool true) :: L) f A (.ops l (o :: rest) q)) : HS tl P base n L f A (.ops l (o :: rest) q) :=
  HS.gset hg hj hv (fun _ => ht) (fun h => by rw [hp] at h; cases h)
theorem HS.gfalse {o : Oper} {j : Nat} {b : Bool} {c : Bool} {e : Nat} {p1 : Op} {t1 : TypeId} {q1 : String} {a1 : Array Edge} {g1 : Option (Nat × Bool)} (hg : o.guard = some (j, b)) (hj : getO l j = some ⟨some e, p1, t1, q1, a1, g1⟩) (hv : look? L e = some (.bool c))
    (hp : c = false) (ht : HS tl P base n ((e, .bool false) :: L) f A (.ops l (o :: rest) q)) : HS tl P base n L f A (.ops l (o :: rest) q) :=
  HS.gset hg hj hv (fun h => by rw [hp] at h; cases h) (fun _ => ht)
theorem HS.fieldAddr {st : TypeId} {x : Operand} {i b off m : Nat} {fs : List Field} {nm tg pk : String} {ft : TypeId} {fo bo : Nat} {em : Bool} [hu : Und P st (.struct fs.toArray)] (hw : want? l L gd = true)
    (hx : ev? L x = some (.pointer (some ⟨b, off, none⟩))) (hf : nthF fs i = some ⟨nm, ft, fo, em, tg, pk, bo⟩) (hs : Siz P ft (m + 1)) (hd : Nat.ble (d + 1) n = true)
    (k : HS tl P base n ((d, .pointer (some ⟨b, off + fo, none⟩)) :: L) f A (.ops l rest q)) : HS tl P base n L f A (.ops l (⟨some d, .fieldAddr st x i, ty, pos, af, gd⟩ :: rest) q) :=
  HS.opV hw hd (fun a w hfr _ => by
    rw [nthF_eq] at hf
    simp [execOp, Instr.fieldAt, hfr.eval hx, hu.run, hf, Instr.sureAddr, fieldPlace, hs.run, add_none]) k
theorem HS.load1 {t : TypeId} {dd : TypeDesc} {x : Operand} {b off : Nat} {v : Value} [hu : Und P t dd] (hw : want? l L gd = true) (hx : ev? L x = some (.pointer (some ⟨b, off, none⟩))) (ha : aggD dd = false)
    (hr : Rd1 f A b off v) (hd : Nat.ble (d + 1) n = true)
    (k : HS tl P base n ((d, v) :: L) f A (.ops l rest q)) : HS tl P base n L f A (.ops l (⟨some d, .load t x, ty, pos, af, gd⟩ :: rest) q) :=
  HS.opV hw hd (fun a w hfr s => by simp [execOp, hfr.eval hx, run_loadAt1 hu ha (hr base w s)]) k
theorem HS.loadN {t : TypeId} {dd : TypeDesc} {m : Nat} {x : Operand} {b off : Nat} {ls : List Value} [hu : Und P t dd] [hs : Siz P t m] (hw : want? l L gd = true) (hx : ev? L x = some (.pointer (some ⟨b, off, none⟩))) (ha : aggD dd = true)
    (hr : Rd f A b off ls) (hm : ls.length = m) (hd : Nat.ble (d + 1) n = true)
    (k : HS tl P base n ((d, .agg ls.toArray) :: L) f A (.ops l rest q)) : HS tl P base n L f A (.ops l (⟨some d, .load t x, ty, pos, af, gd⟩ :: rest) q) :=
  HS.opV hw hd (fun a w hfr s => by simp [execOp, hfr.eval hx, run_loadAtN hu ha hs (hr base w s) hm]) k
theorem HS.len_slice {t e : TypeId} {x : Operand} {p : Option Addr} {m c : Nat} [hu : Und P t (.slice e)] (hw : want? l L gd = true) (hx : ev? L x = some (.slice p m c)) (hd : Nat.ble (d + 1) n = true)
    (k : HS tl P base n ((d, .int .i64 (m : Nat)) :: L) f A (.ops l rest q)) : HS tl P base n L f A (.ops l (⟨some d, .call ⟨.builtin .len, #[x], #[t]⟩, ty, pos, af, gd⟩ :: rest) q) :=
  HS.opV hw hd (fun a w hfr _ => by
    simp [execOp, resolve, invoke, builtin, Builtin.len_, hfr.eval hx, hu.run, goInt]) k
theorem HS.len_string {t : TypeId} {x : Operand} {s : ByteArray} [hu : Und P t .string] (hw : want? l L gd = true) (hx : ev? L x = some (.string s)) (hd : Nat.ble (d + 1) n = true)
    (k : HS tl P base n ((d, .int .i64 (s.size : Nat)) :: L) f A (.ops l rest q)) : HS tl P base n L f A (.ops l (⟨some d, .call ⟨.builtin .len, #[x], #[t]⟩, ty, pos, af, gd⟩ :: rest) q) :=
  HS.opV hw hd (fun a w hfr _ => by
    simp [execOp, resolve, invoke, builtin, Builtin.len_, hfr.eval hx, hu.run, goInt]) k
theorem HS.index_slice {t e : TypeId} {x y : Operand} {b off m c i sz : Nat} {ik : IntKind} {z : Int} [hu : Und P t (.slice e)] [hs : Siz P e sz] (hw : want? l L gd = true)
    (hx : ev? L x = some (.slice (some ⟨b, off, none⟩) m c)) (hy : ev? L y = some (.int ik z)) (hq : z = (i : Nat)) (hi : i < m) (hd : Nat.ble (d + 1) n = true)
    (k : HS tl P base n ((d, .pointer (some ⟨b, off + i * sz, none⟩)) :: L) f A (.ops l rest q)) : HS tl P base n L f A (.ops l (⟨some d, .indexAddr t x y, ty, pos, af, gd⟩ :: rest) q) :=
  HS.opV hw hd (fun a w hfr _ => by
    subst hq
    simp only [execOp, Instr.indexAt, hfr.eval hx, hfr.eval hy, Sem.run_bind, asIntOf, Sem.run_pure, Result.andThen_ok, hu.run]
    simp [hi, hs.run, add_none]) k
theorem HS.index_array {t e : TypeId} {x y : Operand} {b off m i sz : Nat} {ik : IntKind} {z : Int} [hu : Und P t (.array m e)] [hs : Siz P e sz] (hw : want? l L gd = true)
    (hx : ev? L x = some (.pointer (some ⟨b, off, none⟩))) (hy : ev? L y = some (.int ik z)) (hq : z = (i : Nat)) (hi : i < m) (hd : Nat.ble (d + 1) n = true)
    (k : HS tl P base n ((d, .pointer (some ⟨b, off + i * sz, none⟩)) :: L) f A (.ops l rest q)) : HS tl P base n L f A (.ops l (⟨some d, .indexAddr t x y, ty, pos, af, gd⟩ :: rest) q) :=
  HS.opV hw hd (fun a w hfr _ => by
    subst hq
    simp only [execOp, Instr.indexAt, hfr.eval hx, hfr.eval hy, Sem.run_bind, asIntOf, Sem.run_pure, Result.andThen_ok, hu.run, Instr.sureAddr]
    simp [hi, hs.run, add_none]) k
theorem HS.index1 {t e : TypeId} {x y : Operand} {b off m c i : Nat} {ik : IntKind} {z : Int} [hu : Und P t (.slice e)] [hs : Siz P e 1] (hw : want? l L gd = true)
    (hx : ev? L x = some (.slice (some ⟨b, off, none⟩) m c)) (hy : ev? L y = some (.int ik z)) (hq : z = (i : Nat)) (hi : i < m) (hd : Nat.ble (d + 1) n = true)
    (k : HS tl P base n ((d, .pointer (some ⟨b, off + i, none⟩)) :: L) f A (.ops l rest q)) : HS tl P base n L f A (.ops l (⟨some d, .indexAddr t x y, ty, pos, af, gd⟩ :: rest) q) :=
  HS.opV hw hd (fun a w hfr _ => by
    subst hq
    simp only [execOp, Instr.indexAt, hfr.eval hx, hfr.eval hy, Sem.run_bind, asIntOf, Sem.run_pure, Result.andThen_ok, hu.run]
    simp [hi, hs.run, add_none]) k
theorem HS.index0 {t e : TypeId} {x y : Operand} {b m c i sz : Nat} {ik : IntKind} {z : Int} [hu : Und P t (.slice e)] [hs : Siz P e sz] (hw : want? l L gd = true)
    (hx : ev? L x = some (.slice (some ⟨b, 0, none⟩) m c)) (hy : ev? L y = some (.int ik z)) (hq : z = (i : Nat)) (hi : i < m) (hd : Nat.ble (d + 1) n = true)
    (k : HS tl P base n ((d, .pointer (some ⟨b, i * sz, none⟩)) :: L) f A (.ops l rest q)) : HS tl P base n L f A (.ops l (⟨some d, .indexAddr t x y, ty, pos, af, gd⟩ :: rest) q) :=
  HS.opV hw hd (fun a w hfr _ => by
    subst hq
    simp only [execOp, Instr.indexAt, hfr.eval hx, hfr.eval hy, Sem.run_bind, asIntOf, Sem.run_pure, Result.andThen_ok, hu.run]
    simp [hi, hs.run, add_none]) k
theorem HS.lookup {t kt et : TypeId} {x y : Operand} {b : Nat} {m : List (κ × Value)} {k : κ} {z v kv : Value} {A' : List HP} [hu : Und P t (.map kt et)] [hk : KeyT P kt enc] [hz : Zer P et z] (hw : want? l L gd = true)
    (hx : ev? L x = some (.map (some b))) (hy : ev? L y = some kv) (hA : At A (mp b enc m) A' (mp b enc m)) (hkv : kv = enc k) (hv : (getKV m k).getD z = v) (hd : Nat.ble (d + 1) n = true)
    (kk : HS tl P base n ((d, v) :: L) f A (.ops l rest q)) : HS tl P base n L f A (.ops l (⟨some d, .lookup t x y false, ty, pos, af, gd⟩ :: rest) q) :=
  HS.opV hw hd (fun a w hfr s => by
    subst hv; subst hkv
    have h := run_lookup_mp (c := false) (k := k) hu hk hz s hA
    simp only [execOp, hfr.eval hx, hfr.eval hy, Sem.run_bind, h, Result.andThen_ok, Sem.run_pure]
    rfl) kk
theorem HS.lookup2 {t kt et : TypeId} {x y : Operand} {b : Nat} {m : List (κ × Value)} {k : κ} {z v kv : Value} {i : Bool} {A' : List HP} [hu : Und P t (.map kt et)] [hk : KeyT P kt enc] [hz : Zer P et z] (hw : want? l L gd = true)
    (hx : ev? L x = some (.map (some b))) (hy : ev? L y = some kv) (hA : At A (mp b enc m) A' (mp b enc m)) (hkv : kv = enc k) (hv : (getKV m k).getD z = v) (hi : (getKV m k).isSome = i) (hd : Nat.ble (d + 1) n = true)
    (kk : HS tl P base n ((d, .tuple #[v, .bool i]) :: L) f A (.ops l rest q)) : HS tl P base n L f A (.ops l (⟨some d, .lookup t x y true, ty, pos, af, gd⟩ :: rest) q) :=
  HS.opV hw hd (fun a w hfr s => by
    subst hv; subst hkv; subst hi
    have h := run_lookup_mp (c := true) (k := k) hu hk hz s hA
    simp only [execOp, hfr.eval hx, hfr.eval hy, Sem.run_bind, h, Result.andThen_ok, Sem.run_pure]
    rfl) kk
theorem HS.len_map {t kt et : TypeId} {x : Operand} {b : Nat} {m : List (κ × Value)} {A' : List HP} [hu : Und P t (.map kt et)] (hw : want? l L gd = true)
    (hx : ev? L x = some (.map (some b))) (hA : At A (mp b enc m) A' (mp b enc m)) (hd : Nat.ble (d + 1) n = true)
    (kk : HS tl P base n ((d, .int .i64 (m.length : Nat)) :: L) f A (.ops l rest q)) : HS tl P base n L f A (.ops l (⟨some d, .call ⟨.builtin .len, #[x], #[t]⟩, ty, pos, af, gd⟩ :: rest) q) :=
  HS.opV hw hd (fun a w hfr s => by
    obtain ⟨es, clock, hm, _, _, _, hb⟩ := s.mp_at hA
    subst hm
    simp [execOp, resolve, invoke, builtin, Builtin.len_, hfr.eval hx, hu.run, goInt, run_getMap hb]) kk
end rules
end Go.Proofs.YtcaofnfemogleaaGreatDoor

/- The engine, part g: literals (structs, arrays, slices), slice expressions, '== nil' at slices and maps, other conversions. No program in sight; no conditions. -/
namespace Go.Proofs.YtcaofnfemogleaaGreatDoor
set_option linter.unusedSectionVars false
set_option linter.unusedSimpArgs false
set_option linter.unusedVariables false
open Go

def cellsL : Value → List Value
  | .agg cs => cs.toList
  | v => [v]
def spl : List Value → Nat → List Value → List Value
  | cs, 0, [] => cs
  | _ :: cs, 0, v :: vs => v :: spl cs 0 vs
  | c :: cs, n + 1, vs => c :: spl cs n vs
  | [], _, _ => []
def fillL (place : Nat → Option (Nat × Nat)) : List Value → List (Nat × Value) → Option (List Value)
  | cs, [] => some cs
  | cs, (i, v) :: r => match place i with
    | none => none
    | some (off, size) => match Nat.beq (cellsL v).length size && Nat.ble (off + size) cs.length with
      | true => fillL place (spl cs off (cellsL v)) r
      | false => none

theorem cellsL_eq (v : Value) : v.cells.toList = cellsL v := by cases v <;> rfl

theorem spl_get : ∀ (cs : List Value) (off : Nat) (vs : List Value), off + vs.length ≤ cs.length → ∀ i, (spl cs off vs)[i]? = if off ≤ i ∧ i < off + vs.length then vs[i - off]? else cs[i]?
  | [], off, vs, h, i => by
    have h' : off + vs.length ≤ 0 := h
    have h1 : off = 0 := by omega
    have h2 : vs = [] := List.eq_nil_of_length_eq_zero (by omega)
    subst h1; subst h2; simp [spl]
  | c :: cs, 0, [], _, i => by simp [spl]
  | c :: cs, 0, v :: vs, h, i => by
    simp only [List.length_cons] at h
    cases i with
    | zero => simp [spl]
    | succ i =>
      simp only [spl, List.getElem?_cons_succ]
      rw [spl_get cs 0 vs (by omega) i]
      simp
  | c :: cs, off + 1, vs, h, i => by
    simp only [List.length_cons] at h
    cases i with
    | zero => simp [spl]
    | succ i =>
      simp only [spl, List.getElem?_cons_succ]
      rw [spl_get cs off vs (by omega) i]
      have e1 : (off + 1 ≤ i + 1 ∧ i + 1 < off + 1 + vs.length) ↔ (off ≤ i ∧ i < off + vs.length) := by omega
      simp only [e1, Nat.reduceSubDiff]
theorem spl_length : ∀ (cs : List Value) (off : Nat) (vs : List Value), off + vs.length ≤ cs.length → (spl cs off vs).length = cs.length
  | [], off, vs, h => by
    have h' : off + vs.length ≤ 0 := h
    have h1 : off = 0 := by omega
    have h2 : vs = [] := List.eq_nil_of_length_eq_zero (by omega)
    subst h1; subst h2; rfl
  | c :: cs, 0, [], _ => rfl
  | c :: cs, 0, v :: vs, h => by simp only [List.length_cons] at h; simp [spl, spl_length cs 0 vs (by omega)]
  | c :: cs, off + 1, vs, h => by simp only [List.length_cons] at h; simp [spl, spl_length cs off vs (by omega)]
theorem spl_splice (cs : List Value) (off : Nat) (vs : List Value) (h : off + vs.length ≤ cs.length) : spl cs off vs = splice cs off vs := by
  apply List.ext_getElem?
  intro i
  rw [spl_get cs off vs h]
  unfold splice
  simp only [List.getElem?_append, List.length_append, List.length_take, List.getElem?_take, List.getElem?_drop]
  have e : min off cs.length = off := by omega
  rw [e]
  by_cases c1 : i < off
  · simp [c1, show ¬ off ≤ i by omega, show i < off + vs.length by omega]
  · by_cases c2 : i < off + vs.length
    · simp [c1, c2, show off ≤ i by omega]
    · have : off + vs.length + (i - (off + vs.length)) = i := by omega
      simp [c2, this]

theorem fold_spl (off : Nat) : ∀ (vs : List Value) (k : Nat) (cs : List Value), off + k + vs.length ≤ cs.length →
    (vs.zipIdx k).foldl (fun (cs : Array Value) (x : Value × Nat) => cs.setIfInBounds (off + x.2) x.1) cs.toArray = (splice cs (off + k) vs).toArray
  | [], k, cs, _ => by simp [splice_nil]
  | v :: vs, k, cs, h => by
    simp only [List.length_cons] at h
    simp only [List.zipIdx_cons, List.foldl_cons]
    have e : (cs.toArray.setIfInBounds (off + k) v) = (cs.set (off + k) v).toArray := by simp
    rw [e, fold_spl off vs (k + 1) _ (by simp; omega), ← splice_cons cs (off + k) v vs (by omega)]
    rfl

theorem fill_eq (place : Nat → Option (Nat × Nat)) : ∀ (parts : List (Nat × Value)) (cs out : List Value), fillL place cs parts = some out →
    Instr.fill place cs.toArray parts = some out.toArray
  | [], cs, out, h => by simp [fillL] at h; simp [Instr.fill, h]
  | (i, v) :: r, cs, out, h => by
    simp only [fillL] at h
    unfold Instr.fill
    cases hp : place i with
    | none => rw [hp] at h; cases h
    | some os =>
      obtain ⟨off, size⟩ := os
      rw [hp] at h
      simp only at h ⊢
      split at h
      · rename_i hb
        simp only [Bool.and_eq_true] at hb
        have h1 : (cellsL v).length = size := Nat.eq_of_beq_eq_true hb.1
        have h2 : off + size ≤ cs.length := Nat.le_of_ble_eq_true hb.2
        have h3 : v.cells.size = size := by rw [← h1, ← cellsL_eq]; simp
        have hc : ¬ (v.cells.size ≠ size ∨ off + v.cells.size > cs.toArray.size) := by rw [h3]; simp; omega
        simp only [Bool.or_eq_true, decide_eq_true_eq, ne_eq, hc, if_false]
        have hf : v.cells.zipIdx.foldl (fun (cs : Array Value) (x : Value × Nat) => cs.setIfInBounds (off + x.2) x.1) cs.toArray = (spl cs off (cellsL v)).toArray := by
          rw [spl_splice _ _ _ (by omega), ← cellsL_eq]
          have e := fold_spl off v.cells.toList 0 cs (by simp [h3]; omega)
          rw [Nat.add_zero] at e
          rw [← e, ← Array.foldl_toList]
          congr 1
          rw [Array.toList_zipIdx]
        have e2 : ∀ (a : Array Value), (v.cells.zipIdx.foldl (fun cs (x : Value × Nat) => match x with | (c, j) => cs.setIfInBounds (off + j) c) a) = v.cells.zipIdx.foldl (fun (cs : Array Value) (x : Value × Nat) => cs.setIfInBounds (off + x.2) x.1) a := fun a => rfl
        rw [e2, hf]
        exact fill_eq place r _ _ h
      · cases h

/-- Where the fields of a struct type lie. -/
class Plc (P : Program) (t : TypeId) (pl : outParam (List (Nat × Nat))) : Prop where
  eq : ∀ (fs : Array Field) (w : World), P.underlying t = some (.struct fs) → (fs.mapM fun (f : Field) => do pure (f.offset, ← sizeOf f.type)).run P w = .ok pl.toArray w

def nthP : List (Nat × Nat) → Nat → Option (Nat × Nat)
  | [], _ => none
  | v :: _, 0 => some v
  | _ :: r, i + 1 => nthP r i
theorem nthP_eq : ∀ (l : List (Nat × Nat)) (i : Nat), nthP l i = l[i]?
  | [], i => by simp [nthP]
  | o :: r, 0 => by simp [nthP]
  | o :: r, i + 1 => by simp [nthP, nthP_eq r i]
def evP (L : Env) : List (Nat × Operand) → Option (List (Nat × Value))
  | [] => some []
  | (i, x) :: r => (ev? L x).bind fun v => (evP L r).bind fun vs => some ((i, v) :: vs)
theorem Fr.evP {n : Nat} {a : Act} {L : Env} (h : Fr n a L) : ∀ {xs : List (Nat × Operand)} {vs : List (Nat × Value)}, evP L xs = some vs → xs.map (fun p => (p.1, a.eval p.2)) = vs
  | [], vs, hx => by simp [Proofs.YtcaofnfemogleaaGreatDoor.evP] at hx; simp [hx]
  | (i, x) :: xs, vs, hx => by
    simp only [Proofs.YtcaofnfemogleaaGreatDoor.evP, Option.bind_eq_some_iff, Option.some.injEq] at hx
    obtain ⟨v, hv, us, hus, rfl⟩ := hx
    simp [h.eval hv, h.evP hus]

/-- The cells of n elements, all zero. -/
def zeros (z : List Value) : Nat → List Value
  | 0 => []
  | n + 1 => z ++ zeros z n
theorem zeros_length (z : List Value) (n : Nat) : (zeros z n).length = n * z.length := by
  induction n with
  | zero => simp [zeros]
  | succ n ih => simp [zeros, ih, Nat.add_mul, Nat.add_comm]
theorem zeros_get (z : List Value) : ∀ (n i : Nat), i < n * z.length → (zeros z n)[i]? = z[i % z.length]?
  | 0, i, h => by simp at h
  | n + 1, i, h => by
    simp only [zeros]
    by_cases c : i < z.length
    · rw [List.getElem?_append_left c, Nat.mod_eq_of_lt c]
    · rw [List.getElem?_append_right (by omega), zeros_get z n _ (by rw [Nat.add_mul, Nat.one_mul] at h; omega), Nat.mod_eq_sub_mod (a := i) (by omega)]
theorem zeros_array (z : List Value) (n : Nat) (hz : 0 < z.length) : ((Array.range (n * z.length)).map (z.toArray[· % z.toArray.size]!)) = (zeros z n).toArray := by
  apply Array.ext_getElem?
  intro i
  by_cases h : i < n * z.length
  · have := Nat.mod_lt i hz
    simp [h, zeros_get z n i h, this]
  · simp [h, List.getElem?_eq_none (show (zeros z n).length ≤ i by rw [zeros_length]; omega)]

section rules
variable {P : Program} {base : World} {n : Nat} {L : Env} {f : Frag} {A : List HP} {q : Post}
variable {l rest : List Oper} {d : Nat} {ty : TypeId} {pos : String} {af : Array Edge} {gd : Option (Nat × Bool)}

theorem H.build {t : TypeId} {ps : List (Nat × Operand)} {vs : List (Nat × Value)} {fs : List Field} {pl : List (Nat × Nat)} {z : Value} {zs out : List Value} [hu : Und P t (.struct fs.toArray)] [hpl : Plc P t pl] [hz : Zer P t z] (hw : want? l L gd = true)
    (hx : evP L ps = some vs) (hzs : cellsL z = zs) (ho : fillL (nthP pl) zs vs = some out) (hd : Nat.ble (d + 1) n = true)
    (k : H P base n ((d, .agg out.toArray) :: L) f A (.ops l rest q)) : H P base n L f A (.ops l (⟨some d, .build t ps.toArray, ty, pos, af, gd⟩ :: rest) q) :=
  H.opV hw hd (fun a w hfr _ => by
    subst hzs
    have h1 := hpl.eq fs.toArray w hu.eq
    have h2 := fill_eq _ _ _ _ ho
    have h3 : (fun i => pl.toArray[i]?) = nthP pl := by funext i; rw [nthP_eq]; simp
    have h4 : z.cells = (cellsL z).toArray := by rw [← cellsL_eq]
    have h5 : (ps.toArray.map fun x : Nat × Operand => (x.1, a.eval x.2)).toList = vs := by rw [List.map_toArray]; exact hfr.evP hx
    show Sem.run P (Instr.build t (ps.toArray.map fun x => (x.1, a.eval x.2)) >>= fun v => pure (Next.value v)) w = _
    unfold Instr.build
    simp only [Sem.run_bind, hz.run, Result.andThen_ok, hu.run, h1, h3, h4, h5, h2, Sem.run_pure]) k
theorem H.buildA {t e : TypeId} {len sz : Nat} {ps : List (Nat × Operand)} {vs : List (Nat × Value)} {z : Value} {zs out : List Value} [hu : Und P t (.array len e)] [hsz : Siz P e sz] [hz : Zer P t z] (hw : want? l L gd = true)
    (hx : evP L ps = some vs) (hzs : cellsL z = zs) (ho : fillL (fun i => some (i * sz, sz)) zs vs = some out) (hd : Nat.ble (d + 1) n = true)
    (k : H P base n ((d, .agg out.toArray) :: L) f A (.ops l rest q)) : H P base n L f A (.ops l (⟨some d, .build t ps.toArray, ty, pos, af, gd⟩ :: rest) q) :=
  H.opV hw hd (fun a w hfr _ => by
    subst hzs
    have h2 := fill_eq _ _ _ _ ho
    have h4 : z.cells = (cellsL z).toArray := by rw [← cellsL_eq]
    have h5 : (ps.toArray.map fun x : Nat × Operand => (x.1, a.eval x.2)).toList = vs := by rw [List.map_toArray]; exact hfr.evP hx
    show Sem.run P (Instr.build t (ps.toArray.map fun x => (x.1, a.eval x.2)) >>= fun v => pure (Next.value v)) w = _
    unfold Instr.build
    simp only [Sem.run_bind, hz.run, Result.andThen_ok, hu.run, hsz.run, h4, h5, h2, Sem.run_pure]) k

theorem H.buildSlice {t e : TypeId} {len sz : Nat} {ps : List (Nat × Operand)} {vs : List (Nat × Value)} {z : Value} {zs out : List Value} [hu : Und P t (.slice e)] [hsz : Siz P e sz] [hz : Zer P e z] (hw : want? l L gd = true)
    (hx : evP L ps = some vs) (hzs : cellsL z = zs) (h0 : zs.length = sz) (h1 : 0 < sz) (hlen : len * sz ≤ 16777216) (ho : fillL (fun i => some (i * sz, sz)) (zeros zs len) vs = some out) (hd : Nat.ble (d + 1) n = true)
    (k : ∀ b, H P base n ((d, .slice (some ⟨b, 0, none⟩) len len) :: L) f (row b e out :: A) (.ops l rest q)) : H P base n L f A (.ops l (⟨some d, .buildSlice t len ps.toArray, ty, pos, af, gd⟩ :: rest) q) :=
  H.opE (fun b => .slice (some ⟨b, 0, none⟩) len len) (fun _ => f) (fun b => row b e out :: A) (fun _ => True) hw hd (fun a w hfr s => by
    subst hzs; subst h0
    have h2 := fill_eq _ _ _ _ ho
    have h4 : z.cells = (cellsL z).toArray := by rw [← cellsL_eq]
    have h5 : (ps.toArray.map fun x : Nat × Operand => (x.1, a.eval x.2)).toList = vs := by rw [List.map_toArray]; exact hfr.evP hx
    have h6 : ¬ (len * (cellsL z).length > 2 ^ 24) := by omega
    refine ⟨w.heap.size, w.alloc (.cells out.toArray e (0, 0)), trivial, ?_, s.alloc rfl rfl rfl rfl⟩
    show Sem.run P (Instr.buildSlice t len (ps.toArray.map fun x => (x.1, a.eval x.2)) >>= fun v => pure (Next.value v)) w = _
    unfold Instr.buildSlice newRow
    by_cases c : len * (cellsL z).length = 0
    · have c0 : len = 0 := by
        rcases Nat.mul_eq_zero.1 c with h | h
        · exact h
        · omega
      subst c0
      have e0 : (Array.range (0 * (cellsL z).length)).map ((#[] : Array Value)[· % (#[] : Array Value).size]!) = (zeros (cellsL z) 0).toArray := by simp [zeros]
      simp only [Sem.run_bind, hu.run, hsz.run, Result.andThen_ok, if_neg h6, if_pos c, Sem.run_pure, e0, h5, h2, run_newObj]
      rfl
    · have e1 := zeros_array (cellsL z) len h1
      simp only [Sem.run_bind, hu.run, hsz.run, hz.run, Result.andThen_ok, if_neg h6, if_neg c, Sem.run_pure, h4, e1, h5, h2, run_newObj]
      rfl) (fun b _ => k b)

def slP (p : Option Addr) (l m sz : Nat) : Option Addr := if m = l then p else p.map (·.add (l * sz))
def bnd (L : Env) (o : Option Operand) (i dflt : Nat) : Prop := match o with
  | none => i = dflt
  | some x => ∃ k z, ev? L x = some (.int k z) ∧ z = (i : Nat)

theorem run_bound {w : World} {k : IntKind} {i y : Nat} {c : BoundsCode} (h : i ≤ y) : (Instr.sliceBound (.int k (i : Nat)) y c).run P w = .ok i w := by
  unfold Instr.sliceBound
  have : (0 : Int) ≤ i ∧ (i : Int) ≤ y := by omega
  simp [asIntOf, h]
theorem run_bounds {w : World} {a : Act} (hfr : Fr n a L) {lo hi mx : Option Operand} {lv hv mv len cap : Nat} {isS : Bool} (h1 : bnd L lo lv 0) (h2 : bnd L hi hv len) (h3 : bnd L mx mv cap) (hmx : mx.isSome → hi.isSome)
    (a1 : lv ≤ hv) (a2 : hv ≤ mv) (a3 : mv ≤ cap) : (Instr.sliceBounds isS len cap (lo.map a.eval) (hi.map a.eval) (mx.map a.eval)).run P w = .ok (lv, hv, mv) w := by
  unfold Instr.sliceBounds
  cases lo with
  | none =>
    cases hi with
    | none =>
      cases mx with
      | none => simp only [bnd] at h1 h2 h3; subst h1; subst h2; subst h3; simp
      | some m => simp at hmx
    | some hh =>
      obtain ⟨kh, zh, eh, rfl⟩ := h2
      simp only [bnd] at h1; subst h1
      cases mx with
      | none => simp only [bnd] at h3; subst h3; simp [hfr.eval eh, run_bound a2]
      | some m =>
        obtain ⟨km, zm, em, rfl⟩ := h3
        simp [hfr.eval eh, hfr.eval em, run_bound a2, run_bound a3]
  | some ll =>
    obtain ⟨kl, zl, el, rfl⟩ := h1
    cases hi with
    | none =>
      cases mx with
      | none => simp only [bnd] at h2 h3; subst h2; subst h3; simp [hfr.eval el, run_bound a1]
      | some m => simp at hmx
    | some hh =>
      obtain ⟨kh, zh, eh, rfl⟩ := h2
      cases mx with
      | none => simp only [bnd] at h3; subst h3; simp [hfr.eval eh, hfr.eval el, run_bound a2, run_bound a1]
      | some m =>
        obtain ⟨km, zm, em, rfl⟩ := h3
        simp [hfr.eval eh, hfr.eval em, hfr.eval el, run_bound a2, run_bound a3, run_bound a1]

/-- 'x[lo:hi:mx]' at a slice. -/
theorem H.slice {t e : TypeId} {x : Operand} {lo hi mx : Option Operand} {p : Option Addr} {len cap lv hv mv sz : Nat} [hu : Und P t (.slice e)] [hs : Siz P e sz] (hw : want? l L gd = true)
    (hx : ev? L x = some (.slice p len cap)) (h1 : bnd L lo lv 0) (h2 : bnd L hi hv len) (h3 : bnd L mx mv cap) (hmx : mx.isSome → hi.isSome) (a1 : lv ≤ hv) (a2 : hv ≤ mv) (a3 : mv ≤ cap) (hd : Nat.ble (d + 1) n = true)
    (k : H P base n ((d, .slice (slP p lv mv sz) (hv - lv) (mv - lv)) :: L) f A (.ops l rest q)) : H P base n L f A (.ops l (⟨some d, .slice t x lo hi mx, ty, pos, af, gd⟩ :: rest) q) :=
  H.opV hw hd (fun a w hfr _ => by
    have hb := run_bounds (P := P) (w := w) (isS := true) hfr h1 h2 h3 hmx a1 a2 a3
    show Sem.run P (Instr.sliceAt t (a.eval x) (lo.map a.eval) (hi.map a.eval) (mx.map a.eval) >>= fun v => pure (Next.value v)) w = _
    unfold Instr.sliceAt Instr.slice
    simp only [Sem.run_bind, hu.run, Result.andThen_ok, hfr.eval hx, hb, hs.run, Sem.run_pure, slP]) k
/-- 'x[lo:hi:mx]' at an array. -/
theorem H.sliceArr {t e : TypeId} {x : Operand} {lo hi mx : Option Operand} {b off len lv hv mv sz : Nat} [hu : Und P t (.array len e)] [hs : Siz P e sz] (hw : want? l L gd = true)
    (hx : ev? L x = some (.pointer (some ⟨b, off, none⟩))) (h1 : bnd L lo lv 0) (h2 : bnd L hi hv len) (h3 : bnd L mx mv len) (hmx : mx.isSome → hi.isSome) (a1 : lv ≤ hv) (a2 : hv ≤ mv) (a3 : mv ≤ len) (hd : Nat.ble (d + 1) n = true)
    (k : H P base n ((d, .slice (slP (some ⟨b, off, none⟩) lv mv sz) (hv - lv) (mv - lv)) :: L) f A (.ops l rest q)) : H P base n L f A (.ops l (⟨some d, .slice t x lo hi mx, ty, pos, af, gd⟩ :: rest) q) :=
  H.opV hw hd (fun a w hfr _ => by
    have hb := run_bounds (P := P) (w := w) (isS := false) hfr h1 h2 h3 hmx a1 a2 a3
    show Sem.run P (Instr.sliceAt t (a.eval x) (lo.map a.eval) (hi.map a.eval) (mx.map a.eval) >>= fun v => pure (Next.value v)) w = _
    unfold Instr.sliceAt
    simp only [Sem.run_bind, hu.run, Result.andThen_ok, hfr.eval hx, hb, hs.run, Sem.run_pure, slP, Instr.sureAddr]
    split <;> rfl) k

theorem run_equal_sn {t e : TypeId} (hu : Und P t (.slice e)) (p : Option Addr) (m c : Nat) (w : World) : (Op.equal t (.slice p m c) (.slice none 0 0)).run P w = .ok p.isNone w := by
  have h : ∀ d, (Op.equalIn (d + 1) t (.slice p m c) (.slice none 0 0)).run P w = .ok p.isNone w := fun d => by
    cases p <;> simp [Op.equalIn, hu.run]
  exact h 9999
theorem run_guard_slice (op : BinOp) (t : TypeId) (x y : Operand) (p : Option Addr) (m c : Nat) (w : World) : (eqGuard op t x y (.slice p m c) (.slice none 0 0)).run P w = .ok () w := by
  cases op <;> rfl
theorem H.sliceNil {op : BinOp} {xt yt e : TypeId} {x y : Operand} {p : Option Addr} {m c : Nat} {b : Bool} [hu : Und P xt (.slice e)] (hw : want? l L gd = true) (hx : ev? L x = some (.slice p m c)) (hy : ev? L y = some (.slice none 0 0)) (hb : nilP op p = some b) (hd : Nat.ble (d + 1) n = true)
    (kk : H P base n ((d, .bool b) :: L) f A (.ops l rest q)) : H P base n L f A (.ops l (⟨some d, .binOp op xt x y yt, ty, pos, af, gd⟩ :: rest) q) :=
  H.opV hw hd (fun a w hf _ => by
    refine run_bin _ ?_ ?_
    · rw [hf.eval hx, hf.eval hy]; exact run_guard_slice _ _ _ _ _ _ _ _
    · rw [hf.eval hx, hf.eval hy]
      have e1 : Sem.run P (do pure (Value.bool (← Op.equal xt (.slice p m c) (.slice none 0 0)))) w = .ok (.bool p.isNone) w := by simp [run_equal_sn hu]
      have e2 : Sem.run P (do pure (Value.bool (!(← Op.equal xt (.slice p m c) (.slice none 0 0))))) w = .ok (.bool (!p.isNone)) w := by simp [run_equal_sn hu]
      cases op <;> cases p <;> simp only [nilP, Option.some.injEq, reduceCtorEq] at hb <;> subst hb <;> first | exact e1 | exact e2) kk
end rules
end Go.Proofs.YtcaofnfemogleaaGreatDoor

/- The engine, part h: small laws: wraps, opening and closing what is owned. No program in sight; no conditions. -/
namespace Go.Proofs.YtcaofnfemogleaaGreatDoor
set_option linter.unusedSectionVars false
set_option linter.unusedSimpArgs false
set_option linter.unusedVariables false
open Go

theorem wr_i64 {z : Int} (h : -9223372036854775808 ≤ z ∧ z ≤ 9223372036854775807) : IntKind.i64.wrap z = z := IntWalk.i64_in z h
theorem wr_u64 {z : Int} (h : 0 ≤ z ∧ z ≤ 18446744073709551615) : IntKind.u64.wrap z = z := IntWalk.u64_in z h
theorem wr_u8 {z : Int} (h : 0 ≤ z ∧ z ≤ 255) : IntKind.u8.wrap z = z := IntWalk.u8_in z h
theorem wr_u16 {z : Int} (h : 0 ≤ z ∧ z ≤ 65535) : IntKind.u16.wrap z = z := IntWalk.u16_in z h
theorem wr_u32 {z : Int} (h : 0 ≤ z ∧ z ≤ 4294967295) : IntKind.u32.wrap z = z := IntWalk.u32_in z h
theorem wr_i64_nn {a b : Nat} (h : a + b ≤ 9223372036854775807) : IntKind.i64.wrap ((a : Int) + (b : Int)) = ((a + b : Nat) : Int) := by
  rw [wr_i64 (by omega)]; omega
theorem wr_i64_n1 {a : Nat} (h : a + 1 ≤ 9223372036854775807) : IntKind.i64.wrap ((a : Int) + 1) = ((a + 1 : Nat) : Int) := by
  rw [wr_i64 (by omega)]; omega
theorem wr_i64_s1 {a : Nat} (h : a ≤ 9223372036854775807) : IntKind.i64.wrap (((a + 1 : Nat) : Int) - 1) = (a : Int) := by
  rw [wr_i64 (by omega)]; omega
theorem wr_u64_n1 {a : Nat} (h : a + 1 ≤ 18446744073709551615) : IntKind.u64.wrap ((a : Int) + 1) = ((a + 1 : Nat) : Int) := by
  rw [wr_u64 (by omega)]; omega

theorem fold_stars {p : HP} {B A : List HP} (h : ∀ x, stars B x → p x) : ∀ x, stars (B ++ A) x → stars (p :: A) x := by
  intro x hx
  rw [stars_append] at hx
  obtain ⟨m1, m2, d, e, a, b⟩ := hx
  exact ⟨m1, m2, d, e, h m1 a, b⟩
theorem unfold_stars {p : HP} {B A : List HP} (h : ∀ x, p x → stars B x) : ∀ x, stars (p :: A) x → stars (B ++ A) x := by
  rintro x ⟨m1, m2, d, e, a, b⟩
  rw [stars_append]
  exact ⟨m1, m2, d, e, h m1 a, b⟩
theorem keep_stars {p : HP} {B A : List HP} (h : ∀ x, stars B x → stars A x) : ∀ x, stars (p :: B) x → stars (p :: A) x := by
  rintro x ⟨m1, m2, d, e, a, b⟩
  exact ⟨m1, m2, d, e, a, h m2 b⟩
theorem pull_stars {p : HP} {B A : List HP} (h : Pull B p A) : ∀ x, stars B x → stars (p :: A) x := by
  intro x hx; rw [h.eq] at hx; exact hx
theorem stars_two {p q : HP} {A : List HP} {x : Frag} : stars (p :: q :: A) x → stars (q :: p :: A) x := by
  intro h; exact pull_stars (.there _ (.here _ _)) x h

theorem Fn.unfold {P : Program} {fid : FuncId} {args : List Value} {f : Frag} {A : List HP} {R : Value → Frag → List HP → Prop} {p : HP} {ι : Sort _} {B : ι → List HP} (hp : ∀ h, p h → ∃ i, stars (B i) h)
    (k : ∀ i, Fn P fid args f (B i ++ A) R) : Fn P fid args f (p :: A) R := fun base w s => by
  obtain ⟨a1, a2, a3, a4, a5, m, ⟨m1, m2, d, e, a, b⟩, hd, hw⟩ := s
  obtain ⟨i, hi⟩ := hp m1 a
  exact k i base w ⟨a1, a2, a3, a4, a5, m, by rw [stars_append]; exact ⟨m1, m2, d, e, hi, b⟩, hd, hw⟩
theorem H.unfold {P : Program} {base : World} {n : Nat} {L : Env} {f : Frag} {A : List HP} {K : Kont} {p : HP} {ι : Sort _} {B : ι → List HP} (hp : ∀ h, p h → ∃ i, stars (B i) h)
    (k : ∀ i, H P base n L f (B i ++ A) K) : H P base n L f (p :: A) K := .mk fun a w hf s => by
  obtain ⟨a1, a2, a3, a4, a5, m, ⟨m1, m2, d, e, aa, b⟩, hd, hw⟩ := s
  obtain ⟨i, hi⟩ := hp m1 aa
  exact (k i).out a w hf ⟨a1, a2, a3, a4, a5, m, by rw [stars_append]; exact ⟨m1, m2, d, e, hi, b⟩, hd, hw⟩
theorem Fn.imp {P : Program} {fid : FuncId} {args : List Value} {f : Frag} {A A' : List HP} {R : Value → Frag → List HP → Prop} (hx : ∀ x, stars A x → stars A' x) (k : Fn P fid args f A' R) : Fn P fid args f A R := fun base w s => k base w (s.imp hx)
theorem Fn.front {P : Program} {fid : FuncId} {args : List Value} {f : Frag} {A A' : List HP} {x : HP} {R : Value → Frag → List HP → Prop} (hp : Pull A x A') (k : Fn P fid args f (x :: A') R) : Fn P fid args f A R := fun base w s => k base w (s.front hp)

section rules
variable {P : Program} {base : World} {n : Nat} {L : Env} {f : Frag} {A V : List HP} {q : Post} {ξ : Ext} {tl : List Oper}
variable {l rest : List Oper} {d : Nat} {ty : TypeId} {pos : String} {af : Array Edge} {gd : Option (Nat × Bool)}
theorem HQ.build {t : TypeId} {ps : List (Nat × Operand)} {vs : List (Nat × Value)} {fs : List Field} {pl : List (Nat × Nat)} {z : Value} {zs out : List Value} [hu : Und P t (.struct fs.toArray)] [hpl : Plc P t pl] [hz : Zer P t z] (hw : want? l L gd = true)
    (hx : evP L ps = some vs) (hzs : cellsL z = zs) (ho : fillL (nthP pl) zs vs = some out) (hd : Nat.ble (d + 1) n = true) {lst : Lst} {ti : Nat} {tt : List (Nat × Bool)}
    (k : HQ V ⟨lst.setIfInBounds ti true, tt⟩ P base n ((d, .agg out.toArray) :: L) f A (.ops l rest q)) : HQ V ⟨lst, (ti, false) :: tt⟩ P base n L f A (.ops l (⟨some d, .build t ps.toArray, ty, pos, af, gd⟩ :: rest) q) :=
  HQ.opV hw hd (fun a w hfr _ => by
    subst hzs
    have h1 := hpl.eq fs.toArray w hu.eq
    have h2 := fill_eq _ _ _ _ ho
    have h3 : (fun i => pl.toArray[i]?) = nthP pl := by funext i; rw [nthP_eq]; simp
    have h4 : z.cells = (cellsL z).toArray := by rw [← cellsL_eq]
    have h5 : (ps.toArray.map fun x : Nat × Operand => (x.1, a.eval x.2)).toList = vs := by rw [List.map_toArray]; exact hfr.evP hx
    show Sem.run P (Instr.build t (ps.toArray.map fun x => (x.1, a.eval x.2)) >>= fun v => pure (Next.value v)) w = _
    unfold Instr.build
    simp only [Sem.run_bind, hz.run, Result.andThen_ok, hu.run, h1, h3, h4, h5, h2, Sem.run_pure]) k
theorem HQ.buildA {t e : TypeId} {len sz : Nat} {ps : List (Nat × Operand)} {vs : List (Nat × Value)} {z : Value} {zs out : List Value} [hu : Und P t (.array len e)] [hsz : Siz P e sz] [hz : Zer P t z] (hw : want? l L gd = true)
    (hx : evP L ps = some vs) (hzs : cellsL z = zs) (ho : fillL (fun i => some (i * sz, sz)) zs vs = some out) (hd : Nat.ble (d + 1) n = true) {lst : Lst} {ti : Nat} {tt : List (Nat × Bool)}
    (k : HQ V ⟨lst.setIfInBounds ti true, tt⟩ P base n ((d, .agg out.toArray) :: L) f A (.ops l rest q)) : HQ V ⟨lst, (ti, false) :: tt⟩ P base n L f A (.ops l (⟨some d, .build t ps.toArray, ty, pos, af, gd⟩ :: rest) q) :=
  HQ.opV hw hd (fun a w hfr _ => by
    subst hzs
    have h2 := fill_eq _ _ _ _ ho
    have h4 : z.cells = (cellsL z).toArray := by rw [← cellsL_eq]
    have h5 : (ps.toArray.map fun x : Nat × Operand => (x.1, a.eval x.2)).toList = vs := by rw [List.map_toArray]; exact hfr.evP hx
    show Sem.run P (Instr.build t (ps.toArray.map fun x => (x.1, a.eval x.2)) >>= fun v => pure (Next.value v)) w = _
    unfold Instr.build
    simp only [Sem.run_bind, hz.run, Result.andThen_ok, hu.run, hsz.run, h4, h5, h2, Sem.run_pure]) k
theorem HQ.slice {t e : TypeId} {x : Operand} {lo hi mx : Option Operand} {p : Option Addr} {len cap lv hv mv sz : Nat} [hu : Und P t (.slice e)] [hs : Siz P e sz] (hw : want? l L gd = true)
    (hx : ev? L x = some (.slice p len cap)) (h1 : bnd L lo lv 0) (h2 : bnd L hi hv len) (h3 : bnd L mx mv cap) (hmx : mx.isSome → hi.isSome) (a1 : lv ≤ hv) (a2 : hv ≤ mv) (a3 : mv ≤ cap) (hd : Nat.ble (d + 1) n = true) {lst : Lst} {ti : Nat} {tt : List (Nat × Bool)}
    (k : HQ V ⟨lst.setIfInBounds ti true, tt⟩ P base n ((d, .slice (slP p lv mv sz) (hv - lv) (mv - lv)) :: L) f A (.ops l rest q)) : HQ V ⟨lst, (ti, false) :: tt⟩ P base n L f A (.ops l (⟨some d, .slice t x lo hi mx, ty, pos, af, gd⟩ :: rest) q) :=
  HQ.opV hw hd (fun a w hfr _ => by
    have hb := run_bounds (P := P) (w := w) (isS := true) hfr h1 h2 h3 hmx a1 a2 a3
    show Sem.run P (Instr.sliceAt t (a.eval x) (lo.map a.eval) (hi.map a.eval) (mx.map a.eval) >>= fun v => pure (Next.value v)) w = _
    unfold Instr.sliceAt Instr.slice
    simp only [Sem.run_bind, hu.run, Result.andThen_ok, hfr.eval hx, hb, hs.run, Sem.run_pure, slP]) k
theorem HQ.sliceArr {t e : TypeId} {x : Operand} {lo hi mx : Option Operand} {b off len lv hv mv sz : Nat} [hu : Und P t (.array len e)] [hs : Siz P e sz] (hw : want? l L gd = true)
    (hx : ev? L x = some (.pointer (some ⟨b, off, none⟩))) (h1 : bnd L lo lv 0) (h2 : bnd L hi hv len) (h3 : bnd L mx mv len) (hmx : mx.isSome → hi.isSome) (a1 : lv ≤ hv) (a2 : hv ≤ mv) (a3 : mv ≤ len) (hd : Nat.ble (d + 1) n = true) {lst : Lst} {ti : Nat} {tt : List (Nat × Bool)}
    (k : HQ V ⟨lst.setIfInBounds ti true, tt⟩ P base n ((d, .slice (slP (some ⟨b, off, none⟩) lv mv sz) (hv - lv) (mv - lv)) :: L) f A (.ops l rest q)) : HQ V ⟨lst, (ti, false) :: tt⟩ P base n L f A (.ops l (⟨some d, .slice t x lo hi mx, ty, pos, af, gd⟩ :: rest) q) :=
  HQ.opV hw hd (fun a w hfr _ => by
    have hb := run_bounds (P := P) (w := w) (isS := false) hfr h1 h2 h3 hmx a1 a2 a3
    show Sem.run P (Instr.sliceAt t (a.eval x) (lo.map a.eval) (hi.map a.eval) (mx.map a.eval) >>= fun v => pure (Next.value v)) w = _
    unfold Instr.sliceAt
    simp only [Sem.run_bind, hu.run, Result.andThen_ok, hfr.eval hx, hb, hs.run, Sem.run_pure, slP, Instr.sureAddr]
    split <;> rfl) k
theorem HQ.sliceNil {op : BinOp} {xt yt e : TypeId} {x y : Operand} {p : Option Addr} {m c : Nat} {b : Bool} [hu : Und P xt (.slice e)] (hw : want? l L gd = true) (hx : ev? L x = some (.slice p m c)) (hy : ev? L y = some (.slice none 0 0)) (hb : nilP op p = some b) (hd : Nat.ble (d + 1) n = true) {lst : Lst} {ti : Nat} {tt : List (Nat × Bool)}
    (kk : HQ V ⟨lst.setIfInBounds ti true, tt⟩ P base n ((d, .bool b) :: L) f A (.ops l rest q)) : HQ V ⟨lst, (ti, false) :: tt⟩ P base n L f A (.ops l (⟨some d, .binOp op xt x y yt, ty, pos, af, gd⟩ :: rest) q) :=
  HQ.opV hw hd (fun a w hf _ => by
    refine run_bin _ ?_ ?_
    · rw [hf.eval hx, hf.eval hy]; exact run_guard_slice _ _ _ _ _ _ _ _
    · rw [hf.eval hx, hf.eval hy]
      have e1 : Sem.run P (do pure (Value.bool (← Op.equal xt (.slice p m c) (.slice none 0 0)))) w = .ok (.bool p.isNone) w := by simp [run_equal_sn hu]
      have e2 : Sem.run P (do pure (Value.bool (!(← Op.equal xt (.slice p m c) (.slice none 0 0))))) w = .ok (.bool (!p.isNone)) w := by simp [run_equal_sn hu]
      cases op <;> cases p <;> simp only [nilP, Option.some.injEq, reduceCtorEq] at hb <;> subst hb <;> first | exact e1 | exact e2) kk
theorem HS.build {t : TypeId} {ps : List (Nat × Operand)} {vs : List (Nat × Value)} {fs : List Field} {pl : List (Nat × Nat)} {z : Value} {zs out : List Value} [hu : Und P t (.struct fs.toArray)] [hpl : Plc P t pl] [hz : Zer P t z] (hw : want? l L gd = true)
    (hx : evP L ps = some vs) (hzs : cellsL z = zs) (ho : fillL (nthP pl) zs vs = some out) (hd : Nat.ble (d + 1) n = true)
    (k : HS tl P base n ((d, .agg out.toArray) :: L) f A (.ops l rest q)) : HS tl P base n L f A (.ops l (⟨some d, .build t ps.toArray, ty, pos, af, gd⟩ :: rest) q) :=
  HS.opV hw hd (fun a w hfr _ => by
    subst hzs
    have h1 := hpl.eq fs.toArray w hu.eq
    have h2 := fill_eq _ _ _ _ ho
    have h3 : (fun i => pl.toArray[i]?) = nthP pl := by funext i; rw [nthP_eq]; simp
    have h4 : z.cells = (cellsL z).toArray := by rw [← cellsL_eq]
    have h5 : (ps.toArray.map fun x : Nat × Operand => (x.1, a.eval x.2)).toList = vs := by rw [List.map_toArray]; exact hfr.evP hx
    show Sem.run P (Instr.build t (ps.toArray.map fun x => (x.1, a.eval x.2)) >>= fun v => pure (Next.value v)) w = _
    unfold Instr.build
    simp only [Sem.run_bind, hz.run, Result.andThen_ok, hu.run, h1, h3, h4, h5, h2, Sem.run_pure]) k
theorem HS.buildA {t e : TypeId} {len sz : Nat} {ps : List (Nat × Operand)} {vs : List (Nat × Value)} {z : Value} {zs out : List Value} [hu : Und P t (.array len e)] [hsz : Siz P e sz] [hz : Zer P t z] (hw : want? l L gd = true)
    (hx : evP L ps = some vs) (hzs : cellsL z = zs) (ho : fillL (fun i => some (i * sz, sz)) zs vs = some out) (hd : Nat.ble (d + 1) n = true)
    (k : HS tl P base n ((d, .agg out.toArray) :: L) f A (.ops l rest q)) : HS tl P base n L f A (.ops l (⟨some d, .build t ps.toArray, ty, pos, af, gd⟩ :: rest) q) :=
  HS.opV hw hd (fun a w hfr _ => by
    subst hzs
    have h2 := fill_eq _ _ _ _ ho
    have h4 : z.cells = (cellsL z).toArray := by rw [← cellsL_eq]
    have h5 : (ps.toArray.map fun x : Nat × Operand => (x.1, a.eval x.2)).toList = vs := by rw [List.map_toArray]; exact hfr.evP hx
    show Sem.run P (Instr.build t (ps.toArray.map fun x => (x.1, a.eval x.2)) >>= fun v => pure (Next.value v)) w = _
    unfold Instr.build
    simp only [Sem.run_bind, hz.run, Result.andThen_ok, hu.run, hsz.run, h4, h5, h2, Sem.run_pure]) k
theorem HS.slice {t e : TypeId} {x : Operand} {lo hi mx : Option Operand} {p : Option Addr} {len cap lv hv mv sz : Nat} [hu : Und P t (.slice e)] [hs : Siz P e sz] (hw : want? l L gd = true)
    (hx : ev? L x = some (.slice p len cap)) (h1 : bnd L lo lv 0) (h2 : bnd L hi hv len) (h3 : bnd L mx mv cap) (hmx : mx.isSome → hi.isSome) (a1 : lv ≤ hv) (a2 : hv ≤ mv) (a3 : mv ≤ cap) (hd : Nat.ble (d + 1) n = true)
    (k : HS tl P base n ((d, .slice (slP p lv mv sz) (hv - lv) (mv - lv)) :: L) f A (.ops l rest q)) : HS tl P base n L f A (.ops l (⟨some d, .slice t x lo hi mx, ty, pos, af, gd⟩ :: rest) q) :=
  HS.opV hw hd (fun a w hfr _ => by
    have hb := run_bounds (P := P) (w := w) (isS := true) hfr h1 h2 h3 hmx a1 a2 a3
    show Sem.run P (Instr.sliceAt t (a.eval x) (lo.map a.eval) (hi.map a.eval) (mx.map a.eval) >>= fun v => pure (Next.value v)) w = _
    unfold Instr.sliceAt Instr.slice
    simp only [Sem.run_bind, hu.run, Result.andThen_ok, hfr.eval hx, hb, hs.run, Sem.run_pure, slP]) k
theorem HS.sliceArr {t e : TypeId} {x : Operand} {lo hi mx : Option Operand} {b off len lv hv mv sz : Nat} [hu : Und P t (.array len e)] [hs : Siz P e sz] (hw : want? l L gd = true)
    (hx : ev? L x = some (.pointer (some ⟨b, off, none⟩))) (h1 : bnd L lo lv 0) (h2 : bnd L hi hv len) (h3 : bnd L mx mv len) (hmx : mx.isSome → hi.isSome) (a1 : lv ≤ hv) (a2 : hv ≤ mv) (a3 : mv ≤ len) (hd : Nat.ble (d + 1) n = true)
    (k : HS tl P base n ((d, .slice (slP (some ⟨b, off, none⟩) lv mv sz) (hv - lv) (mv - lv)) :: L) f A (.ops l rest q)) : HS tl P base n L f A (.ops l (⟨some d, .slice t x lo hi mx, ty, pos, af, gd⟩ :: rest) q) :=
  HS.opV hw hd (fun a w hfr _ => by
    have hb := run_bounds (P := P) (w := w) (isS := false) hfr h1 h2 h3 hmx a1 a2 a3
    show Sem.run P (Instr.sliceAt t (a.eval x) (lo.map a.eval) (hi.map a.eval) (mx.map a.eval) >>= fun v => pure (Next.value v)) w = _
    unfold Instr.sliceAt
    simp only [Sem.run_bind, hu.run, Result.andThen_ok, hfr.eval hx, hb, hs.run, Sem.run_pure, slP, Instr.sureAddr]
    split <;> rfl) k
theorem HS.sliceNil {op : BinOp} {xt yt e : TypeId} {x y : Operand} {p : Option Addr} {m c : Nat} {b : Bool} [hu : Und P xt (.slice e)] (hw : want? l L gd = true) (hx : ev? L x = some (.slice p m c)) (hy : ev? L y = some (.slice none 0 0)) (hb : nilP op p = some b) (hd : Nat.ble (d + 1) n = true)
    (kk : HS tl P base n ((d, .bool b) :: L) f A (.ops l rest q)) : HS tl P base n L f A (.ops l (⟨some d, .binOp op xt x y yt, ty, pos, af, gd⟩ :: rest) q) :=
  HS.opV hw hd (fun a w hf _ => by
    refine run_bin _ ?_ ?_
    · rw [hf.eval hx, hf.eval hy]; exact run_guard_slice _ _ _ _ _ _ _ _
    · rw [hf.eval hx, hf.eval hy]
      have e1 : Sem.run P (do pure (Value.bool (← Op.equal xt (.slice p m c) (.slice none 0 0)))) w = .ok (.bool p.isNone) w := by simp [run_equal_sn hu]
      have e2 : Sem.run P (do pure (Value.bool (!(← Op.equal xt (.slice p m c) (.slice none 0 0))))) w = .ok (.bool (!p.isNone)) w := by simp [run_equal_sn hu]
      cases op <;> cases p <;> simp only [nilP, Option.some.injEq, reduceCtorEq] at hb <;> subst hb <;> first | exact e1 | exact e2) kk
end rules

/-- It answers v, and leaves what is owned as A'. -/
def Ret (v : Value) (f : Frag) (A : List HP) : Value → Frag → List HP → Prop := fun u f' A' => u = v ∧ f' = f ∧ A' = A

section
variable {P : Program} {base : World} {n : Nat} {L : Env} {f f' : Frag} {A A' : List HP} {q : Post}
variable {l rest : List Oper} {d : Nat} {ty : TypeId} {pos : String} {af : Array Edge} {gd : Option (Nat × Bool)}
theorem H.callR {fid : FuncId} {xs : List Operand} {vs : List Value} {ats : Array TypeId} {v : Value} [hfun : Fun P fid] (hw : want? l L gd = true) (hd : Nat.ble (d + 1) n = true)
    (hx : evs? L xs = some vs) (hc : Fn P fid vs f A (Ret v f' A')) (k : H P base n ((d, v) :: L) f' A' (.ops l rest q)) :
    H P base n L f A (.ops l (⟨some d, .call ⟨.value (.func fid), xs.toArray, ats⟩, ty, pos, af, gd⟩ :: rest) q) :=
  H.call hw hd hx hc fun _ _ _ h => by obtain ⟨rfl, rfl, rfl⟩ := h; exact k
/-- One value of several. -/
def RetE {α : Type} (v : α → Value) (f : Frag) (A : α → List HP) : Value → Frag → List HP → Prop := fun u f' A' => ∃ i, u = v i ∧ f' = f ∧ A' = A i
theorem H.callE {α : Type} {fid : FuncId} {xs : List Operand} {vs : List Value} {ats : Array TypeId} {v : α → Value} {Ai : α → List HP} [hfun : Fun P fid] (hw : want? l L gd = true) (hd : Nat.ble (d + 1) n = true)
    (hx : evs? L xs = some vs) (hc : Fn P fid vs f A (RetE v f' Ai)) (k : ∀ i, H P base n ((d, v i) :: L) f' (Ai i) (.ops l rest q)) :
    H P base n L f A (.ops l (⟨some d, .call ⟨.value (.func fid), xs.toArray, ats⟩, ty, pos, af, gd⟩ :: rest) q) :=
  H.call hw hd hx hc fun _ _ _ h => by obtain ⟨i, rfl, rfl, rfl⟩ := h; exact k i
theorem H.callE2 {α β : Type} {fid : FuncId} {xs : List Operand} {vs : List Value} {ats : Array TypeId} {v : α → β → Value} {Ai : α → β → List HP} [hfun : Fun P fid] (hw : want? l L gd = true) (hd : Nat.ble (d + 1) n = true)
    (hx : evs? L xs = some vs) (hc : Fn P fid vs f A (fun u g B => ∃ i j, u = v i j ∧ g = f' ∧ B = Ai i j)) (k : ∀ i j, H P base n ((d, v i j) :: L) f' (Ai i j) (.ops l rest q)) :
    H P base n L f A (.ops l (⟨some d, .call ⟨.value (.func fid), xs.toArray, ats⟩, ty, pos, af, gd⟩ :: rest) q) :=
  H.call hw hd hx hc fun _ _ _ h => by obtain ⟨i, j, rfl, rfl, rfl⟩ := h; exact k i j
end
/-- A slice that is nil owns nothing. -/
theorem H.slc0 {P : Program} {base : World} {n : Nat} {L : Env} {f : Frag} {A : List HP} {K : Kont} (T : TypeId) (sz : Nat) (k : H P base n L f (slc none 0 0 T sz [] :: A) K) : H P base n L f A K :=
  H.imp (A' := slc none 0 0 T sz [] :: A) (fun h hh => ⟨nil0, h, (Dj.nil h).symm, (nil_un h).symm, slc_nil none T sz, hh⟩) k
end Go.Proofs.YtcaofnfemogleaaGreatDoor

/- The engine, part i: function values; bits and shifts; texts; the equality of structs and arrays. No program in sight; no conditions. -/
namespace Go.Proofs.YtcaofnfemogleaaGreatDoor
set_option linter.unusedSectionVars false
set_option linter.unusedSimpArgs false
set_option linter.unusedVariables false
open Go

/-! ### Equality of structs and arrays -/
section
variable {P : Program}
def chunk (xs : List Value) (off c : Nat) : List Value := (xs.drop off).take c
/-- Cells of the right kinds for a type that can be compared. -/
def shp (P : Program) : Nat → TypeId → List Value → Bool
  | 0, _, _ => false
  | d + 1, t, cs => match P.underlying t with
    | some .bool => match cs with
      | [.bool _] => true
      | _ => false
    | some (.int q) => match cs with
      | [.int q' _] => decide (q' = q)
      | _ => false
    | some .string => match cs with
      | [.string _] => true
      | _ => false
    | some (.array n e) => (P.info? e).isSome && Nat.beq cs.length (n * P.cellsOf e) && (List.range' 0 n).all fun i => shp P d e (chunk cs (i * P.cellsOf e) (P.cellsOf e))
    | some (.struct fs) => !P.stoodInHeld t && Nat.beq cs.length (P.cellsOf t) && offs P fs.toList 0 cs.length && fs.toList.all fun f => shp P d f.type (chunk cs f.offset (P.cellsOf f.type))
    | _ => false
where offs (P : Program) : List Field → Nat → Nat → Bool
  | [], o, n => Nat.beq o n
  | f :: fs, o, n => (f.name != "_") && Nat.beq f.offset o && offs P fs (o + P.cellsOf f.type) n
def mkV (P : Program) (t : TypeId) (xs : List Value) : Value := match P.underlying t with
  | some (.array _ _) | some (.struct _) => .agg xs.toArray
  | _ => xs.headD undef

def eqv : Value → Value → Bool
  | .bool a, .bool b => a == b
  | .int _ a, .int _ b => a == b
  | .string a, .string b => a == b
  | _, _ => false
/-- The same cells? -/
def eqC : List Value → List Value → Bool
  | [], [] => true
  | x :: xs, y :: ys => eqv x y && eqC xs ys
  | _, _ => false
theorem eqC_append : ∀ {a c : List Value} (b d : List Value), a.length = c.length → eqC (a ++ b) (c ++ d) = (eqC a c && eqC b d)
  | [], [], b, d, _ => by simp [eqC]
  | x :: a, y :: c, b, d, h => by
    simp only [List.cons_append, eqC]
    rw [eqC_append b d (by simpa using h), Bool.and_assoc]
theorem eqC_drop {xs ys : List Value} (h : xs.length = ys.length) (o c : Nat) : eqC (xs.drop o) (ys.drop o) = (eqC (chunk xs o c) (chunk ys o c) && eqC (xs.drop (o + c)) (ys.drop (o + c))) := by
  have e : ∀ l : List Value, l.drop o = chunk l o c ++ l.drop (o + c) := fun l => by
    unfold chunk
    rw [← List.drop_drop, List.take_append_drop]
  rw [e xs, e ys, eqC_append]
  unfold chunk
  simp [h]

theorem shp_plain {D : Nat} {t : TypeId} {cs : List Value} (h : shp P D t cs = true) (hp : ∀ n e, P.underlying t ≠ some (.array n e)) (hs : ∀ fs, P.underlying t ≠ some (.struct fs)) :
    P.plainKey t = true ∧ ∃ v, cs = [v] ∧ mkV P t cs = v ∧ ∀ D' ys, shp P D' t ys = true → ∃ u, ys = [u] ∧ mkV P t ys = u ∧ ∀ w d, (Op.equalIn (d + 1) t v u).run P w = .ok (eqC cs ys) w := by
  cases D with
  | zero => simp [shp] at h
  | succ D =>
    unfold shp at h
    cases hu : P.underlying t with
    | none => simp [hu] at h
    | some k =>
      cases k
      case bool =>
        rw [hu] at h
        simp only at h
        split at h
        · rename_i a
          refine ⟨by simp [Program.plainKey, hu], _, rfl, by simp [mkV, hu], fun D' ys h' => ?_⟩
          cases D' with
          | zero => simp [shp] at h'
          | succ D' =>
            unfold shp at h'
            rw [hu] at h'
            simp only at h'
            split at h'
            · rename_i b
              refine ⟨_, rfl, by simp [mkV, hu], fun w d => ?_⟩
              rw [run_equalIn_bool w d t a b hu]
              simp [eqC, eqv]
            · cases h'
        · cases h
      case int q =>
        rw [hu] at h
        simp only at h
        split at h
        · rename_i q1 a
          refine ⟨by simp [Program.plainKey, hu], _, rfl, by simp [mkV, hu], fun D' ys h' => ?_⟩
          cases D' with
          | zero => simp [shp] at h'
          | succ D' =>
            unfold shp at h'
            rw [hu] at h'
            simp only at h'
            split at h'
            · rename_i q2 b
              refine ⟨_, rfl, by simp [mkV, hu], fun w d => ?_⟩
              simp only [decide_eq_true_eq] at h h'
              subst h; subst h'
              rw [run_equalIn_int w d t _ _ _ _ hu]
              simp [eqC, eqv]
            · cases h'
        · cases h
      case string =>
        rw [hu] at h
        simp only at h
        split at h
        · rename_i a
          refine ⟨by simp [Program.plainKey, hu], _, rfl, by simp [mkV, hu], fun D' ys h' => ?_⟩
          cases D' with
          | zero => simp [shp] at h'
          | succ D' =>
            unfold shp at h'
            rw [hu] at h'
            simp only at h'
            split at h'
            · rename_i b
              refine ⟨_, rfl, by simp [mkV, hu], fun w d => ?_⟩
              rw [run_equalIn_string w d t a b hu]
              simp [eqC, eqv, beq_toListBytes]
            · cases h'
        · cases h
      case array n e => exact absurd hu (hp n e)
      case struct fs => exact absurd hu (hs fs)
      all_goals (simp [hu] at h; done)

theorem shp_len {D : Nat} {t : TypeId} {n : Nat} {e : TypeId} {cs : List Value} (hu : P.underlying t = some (.array n e)) (h : shp P D t cs = true) : (∃ i, P.info? e = some i) ∧ cs.length = n * P.cellsOf e ∧ ∃ D', D = D' + 1 ∧ ∀ i, i < n → shp P D' e (chunk cs (i * P.cellsOf e) (P.cellsOf e)) = true := by
  cases D with
  | zero => simp [shp] at h
  | succ D =>
    unfold shp at h
    rw [hu] at h
    simp only [Bool.and_eq_true, List.all_eq_true] at h
    exact ⟨Option.isSome_iff_exists.1 h.1.1, Nat.eq_of_beq_eq_true h.1.2, D, rfl, fun i hi => h.2 i (by simp [List.mem_range'_1, hi])⟩
theorem shp_str {D : Nat} {t : TypeId} {fs : Array Field} {cs : List Value} (hu : P.underlying t = some (.struct fs)) (h : shp P D t cs = true) :
    P.stoodInHeld t = false ∧ cs.length = P.cellsOf t ∧ shp.offs P fs.toList 0 cs.length = true ∧ ∃ D', D = D' + 1 ∧ ∀ f ∈ fs.toList, shp P D' f.type (chunk cs f.offset (P.cellsOf f.type)) = true := by
  cases D with
  | zero => simp [shp] at h
  | succ D =>
    unfold shp at h
    rw [hu] at h
    simp only [Bool.and_eq_true, List.all_eq_true, Bool.not_eq_true'] at h
    exact ⟨h.1.1.1, Nat.eq_of_beq_eq_true h.1.1.2, h.1.2, D, rfl, h.2⟩

theorem run_part_shp (w : World) {D : Nat} {e : TypeId} {xs : List Value} {off : Nat} (h : shp P D e (chunk xs off (P.cellsOf e)) = true) (hle : off + P.cellsOf e ≤ xs.length) :
    (part e xs.toArray off).run P w = .ok (mkV P e (chunk xs off (P.cellsOf e))) w := by
  have agg : (∃ n e', P.underlying e = some (.array n e')) ∨ (∃ fs, P.underlying e = some (.struct fs)) → (part e xs.toArray off).run P w = .ok (mkV P e (chunk xs off (P.cellsOf e))) w := by
    intro hk
    have hl : (xs.toArray.extract off (off + P.cellsOf e)) = (chunk xs off (P.cellsOf e)).toArray := by
      apply Array.ext'
      rw [Array.toList_extract]
      simp [List.extract, chunk]
    rcases hk with ⟨n, e', hu⟩ | ⟨fs, hu⟩
    · obtain ⟨i, hi⟩ := info_of_underlying hu
      simp [part, isAgg, run_underlying hu, run_sizeOf w hi, mkV, hu, hl]
      rfl
    · obtain ⟨i, hi⟩ := info_of_underlying hu
      simp [part, isAgg, run_underlying hu, run_sizeOf w hi, mkV, hu, hl]
      rfl
  by_cases h1 : ∃ n e', P.underlying e = some (.array n e')
  · exact agg (.inl h1)
  · by_cases h2 : ∃ fs, P.underlying e = some (.struct fs)
    · exact agg (.inr h2)
    · obtain ⟨hpk, v, hv, hmk, _⟩ := shp_plain h (fun n e' hu => h1 ⟨n, e', hu⟩) (fun fs hu => h2 ⟨fs, hu⟩)
      rw [hmk]
      have : xs.toArray[off]? = some v := getElem?_of_chunk (c := P.cellsOf e) (by simpa [chunk] using hv)
      exact run_part_plain w hpk this

theorem run_eqItems_shp (w : World) {d D D' : Nat} {e : TypeId} {xs ys : List Value} (hl : xs.length = ys.length)
    (IH : ∀ w D D' xs ys, shp P D e xs = true → shp P D' e ys = true → D ≤ d → (Op.equalIn d e (mkV P e xs) (mkV P e ys)).run P w = .ok (eqC xs ys) w) (hD : D ≤ d) :
    ∀ (m k : Nat), (k + m) * P.cellsOf e = xs.length → (∀ i, k ≤ i → i < k + m → shp P D e (chunk xs (i * P.cellsOf e) (P.cellsOf e)) = true ∧ shp P D' e (chunk ys (i * P.cellsOf e) (P.cellsOf e)) = true) →
    (Op.eqItems d e (P.cellsOf e) xs.toArray ys.toArray (List.range' k m)).run P w = .ok (eqC (xs.drop (k * P.cellsOf e)) (ys.drop (k * P.cellsOf e))) w
  | 0, k, hk, _ => by
    have h1 : xs.drop (k * P.cellsOf e) = [] := List.drop_eq_nil_of_le (by rw [← hk]; simp)
    have h2 : ys.drop (k * P.cellsOf e) = [] := List.drop_eq_nil_of_le (by rw [← hl, ← hk]; simp)
    rw [h1, h2]
    simp [Op.eqItems, eqC]
  | m + 1, k, hk, hs => by
    obtain ⟨a1, a2⟩ := hs k (Nat.le_refl _) (by omega)
    have hle : k * P.cellsOf e + P.cellsOf e ≤ xs.length := by
      rw [← hk]
      calc k * P.cellsOf e + P.cellsOf e = (k + 1) * P.cellsOf e := by rw [Nat.add_mul]; omega
        _ ≤ (k + (m + 1)) * P.cellsOf e := Nat.mul_le_mul_right _ (by omega)
    have p1 := run_part_shp w a1 hle
    have p2 := run_part_shp w a2 (by omega)
    have p3 := IH w D D' _ _ a1 a2 hD
    have ih := run_eqItems_shp w hl IH hD m (k + 1) (by rw [← hk]; congr 1; omega) (fun i h1 h2 => hs i (by omega) (by omega))
    rw [eqC_drop hl (k * P.cellsOf e) (P.cellsOf e)]
    rw [show k * P.cellsOf e + P.cellsOf e = (k + 1) * P.cellsOf e by rw [Nat.add_mul]; omega]
    simp only [List.range'_succ, Op.eqItems, Sem.run_bind, p1, p2, p3, Result.andThen_ok]
    cases eqC (chunk xs (k * P.cellsOf e) (P.cellsOf e)) (chunk ys (k * P.cellsOf e) (P.cellsOf e))
    · simp
    · simpa using ih

theorem run_eqFields_shp (w : World) {d D D' : Nat} {xs ys : List Value} (hl : xs.length = ys.length) (hD : D ≤ d) :
    ∀ (fs : List Field) (o : Nat), (∀ f ∈ fs, ∀ w D D' xs ys, shp P D f.type xs = true → shp P D' f.type ys = true → D ≤ d → (Op.equalIn d f.type (mkV P f.type xs) (mkV P f.type ys)).run P w = .ok (eqC xs ys) w) →
    shp.offs P fs o xs.length = true → (∀ f ∈ fs, shp P D f.type (chunk xs f.offset (P.cellsOf f.type)) = true ∧ shp P D' f.type (chunk ys f.offset (P.cellsOf f.type)) = true) →
    (Op.eqFields d xs.toArray ys.toArray fs).run P w = .ok (eqC (xs.drop o) (ys.drop o)) w ∧ o ≤ xs.length
  | [], o, _, ho, _ => by
    have e : o = xs.length := Nat.eq_of_beq_eq_true ho
    have h1 : xs.drop o = [] := List.drop_eq_nil_of_le (by omega)
    have h2 : ys.drop o = [] := List.drop_eq_nil_of_le (by omega)
    rw [h1, h2]
    exact ⟨by simp [Op.eqFields, eqC], by omega⟩
  | f :: fs, o, IH, ho, hs => by
    simp only [shp.offs, Bool.and_eq_true, bne_iff_ne, ne_eq] at ho
    obtain ⟨⟨hn, he⟩, hr⟩ := ho
    have he' : f.offset = o := Nat.eq_of_beq_eq_true he
    subst he'
    obtain ⟨ih, hle⟩ := run_eqFields_shp w hl hD fs (f.offset + P.cellsOf f.type) (fun g hg => IH g (by simp [hg])) hr (fun g hg => hs g (by simp [hg]))
    obtain ⟨a1, a2⟩ := hs f (by simp)
    have p1 := run_part_shp w a1 hle
    have p2 := run_part_shp w a2 (by omega)
    have p3 := IH f (by simp) w D D' _ _ a1 a2 hD
    refine ⟨?_, by omega⟩
    rw [eqC_drop hl f.offset (P.cellsOf f.type)]
    simp only [Op.eqFields, hn, ne_eq, not_false_eq_true, if_true, Sem.run_bind, p1, p2, p3, Result.andThen_ok]
    cases eqC (chunk xs f.offset (P.cellsOf f.type)) (chunk ys f.offset (P.cellsOf f.type))
    · simp
    · simpa using ih

theorem run_equalIn_shp : ∀ (d : Nat) (t : TypeId) (w : World) (D D' : Nat) (xs ys : List Value), shp P D t xs = true → shp P D' t ys = true → D ≤ d → (Op.equalIn d t (mkV P t xs) (mkV P t ys)).run P w = .ok (eqC xs ys) w
  | 0, t, w, D, D', xs, ys, hx, _, hd => by
    have : D = 0 := by omega
    subst this
    simp [shp] at hx
  | d + 1, t, w, D, D', xs, ys, hx, hy, hd => by
    by_cases h1 : ∃ n e', P.underlying t = some (.array n e')
    · obtain ⟨n, e, hu⟩ := h1
      obtain ⟨⟨i, hi⟩, l1, D1, rfl, s1⟩ := shp_len hu hx
      obtain ⟨_, l2, D2, rfl, s2⟩ := shp_len hu hy
      have hm : mkV P t xs = .agg xs.toArray ∧ mkV P t ys = .agg ys.toArray := by simp [mkV, hu]
      rw [hm.1, hm.2, run_equalIn_array w d xs.toArray ys.toArray hu hi]
      have := run_eqItems_shp (P := P) w (d := d) (D := D1) (D' := D2) (e := e) (xs := xs) (ys := ys) (by omega) (fun w D D' xs ys => run_equalIn_shp d e w D D' xs ys) (by omega) n 0 (by rw [Nat.zero_add, l1]) (fun i _ h2 => ⟨s1 i (by omega), s2 i (by omega)⟩)
      rw [List.range_eq_range']
      simpa using this
    · by_cases h2 : ∃ fs, P.underlying t = some (.struct fs)
      · obtain ⟨fs, hu⟩ := h2
        obtain ⟨n1, l1, o1, D1, rfl, s1⟩ := shp_str hu hx
        obtain ⟨n2, l2, o2, D2, rfl, s2⟩ := shp_str hu hy
        have hm : mkV P t xs = .agg xs.toArray ∧ mkV P t ys = .agg ys.toArray := by simp [mkV, hu]
        have hfs : P.fieldsOf t = fs := by simp [Program.fieldsOf, hu]
        rw [hm.1, hm.2, run_equalIn_struct w d t xs.toArray ys.toArray (by rw [hfs]; exact hu) n1, hfs]
        have := (run_eqFields_shp (P := P) w (d := d) (D := D1) (D' := D2) (xs := xs) (ys := ys) (by omega) (by omega) fs.toList 0 (fun f _ w D D' xs ys => run_equalIn_shp d f.type w D D' xs ys) o1 (fun f hf => ⟨s1 f hf, s2 f hf⟩)).1
        simpa using this
      · obtain ⟨_, v, rfl, hmk, hall⟩ := shp_plain hx (fun n e hu => h1 ⟨n, e, hu⟩) (fun fs hu => h2 ⟨fs, hu⟩)
        obtain ⟨u, rfl, hmk', hr⟩ := hall D' ys hy
        rw [hmk, hmk']
        exact hr w d
end

/-! ### Rules -/
def bitsI (op : BinOp) (k : IntKind) (x y : Int) : Option Int := match op with
  | .and => some (k.wrap (BitVec.ofInt k.bits x &&& BitVec.ofInt k.bits y).toNat)
  | .or => some (k.wrap (BitVec.ofInt k.bits x ||| BitVec.ofInt k.bits y).toNat)
  | .xor => some (k.wrap (BitVec.ofInt k.bits x ^^^ BitVec.ofInt k.bits y).toNat)
  | .andNot => some (k.wrap (BitVec.ofInt k.bits x &&& ~~~ BitVec.ofInt k.bits y).toNat)
  | _ => none
def shiftI (op : BinOp) (k : IntKind) (x y : Int) : Option Int := match op with
  | .shl => some (k.wrap (x * 2 ^ (min y.toNat k.bits)))
  | .shr => some (x.fdiv (2 ^ (min y.toNat k.bits)))
  | _ => none
def strP (op : BinOp) (s t : ByteArray) : Option Bool := match op with
  | .eql => some (s.toList == t.toList)
  | .neq => some (!(s.toList == t.toList))
  | _ => none

section rules
variable {P : Program} {base : World} {n : Nat} {L : Env} {f : Frag} {A : List HP} {q : Post}
variable {l rest : List Oper} {d : Nat} {ty : TypeId} {pos : String} {af : Array Edge} {gd : Option (Nat × Bool)}

/-- '&', '|', '^', '&^'. -/
theorem H.bits {op : BinOp} {xt yt : TypeId} {x y : Operand} {k : IntKind} {p p2 r z : Int} (hw : want? l L gd = true) (hx : ev? L x = some (.int k p)) (hy : ev? L y = some (.int k p2)) (hc : bitsI op k p p2 = some r) (hz : r = z) (hd : Nat.ble (d + 1) n = true)
    (kk : H P base n ((d, .int k z) :: L) f A (.ops l rest q)) : H P base n L f A (.ops l (⟨some d, .binOp op xt x y yt, ty, pos, af, gd⟩ :: rest) q) :=
  H.opV hw hd (fun a w hf _ => by
    cases op <;> simp only [bitsI, Option.some.injEq, reduceCtorEq] at hc <;> subst hc <;> subst hz <;>
      simp [execOp, eqGuard, binOp, Op.intBits, hf.eval hx, hf.eval hy]) kk
/-- '<<', '>>'. -/
theorem H.shift {op : BinOp} {xt yt : TypeId} {x y : Operand} {k k2 : IntKind} {p p2 r z : Int} (hw : want? l L gd = true) (hx : ev? L x = some (.int k p)) (hy : ev? L y = some (.int k2 p2)) (hc : shiftI op k p p2 = some r) (h0 : 0 ≤ p2) (hz : r = z) (hd : Nat.ble (d + 1) n = true)
    (kk : H P base n ((d, .int k z) :: L) f A (.ops l rest q)) : H P base n L f A (.ops l (⟨some d, .binOp op xt x y yt, ty, pos, af, gd⟩ :: rest) q) :=
  H.opV hw hd (fun a w hf _ => by
    have h1 : ¬ p2 < 0 := by omega
    cases op <;> simp only [shiftI, Option.some.injEq, reduceCtorEq] at hc <;> subst hc <;> subst hz <;>
      simp [execOp, eqGuard, binOp, Op.shift, hf.eval hx, hf.eval hy, h1]) kk
/-- '^' of one. -/
theorem H.flip {x : Operand} {xt : TypeId} {k : IntKind} {p r z : Int} (hw : want? l L gd = true) (hx : ev? L x = some (.int k p)) (hc : bitsI .xor k (if k.signed then -1 else k.max) p = some r) (hz : r = z) (hd : Nat.ble (d + 1) n = true)
    (kk : H P base n ((d, .int k z) :: L) f A (.ops l rest q)) : H P base n L f A (.ops l (⟨some d, .unOp .xor xt x, ty, pos, af, gd⟩ :: rest) q) :=
  H.opV hw hd (fun a w hf _ => by
    simp only [bitsI, Option.some.injEq] at hc
    subst hc; subst hz
    simp [execOp, Op.unary, Op.intBits, hf.eval hx]) kk
/-- '-' of one. -/
theorem H.neg {x : Operand} {xt : TypeId} {k : IntKind} {p z : Int} (hw : want? l L gd = true) (hx : ev? L x = some (.int k p)) (hz : k.wrap (0 - p) = z) (hd : Nat.ble (d + 1) n = true)
    (kk : H P base n ((d, .int k z) :: L) f A (.ops l rest q)) : H P base n L f A (.ops l (⟨some d, .unOp .neg xt x, ty, pos, af, gd⟩ :: rest) q) :=
  H.opV hw hd (fun a w hf _ => by
    subst hz
    simp [execOp, Op.unary, Op.intArith, hf.eval hx]) kk
/-- Texts: '==', '!='. -/
theorem H.streq {op : BinOp} {xt yt : TypeId} {x y : Operand} {s t : ByteArray} {b c : Bool} (hw : want? l L gd = true) (hx : ev? L x = some (.string s)) (hy : ev? L y = some (.string t)) (hb : strP op s t = some b) (hc : b = c) (hd : Nat.ble (d + 1) n = true)
    (kk : H P base n ((d, .bool c) :: L) f A (.ops l rest q)) : H P base n L f A (.ops l (⟨some d, .binOp op xt x y yt, ty, pos, af, gd⟩ :: rest) q) :=
  H.opV hw hd (fun a w hf _ => by
    cases op <;> simp only [strP, Option.some.injEq, reduceCtorEq] at hb <;> subst hb <;> subst hc <;>
      simp [execOp, eqGuard, binOp, Op.stringOp, hf.eval hx, hf.eval hy]) kk
/-- min, max of two numbers. -/
theorem H.min2 {x y : Operand} {ats : Array TypeId} {k : IntKind} {p p2 z : Int} (hw : want? l L gd = true) (hx : ev? L x = some (.int k p)) (hy : ev? L y = some (.int k p2)) (hz : (if p2 < p then p2 else p) = z) (hd : Nat.ble (d + 1) n = true)
    (kk : H P base n ((d, .int k z) :: L) f A (.ops l rest q)) : H P base n L f A (.ops l (⟨some d, .call ⟨.builtin .min, #[x, y], ats⟩, ty, pos, af, gd⟩ :: rest) q) :=
  H.opV hw hd (fun a w hf _ => by
    subst hz
    simp [execOp, resolve, invoke, builtin, Builtin.min_, Builtin.min2, hf.eval hx, hf.eval hy]) kk
theorem H.max2 {x y : Operand} {ats : Array TypeId} {k : IntKind} {p p2 z : Int} (hw : want? l L gd = true) (hx : ev? L x = some (.int k p)) (hy : ev? L y = some (.int k p2)) (hz : (if p < p2 then p2 else p) = z) (hd : Nat.ble (d + 1) n = true)
    (kk : H P base n ((d, .int k z) :: L) f A (.ops l rest q)) : H P base n L f A (.ops l (⟨some d, .call ⟨.builtin .max, #[x, y], ats⟩, ty, pos, af, gd⟩ :: rest) q) :=
  H.opV hw hd (fun a w hf _ => by
    subst hz
    simp [execOp, resolve, invoke, builtin, Builtin.max_, Builtin.max2, hf.eval hx, hf.eval hy]) kk
/-- A function value is made. -/
theorem H.makeFunc {fn : Go.Fn} {xs cs : List Operand} {vs us : List Value} (hw : want? l L gd = true) (hx : evs? L xs = some vs) (hc : evs? L cs = some us) (hd : Nat.ble (d + 1) n = true)
    (k : H P base n ((d, .func fn vs.toArray us.toArray) :: L) f A (.ops l rest q)) : H P base n L f A (.ops l (⟨some d, .makeFunc fn xs.toArray cs.toArray, ty, pos, af, gd⟩ :: rest) q) :=
  H.opV hw hd (fun a w hf _ => by
    simp [execOp, Instr.makeFunc, hf.evals hx, hf.evals hc]) k
/-- Structs and arrays: '==', '!='. -/
theorem H.aggEq {op : BinOp} {xt yt : TypeId} {x y : Operand} {xs ys : List Value} {D : Nat} {b : Bool} (hw : want? l L gd = true) (hx : ev? L x = some (.agg xs.toArray)) (hy : ev? L y = some (.agg ys.toArray)) (ho : op = .eql)
    (hg : P.eqGuardType P.depth xt = false) (h1 : shp P D xt xs = true) (h2 : shp P D xt ys = true) (hm : (match P.underlying xt with | some (.array _ _) | some (.struct _) => true | _ => false) = true) (hD : D ≤ 10000) (hb : eqC xs ys = b) (hd : Nat.ble (d + 1) n = true)
    (kk : H P base n ((d, .bool b) :: L) f A (.ops l rest q)) : H P base n L f A (.ops l (⟨some d, .binOp op xt x y yt, ty, pos, af, gd⟩ :: rest) q) :=
  H.opV hw hd (fun a w hf _ => by
    subst ho; subst hb
    have hmk : ∀ zs : List Value, mkV P xt zs = .agg zs.toArray := fun zs => by
      unfold mkV
      split at hm <;> simp_all
    have h3 := run_equalIn_shp 10000 xt w D D xs ys h1 h2 hD
    rw [hmk, hmk] at h3
    refine run_bin _ ?_ ?_
    · rw [hf.eval hx, hf.eval hy]
      simp [eqGuard, hg]
    · rw [hf.eval hx, hf.eval hy]
      show Sem.run P (do pure (Value.bool (← Op.equal xt (.agg xs.toArray) (.agg ys.toArray)))) w = _
      have h4 : Sem.run P (Op.equal xt (.agg xs.toArray) (.agg ys.toArray)) w = .ok (eqC xs ys) w := h3
      simp [h4]) kk
theorem H.aggNe {op : BinOp} {xt yt : TypeId} {x y : Operand} {xs ys : List Value} {D : Nat} {b : Bool} (hw : want? l L gd = true) (hx : ev? L x = some (.agg xs.toArray)) (hy : ev? L y = some (.agg ys.toArray)) (ho : op = .neq)
    (hg : P.eqGuardType P.depth xt = false) (h1 : shp P D xt xs = true) (h2 : shp P D xt ys = true) (hm : (match P.underlying xt with | some (.array _ _) | some (.struct _) => true | _ => false) = true) (hD : D ≤ 10000) (hb : (!eqC xs ys) = b) (hd : Nat.ble (d + 1) n = true)
    (kk : H P base n ((d, .bool b) :: L) f A (.ops l rest q)) : H P base n L f A (.ops l (⟨some d, .binOp op xt x y yt, ty, pos, af, gd⟩ :: rest) q) :=
  H.opV hw hd (fun a w hf _ => by
    subst ho; subst hb
    have hmk : ∀ zs : List Value, mkV P xt zs = .agg zs.toArray := fun zs => by
      unfold mkV
      split at hm <;> simp_all
    have h3 := run_equalIn_shp 10000 xt w D D xs ys h1 h2 hD
    rw [hmk, hmk] at h3
    refine run_bin _ ?_ ?_
    · rw [hf.eval hx, hf.eval hy]
      simp [eqGuard, hg]
    · rw [hf.eval hx, hf.eval hy]
      show Sem.run P (do pure (Value.bool (!(← Op.equal xt (.agg xs.toArray) (.agg ys.toArray))))) w = _
      have h4 : Sem.run P (Op.equal xt (.agg xs.toArray) (.agg ys.toArray)) w = .ok (eqC xs ys) w := h3
      simp [h4]) kk
end rules

/-! A call of a function value. -/
theorem run_enterV {P : Program} {fid : FuncId} [hfun : Fun P fid] (a : Act) {dd : Option Tmp} {x : Operand} {xs : List Operand} {fs vs cs : List Value} {ats : Array TypeId} {ty : TypeId} {pos : String} {af : Array Edge} {gd : Option (Nat × Bool)} {w : World} (hx : a.eval x = .func (.func fid) fs.toArray cs.toArray) (hargs : xs.map a.eval = vs) :
    (execOp a.eval ⟨dd, .call ⟨.value x, xs.toArray, ats⟩, ty, pos, af, gd⟩).run P w = .ok (.enter fid (fs ++ vs ++ cs).toArray) w := by
  obtain ⟨fn, h1, h2, h3⟩ := hfun.eq
  have e1 : (fs.toArray ++ Array.map a.eval xs.toArray : Array Value) ++ cs.toArray = (fs ++ vs ++ cs).toArray := by simp [hargs]
  have e2 : (execOp a.eval ⟨dd, .call ⟨.value x, xs.toArray, ats⟩, ty, pos, af, gd⟩).run P w = Sem.run P (callFunc fid ((fs.toArray ++ Array.map a.eval xs.toArray) ++ cs.toArray)) w := by
    simp only [execOp, resolve, hx, Deferred.ofValue, Sem.run_bind, Sem.run_pure, Result.andThen_ok, invoke]
  rw [e2, e1]
  unfold callFunc
  simp only [Sem.run_bind, run_program, Result.andThen_ok, h1, h2, h3, Bool.false_eq_true, if_false, Sem.run_pure]

section
variable {P : Program} {base : World} {n : Nat} {L : Env} {f f' : Frag} {A A' : List HP} {q : Post}
variable {l rest : List Oper} {d : Nat} {ty : TypeId} {pos : String} {af : Array Edge} {gd : Option (Nat × Bool)}
theorem H.callV {fid : FuncId} {x : Operand} {xs : List Operand} {fs vs cs : List Value} {ats : Array TypeId} {R : Value → Frag → List HP → Prop} (hx : ev? L x = some (.func (.func fid) fs.toArray cs.toArray)) [hfun : Fun P fid] (hw : want? l L gd = true) (hd : Nat.ble (d + 1) n = true)
    (hxs : evs? L xs = some vs) (hc : Fn P fid (fs ++ vs ++ cs) f A R)
    (k : ∀ v f' A', R v f' A' → H P base n ((d, v) :: L) f' A' (.ops l rest q)) :
    H P base n L f A (.ops l (⟨some d, .call ⟨.value x, xs.toArray, ats⟩, ty, pos, af, gd⟩ :: rest) q) := .mk fun a w hf s => by
  show wpList P l.toArray (q.den P) _ a w
  unfold wpList
  rw [if_pos (hf.want (o := ⟨some d, _, ty, pos, af, gd⟩) hw)]
  refine .inl ?_
  have hrun := run_enterV (P := P) (dd := some d) (ats := ats) (ty := ty) (pos := pos) (af := af) (gd := gd) (w := w) a (fid := fid) (hf.eval hx) (hf.evals hxs)
  simp only [Oper.wp, hrun, Oper.upon]
  refine (hc base w s).mono ?_
  rintro e w' ⟨v, f', A', rfl, hr, s'⟩
  exact (k v f' A' hr).out _ _ (hf.put (Nat.le_of_ble_eq_true hd) v) s'
theorem H.callVR {fid : FuncId} {x : Operand} {xs : List Operand} {fs vs cs : List Value} {ats : Array TypeId} {v : Value} (hx : ev? L x = some (.func (.func fid) fs.toArray cs.toArray)) [hfun : Fun P fid] (hw : want? l L gd = true) (hd : Nat.ble (d + 1) n = true)
    (hxs : evs? L xs = some vs) (hc : Fn P fid (fs ++ vs ++ cs) f A (Ret v f' A')) (k : H P base n ((d, v) :: L) f' A' (.ops l rest q)) :
    H P base n L f A (.ops l (⟨some d, .call ⟨.value x, xs.toArray, ats⟩, ty, pos, af, gd⟩ :: rest) q) :=
  H.callV hx hw hd hxs hc fun _ _ _ h => by obtain ⟨rfl, rfl, rfl⟩ := h; exact k
end
end Go.Proofs.YtcaofnfemogleaaGreatDoor

/- The engine, part j: more on slices: cap, the whole capacity, append of zeros, cut at the end. No program in sight; no conditions. -/
namespace Go.Proofs.YtcaofnfemogleaaGreatDoor
set_option linter.unusedSectionVars false
set_option linter.unusedSimpArgs false
set_option linter.unusedVariables false
open Go
section rules
variable {P : Program} {base : World} {n : Nat} {L : Env} {f : Frag} {A : List HP} {q : Post}
variable {l rest : List Oper} {d : Nat} {ty : TypeId} {pos : String} {af : Array Edge} {gd : Option (Nat × Bool)}

theorem H.cap_slice {t e : TypeId} {x : Operand} {p : Option Addr} {m c : Nat} [hu : Und P t (.slice e)] (hw : want? l L gd = true) (hx : ev? L x = some (.slice p m c)) (hd : Nat.ble (d + 1) n = true)
    (k : H P base n ((d, .int .i64 (c : Nat)) :: L) f A (.ops l rest q)) : H P base n L f A (.ops l (⟨some d, .call ⟨.builtin .cap, #[x], #[t]⟩, ty, pos, af, gd⟩ :: rest) q) :=
  H.opV hw hd (fun a w hfr _ => by
    simp [execOp, resolve, invoke, builtin, Builtin.cap_, hfr.eval hx, hu.run, goInt]) k

theorem H.slc_cap {A' : List HP} {p : Option Addr} {m c sz : Nat} {T : TypeId} {xs : List Value} {K : Kont} (h : At A (slc p m c T sz xs) A' (slc p m c T sz xs))
    (k : m ≤ c → c ≤ 9223372036854775807 → xs.length = m * sz → H P base n L f A K) : H P base n L f A K := .mk fun a w hf s => by
  obtain ⟨h1, h2, h3⟩ := s.slc_at h
  rcases h3 with ⟨rfl, rfl⟩ | ⟨b, sp, rfl, h4, _⟩
  · exact (k (Nat.le_refl _) h2 h1).out a w hf s
  · exact (k h4 h2 h1).out a w hf s
theorem slP0 (p : Option Addr) (mv sz : Nat) : slP p 0 mv sz = p := by
  unfold slP
  split
  · rfl
  · cases p <;> simp [Addr.add]
/-- 'x[:hi]'. -/
theorem H.sliceTo {t e : TypeId} {x y : Operand} {p : Option Addr} {len cap hv sz : Nat} {kk : IntKind} {z : Int} [hu : Und P t (.slice e)] [hs : Siz P e sz] (hw : want? l L gd = true)
    (hx : ev? L x = some (.slice p len cap)) (hy : ev? L y = some (.int kk z)) (hz : z = (hv : Nat)) (a2 : hv ≤ cap) (hd : Nat.ble (d + 1) n = true)
    (k : H P base n ((d, .slice p hv cap) :: L) f A (.ops l rest q)) : H P base n L f A (.ops l (⟨some d, .slice t x none (some y) none, ty, pos, af, gd⟩ :: rest) q) :=
  H.slice (hu := hu) (hs := hs) (lv := 0) (hv := hv) (mv := cap) hw hx rfl ⟨kk, z, hy, hz⟩ rfl (fun h => by cases h) (Nat.zero_le _) a2 (Nat.le_refl _) hd (by rw [slP0]; exact k)
/-- An owned slice up to its capacity. -/
theorem H.slc_full {B : List HP} {p : Option Addr} {m c sz : Nat} {T : TypeId} {xs : List Value} {K : Kont}
    (k : ∀ sp : List Value, (xs ++ sp).length = c * sz → m ≤ c → H P base n L f (slc p c c T sz (xs ++ sp) :: B) K) : H P base n L f (slc p m c T sz xs :: B) K := .mk fun a w hf s => by
  obtain ⟨mm, ⟨m1, m2, dj, e, ⟨h1, h2, h3⟩, r⟩, hd, hw⟩ := s.mem
  rcases h3 with ⟨rfl, rfl, hn⟩ | ⟨b, sp, rfl, h4, h5, hn⟩
  · have : xs = [] := List.eq_nil_of_length_eq_zero (by simpa using h1)
    subst this
    exact (k [] (by simp) (Nat.le_refl _)).out a w hf ⟨s.os, s.tape, s.output, s.size, s.imm, mm, ⟨m1, m2, dj, e, ⟨by simp, h2, .inl ⟨rfl, rfl, hn⟩⟩, r⟩, hd, hw⟩
  · exact (k sp h5 h4).out a w hf ⟨s.os, s.tape, s.output, s.size, s.imm, mm, ⟨m1, m2, dj, e, ⟨h5, h2, .inr ⟨b, [], rfl, Nat.le_refl _, by rw [List.append_nil]; exact h5, by rw [List.append_nil]; exact hn⟩⟩, r⟩, hd, hw⟩
/-- Its beginning; the rest is spare again. -/
theorem H.slc_trunc {B : List HP} {p : Option Addr} {m m' c sz : Nat} {T : TypeId} {xs ys : List Value} {K : Kont} (hm : m' ≤ m) (hc : m ≤ c) (hy : ys = xs.take (m' * sz))
    (k : H P base n L f (slc p m' c T sz ys :: B) K) : H P base n L f (slc p m c T sz xs :: B) K := .mk fun a w hf s => by
  subst hy
  obtain ⟨mm, ⟨m1, m2, dj, e, ⟨h1, h2, h3⟩, r⟩, hd, hw⟩ := s.mem
  have hlen : (xs.take (m' * sz)).length = m' * sz := by
    rw [List.length_take, h1]; exact Nat.min_eq_left (Nat.mul_le_mul_right _ hm)
  refine k.out a w hf ⟨s.os, s.tape, s.output, s.size, s.imm, mm, ⟨m1, m2, dj, e, ⟨hlen, h2, ?_⟩, r⟩, hd, hw⟩
  rcases h3 with ⟨rfl, rfl, hn⟩ | ⟨b, sp, rfl, h4, h5, hn⟩
  · exact .inl ⟨by omega, rfl, hn⟩
  · refine .inr ⟨b, xs.drop (m' * sz) ++ sp, rfl, by omega, ?_, ?_⟩
    · rw [← List.append_assoc, List.take_append_drop]; exact h5
    · rw [← List.append_assoc, List.take_append_drop]; exact hn

theorem run_append_zero_out {w : World} {t u e ty : TypeId} {p : Option Addr} {n c m : Nat} {z : Value} {i : TypeInfo} {olds : List Value}
    (hu : Und P t (.slice e)) (hu2 : Und P u (.int .i64)) (hi : P.info? e = some i) (hz : i.zero = some z) (hpos : 0 < m * i.size)
    (hold : (Builtin.firstCells i.size n (.slice p n c)).run P w.drew = .ok olds.toArray w.drew)
    (hg : c < n + m) (h63 : n + m ≤ 9223372036854775807) (hby : (n + m) * i.bytes ≤ 140737488355328) (hfit : Builtin.nextslicecap (n + m) c * i.bytes ≤ 281474976710656) :
    (Builtin.append_ #[t, u] ty #[.slice p n c, .int .i64 (m : Nat)]).run P w =
      .ok (.slice (some ⟨w.heap.size, 0, none⟩) (n + m) (grownCap w (n + m) c e)) (w.drew.alloc (.cells (olds.toArray ++ Builtin.zeroCells z.cells m ++ Builtin.zeroCells z.cells (grownCap w (n + m) c e - (n + m))) e)) := by
  have hn : ¬ (n + m ≤ c) := by omega
  have h63' : ¬ (9223372036854775807 < ((n : Int) + (m : Int))) := by omega
  have h48' : ¬ (281474976710656 < Builtin.nextslicecap (n + m) c * i.bytes) := by omega
  have hwr : IntKind.i64.wrap (m : Int) = (m : Int) := wr_i64 (by omega)
  have hm0 : ¬ ((m : Int) < 0) := by omega
  have hmb : m * i.bytes ≤ 281474976710656 := by
    have : m * i.bytes ≤ (n + m) * i.bytes := Nat.mul_le_mul_right _ (by omega)
    omega
  have hmb' : ¬ (281474976710656 < (m : Int) * (i.bytes : Int)) := by
    rw [← Int.natCast_mul]
    omega
  have hp : ¬ (m * i.size = 0) := by omega
  have hp2 : ¬ (m = 0 ∨ i.size = 0) := by
    rintro (h | h) <;> simp [h] at hpos
  simp [Builtin.append_, run_underlying hu.eq, run_underlying hu2.eq, sizeOf, typeInfo, zeroValue, hi, hz, hold, hn, h63', h48', hwr, hm0, hmb', hp, asInt, asIntOf, Question.forced, newRow, grownCap]

theorem run_append_zero {w : World} {A' : Option Addr → Nat → List HP} {t u e ty : TypeId} {p : Option Addr} {n c sz m bytes : Nat} {xs : List Value} {z : Value}
    (hu : Und P t (.slice e)) (hu2 : Und P u (.int .i64)) (hs : Siz P e sz) (hb : Byt P e bytes) (hz : Zer P e z)
    (s : Sat base w f A) (hA : ∀ p' c', At A (slc p n c e sz xs) (A' p' c') (slc p' (n + m) c' e sz (xs ++ (Builtin.zeroCells z.cells m).toList)))
    (hzs : z.cells.size = sz) (hpos : 0 < m * sz) (hg : c < n + m) (h63 : n + m ≤ 9223372036854775807) (hby : (n + m) * bytes ≤ 140737488355328) :
    ∃ p' c' w', (Builtin.append_ #[t, u] ty #[.slice p n c, .int .i64 (m : Nat)]).run P w = .ok (.slice p' (n + m) c') w' ∧ Sat base w' f (A' p' c') := by
  obtain ⟨i, hi, rfl, rfl, hiz⟩ := info_of hs hb hz
  obtain ⟨hl, hc, h3⟩ := s.slc_at (hA none 0)
  have hold : (Builtin.firstCells i.size n (.slice p n c)).run P w.drew = .ok xs.toArray w.drew := by
    rcases h3 with ⟨rfl, rfl⟩ | ⟨b, sp, rfl, hnc, hcs, hw⟩
    · have hx : xs = [] := List.eq_nil_of_length_eq_zero (by simpa using hl)
      subst hx
      cases p with
      | none => exact run_firstCells_none w.drew i.size 0 0 0
      | some a => exact run_firstCells_some w.drew i.size 0 a 0 0 [] (by simp) (by simp)
    · exact run_firstCells_some (P := P) w.drew i.size n ⟨b, 0, none⟩ n c xs hl (fun j v hj => by
        rw [add_none]
        have : j < xs.length := by
          rcases Nat.lt_or_ge j xs.length with h | h
          · exact h
          · simp [List.getElem?_eq_none h] at hj
        simp [World.cell?, show w.drew.heap = w.heap from rfl, hw, List.getElem?_append_left this, hj])
  have hr := run_append_zero_out (ty := ty) hu hu2 hi hiz hpos hold hg h63 hby (growslice_fits hg hby)
  have hlen : (xs ++ (Builtin.zeroCells z.cells m).toList).length = (n + m) * i.size := by
    rw [List.length_append, hl, Array.length_toList, size_zeroCells, hzs, Nat.add_mul]
  refine ⟨_, _, _, hr, s.fresh (hA _ _) rfl rfl rfl rfl ⟨hlen, ?_, .inr ⟨_, (Builtin.zeroCells z.cells (grownCap w (n + m) c e - (n + m))).toList, rfl, grownCap_ge _ _ _ _, ?_, ?_⟩⟩⟩
  · have := grownCap_le_maxLen w (n + m) c e (by unfold maxLen; omega)
    unfold maxLen at this; omega
  · have hge := grownCap_ge w (n + m) c e
    rw [List.length_append, hlen, Array.length_toList, size_zeroCells, hzs, ← Nat.add_mul]; congr 1; omega
  · congr 2
    rw [← List.append_toArray, ← List.append_toArray, Array.toArray_toList, Array.toArray_toList]
/-- 'append(s, make(.., m)..)', where there is no room. -/
theorem H.appendZ {A' : Option Addr → Nat → List HP} {t u e : TypeId} {x y : Operand} {p : Option Addr} {n0 c sz m bytes : Nat} {zi : Int} {xs : List Value} {z : Value}
    [hu : Und P t (.slice e)] [hu2 : Und P u (.int .i64)] [hs : Siz P e sz] [hb : Byt P e bytes] [hz : Zer P e z] (hw : want? l L gd = true) (hd : Nat.ble (d + 1) n = true) (hx : ev? L x = some (.slice p n0 c)) (hy : ev? L y = some (.int .i64 zi)) (hzi : zi = (m : Nat))
    (hA : ∀ p' c', At A (slc p n0 c e sz xs) (A' p' c') (slc p' (n0 + m) c' e sz (xs ++ (Builtin.zeroCells z.cells m).toList)))
    (hzs : z.cells.size = sz) (hpos : 0 < m * sz) (hg : c < n0 + m) (h63 : n0 + m ≤ 9223372036854775807) (hby : (n0 + m) * bytes ≤ 140737488355328)
    (k : ∀ p' c', H P base n ((d, .slice p' (n0 + m) c') :: L) f (A' p' c') (.ops l rest q)) :
    H P base n L f A (.ops l (⟨some d, .call ⟨.builtin .append, #[x, y], #[t, u]⟩, ty, pos, af, gd⟩ :: rest) q) :=
  H.opE (ι := Option Addr × Nat) (fun i => .slice i.1 (n0 + m) i.2) (fun _ => f) (fun i => A' i.1 i.2) (fun _ => True) hw hd (fun a w hfr s => by
    subst hzi
    obtain ⟨p', c', w', hr, s'⟩ := run_append_zero (ty := ty) hu hu2 hs hb hz s hA hzs hpos hg h63 hby
    exact ⟨(p', c'), w', trivial, run_builtin_append (by rw [hfr.eval hx, hfr.eval hy]; exact hr), s'⟩) (fun i _ => k i.1 i.2)

theorem Src.cons {y : HP} {x : Value} {sz m : Nat} {news : List Value} (h : Src P f A x sz m news) : Src P f (y :: A) x sz m news :=
  ⟨h.len, fun base w s => h.cells base w (s.drop (.here _ _)), h.size⟩
theorem Src.append {B : List HP} {x : Value} {sz m : Nat} {news : List Value} (h : Src P f A x sz m news) : Src P f (B ++ A) x sz m news := by
  induction B with
  | nil => exact h
  | cons b B ih => exact ih.cons

theorem results_cell {fn : Func} {p : Tmp} {ty : TypeId} {tmps : Array Value} {w : World} {b off : Nat} {v : Value} (h : fn.results = #[.cell p ty]) (hp : tmps.getD p undef = .pointer (some ⟨b, off, none⟩))
    (hl : (loadVar ty ⟨b, off, none⟩).run P w = .ok v w) : (results fn tmps).run P w = .ok v w := by
  have hp' : tmps[p]?.getD undef = .pointer (some ⟨b, off, none⟩) := by simpa using hp
  simp only [results, h]
  simp [Sem.run_bind, asAddr, hp', hl]
/-- The result lies in a cell of its own (a struct or an array). -/
theorem H.retC {fn : Func} {R : Value → Frag → List HP → Prop} {t : Nat} {ty : TypeId} {dd : TypeDesc} {m b off : Nat} {ls : List Value} {A' : List HP} [hu : Und P ty dd] [hs : Siz P ty m] (hr : fn.results = #[.cell t ty]) (hv : look? L t = some (.pointer (some ⟨b, off, none⟩))) (ha : aggD dd = true)
    (hrd : Rd f A b off ls) (hm : ls.length = m) (hA : ∀ x, stars A x → stars A' x) (h : R (.agg ls.toArray) f A') : H P base n L f A (.out .ret (.fn (FnPost P fn base R))) := .mk fun a w hf s => by
  show bodyPost P fn (fun e w' => ∃ v f' A', e = .returned v ∧ R v f' A' ∧ Sat base w' f' A') .ret a w
  refine bodyPost_ret (v := .agg ls.toArray) ?_ hf.defers ⟨_, f, A', rfl, h, s.imp hA⟩
  have h1 := hf.get t _ hv
  have h2 : a.tmps.getD t undef = .pointer (some ⟨b, off, none⟩) := by simp [Array.getD_eq_getD_getElem?, h1]
  have h3 := run_loadAtN (P := P) hu ha hs (hrd base w s) hm
  unfold Instr.loadAt Instr.sureAddr at h3
  exact results_cell hr h2 (by simpa using h3)
end rules
end Go.Proofs.YtcaofnfemogleaaGreatDoor
