/- Parts of the proof, one behind the other, each under its own heading. No conditions. -/
import Derived.Test.YtminmjlfmolfeaaGreatDoorZ01
import Derived.Orders
import Derived.StillTail
import Derived.IntWalk
import Derived.ChangeKeysEq
import Derived.Laws.StructEq
import Derived.Test.YtminmjlfmolfeaaGreatDoorProg
set_option linter.unusedSectionVars false
set_option linter.unusedSimpArgs false
set_option linter.unusedVariables false
/- The engine, part f: a region that draws its order. Its operations that only read are taken first; the others come one at a time. No program in sight; no conditions. -/
namespace Go.Proofs.YtminmjlfmolfeaaGreatDoor
open Go
variable {o oi:Oper} {v:Value} {a:Act} {j fuel:Nat} {w:World} {ops:Array Oper} {listed:Array Bool}
section
variable {P:Program} {ops:Array Oper} {Q:Exit→Act→World→Prop} {C:World→Prop}
def wpAnyC (P:Program) (C:World→Prop) (ops:Array Oper) (Q:Exit→Act→World→Prop) (cut:Array Bool):Nat→Array Bool→Act→World→Prop
 | 0,listed,a,w=>C w ∧ Region.ready .any ops listed = [] ∧ Q .normal a w
 | fuel + 1, listed, a, w => C w ∧ if listed = cut then wpAny P .any ops Q (fuel + 1) listed a w else ((Region.ready .any ops listed = [] → Q .normal a w) ∧
  ∀ i ∈ Region.ready .any ops listed,wpOp P ops Q i (wpAnyC P C ops Q cut fuel (listed.setIfInBounds i true)) a w)
theorem wpAnyC.any {cut:Array Bool}:∀ (fuel:Nat) (listed:Array Bool) (a:Act) (w:World),wpAnyC P C ops Q cut fuel listed a w→wpAny P .any ops Q fuel listed a w
 | 0,_,_,_,h=>h.2
 | fuel + 1, listed, _, _, h => by
  have h2:=h.2
  split at h2
  ·exact h2
  ·exact ⟨h2.1,fun i hi=>wpOp_mono (fun a w=>wpAnyC.any fuel _ a w) (h2.2 i hi)⟩
def YieldsC (P:Program) (C:World→Prop) (ops:Array Oper) (o:Oper) (v:Value) (a:Act):Prop:=
 (Region.wanted o (yielded ops a.tmps) = true ∧ ∀ w,C w→(execOp a.eval o).run P w = .ok (.value v) w) ∨
 (Region.wanted o (yielded ops a.tmps) = false ∧ v = undef)
theorem YieldsC.wpOp {i:Nat} {o:Oper} {v:Value} {a:Act} (hi:ops[i]? = some o) (hy:YieldsC P C ops o v a)
  {K:Act→World→Prop} {w:World} (hc:C w) (h:K (a.put o.dst v) w):wpOp P ops Q i K a w:=by
 unfold Go.wpOp;simp only [hi];rcases hy with ⟨hw,hv⟩ | ⟨hw,rfl⟩
 ·simp only [hw,if_true,Oper.wp,hv w hc,Oper.upon];exact .inl h
 ·simp only [hw,Bool.false_eq_true,if_false];exact h
theorem YieldsC.of_same {a':Act} (hy:YieldsC P C ops o v a) (he:execOp a'.eval o = execOp a.eval o)
  (hw:Region.wanted o (yielded ops a'.tmps) = Region.wanted o (yielded ops a.tmps)):YieldsC P C ops o v a':=by
 unfold YieldsC at *;rw [he,hw];exact hy
theorem wpOp_putC {oj:Oper} (hj:ops[j]? = some oj) (hap:oi.apart ops oj = true)
  (hsi:∀ cs b,oi.op ≠ .select cs b) (hsj:∀ cs b,oj.op ≠ .select cs b)
  (hQ:∀ c a w,Q (.panic c) (a.put oi.dst v) w→Q (.panic c) a w) {K:Act→World→Prop}
  (hy:YieldsC P C ops oi v a) (h:wpOp P ops Q j K (a.put oi.dst v) w) :
  wpOp P ops Q j (fun a' w'=>YieldsC P C ops oi v a' ∧ K (a'.put oi.dst v) w') a w:=by
 obtain ⟨h1,h2,h3⟩:=Oper.apart_spec hap
 have keep:∀ (a:Act),YieldsC P C ops oi v a→∀ u,YieldsC P C ops oi v (a.put oj.dst u):=fun a hy u =>
  hy.of_same (execOp_put oi hsi a oj.dst u h3) (wanted_put oi a oj.dst u h3)
 have keepD:∀ d,YieldsC P C ops oi v { a with defers:=d::a.defers }:=fun d=>hy.of_same rfl rfl;unfold wpOp at *
 simp only [hj] at *;rw [wanted_put oj a oi.dst v h1] at h;split
 ·rename_i hw
  simp only [hw,if_true] at h;rcases h with h | ⟨hasks,hlets⟩;case inr=>exact .inr ⟨by unfold Oper.asks at *;rw [execOp_put oj hsj a oi.dst v h1] at hasks;exact hasks,hlets⟩
  refine .inl ?_;unfold Oper.wp at *;rw [execOp_put oj hsj a oi.dst v h1] at h;generalize (execOp a.eval oj).run P w = r at *
  cases r with
  | ok n w' =>
   cases n <;> simp only [Oper.upon] at h ⊢
   case value u=>exact ⟨keep a hy u,by rw [← Act.put_comm a v u h2];exact h⟩
   case skip=>exact ⟨keep a hy _,by rw [← Act.put_comm a v undef h2];exact h⟩
   case defer d =>
    refine ⟨keep _ (keepD d) _,?_⟩;rw [← Act.put_comm _ v undef h2,← Act.put_defers];exact h
   case enter f args =>
    refine Calls.mono h fun e w'' he=>?_
    cases e with
    | returned u=>exact ⟨keep a hy u,by rw [← Act.put_comm a v u h2];exact he⟩
    | panicked c=>exact hQ _ _ _ he
    | outgrown=>exact he
   case row row args=>exact Rows.mono h fun u w'' he=>⟨keep a hy u,by rw [← Act.put_comm a v u h2];exact he⟩
  | halt x w' =>
   cases x <;> simp only [Oper.upon] at h ⊢
   case panic u=>exact hQ _ _ _ h
 ·rename_i hw
  simp only [hw] at h;exact ⟨keep a hy _,by rw [← Act.put_comm a v undef h2];exact h⟩
def closedB (ops:Array Oper) (listed:Array Bool):Bool:=(List.range ops.size).all fun k=>!listed.getD k false || match ops[k]? with
 | some o=>o.after.all fun e=>!Region.binds .any e || listed.getD e.on false
 | none=>true
def Closed (ops:Array Oper) (listed:Array Bool):Prop:=∀ (k:Nat) (o:Oper),ops[k]? = some o→listed.getD k false = true→∀ e ∈ o.after,Region.binds .any e = true→listed.getD e.on false = true
theorem closed_of (h:closedB ops listed = true):Closed ops listed:=fun k o ho hk e he hb=>by
 have hlt:k < ops.size:=(Array.getElem?_eq_some_iff.1 ho).1
 have:=List.all_eq_true.1 h k (List.mem_range.2 hlt)
 rw [ho,hk] at this
 simp only [Bool.not_true,Bool.false_or,Array.all_eq_true_iff_forall_mem] at this
 have h2:=this e he
 rw [hb] at h2
 simpa using h2
theorem Closed.put (h:Closed ops listed) (hj:j ∈ Region.ready .any ops listed):Closed ops (listed.setIfInBounds j true):=fun k o ho hk e he hb=>by
 obtain ⟨hjun,oj,hoj,hall⟩:=mem_ready.1 hj
 have key:∀ m,listed.getD m false = true→(listed.setIfInBounds j true).getD m false = true:=fun m hm=>by
  by_cases c:j = m
  ·subst c
   have:j < listed.size:=by
    rcases Nat.lt_or_ge j listed.size with h' | h'
    ·exact h'
    ·simp [Array.getElem?_eq_none h'] at hm
   simp [this]
  ·rw [getD_set_ne false c];exact hm
 by_cases c:j = k
 ·subst c
  rw [hoj] at ho
  cases ho
  exact key _ (hall e he hb)
 ·rw [getD_set_ne false c] at hk
  exact key _ (h k o ho hk e he hb)
def barB (ops:Array Oper) (cut:Array Bool) (i:Nat):Bool:=
 cut.size == 0 || (cut.getD i false && (((List.range ops.size).any fun k=>!(k == i) && cut.getD k false && match ops[k]? with
  | some o=>o.after.any fun e=>Region.binds .any e && e.on == i
  | none=>false) || (Region.ready .any ops (cut.setIfInBounds i false)).all fun j=>j == i || cut.getD j false))
theorem ready_false {i:Nat} (hi:i ∈ Region.ready .any ops listed):listed.getD i true = false:=(mem_ready.1 hi).1
theorem getD_both {l:Array Bool} {i:Nat} (h:l.getD i true = false):i < l.size ∧ l.getD i false = false:=by
 rcases Nat.lt_or_ge i l.size with h' | h'
 ·exact ⟨h',by simpa [h'] using h⟩
 ·simp [Array.getElem?_eq_none h'] at h
theorem barB_ne {cut:Array Bool} {i:Nat} (h:barB ops cut i = true) (hi:i ∈ Region.ready .any ops listed):listed ≠ cut:=by
 rintro rfl;have h1:=getD_both (ready_false hi);unfold barB at h
 rw [h1.2] at h;simp at h
 have:=h1.1;rw [h] at this
 simp at this
theorem barB_two {cut:Array Bool} {i:Nat} (h:barB ops cut i = true) (hcl:Closed ops listed) (hi:i ∈ Region.ready .any ops listed) (hj:j ∈ Region.ready .any ops listed) (hji:j ≠ i):listed.setIfInBounds i true ≠ cut:=by
 intro e;have h1:=getD_both (ready_false hi);have h2:=getD_both (ready_false hj)
 have e2:cut.setIfInBounds i false = listed:=by
  rw [← e];apply Array.ext_getElem?;intro k;by_cases hk:i = k
  ·subst hk
   have:=h1.1;have h3:=h1.2
   simp [this] at h3;simp [this,h3]
  ·rw [Array.getElem?_setIfInBounds_ne hk,Array.getElem?_setIfInBounds_ne hk]
 unfold barB at h;rw [e2] at h;have hs:cut.size = listed.size:=by rw [← e];simp
 have h4:(cut.size == 0) = false:=by
  have:=h1.1;rw [beq_eq_false_iff_ne];omega
 rw [h4,Bool.false_or,Bool.and_eq_true,Bool.or_eq_true] at h;rcases h.2 with hdep | h7
 ·obtain ⟨k,hk,hk2⟩:=List.any_eq_true.1 hdep;simp only [Bool.and_eq_true,Bool.not_eq_true',beq_eq_false_iff_ne] at hk2;obtain ⟨⟨hki,hck⟩,hm⟩:=hk2
  have hlk:listed.getD k false = true:=by
   rw [← e,getD_set_ne false (Ne.symm hki)] at hck;exact hck
  cases ho:ops[k]? with
  | none=>rw [ho] at hm;cases hm
  | some o =>
   rw [ho] at hm;obtain ⟨x,hx,hx2⟩:=Array.any_eq_true'.1 hm;simp only [Bool.and_eq_true,beq_iff_eq] at hx2
   have:=hcl k o ho hlk x hx hx2.1;rw [hx2.2,h1.2] at this
   cases this
 have h5:=List.all_eq_true.1 h7 j hj
 have h6:cut.getD j false = false:=by
  rw [← e,getD_set_ne false (Ne.symm hji)];exact h2.2
 rw [h6] at h5;simp at h5;exact hji h5
theorem wpAnyC_first {cut:Array Bool} {i:Nat} (hi:ops[i]? = some oi) (hsel:∀ (j:Nat) (o:Oper) cs b,ops[j]? = some o→o.op ≠ .select cs b)
  (hQ:∀ c a w,Q (.panic c) (a.put oi.dst v) w→Q (.panic c) a w) (hbar:barB ops cut i = true) :
  ∀ (fuel:Nat) (listed:Array Bool) (a:Act) (w:World),
   (∀ j oj,ops[j]? = some oj→j ≠ i→listed.getD j true = false→(∀ e ∈ oj.after,Region.binds .any e = true→e.on ≠ i)→oi.apart ops oj = true) →
   i ∈ Region.ready .any ops listed→Closed ops listed→YieldsC P C ops oi v a →
   wpAnyC P C ops Q cut fuel (listed.setIfInBounds i true) (a.put oi.dst v) w→wpAnyC P C ops Q cut (fuel + 1) listed a w:=by
 intro fuel
 induction fuel with
 | zero =>
  intro listed a w _ hr hcl hy H;refine ⟨H.1,?_⟩;rw [if_neg (barB_ne hbar hr)];refine ⟨fun h=>(by rw [h] at hr;cases hr),fun j hj=>?_⟩;by_cases hji:j = i
  ·subst hji;exact hy.wpOp hi H.1 H
  ·have:=ready_mono hj hji;rw [H.2.1] at this
   cases this
 | succ fuel ih =>
  intro listed a w hfree hr hcl hy H;refine ⟨H.1,?_⟩;rw [if_neg (barB_ne hbar hr)];refine ⟨fun h=>(by rw [h] at hr;cases hr),fun j hj=>?_⟩;by_cases hji:j = i
  ·subst hji;exact hy.wpOp hi H.1 H
  ·have H2:=H.2;rw [if_neg (barB_two hbar hcl hr hj hji)] at H2
   have h1:=H2.2 j (ready_mono hj hji);obtain ⟨hjun,oj,hoj,hall⟩:=mem_ready.1 hj
   have hnot:∀ e ∈ oj.after,Region.binds .any e = true→e.on ≠ i:=fun e he hb heq=>by
    have h1:=hall e he hb;have h0:=(mem_ready.1 hr).1
    rw [heq] at h1;rcases Nat.lt_or_ge i listed.size with h' | h'
    ·simp [h'] at h0 h1;rw [h0] at h1;cases h1
    ·simp [Array.getElem?_eq_none h'] at h1
   have h2:=wpOp_putC hoj (hfree j oj hoj hji hjun hnot) (fun cs b=>hsel i oi cs b hi) (fun cs b=>hsel j oj cs b hoj) hQ hy h1
   have hfree':∀ k ok,ops[k]? = some ok→k ≠ i→(listed.setIfInBounds j true).getD k true = false →
     (∀ e ∈ ok.after,Region.binds .any e = true→e.on ≠ i)→oi.apart ops ok = true:=fun k ok hk hki hun hno=>by
    refine hfree k ok hk hki ?_ hno
    by_cases hjk:j = k
    ·subst hjk;exact hjun
    ·rw [getD_set_ne true hjk] at hun;exact hun
   refine wpOp_mono (fun a' w' h3=>ih (listed.setIfInBounds j true) a' w' hfree' (ready_mono hr (Ne.symm hji)) (hcl.put hj) h3.1 ?_) h2;rw [Array.setIfInBounds_comm _ _ hji];exact h3.2
theorem wpAnyC_take {cut:Array Bool} {i:Nat} (hi:ops[i]? = some oi)
  (hs:Region.noSelect ops = true) (hf:Region.free .any ops listed i = true) (hbar:barB ops cut i = true) (hcl:closedB ops listed = true) (hr:(Region.ready .any ops listed).contains i = true)
  (hQ:∀ c a w,Q (.panic c) (a.put oi.dst v) w→Q (.panic c) a w) (hy:YieldsC P C ops oi v a)
  (h:wpAnyC P C ops Q cut fuel (listed.setIfInBounds i true) (a.put oi.dst v) w):wpAnyC P C ops Q cut (fuel + 1) listed a w:=
 wpAnyC_first hi (Region.noSelect_spec hs) hQ hbar fuel listed a w (Region.free_spec hi hf) (by simpa using hr) (closed_of hcl) hy h
theorem wpAnyC_one {cut:Array Bool} {i:Nat} (hr:Region.ready .any ops listed = [i]) (hne:listed ≠ cut) (hc:C w)
  (h:wpOp P ops Q i (wpAnyC P C ops Q cut fuel (listed.setIfInBounds i true)) a w):wpAnyC P C ops Q cut (fuel + 1) listed a w:=by
 refine ⟨hc,?_⟩;rw [if_neg hne];exact ⟨(fun h0=>by rw [hr] at h0;simp at h0),(fun j hj=>by rw [hr] at hj;simp at hj;subst hj;exact h)⟩
end
structure Lst where
 a:Array Bool
 cut:Array Bool
 left:Nat
 /-- The rest is gone through otherwise. -/
 opn:Bool
def Lst.setIfInBounds (l:Lst) (i:Nat) (b:Bool):Lst:=⟨l.a.setIfInBounds i b,l.cut,l.left,l.opn⟩
def ordOK (ops:Array Oper):Lst→List (Nat × Bool)→Bool
 | listed, [] => match listed.opn with
  | true=>true
  | false => match listed.left with
   | 0=>Region.ready .any ops listed.a == []
   | _ + 1=>listed.a == listed.cut
 | listed,(i,true)::r=>Region.ready .any ops listed.a == [i] && (listed.a != listed.cut) && ordOK ops (listed.setIfInBounds i true) r
 | listed,(i,false)::r=>(Region.ready .any ops listed.a).contains i && Region.free .any ops listed.a i && barB ops listed.cut i && closedB ops listed.a && ordOK ops (listed.setIfInBounds i true) r
def pickOps (l:List Oper):List (Nat × Bool)→List Oper
 | []=>[]
 | (i, _) :: r => match getO l i with
  | some o=>o::pickOps l r
  | none=>[]
def Post.blind (P:Program) (q:Post):Prop:=∀ (c:List PanicEntry) (a:Act) (dst:Option Tmp) (v:Value) (w:World),q.den P (.panic c) (a.put dst v) w→q.den P (.panic c) a w
structure Ext where
 listed:Lst
 todo:List (Nat × Bool)
structure HQ (V:List HP) (ξ:Ext) (P:Program) (base:World) (n:Nat) (L:Env) (f:Frag) (S:List HP) (K:Kont):Prop where
 out:∀ l q,K = .ops l (pickOps l ξ.todo) q→Region.noSelect l.toArray = true→q.blind P→ordOK l.toArray ξ.listed ξ.todo = true→(∀ t ∈ ξ.todo,(getO l t.1).isSome) →
  ∀ a w,Fr n a L→Sat base w f (S ++ V)→wpAnyC P (fun w=>∃ V,Sat base w f (S ++ V)) l.toArray (q.den P) ξ.listed.cut (ξ.todo.length + ξ.listed.left) ξ.listed.a a w
variable {K:Kont} {B S V A':List HP} {op:BinOp} {ls:Lst} {ti id b c off m fo bo sz:Nat} {tt:List (Nat × Bool)} {fn:Func} {R:Value→Frag→List HP→Prop} {q:Post} {e xt yt t st ft kt et:TypeId} {p1:Op} {q1 nm tg pk:String} {a1:Array Edge} {g1:Option (Nat × Bool)} {x y:Operand} {p:Option Addr} {p2 r z:Int} {vs:List Value} {fs:List Field} {em:Bool} {dd:TypeDesc} {ik:IntKind}
section rules
variable {P:Program} {base:World} {n:Nat} {L:Env} {f:Frag} {A V:List HP} {q:Post} {ξ:Ext}
variable {l rest:List Oper} {d:Nat} {ty:TypeId} {pos:String} {af:Array Edge} {gd:Option (Nat × Bool)}
theorem sat_left (s:Sat base w f (A ++ B)):Sat base w f A:=by
 obtain ⟨a1,a2,a3,a4,a5,m,hm,hd,hw⟩:=s;rw [zbx] at hm;obtain ⟨m1,m2,dj,rfl,h1,_⟩:=hm;exact ⟨a1,a2,a3,a4,a5,m1,h1,(Dj.un_right.1 hd).1,fun k o hk=>hw k o (by simp [un,hk])⟩
theorem HQ.opV {op:Op} (hw:want? l L gd = true) (hd:Nat.ble (d + 1) n = true)
  (hx:∀ a w,Fr n a L→Sat base w f A→(execOp a.eval ⟨some d,op,ty,pos,af,gd⟩).run P w = .ok (.value v) w)
  (k:HQ V ⟨ls.setIfInBounds ti true,tt⟩ P base n ((d,v)::L) f A (.ops l rest q)):HQ V ⟨ls,(ti,false)::tt⟩ P base n L f A (.ops l (⟨some d,op,ty,pos,af,gd⟩::rest) q):=.mk fun l' q' hK hs hb ho hg a w hf s=>by
 simp only [Kont.ops.injEq] at hK
 obtain ⟨rfl,hp,rfl⟩:=hK
 have hgi:=hg (ti,false) (by simp)
 cases hgo:getO l ti with
 | none=>simp [hgo] at hgi
 | some o =>
  simp only [pickOps,hgo,List.cons.injEq] at hp
  obtain ⟨ho1,hp2⟩:=hp
  simp only [ordOK,Bool.and_eq_true] at ho
  have hk:=k.out l q (by rw [hp2]) hs hb ho.2 (fun t' ht=>hg t' (by simp at ht ⊢;exact .inr ht)) _ w (hf.put (Nat.le_of_ble_eq_true hd) v) s
  subst ho1
  rw [show ((ti,false)::tt).length + ls.left = (tt.length + ls.left) + 1 by simp only [List.length_cons];omega]
  exact wpAnyC_take (oi:=⟨some d,op,ty,pos,af,gd⟩) (v:=v) (by rw [List.getElem?_toArray,← getO_eq];exact hgo) hs ho.1.1.1.2 ho.1.1.2 ho.1.2 ho.1.1.1.1 (fun c a w h=>hb c a _ _ w h) (.inl ⟨hf.want hw,fun w' ⟨V',s'⟩=>hx a w' hf (sat_left s')⟩) hk
theorem HQ.pass {op:Op} (hw:skip? l L gd = true) (hd:Nat.ble (d + 1) n = true)
  (k:HQ V ⟨ls.setIfInBounds ti true,tt⟩ P base n ((d,.tuple #[])::L) f A (.ops l rest q)):HQ V ⟨ls,(ti,false)::tt⟩ P base n L f A (.ops l (⟨some d,op,ty,pos,af,gd⟩::rest) q):=.mk fun l' q' hK hs hb ho hg a w hf s=>by
 simp only [Kont.ops.injEq] at hK
 obtain ⟨rfl,hp,rfl⟩:=hK
 have hgi:=hg (ti,false) (by simp)
 cases hgo:getO l ti with
 | none=>simp [hgo] at hgi
 | some o =>
  simp only [pickOps,hgo,List.cons.injEq] at hp
  obtain ⟨ho1,hp2⟩:=hp
  simp only [ordOK,Bool.and_eq_true] at ho
  have hk:=k.out l q (by rw [hp2]) hs hb ho.2 (fun t' ht=>hg t' (by simp at ht ⊢;exact .inr ht)) _ w (hf.put (Nat.le_of_ble_eq_true hd) _) s
  subst ho1
  rw [show ((ti,false)::tt).length + ls.left = (tt.length + ls.left) + 1 by simp only [List.length_cons];omega]
  exact wpAnyC_take (oi:=⟨some d,op,ty,pos,af,gd⟩) (v:=undef) (by rw [List.getElem?_toArray,← getO_eq];exact hgo) hs ho.1.1.1.2 ho.1.1.2 ho.1.2 ho.1.1.1.1 (fun c a w h=>hb c a _ _ w h) (.inr ⟨hf.skip hw,rfl⟩) hk
def backPost (P:Program) (base:World) (f:Frag) (S:List HP) (ξ:Ext) (l:List Oper) (q:Post):Exit→Act→World→Prop
 | .normal,a,w=>wpAnyC P (fun w=>∃ V,Sat base w f (S ++ V)) l.toArray (q.den P) ξ.listed.cut (ξ.todo.length + ξ.listed.left) ξ.listed.a a w
 | e,a,w=>q.den P e a w
theorem upon_mono {K K':Act→World→Prop} {Q Q':Exit→Act→World→Prop} (h:∀ a w,K a w→K' a w) (hq:∀ c a w,Q (.panic c) a w→Q' (.panic c) a w) (ho:∀ a w,Q .outgrown a w→Q' .outgrown a w)
  (hh:o.wp P a w K Q):o.wp P a w K' Q':=by
 unfold Oper.wp at *;generalize (execOp a.eval o).run P w = r at *
 cases r with
 | ok n w' =>
  cases n <;> simp only [Oper.upon] at hh ⊢
  case value=>exact h _ _ hh
  case skip=>exact h _ _ hh
  case defer=>exact h _ _ hh
  case enter =>
   refine Calls.mono hh fun e w'' he=>?_
   cases e with
   | returned v=>exact h _ _ he
   | panicked c=>exact hq _ _ _ he
   | outgrown=>obtain ⟨x,y,z⟩:=he;exact ⟨x,y,ho _ _ z⟩
  case row=>exact Rows.mono hh fun _ _ he=>h _ _ he
 | halt x w' =>
  cases x <;> simp only [Oper.upon] at hh ⊢
  exact hq _ _ _ hh
def evPost (P:Program) (base:World) (f:Frag) (S:List HP) (ξ:Ext) (l rest:List Oper) (q:Post) (e:Exit) (a:Act) (w:World):Prop:=
 Region.noSelect l.toArray = true→q.blind P→ordOK l.toArray ξ.listed ξ.todo = true→(∀ t ∈ ξ.todo,(getO l t.1).isSome)→rest = pickOps l ξ.todo→backPost P base f S ξ l q e a w
theorem HQ.event {i:Nat} {t:List (Nat × Bool)}
  (k:H P base n L f (A ++ V) (.ops l [o] (.fn (evPost P base f A ⟨ls.setIfInBounds i true,t⟩ l rest q)))) :
  HQ V ⟨ls,(i,true)::t⟩ P base n L f A (.ops l (o::rest) q):=.mk fun l' q' hK hs hb ho hg a w hf s=>by
 simp only [Kont.ops.injEq] at hK
 obtain ⟨rfl,hp,rfl⟩:=hK
 have hgi:=hg (i,true) (by simp)
 cases hgo:getO l i with
 | none=>simp [hgo] at hgi
 | some o' =>
  simp only [pickOps,hgo,List.cons.injEq] at hp
  obtain ⟨rfl,hp2⟩:=hp
  simp only [ordOK,Bool.and_eq_true] at ho
  have hk:=k.out a w hf s
  have hr:Region.ready .any l.toArray ls.a = [i]:=by simpa using ho.1.1
  have hne:ls.a ≠ ls.cut:=by simpa using ho.1.2
  rw [show ((i,true)::t).length + ls.left = (t.length + ls.left) + 1 by simp only [List.length_cons];omega]
  refine wpAnyC_one hr hne ⟨V,s⟩ ?_
  have h2:∀ t' ∈ t,(getO l t'.1).isSome:=fun t' ht=>hg t' (by simp at ht ⊢;exact .inr ht)
  unfold wpOp
  rw [List.getElem?_toArray,← getO_eq,hgo]
  show if Region.wanted o (yielded l.toArray a.tmps) = true then _ else _
  have hk':wpList P l.toArray (evPost P base f A ⟨ls.setIfInBounds i true,t⟩ l rest q) [o] a w:=hk
  simp only [wpList] at hk'
  have e1:∀ a w,evPost P base f A ⟨ls.setIfInBounds i true,t⟩ l rest q .normal a w →
    wpAnyC P (fun w=>∃ V,Sat base w f (A ++ V)) l.toArray (q.den P) ls.cut (t.length + ls.left) (ls.a.setIfInBounds i true) a w:=fun a w h=>h hs hb ho.2 h2 hp2
  by_cases hw:Region.wanted o (yielded l.toArray a.tmps) = true
  ·rw [if_pos hw] at hk' ⊢
   rcases hk' with h | ⟨hasks,x,y,z⟩
   ·exact .inl (upon_mono e1 (fun c a w h=>h hs hb ho.2 h2 hp2) (fun a w h=>h hs hb ho.2 h2 hp2) h)
   ·exact .inr ⟨hasks,x,y,z hs hb ho.2 h2 hp2⟩
  ·rw [if_neg hw] at hk' ⊢
   exact e1 _ _ hk'
theorem H.back {V':List HP} (hB:B = A ++ V') (k:HQ V' ξ P base n L f A (.ops l rest q)) :
  H P base n L f B (.out .normal (.fn (evPost P base f A ξ l rest q))):=.mk fun a w hf s hs hb h1 h2 h3=>by
 subst hB;subst h3
 exact k.out l q rfl hs hb h1 h2 a w hf s
theorem HQ.nil {a cut:Array Bool} (k:H P base n L f (A ++ V) (.out .normal q)):HQ V ⟨⟨a,cut,0,false⟩,[]⟩ P base n L f A (.ops l [] q):=.mk fun l' q' hK hs hb ho hg a w hf s=>by
 simp only [Kont.ops.injEq] at hK
 obtain ⟨rfl,hp,rfl⟩:=hK
 exact ⟨⟨V,s⟩,by simpa [ordOK] using ho,k.out a w hf s⟩
theorem HQ.done (h0:(ls.left,ls.opn) = (0,false)) (k:H P base n L f (A ++ V) (.out .normal q)):HQ V ⟨ls,[]⟩ P base n L f A (.ops l [] q):=by
 obtain ⟨a,cut,left,opn⟩:=ls;simp only [Prod.mk.injEq] at h0;obtain ⟨rfl,rfl⟩:=h0;exact HQ.nil k
def lstAfter (a:Array Bool) (t:List (Nat × Bool)):Array Bool:=t.foldl (fun a x=>a.setIfInBounds x.1 true) a
def cutOf (a:Array Bool) (t:List (Nat × Bool)):Nat→Array Bool
 | 0=>#[]
 | _ + 1=>lstAfter a t
def qt:Nat→Nat→List (Nat × Bool)
 | 0,_=>[]
 | n + 1,k=>(k,false)::qt n (k + 1)
theorem H.drawP (todo:List (Nat × Bool)) (left:Nat) (hm:P.follows .mixedOrders = true) (hn:(Region.noSelect l.toArray && ordOK l.toArray ⟨Array.replicate l.length false,cutOf (Array.replicate l.length false) todo left,left,false⟩ todo && todo.all (fun t=>(getO l t.1).isSome) && (todo.length + left == l.length)) = true) (hb:q.blind P) (hB:B = S ++ V) (k:HQ V ⟨⟨Array.replicate l.length false,cutOf (Array.replicate l.length false) todo left,left,false⟩,todo⟩ P base n L f S (.ops l (pickOps l todo) q)):H P base n L f B (.code (.region id l.toArray true) q):=.mk fun a w hf s=>by
 simp only [Bool.and_eq_true,List.all_eq_true,beq_iff_eq] at hn
 obtain ⟨⟨⟨h1,h2⟩,h3⟩,h4⟩:=hn
 refine wp_region_any hm ?_
 subst hB
 have s':Sat base { w with drawn:=w.drawn + 1 } f (S ++ V):=s.same rfl rfl rfl rfl
 have:=k.out l q rfl h1 hb h2 h3 a _ hf s'
 simp only [h4] at this
 simpa using wpAnyC.any _ _ _ _ this
theorem H.draw (todo:List (Nat × Bool)) (hm:P.follows .mixedOrders = true) (hn:(Region.noSelect l.toArray && ordOK l.toArray ⟨Array.replicate l.length false,#[],0,false⟩ todo && todo.all (fun t=>(getO l t.1).isSome) && (todo.length == l.length)) = true) (hb:q.blind P) (hB:B = S ++ V) (k:HQ V ⟨⟨Array.replicate l.length false,#[],0,false⟩,todo⟩ P base n L f S (.ops l (pickOps l todo) q)):H P base n L f B (.code (.region id l.toArray true) q):=
 H.drawP todo 0 hm hn hb hB k
theorem H.drawQ (hm:P.follows .mixedOrders = true) (hn:(Region.noSelect l.toArray && ordOK l.toArray ⟨Array.replicate l.length false,#[],0,false⟩ (qt l.length 0) && (qt l.length 0).all (fun t=>(getO l t.1).isSome) && ((qt l.length 0).length == l.length)) = true) (hb:q.blind P)
  (k:HQ [] ⟨⟨Array.replicate l.length false,#[],0,false⟩,qt l.length 0⟩ P base n L f A (.ops l (pickOps l (qt l.length 0)) q)):H P base n L f A (.code (.region id l.toArray true) q):=
 H.draw _ hm hn hb (List.append_nil A).symm k
theorem HQ.done0 (h0:(ls.left,ls.opn) = (0,false)) (k:H P base n L f A (.out .normal q)):HQ [] ⟨ls,[]⟩ P base n L f A (.ops l [] q):=HQ.done h0 (by rw [List.append_nil];exact k)
theorem zac:(Post.fn (FnPost P fn base R)).blind P:=fun c a dst v w h=>by
 obtain ⟨h1,h2⟩:=h
 exact ⟨by cases dst <;> simpa [Act.put] using h1,h2⟩
theorem zab {y:Code} (h:q.blind P):(Post.seq y q).blind P:=fun c a dst v w h'=>h c a dst v w h'
theorem zak (h:q.blind P):(Post.block id q).blind P:=fun c a dst v w h'=>h c a dst v w h'
theorem zap {I:Act→World→Prop} (h:q.blind P):(Post.loop I q).blind P:=fun c a dst v w h'=>h c a dst v w h'
structure HS (tl:List Oper) (P:Program) (base:World) (n:Nat) (L:Env) (f:Frag) (A:List HP) (K:Kont):Prop where
 out:∀ l rest q,K = .ops l rest q→∀ a w,Fr n a L→Sat base w f A→wpStill P l.toArray w (fun a'=>wpList P l.toArray (q.den P) tl a' w) rest a
variable {tl:List Oper}
theorem HS.opV {op:Op} (hw:want? l L gd = true) (hd:Nat.ble (d + 1) n = true)
  (hx:∀ a w,Fr n a L→Sat base w f A→(execOp a.eval ⟨some d,op,ty,pos,af,gd⟩).run P w = .ok (.value v) w)
  (k:HS tl P base n ((d,v)::L) f A (.ops l rest q)):HS tl P base n L f A (.ops l (⟨some d,op,ty,pos,af,gd⟩::rest) q):=.mk fun l' r' q' hK a w hf s=>by
 simp only [Kont.ops.injEq] at hK
 obtain ⟨rfl,rfl,rfl⟩:=hK
 unfold wpStill
 rw [if_pos (hf.want (o:=⟨some d,op,ty,pos,af,gd⟩) hw)]
 unfold Oper.still
 rw [hx a w hf s]
 exact ⟨rfl,k.out l rest q rfl _ _ (hf.put (Nat.le_of_ble_eq_true hd) v) s⟩
theorem HS.done (k:H P base n L f A (.ops l tl q)):HS tl P base n L f A (.ops l [] q):=.mk fun l' r' q' hK a w hf s=>by
 simp only [Kont.ops.injEq] at hK
 obtain ⟨rfl,rfl,rfl⟩:=hK
 exact k.out a w hf s
def tk:Nat→List Oper→List Oper
 | 0,_=>[]
 | _,[]=>[]
 | n + 1,o::r=>o::tk n r
def dr:Nat→List Oper→List Oper
 | 0,l=>l
 | _ + 1,[]=>[]
 | n + 1,_::r=>dr n r
theorem tk_eq:∀ (k:Nat) (l:List Oper),tk k l = l.take k
 | 0,l=>by simp [tk]
 | k + 1,[]=>by simp [tk]
 | k + 1,o::r=>by simp [tk,tk_eq k r]
theorem dr_eq:∀ (k:Nat) (l:List Oper),dr k l = l.drop k
 | 0,l=>by simp [dr]
 | k + 1,[]=>by simp [dr]
 | k + 1,o::r=>by simp [dr,dr_eq k r]
theorem H.drawT (m:Nat) (hm:P.follows .mixedOrders = true) (hB:Region.lexTailB .any l.toArray m = true)
  (k:HS (dr m l) P base n L f A (.ops l (tk m l) q)):H P base n L f A (.code (.region id l.toArray true) q):=.mk fun a w hf s =>
 wp_region_still_tail m hm hB (by
  have:=k.out l (tk m l) q rfl a { w with drawn:=w.drawn + 1 } hf (s.same rfl rfl rfl rfl)
  rw [tk_eq,dr_eq] at this
  exact this)
variable {κ:Type} [DecidableEq κ] {enc:κ→Value}
theorem HQ.Bk {e:Nat} {u:Value} (hv:look? L e = some v) (he:v = u) (h:HQ V ξ P base n ((e,u)::L) f A K):HQ V ξ P base n L f A K:=.mk fun l q hK hs hb ho hg a w hf s=>by
 exact h.out l q hK hs hb ho hg a w (hf.know hv he) s
theorem HQ.gset {b:Bool} {c:Bool} {e:Nat} {t1:TypeId} (hg:o.guard = some (j,b)) (hj:getO l j = some ⟨some e,p1,t1,q1,a1,g1⟩) (hv:look? L e = some (.bool c)) (ht:c = true→HQ V ξ P base n ((e,.bool true)::L) f A (.ops l (o::rest) q))
  (hf:c = false→HQ V ξ P base n ((e,.bool false)::L) f A (.ops l (o::rest) q)):HQ V ξ P base n L f A (.ops l (o::rest) q):=by
 have _:=hg;have _:=hj
 cases c with
 | true=>exact HQ.Bk hv rfl (ht rfl)
 | false=>exact HQ.Bk hv rfl (hf rfl)
theorem HQ.Ap (hw:want? l L gd = true) (hx:ev? L x = some v) (hd:Nat.ble (d + 1) n = true) {lst:Lst}
  (k:HQ V ⟨lst.setIfInBounds ti true,tt⟩ P base n ((d,v)::L) f A (.ops l rest q)):HQ V ⟨lst,(ti,false)::tt⟩ P base n L f A (.ops l (⟨some d,.move x,ty,pos,af,gd⟩::rest) q):=
 HQ.opV hw hd (fun a w hf _=>by simp [execOp,hf.eval hx]) k
theorem HQ.Bb (hw:want? l L gd = true) (hx:ev? L x = some v) (hd:Nat.ble (d + 1) n = true) {lst:Lst}
  (k:HQ V ⟨lst.setIfInBounds ti true,tt⟩ P base n ((d,v)::L) f A (.ops l rest q)):HQ V ⟨lst,(ti,false)::tt⟩ P base n L f A (.ops l (⟨some d,.assign x,ty,pos,af,gd⟩::rest) q):=
 HQ.opV hw hd (fun a w hf _=>by simp [execOp,hf.eval hx]) k
theorem HQ.pickT {c:Operand} (hw:want? l L gd = true) (hc:ev? L c = some (.bool true)) (hx:ev? L x = some v) (hd:Nat.ble (d + 1) n = true) {lst:Lst}
  (k:HQ V ⟨lst.setIfInBounds ti true,tt⟩ P base n ((d,v)::L) f A (.ops l rest q)):HQ V ⟨lst,(ti,false)::tt⟩ P base n L f A (.ops l (⟨some d,.pick c x y,ty,pos,af,gd⟩::rest) q):=
 HQ.opV hw hd (fun a w hf _=>by simp [execOp,hf.eval hx,hf.eval hc,asBool]) k
theorem HQ.Bs {c:Operand} (hw:want? l L gd = true) (hc:ev? L c = some (.bool false)) (hx:ev? L y = some v) (hd:Nat.ble (d + 1) n = true) {lst:Lst}
  (k:HQ V ⟨lst.setIfInBounds ti true,tt⟩ P base n ((d,v)::L) f A (.ops l rest q)):HQ V ⟨lst,(ti,false)::tt⟩ P base n L f A (.ops l (⟨some d,.pick c x y,ty,pos,af,gd⟩::rest) q):=
 HQ.opV hw hd (fun a w hf _=>by simp [execOp,hf.eval hx,hf.eval hc,asBool]) k
theorem HQ.Bc {p:Addr} (hw:want? l L gd = true) (hx:ev? L x = some (.pointer (some p))) (hd:Nat.ble (d + 1) n = true) {lst:Lst}
  (k:HQ V ⟨lst.setIfInBounds ti true,tt⟩ P base n ((d,.pointer (some p))::L) f A (.ops l rest q)):HQ V ⟨lst,(ti,false)::tt⟩ P base n L f A (.ops l (⟨some d,.nilCheck x,ty,pos,af,gd⟩::rest) q):=
 HQ.opV hw hd (fun a w hf _=>by simp [execOp,hf.eval hx]) k
theorem HQ.cmp {k:IntKind} {p:Int} {b:Bool} (hw:want? l L gd = true) (hx:ev? L x = some (.int k p)) (hy:ev? L y = some (.int k p2)) (hc:cmpP op p p2 = some b) (hd:Nat.ble (d + 1) n = true) {lst:Lst}
  (kk:HQ V ⟨lst.setIfInBounds ti true,tt⟩ P base n ((d,.bool b)::L) f A (.ops l rest q)):HQ V ⟨lst,(ti,false)::tt⟩ P base n L f A (.ops l (⟨some d,.binOp op xt x y yt,ty,pos,af,gd⟩::rest) q):=
 HQ.opV hw hd (fun a w hf _=>by
  cases op <;> simp only [cmpP,Option.some.injEq,reduceCtorEq] at hc <;> subst hc <;>
   simp [execOp,eqGuard,binOp,Op.intCmp,hf.eval hx,hf.eval hy] <;> by_cases e:p = p2 <;> simp [e]) kk
theorem HQ.ar {k:IntKind} {p:Int} (hw:want? l L gd = true) (hx:ev? L x = some (.int k p)) (hy:ev? L y = some (.int k p2)) (hc:arP op k p p2 = some r) (hz:r = z) (hd:Nat.ble (d + 1) n = true) {lst:Lst}
  (kk:HQ V ⟨lst.setIfInBounds ti true,tt⟩ P base n ((d,.int k z)::L) f A (.ops l rest q)):HQ V ⟨lst,(ti,false)::tt⟩ P base n L f A (.ops l (⟨some d,.binOp op xt x y yt,ty,pos,af,gd⟩::rest) q):=
 HQ.opV hw hd (fun a w hf _=>by
  cases op <;> simp only [arP,Option.some.injEq,reduceCtorEq] at hc <;> subst hc <;> subst hz <;>
   simp [execOp,eqGuard,binOp,Op.intArith,hf.eval hx,hf.eval hy]) kk
theorem HQ.quo {k:IntKind} {p:Int} (hw:want? l L gd = true) (hx:ev? L x = some (.int k p)) (hy:ev? L y = some (.int k p2)) (h0:p2 ≠ 0) (hz:k.wrap (p.tdiv p2) = z) (hd:Nat.ble (d + 1) n = true) {lst:Lst}
  (kk:HQ V ⟨lst.setIfInBounds ti true,tt⟩ P base n ((d,.int k z)::L) f A (.ops l rest q)):HQ V ⟨lst,(ti,false)::tt⟩ P base n L f A (.ops l (⟨some d,.binOp .quo xt x y yt,ty,pos,af,gd⟩::rest) q):=
 HQ.opV hw hd (fun a w hf _=>by subst hz;simp [execOp,eqGuard,binOp,Op.intDiv,hf.eval hx,hf.eval hy,h0]) kk
theorem HQ.rem {k:IntKind} {p:Int} (hw:want? l L gd = true) (hx:ev? L x = some (.int k p)) (hy:ev? L y = some (.int k p2)) (h0:p2 ≠ 0) (hz:p.tmod p2 = z) (hd:Nat.ble (d + 1) n = true) {lst:Lst}
  (kk:HQ V ⟨lst.setIfInBounds ti true,tt⟩ P base n ((d,.int k z)::L) f A (.ops l rest q)):HQ V ⟨lst,(ti,false)::tt⟩ P base n L f A (.ops l (⟨some d,.binOp .rem xt x y yt,ty,pos,af,gd⟩::rest) q):=
 HQ.opV hw hd (fun a w hf _=>by subst hz;simp [execOp,eqGuard,binOp,Op.intDiv,hf.eval hx,hf.eval hy,h0]) kk
theorem HQ.ptrNil {b:Bool} [hu:Und P xt (.pointer e)] (hw:want? l L gd = true) (hx:ev? L x = some (.pointer p)) (hy:ev? L y = some (.pointer none)) (hb:nilP op p = some b) (hd:Nat.ble (d + 1) n = true) {lst:Lst}
  (kk:HQ V ⟨lst.setIfInBounds ti true,tt⟩ P base n ((d,.bool b)::L) f A (.ops l rest q)):HQ V ⟨lst,(ti,false)::tt⟩ P base n L f A (.ops l (⟨some d,.binOp op xt x y yt,ty,pos,af,gd⟩::rest) q):=
 HQ.opV hw hd (fun a w hf _=>by
  refine run_bin _ ?_ ?_
  ·rw [hf.eval hx,hf.eval hy];exact run_guard_ptr _ _ _ _ _ _ _
  ·rw [hf.eval hx,hf.eval hy]
   have e1:Sem.run P (do pure (Value.bool (← Op.equal xt (.pointer p) (.pointer none)))) w = .ok (.bool p.isNone) w:=by simp [run_equal_pn hu]
   have e2:Sem.run P (do pure (Value.bool (!(← Op.equal xt (.pointer p) (.pointer none))))) w = .ok (.bool (!p.isNone)) w:=by simp [run_equal_pn hu]
   cases op <;> cases p <;> simp only [nilP,Option.some.injEq,reduceCtorEq] at hb <;> subst hb <;> first | exact e1 | exact e2) kk
theorem HQ.not {b c:Bool} (hw:want? l L gd = true) (hx:ev? L x = some (.bool b)) (hb:(!b) = c) (hd:Nat.ble (d + 1) n = true) {lst:Lst}
  (k:HQ V ⟨lst.setIfInBounds ti true,tt⟩ P base n ((d,.bool c)::L) f A (.ops l rest q)):HQ V ⟨lst,(ti,false)::tt⟩ P base n L f A (.ops l (⟨some d,.unOp .not xt x,ty,pos,af,gd⟩::rest) q):=
 HQ.opV hw hd (fun a w hf _=>by subst hb;simp [execOp,Op.unary,hf.eval hx]) k
theorem HQ.Bl {s:TypeId} {i j:IntKind} {p:Int} {ds:TypeDesc} [hs:Und P s ds] [ht:Und P t (.int j)] (hw:want? l L gd = true) (hx:ev? L x = some (.int i p)) (hz:j.wrap p = z) (hd:Nat.ble (d + 1) n = true) {lst:Lst}
  (k:HQ V ⟨lst.setIfInBounds ti true,tt⟩ P base n ((d,.int j z)::L) f A (.ops l rest q)):HQ V ⟨lst,(ti,false)::tt⟩ P base n L f A (.ops l (⟨some d,.convert s t x,ty,pos,af,gd⟩::rest) q):=
 HQ.opV hw hd (fun a w hf _=>by
  subst hz
  have h1:=hs.run w
  have h2:=ht.run w
  simp only [execOp,convert,hf.eval hx,Sem.run_bind,h1,h2,Result.andThen_ok]
  cases ds <;> simp [Conv.intToInt]) k
theorem HQ.Cf {i:Nat} (hw:want? l L gd = true) (hx:ev? L x = some (.tuple vs.toArray)) (hv:nthV vs i = some v) (hd:Nat.ble (d + 1) n = true) {lst:Lst}
  (k:HQ V ⟨lst.setIfInBounds ti true,tt⟩ P base n ((d,v)::L) f A (.ops l rest q)):HQ V ⟨lst,(ti,false)::tt⟩ P base n L f A (.ops l (⟨some d,.extract x i,ty,pos,af,gd⟩::rest) q):=
 HQ.opV hw hd (fun a w hf _=>by
  rw [nthV_eq] at hv
  simp [execOp,Instr.extract,hf.eval hx,hv]) k
theorem HQ.gdec {b:Bool} {e:Nat} {t1:TypeId} {p:Prop} {_:Decidable p} (hg:o.guard = some (j,b)) (hj:getO l j = some ⟨some e,p1,t1,q1,a1,g1⟩) (hv:look? L e = some (.bool (decide p)))
  (ht:p→HQ V ξ P base n ((e,.bool true)::L) f A (.ops l (o::rest) q)) (hf:¬ p→HQ V ξ P base n ((e,.bool false)::L) f A (.ops l (o::rest) q)):HQ V ξ P base n L f A (.ops l (o::rest) q):=
 HQ.gset hg hj hv (fun h=>ht (of_decide_eq_true h)) (fun h=>hf (of_decide_eq_false h))
theorem HQ.gyes {b:Bool} {e:Nat} {t1:TypeId} {p:Prop} {_:Decidable p} (hg:o.guard = some (j,b)) (hj:getO l j = some ⟨some e,p1,t1,q1,a1,g1⟩) (hv:look? L e = some (.bool (decide p)))
  (hp:p) (ht:HQ V ξ P base n ((e,.bool true)::L) f A (.ops l (o::rest) q)):HQ V ξ P base n L f A (.ops l (o::rest) q):=
 HQ.gdec hg hj hv (fun _=>ht) (fun h=>absurd hp h)
theorem HQ.gno {b:Bool} {e:Nat} {t1:TypeId} {p:Prop} {_:Decidable p} (hg:o.guard = some (j,b)) (hj:getO l j = some ⟨some e,p1,t1,q1,a1,g1⟩) (hv:look? L e = some (.bool (decide p)))
  (hp:¬ p) (hf:HQ V ξ P base n ((e,.bool false)::L) f A (.ops l (o::rest) q)):HQ V ξ P base n L f A (.ops l (o::rest) q):=
 HQ.gdec hg hj hv (fun h=>absurd h hp) (fun _=>hf)
theorem HQ.Bj {i:Nat} [hu:Und P st (.struct fs.toArray)] (hw:want? l L gd = true)
  (hx:ev? L x = some (.pointer (some ⟨b,off,none⟩))) (hf:nthF fs i = some ⟨nm,ft,fo,em,tg,pk,bo⟩) (hs:Siz P ft (m + 1)) (hd:Nat.ble (d + 1) n = true) {lst:Lst}
  (k:HQ V ⟨lst.setIfInBounds ti true,tt⟩ P base n ((d,.pointer (some ⟨b,off + fo,none⟩))::L) f A (.ops l rest q)):HQ V ⟨lst,(ti,false)::tt⟩ P base n L f A (.ops l (⟨some d,.fieldAddr st x i,ty,pos,af,gd⟩::rest) q):=
 HQ.opV hw hd (fun a w hfr _=>by
  rw [nthF_eq] at hf
  simp [execOp,Instr.fieldAt,hfr.eval hx,hu.run,hf,Instr.sureAddr,fieldPlace,hs.run,zbb]) k
theorem HQ.Ab [hu:Und P t dd] (hw:want? l L gd = true) (hx:ev? L x = some (.pointer (some ⟨b,off,none⟩))) (ha:aggD dd = false)
  (hr:Rd1 f A b off v) (hd:Nat.ble (d + 1) n = true) {lst:Lst}
  (k:HQ V ⟨lst.setIfInBounds ti true,tt⟩ P base n ((d,v)::L) f A (.ops l rest q)):HQ V ⟨lst,(ti,false)::tt⟩ P base n L f A (.ops l (⟨some d,.load t x,ty,pos,af,gd⟩::rest) q):=
 HQ.opV hw hd (fun a w hfr s=>by simp [execOp,hfr.eval hx,run_loadAt1 hu ha (hr base w s)]) k
theorem HQ.Ae {ls:List Value} [hu:Und P t dd] [hs:Siz P t m] (hw:want? l L gd = true) (hx:ev? L x = some (.pointer (some ⟨b,off,none⟩))) (ha:aggD dd = true)
  (hr:Rd f A b off ls) (hm:ls.length = m) (hd:Nat.ble (d + 1) n = true) {lst:Lst}
  (k:HQ V ⟨lst.setIfInBounds ti true,tt⟩ P base n ((d,.agg ls.toArray)::L) f A (.ops l rest q)):HQ V ⟨lst,(ti,false)::tt⟩ P base n L f A (.ops l (⟨some d,.load t x,ty,pos,af,gd⟩::rest) q):=
 HQ.opV hw hd (fun a w hfr s=>by simp [execOp,hfr.eval hx,run_loadAtN hu ha hs (hr base w s) hm]) k
theorem HQ.Bi [hu:Und P t (.slice e)] (hw:want? l L gd = true) (hx:ev? L x = some (.slice p m c)) (hd:Nat.ble (d + 1) n = true) {lst:Lst}
  (k:HQ V ⟨lst.setIfInBounds ti true,tt⟩ P base n ((d,.int .i64 (m:Nat))::L) f A (.ops l rest q)):HQ V ⟨lst,(ti,false)::tt⟩ P base n L f A (.ops l (⟨some d,.call ⟨.builtin .len,#[x],#[t]⟩,ty,pos,af,gd⟩::rest) q):=
 HQ.opV hw hd (fun a w hfr _=>by
  simp [execOp,resolve,invoke,builtin,Builtin.len_,hfr.eval hx,hu.run,goInt]) k
theorem HQ.Ak {i:Nat} [hu:Und P t (.slice e)] [hs:Siz P e sz] (hw:want? l L gd = true)
  (hx:ev? L x = some (.slice (some ⟨b,off,none⟩) m c)) (hy:ev? L y = some (.int ik z)) (hq:z = (i:Nat)) (hi:i < m) (hd:Nat.ble (d + 1) n = true) {lst:Lst}
  (k:HQ V ⟨lst.setIfInBounds ti true,tt⟩ P base n ((d,.pointer (some ⟨b,off + i * sz,none⟩))::L) f A (.ops l rest q)):HQ V ⟨lst,(ti,false)::tt⟩ P base n L f A (.ops l (⟨some d,.indexAddr t x y,ty,pos,af,gd⟩::rest) q):=
 HQ.opV hw hd (fun a w hfr _=>by
  subst hq
  simp only [execOp,Instr.indexAt,hfr.eval hx,hfr.eval hy,Sem.run_bind,asIntOf,Sem.run_pure,Result.andThen_ok,hu.run]
  simp [hi,hs.run,zbb]) k
theorem HQ.Am {i:Nat} [hu:Und P t (.array m e)] [hs:Siz P e sz] (hw:want? l L gd = true)
  (hx:ev? L x = some (.pointer (some ⟨b,off,none⟩))) (hy:ev? L y = some (.int ik z)) (hq:z = (i:Nat)) (hi:i < m) (hd:Nat.ble (d + 1) n = true) {lst:Lst}
  (k:HQ V ⟨lst.setIfInBounds ti true,tt⟩ P base n ((d,.pointer (some ⟨b,off + i * sz,none⟩))::L) f A (.ops l rest q)):HQ V ⟨lst,(ti,false)::tt⟩ P base n L f A (.ops l (⟨some d,.indexAddr t x y,ty,pos,af,gd⟩::rest) q):=
 HQ.opV hw hd (fun a w hfr _=>by
  subst hq
  simp only [execOp,Instr.indexAt,hfr.eval hx,hfr.eval hy,Sem.run_bind,asIntOf,Sem.run_pure,Result.andThen_ok,hu.run,Instr.sureAddr]
  simp [hi,hs.run,zbb]) k
theorem HQ.index1 {i:Nat} [hu:Und P t (.slice e)] [hs:Siz P e 1] (hw:want? l L gd = true)
  (hx:ev? L x = some (.slice (some ⟨b,off,none⟩) m c)) (hy:ev? L y = some (.int ik z)) (hq:z = (i:Nat)) (hi:i < m) (hd:Nat.ble (d + 1) n = true) {lst:Lst}
  (k:HQ V ⟨lst.setIfInBounds ti true,tt⟩ P base n ((d,.pointer (some ⟨b,off + i,none⟩))::L) f A (.ops l rest q)):HQ V ⟨lst,(ti,false)::tt⟩ P base n L f A (.ops l (⟨some d,.indexAddr t x y,ty,pos,af,gd⟩::rest) q):=
 HQ.opV hw hd (fun a w hfr _=>by
  subst hq
  simp only [execOp,Instr.indexAt,hfr.eval hx,hfr.eval hy,Sem.run_bind,asIntOf,Sem.run_pure,Result.andThen_ok,hu.run]
  simp [hi,hs.run,zbb]) k
theorem HQ.Aj {i:Nat} [hu:Und P t (.slice e)] [hs:Siz P e sz] (hw:want? l L gd = true)
  (hx:ev? L x = some (.slice (some ⟨b,0,none⟩) m c)) (hy:ev? L y = some (.int ik z)) (hq:z = (i:Nat)) (hi:i < m) (hd:Nat.ble (d + 1) n = true) {lst:Lst}
  (k:HQ V ⟨lst.setIfInBounds ti true,tt⟩ P base n ((d,.pointer (some ⟨b,i * sz,none⟩))::L) f A (.ops l rest q)):HQ V ⟨lst,(ti,false)::tt⟩ P base n L f A (.ops l (⟨some d,.indexAddr t x y,ty,pos,af,gd⟩::rest) q):=
 HQ.opV hw hd (fun a w hfr _=>by
  subst hq
  simp only [execOp,Instr.indexAt,hfr.eval hx,hfr.eval hy,Sem.run_bind,asIntOf,Sem.run_pure,Result.andThen_ok,hu.run]
  simp [hi,hs.run,zbb]) k
theorem HQ.Bn {m:List (κ × Value)} {k:κ} {z kv:Value} [hu:Und P t (.map kt et)] [hk:KeyT P kt enc] [hz:Zer P et z] (hw:want? l L gd = true)
  (hx:ev? L x = some (.map (some b))) (hy:ev? L y = some kv) (hA:At A (mp b enc m) A' (mp b enc m)) (hkv:kv = enc k) (hv:(getKV m k).getD z = v) (hd:Nat.ble (d + 1) n = true) {lst:Lst}
  (kk:HQ V ⟨lst.setIfInBounds ti true,tt⟩ P base n ((d,v)::L) f A (.ops l rest q)):HQ V ⟨lst,(ti,false)::tt⟩ P base n L f A (.ops l (⟨some d,.lookup t x y false,ty,pos,af,gd⟩::rest) q):=
 HQ.opV hw hd (fun a w hfr s=>by
  subst hv;subst hkv
  have h:=run_lookup_mp (c:=false) (k:=k) hu hk hz s hA
  simp only [execOp,hfr.eval hx,hfr.eval hy,Sem.run_bind,h,Result.andThen_ok,Sem.run_pure]
  rfl) kk
theorem HQ.lookup2 {m:List (κ × Value)} {k:κ} {z kv:Value} {i:Bool} [hu:Und P t (.map kt et)] [hk:KeyT P kt enc] [hz:Zer P et z] (hw:want? l L gd = true)
  (hx:ev? L x = some (.map (some b))) (hy:ev? L y = some kv) (hA:At A (mp b enc m) A' (mp b enc m)) (hkv:kv = enc k) (hv:(getKV m k).getD z = v) (hi:(getKV m k).isSome = i) (hd:Nat.ble (d + 1) n = true) {lst:Lst}
  (kk:HQ V ⟨lst.setIfInBounds ti true,tt⟩ P base n ((d,.tuple #[v,.bool i])::L) f A (.ops l rest q)):HQ V ⟨lst,(ti,false)::tt⟩ P base n L f A (.ops l (⟨some d,.lookup t x y true,ty,pos,af,gd⟩::rest) q):=
 HQ.opV hw hd (fun a w hfr s=>by
  subst hv;subst hkv;subst hi
  have h:=run_lookup_mp (c:=true) (k:=k) hu hk hz s hA
  simp only [execOp,hfr.eval hx,hfr.eval hy,Sem.run_bind,h,Result.andThen_ok,Sem.run_pure]
  rfl) kk
theorem HS.Ap (hw:want? l L gd = true) (hx:ev? L x = some v) (hd:Nat.ble (d + 1) n = true)
  (k:HS tl P base n ((d,v)::L) f A (.ops l rest q)):HS tl P base n L f A (.ops l (⟨some d,.move x,ty,pos,af,gd⟩::rest) q):=
 HS.opV hw hd (fun a w hf _=>by simp [execOp,hf.eval hx]) k
theorem HS.Bc {p:Addr} (hw:want? l L gd = true) (hx:ev? L x = some (.pointer (some p))) (hd:Nat.ble (d + 1) n = true)
  (k:HS tl P base n ((d,.pointer (some p))::L) f A (.ops l rest q)):HS tl P base n L f A (.ops l (⟨some d,.nilCheck x,ty,pos,af,gd⟩::rest) q):=
 HS.opV hw hd (fun a w hf _=>by simp [execOp,hf.eval hx]) k
theorem HS.ar {k:IntKind} {p:Int} (hw:want? l L gd = true) (hx:ev? L x = some (.int k p)) (hy:ev? L y = some (.int k p2)) (hc:arP op k p p2 = some r) (hz:r = z) (hd:Nat.ble (d + 1) n = true)
  (kk:HS tl P base n ((d,.int k z)::L) f A (.ops l rest q)):HS tl P base n L f A (.ops l (⟨some d,.binOp op xt x y yt,ty,pos,af,gd⟩::rest) q):=
 HS.opV hw hd (fun a w hf _=>by
  cases op <;> simp only [arP,Option.some.injEq,reduceCtorEq] at hc <;> subst hc <;> subst hz <;>
   simp [execOp,eqGuard,binOp,Op.intArith,hf.eval hx,hf.eval hy]) kk
theorem HS.Bj {i:Nat} [hu:Und P st (.struct fs.toArray)] (hw:want? l L gd = true)
  (hx:ev? L x = some (.pointer (some ⟨b,off,none⟩))) (hf:nthF fs i = some ⟨nm,ft,fo,em,tg,pk,bo⟩) (hs:Siz P ft (m + 1)) (hd:Nat.ble (d + 1) n = true)
  (k:HS tl P base n ((d,.pointer (some ⟨b,off + fo,none⟩))::L) f A (.ops l rest q)):HS tl P base n L f A (.ops l (⟨some d,.fieldAddr st x i,ty,pos,af,gd⟩::rest) q):=
 HS.opV hw hd (fun a w hfr _=>by
  rw [nthF_eq] at hf
  simp [execOp,Instr.fieldAt,hfr.eval hx,hu.run,hf,Instr.sureAddr,fieldPlace,hs.run,zbb]) k
theorem HS.Ab [hu:Und P t dd] (hw:want? l L gd = true) (hx:ev? L x = some (.pointer (some ⟨b,off,none⟩))) (ha:aggD dd = false)
  (hr:Rd1 f A b off v) (hd:Nat.ble (d + 1) n = true)
  (k:HS tl P base n ((d,v)::L) f A (.ops l rest q)):HS tl P base n L f A (.ops l (⟨some d,.load t x,ty,pos,af,gd⟩::rest) q):=
 HS.opV hw hd (fun a w hfr s=>by simp [execOp,hfr.eval hx,run_loadAt1 hu ha (hr base w s)]) k
theorem HS.Bi [hu:Und P t (.slice e)] (hw:want? l L gd = true) (hx:ev? L x = some (.slice p m c)) (hd:Nat.ble (d + 1) n = true)
  (k:HS tl P base n ((d,.int .i64 (m:Nat))::L) f A (.ops l rest q)):HS tl P base n L f A (.ops l (⟨some d,.call ⟨.builtin .len,#[x],#[t]⟩,ty,pos,af,gd⟩::rest) q):=
 HS.opV hw hd (fun a w hfr _=>by
  simp [execOp,resolve,invoke,builtin,Builtin.len_,hfr.eval hx,hu.run,goInt]) k
theorem HS.Aj {i:Nat} [hu:Und P t (.slice e)] [hs:Siz P e sz] (hw:want? l L gd = true)
  (hx:ev? L x = some (.slice (some ⟨b,0,none⟩) m c)) (hy:ev? L y = some (.int ik z)) (hq:z = (i:Nat)) (hi:i < m) (hd:Nat.ble (d + 1) n = true)
  (k:HS tl P base n ((d,.pointer (some ⟨b,i * sz,none⟩))::L) f A (.ops l rest q)):HS tl P base n L f A (.ops l (⟨some d,.indexAddr t x y,ty,pos,af,gd⟩::rest) q):=
 HS.opV hw hd (fun a w hfr _=>by
  subst hq
  simp only [execOp,Instr.indexAt,hfr.eval hx,hfr.eval hy,Sem.run_bind,asIntOf,Sem.run_pure,Result.andThen_ok,hu.run]
  simp [hi,hs.run,zbb]) k
end rules
variable {P:Program} {base:World} {n:Nat} {L:Env} {f:Frag} {A:List HP}
theorem H.dq {l:List Oper} (k:HQ [] ⟨⟨Array.replicate l.length false,#[],0,false⟩,qt l.length 0⟩ P base n L f A (.ops l (pickOps l (qt l.length 0)) q)) (hm:P.follows .mixedOrders = true:=by kernel_rfl) (hn:(Region.noSelect l.toArray && ordOK l.toArray ⟨Array.replicate l.length false,#[],0,false⟩ (qt l.length 0) && (qt l.length 0).all (fun t=>(getO l t.1).isSome) && ((qt l.length 0).length == l.length)) = true:=by decide +kernel) (hb:q.blind P:=by with_reducible (repeat (first | exact zac | refine zab ?_ | refine zak ?_ | refine zap ?_))):H P base n L f A (.code (.region id l.toArray true) q):=H.drawQ hm hn hb k
def cellsL:Value→List Value
 | .agg cs=>cs.toList
 | v=>[v]
def spl:List Value→Nat→List Value→List Value
 | cs,0,[]=>cs
 | _::cs,0,v::vs=>v::spl cs 0 vs
 | c::cs,n + 1,vs=>c::spl cs n vs
 | [],_,_=>[]
def fillL (place:Nat→Option (Nat × Nat)):List Value→List (Nat × Value)→Option (List Value)
 | cs,[]=>some cs
 | cs, (i, v) :: r => match place i with
  | none=>none
  | some (off, size) => match Nat.beq (cellsL v).length size && Nat.ble (off + size) cs.length with
   | true=>fillL place (spl cs off (cellsL v)) r
   | false=>none
theorem cellsL_eq (v:Value):v.cells.toList = cellsL v:=by cases v <;> rfl
theorem spl_get:∀ (cs:List Value) (off:Nat) (vs:List Value),off + vs.length ≤ cs.length→∀ i,(spl cs off vs)[i]? = if off ≤ i ∧ i < off + vs.length then vs[i - off]? else cs[i]?
 | [], off, vs, h, i => by
  have h':off + vs.length ≤ 0:=h
  have h1:off = 0:=by omega
  have h2:vs = []:=List.eq_nil_of_length_eq_zero (by omega)
  subst h1;subst h2;simp [spl]
 | c::cs,0,[],_,i=>by simp [spl]
 | c :: cs, 0, v :: vs, h, i => by
  simp only [List.length_cons] at h
  cases i with
  | zero=>simp [spl]
  | succ i =>
   simp only [spl,List.getElem?_cons_succ]
   rw [spl_get cs 0 vs (by omega) i]
   simp
 | c :: cs, off + 1, vs, h, i => by
  simp only [List.length_cons] at h
  cases i with
  | zero=>simp [spl]
  | succ i =>
   simp only [spl,List.getElem?_cons_succ]
   rw [spl_get cs off vs (by omega) i]
   have e1:(off + 1 ≤ i + 1 ∧ i + 1 < off + 1 + vs.length) ↔ (off ≤ i ∧ i < off + vs.length):=by omega
   simp only [e1,Nat.reduceSubDiff]
theorem spl_splice (cs:List Value) (off:Nat) (vs:List Value) (h:off + vs.length ≤ cs.length):spl cs off vs = splice cs off vs:=by
 apply List.ext_getElem?;intro i;rw [spl_get cs off vs h];unfold splice;simp only [List.getElem?_append,List.length_append,List.length_take,List.getElem?_take,List.getElem?_drop];have e:min off cs.length = off:=by omega
 rw [e];by_cases c1:i < off
 ·simp [c1,show ¬ off ≤ i by omega,show i < off + vs.length by omega]
 ·by_cases c2:i < off + vs.length
  ·simp [c1,c2,show off ≤ i by omega]
  ·have:off + vs.length + (i - (off + vs.length)) = i:=by omega
   simp [c2,this]
theorem fold_spl (off:Nat):∀ (vs:List Value) (k:Nat) (cs:List Value),off + k + vs.length ≤ cs.length →
  (vs.zipIdx k).foldl (fun (cs:Array Value) (x:Value × Nat)=>cs.setIfInBounds (off + x.2) x.1) cs.toArray = (splice cs (off + k) vs).toArray
 | [],k,cs,_=>by simp [splice_nil]
 | v :: vs, k, cs, h => by
  simp only [List.length_cons] at h
  simp only [List.zipIdx_cons,List.foldl_cons]
  have e:(cs.toArray.setIfInBounds (off + k) v) = (cs.set (off + k) v).toArray:=by simp
  rw [e,fold_spl off vs (k + 1) _ (by simp;omega),← splice_cons cs (off + k) v vs (by omega)]
  rfl
theorem fill_eq (place:Nat→Option (Nat × Nat)):∀ (parts:List (Nat × Value)) (cs out:List Value),fillL place cs parts = some out →
  Instr.fill place cs.toArray parts = some out.toArray
 | [],cs,out,h=>by simp [fillL] at h;simp [Instr.fill,h]
 | (i, v) :: r, cs, out, h => by
  simp only [fillL] at h
  unfold Instr.fill
  cases hp:place i with
  | none=>rw [hp] at h;cases h
  | some os =>
   obtain ⟨off,size⟩:=os
   rw [hp] at h
   simp only at h ⊢
   split at h
   ·rename_i hb
    simp only [Bool.and_eq_true] at hb
    have h1:(cellsL v).length = size:=Nat.eq_of_beq_eq_true hb.1
    have h2:off + size ≤ cs.length:=Nat.le_of_ble_eq_true hb.2
    have h3:v.cells.size = size:=by rw [← h1,← cellsL_eq];simp
    have hc:¬ (v.cells.size ≠ size ∨ off + v.cells.size > cs.toArray.size):=by rw [h3];simp;omega
    simp only [Bool.or_eq_true,decide_eq_true_eq,ne_eq,hc,if_false]
    have hf:v.cells.zipIdx.foldl (fun (cs:Array Value) (x:Value × Nat)=>cs.setIfInBounds (off + x.2) x.1) cs.toArray = (spl cs off (cellsL v)).toArray:=by
     rw [spl_splice _ _ _ (by omega),← cellsL_eq];have e:=fold_spl off v.cells.toList 0 cs (by simp [h3];omega);rw [Nat.add_zero] at e
     rw [← e,← Array.foldl_toList];congr 1;rw [Array.toList_zipIdx]
    have e2:∀ (a:Array Value),(v.cells.zipIdx.foldl (fun cs (x:Value × Nat)=>match x with | (c,j)=>cs.setIfInBounds (off + j) c) a) = v.cells.zipIdx.foldl (fun (cs:Array Value) (x:Value × Nat)=>cs.setIfInBounds (off + x.2) x.1) a:=fun a=>rfl
    rw [e2,hf]
    exact fill_eq place r _ _ h
   ·cases h
class Plc (P:Program) (t:TypeId) (pl:outParam (List (Nat × Nat))):Prop where
 eq:∀ (fs:Array Field) (w:World),P.underlying t = some (.struct fs)→(fs.mapM fun (f:Field)=>do pure (f.offset,← sizeOf f.type)).run P w = .ok pl.toArray w
def nthP:List (Nat × Nat)→Nat→Option (Nat × Nat)
 | [],_=>none
 | v::_,0=>some v
 | _::r,i + 1=>nthP r i
theorem nthP_eq:∀ (l:List (Nat × Nat)) (i:Nat),nthP l i = l[i]?
 | [],i=>by simp [nthP]
 | o::r,0=>by simp [nthP]
 | o::r,i + 1=>by simp [nthP,nthP_eq r i]
def evP (L:Env):List (Nat × Operand)→Option (List (Nat × Value))
 | []=>some []
 | (i,x)::r=>(ev? L x).bind fun v=>(evP L r).bind fun vs=>some ((i,v)::vs)
theorem Fr.evP {n:Nat} {a:Act} {L:Env} (h:Fr n a L):∀ {xs:List (Nat × Operand)} {vs:List (Nat × Value)},evP L xs = some vs→xs.map (fun p=>(p.1,a.eval p.2)) = vs
 | [],vs,hx=>by simp [Proofs.YtminmjlfmolfeaaGreatDoor.evP] at hx;simp [hx]
 | (i, x) :: xs, vs, hx => by
  simp only [Proofs.YtminmjlfmolfeaaGreatDoor.evP,Option.bind_eq_some_iff,Option.some.injEq] at hx
  obtain ⟨v,hv,us,hus,rfl⟩:=hx
  simp [h.eval hv,h.evP hus]
def zeros (z:List Value):Nat→List Value
 | 0=>[]
 | n + 1=>z ++ zeros z n
theorem zeros_length (z:List Value) (n:Nat):(zeros z n).length = n * z.length:=by
 induction n with
 | zero=>simp [zeros]
 | succ n ih=>simp [zeros,ih,Nat.add_mul,Nat.add_comm]
theorem zeros_get (z:List Value):∀ (n i:Nat),i < n * z.length→(zeros z n)[i]? = z[i % z.length]?
 | 0,i,h=>by simp at h
 | n + 1, i, h => by
  simp only [zeros]
  by_cases c:i < z.length
  ·rw [List.getElem?_append_left c,Nat.mod_eq_of_lt c]
  ·rw [List.getElem?_append_right (by omega),zeros_get z n _ (by rw [Nat.add_mul,Nat.one_mul] at h;omega),Nat.mod_eq_sub_mod (a:=i) (by omega)]
theorem zeros_array (z:List Value) (n:Nat) (hz:0 < z.length):((Array.range (n * z.length)).map (z.toArray[· % z.toArray.size]!)) = (zeros z n).toArray:=by
 apply Array.ext_getElem?;intro i;by_cases h:i < n * z.length
 ·have:=Nat.mod_lt i hz;simp [h,zeros_get z n i h,this]
 ·simp [h,List.getElem?_eq_none (show (zeros z n).length ≤ i by rw [zeros_length];omega)]
variable {ps:List (Nat × Operand)} {pl:List (Nat × Nat)} {zs:List Value} {hi mx:Option Operand} {lv hv mv cap:Nat}
section rules
variable {P:Program} {base:World} {n:Nat} {L:Env} {f:Frag} {A:List HP} {q:Post}
variable {l rest:List Oper} {d:Nat} {ty:TypeId} {pos:String} {af:Array Edge} {gd:Option (Nat × Bool)}
theorem H.Au {vs:List (Nat × Value)} {z:Value} {out:List Value} [hu:Und P t (.struct fs.toArray)] [hpl:Plc P t pl] [hz:Zer P t z] (hw:want? l L gd = true)
  (hx:evP L ps = some vs) (hzs:cellsL z = zs) (ho:fillL (nthP pl) zs vs = some out) (hd:Nat.ble (d + 1) n = true)
  (k:H P base n ((d,.agg out.toArray)::L) f A (.ops l rest q)):H P base n L f A (.ops l (⟨some d,.build t ps.toArray,ty,pos,af,gd⟩::rest) q):=
 H.opV hw hd (fun a w hfr _=>by
  subst hzs
  have h1:=hpl.eq fs.toArray w hu.eq
  have h2:=fill_eq _ _ _ _ ho
  have h3:(fun i=>pl.toArray[i]?) = nthP pl:=by funext i;rw [nthP_eq];simp
  have h4:z.cells = (cellsL z).toArray:=by rw [← cellsL_eq]
  have h5:(ps.toArray.map fun x:Nat × Operand=>(x.1,a.eval x.2)).toList = vs:=by rw [List.map_toArray];exact hfr.evP hx
  show Sem.run P (Instr.build t (ps.toArray.map fun x=>(x.1,a.eval x.2)) >>= fun v=>pure (Next.value v)) w = _
  unfold Instr.build
  simp only [Sem.run_bind,hz.run,Result.andThen_ok,hu.run,h1,h3,h4,h5,h2,Sem.run_pure]) k
theorem H.buildA {len:Nat} {vs:List (Nat × Value)} {z:Value} {out:List Value} [hu:Und P t (.array len e)] [hsz:Siz P e sz] [hz:Zer P t z] (hw:want? l L gd = true)
  (hx:evP L ps = some vs) (hzs:cellsL z = zs) (ho:fillL (fun i=>some (i * sz,sz)) zs vs = some out) (hd:Nat.ble (d + 1) n = true)
  (k:H P base n ((d,.agg out.toArray)::L) f A (.ops l rest q)):H P base n L f A (.ops l (⟨some d,.build t ps.toArray,ty,pos,af,gd⟩::rest) q):=
 H.opV hw hd (fun a w hfr _=>by
  subst hzs
  have h2:=fill_eq _ _ _ _ ho
  have h4:z.cells = (cellsL z).toArray:=by rw [← cellsL_eq]
  have h5:(ps.toArray.map fun x:Nat × Operand=>(x.1,a.eval x.2)).toList = vs:=by rw [List.map_toArray];exact hfr.evP hx
  show Sem.run P (Instr.build t (ps.toArray.map fun x=>(x.1,a.eval x.2)) >>= fun v=>pure (Next.value v)) w = _
  unfold Instr.build
  simp only [Sem.run_bind,hz.run,Result.andThen_ok,hu.run,hsz.run,h4,h5,h2,Sem.run_pure]) k
theorem H.Ar {len:Nat} {vs:List (Nat × Value)} {z:Value} {out:List Value} [hu:Und P t (.slice e)] [hsz:Siz P e sz] [hz:Zer P e z] (hw:want? l L gd = true)
  (hx:evP L ps = some vs) (hzs:cellsL z = zs) (h0:zs.length = sz) (h1:0 < sz) (hlen:len * sz ≤ 16777216) (ho:fillL (fun i=>some (i * sz,sz)) (zeros zs len) vs = some out) (hd:Nat.ble (d + 1) n = true)
  (k:∀ b,H P base n ((d,.slice (some ⟨b,0,none⟩) len len)::L) f (row b e out::A) (.ops l rest q)):H P base n L f A (.ops l (⟨some d,.buildSlice t len ps.toArray,ty,pos,af,gd⟩::rest) q):=
 H.opE (fun b=>.slice (some ⟨b,0,none⟩) len len) (fun _=>f) (fun b=>row b e out::A) (fun _=>True) hw hd (fun a w hfr s=>by
  subst hzs;subst h0
  have h2:=fill_eq _ _ _ _ ho
  have h4:z.cells = (cellsL z).toArray:=by rw [← cellsL_eq]
  have h5:(ps.toArray.map fun x:Nat × Operand=>(x.1,a.eval x.2)).toList = vs:=by rw [List.map_toArray];exact hfr.evP hx
  have h6:¬ (len * (cellsL z).length > 2 ^ 24):=by omega
  refine ⟨w.heap.size,w.alloc (.cells out.toArray e (0,0)),trivial,?_,s.alloc rfl rfl rfl rfl⟩
  show Sem.run P (Instr.buildSlice t len (ps.toArray.map fun x=>(x.1,a.eval x.2)) >>= fun v=>pure (Next.value v)) w = _
  unfold Instr.buildSlice newRow
  by_cases c:len * (cellsL z).length = 0
  ·have c0:len = 0:=by
    rcases Nat.mul_eq_zero.1 c with h | h
    ·exact h
    ·omega
   subst c0
   have e0:(Array.range (0 * (cellsL z).length)).map ((#[]:Array Value)[· % (#[]:Array Value).size]!) = (zeros (cellsL z) 0).toArray:=by simp [zeros]
   simp only [Sem.run_bind,hu.run,hsz.run,Result.andThen_ok,if_neg h6,if_pos c,Sem.run_pure,e0,h5,h2,run_newObj]
   rfl
  ·have e1:=zeros_array (cellsL z) len h1
   simp only [Sem.run_bind,hu.run,hsz.run,hz.run,Result.andThen_ok,if_neg h6,if_neg c,Sem.run_pure,h4,e1,h5,h2,run_newObj]
   rfl) (fun b _=>k b)
def slP (p:Option Addr) (l m sz:Nat):Option Addr:=if m = l then p else p.map (·.add (l * sz))
def bnd (L:Env) (o:Option Operand) (i dflt:Nat):Prop:=match o with
 | none=>i = dflt
 | some x=>∃ k z,ev? L x = some (.int k z) ∧ z = (i:Nat)
theorem zca {k:IntKind} {i y:Nat} {c:BoundsCode} (h:i ≤ y):(Instr.sliceBound (.int k (i:Nat)) y c).run P w = .ok i w:=by
 unfold Instr.sliceBound;have:(0:Int) ≤ i ∧ (i:Int) ≤ y:=by omega
 simp [asIntOf,h]
theorem run_bounds (hfr:Fr n a L) {lo:Option Operand} {len:Nat} {isS:Bool} (h1:bnd L lo lv 0) (h2:bnd L hi hv len) (h3:bnd L mx mv cap) (hmx:mx.isSome→hi.isSome)
  (a1:lv ≤ hv) (a2:hv ≤ mv) (a3:mv ≤ cap):(Instr.sliceBounds isS len cap (lo.map a.eval) (hi.map a.eval) (mx.map a.eval)).run P w = .ok (lv,hv,mv) w:=by
 unfold Instr.sliceBounds
 cases lo with
 | none =>
  cases hi with
  | none =>
   cases mx with
   | none=>simp only [bnd] at h1 h2 h3;subst h1;subst h2;subst h3;simp
   | some m=>simp at hmx
  | some hh =>
   obtain ⟨kh,zh,eh,rfl⟩:=h2;simp only [bnd] at h1;subst h1
   cases mx with
   | none=>simp only [bnd] at h3;subst h3;simp [hfr.eval eh,zca a2]
   | some m =>
    obtain ⟨km,zm,em,rfl⟩:=h3;simp [hfr.eval eh,hfr.eval em,zca a2,zca a3]
 | some ll =>
  obtain ⟨kl,zl,el,rfl⟩:=h1
  cases hi with
  | none =>
   cases mx with
   | none=>simp only [bnd] at h2 h3;subst h2;subst h3;simp [hfr.eval el,zca a1]
   | some m=>simp at hmx
  | some hh =>
   obtain ⟨kh,zh,eh,rfl⟩:=h2
   cases mx with
   | none=>simp only [bnd] at h3;subst h3;simp [hfr.eval eh,hfr.eval el,zca a2,zca a1]
   | some m =>
    obtain ⟨km,zm,em,rfl⟩:=h3;simp [hfr.eval eh,hfr.eval em,hfr.eval el,zca a2,zca a3,zca a1]
theorem H.slice {t e:TypeId} {x:Operand} {lo hi mx:Option Operand} {p:Option Addr} {len cap lv hv mv sz:Nat} [hu:Und P t (.slice e)] [hs:Siz P e sz] (hw:want? l L gd = true)
  (hx:ev? L x = some (.slice p len cap)) (h1:bnd L lo lv 0) (h2:bnd L hi hv len) (h3:bnd L mx mv cap) (hmx:mx.isSome→hi.isSome) (a1:lv ≤ hv) (a2:hv ≤ mv) (a3:mv ≤ cap) (hd:Nat.ble (d + 1) n = true)
  (k:H P base n ((d,.slice (slP p lv mv sz) (hv - lv) (mv - lv))::L) f A (.ops l rest q)):H P base n L f A (.ops l (⟨some d,.slice t x lo hi mx,ty,pos,af,gd⟩::rest) q):=
 H.opV hw hd (fun a w hfr _=>by
  have hb:=run_bounds (P:=P) (w:=w) (isS:=true) hfr h1 h2 h3 hmx a1 a2 a3
  show Sem.run P (Instr.sliceAt t (a.eval x) (lo.map a.eval) (hi.map a.eval) (mx.map a.eval) >>= fun v=>pure (Next.value v)) w = _
  unfold Instr.sliceAt Instr.slice
  simp only [Sem.run_bind,hu.run,Result.andThen_ok,hfr.eval hx,hb,hs.run,Sem.run_pure,slP]) k
theorem H.Ce {lo:Option Operand} {len:Nat} [hu:Und P t (.array len e)] [hs:Siz P e sz] (hw:want? l L gd = true)
  (hx:ev? L x = some (.pointer (some ⟨b,off,none⟩))) (h1:bnd L lo lv 0) (h2:bnd L hi hv len) (h3:bnd L mx mv len) (hmx:mx.isSome→hi.isSome) (a1:lv ≤ hv) (a2:hv ≤ mv) (a3:mv ≤ len) (hd:Nat.ble (d + 1) n = true)
  (k:H P base n ((d,.slice (slP (some ⟨b,off,none⟩) lv mv sz) (hv - lv) (mv - lv))::L) f A (.ops l rest q)):H P base n L f A (.ops l (⟨some d,.slice t x lo hi mx,ty,pos,af,gd⟩::rest) q):=
 H.opV hw hd (fun a w hfr _=>by
  have hb:=run_bounds (P:=P) (w:=w) (isS:=false) hfr h1 h2 h3 hmx a1 a2 a3
  show Sem.run P (Instr.sliceAt t (a.eval x) (lo.map a.eval) (hi.map a.eval) (mx.map a.eval) >>= fun v=>pure (Next.value v)) w = _
  unfold Instr.sliceAt
  simp only [Sem.run_bind,hu.run,Result.andThen_ok,hfr.eval hx,hb,hs.run,Sem.run_pure,slP,Instr.sureAddr]
  split <;> rfl) k
theorem run_equal_sn (hu:Und P t (.slice e)) (p:Option Addr) (m c:Nat) (w:World):(Op.equal t (.slice p m c) (.slice none 0 0)).run P w = .ok p.isNone w:=by
 have h:∀ d,(Op.equalIn (d + 1) t (.slice p m c) (.slice none 0 0)).run P w = .ok p.isNone w:=fun d=>by
  cases p <;> simp [Op.equalIn,hu.run]
 exact h 9999
theorem run_guard_slice (op:BinOp) (t:TypeId) (x y:Operand) (p:Option Addr) (m c:Nat) (w:World):(eqGuard op t x y (.slice p m c) (.slice none 0 0)).run P w = .ok () w:=by
 cases op <;> rfl
theorem H.sliceNil {b:Bool} [hu:Und P xt (.slice e)] (hw:want? l L gd = true) (hx:ev? L x = some (.slice p m c)) (hy:ev? L y = some (.slice none 0 0)) (hb:nilP op p = some b) (hd:Nat.ble (d + 1) n = true)
  (kk:H P base n ((d,.bool b)::L) f A (.ops l rest q)):H P base n L f A (.ops l (⟨some d,.binOp op xt x y yt,ty,pos,af,gd⟩::rest) q):=
 H.opV hw hd (fun a w hf _=>by
  refine run_bin _ ?_ ?_
  ·rw [hf.eval hx,hf.eval hy];exact run_guard_slice _ _ _ _ _ _ _ _
  ·rw [hf.eval hx,hf.eval hy]
   have e1:Sem.run P (do pure (Value.bool (← Op.equal xt (.slice p m c) (.slice none 0 0)))) w = .ok (.bool p.isNone) w:=by simp [run_equal_sn hu]
   have e2:Sem.run P (do pure (Value.bool (!(← Op.equal xt (.slice p m c) (.slice none 0 0))))) w = .ok (.bool (!p.isNone)) w:=by simp [run_equal_sn hu]
   cases op <;> cases p <;> simp only [nilP,Option.some.injEq,reduceCtorEq] at hb <;> subst hb <;> first | exact e1 | exact e2) kk
end rules
theorem wr_i64 (h:-9223372036854775808 ≤ z ∧ z ≤ 9223372036854775807):IntKind.i64.wrap z = z:=IntWalk.i64_in z h
theorem wr_u64 (h:0 ≤ z ∧ z ≤ 18446744073709551615):IntKind.u64.wrap z = z:=IntWalk.u64_in z h
theorem wr_u8 (h:0 ≤ z ∧ z ≤ 255):IntKind.u8.wrap z = z:=IntWalk.u8_in z h
theorem wr_u16 (h:0 ≤ z ∧ z ≤ 65535):IntKind.u16.wrap z = z:=IntWalk.u16_in z h
theorem zbc {a:Nat} (h:a + b ≤ 9223372036854775807):IntKind.i64.wrap ((a:Int) + (b:Int)) = ((a + b:Nat):Int):=by
 rw [wr_i64 (by omega)];omega
theorem zbd {a:Nat} (h:a + 1 ≤ 9223372036854775807):IntKind.i64.wrap ((a:Int) + 1) = ((a + 1:Nat):Int):=by
 rw [wr_i64 (by omega)];omega
theorem zbe {a:Nat} (h:a ≤ 9223372036854775807):IntKind.i64.wrap (((a + 1:Nat):Int) - 1) = (a:Int):=by
 rw [wr_i64 (by omega)];omega
theorem fold_stars {p:HP} (h:∀ x,stars B x→p x):∀ x,stars (B ++ A) x→stars (p::A) x:=by
 intro x hx;rw [zbx] at hx;obtain ⟨m1,m2,d,e,a,b⟩:=hx;exact ⟨m1,m2,d,e,h m1 a,b⟩
theorem keep_stars {p:HP} (h:∀ x,stars B x→stars A x):∀ x,stars (p::B) x→stars (p::A) x:=by
 rintro x ⟨m1,m2,d,e,a,b⟩;exact ⟨m1,m2,d,e,a,h m2 b⟩
theorem pull_stars {p:HP} (h:Pull B p A):∀ x,stars B x→stars (p::A) x:=by
 intro x hx;rw [h.eq] at hx;exact hx
theorem stars_two {p q:HP} {x:Frag}:stars (p::q::A) x→stars (q::p::A) x:=by
 intro h;exact pull_stars (.there _ (.here _ _)) x h
variable {fid:FuncId} {args:List Value}
theorem Fn.unfold {p:HP} {ι:Sort _} {B:ι→List HP} (hp:∀ h,p h→∃ i,stars (B i) h)
  (k:∀ i,Fn P fid args f (B i ++ A) R):Fn P fid args f (p::A) R:=fun base w s=>by
 obtain ⟨a1,a2,a3,a4,a5,m,⟨m1,m2,d,e,a,b⟩,hd,hw⟩:=s
 obtain ⟨i,hi⟩:=hp m1 a
 exact k i base w ⟨a1,a2,a3,a4,a5,m,by rw [zbx];exact ⟨m1,m2,d,e,hi,b⟩,hd,hw⟩
theorem H.unfold {p:HP} {ι:Sort _} {B:ι→List HP} (hp:∀ h,p h→∃ i,stars (B i) h)
  (k:∀ i,H P base n L f (B i ++ A) K):H P base n L f (p::A) K:=.mk fun a w hf s=>by
 obtain ⟨a1,a2,a3,a4,a5,m,⟨m1,m2,d,e,aa,b⟩,hd,hw⟩:=s
 obtain ⟨i,hi⟩:=hp m1 aa
 exact (k i).out a w hf ⟨a1,a2,a3,a4,a5,m,by rw [zbx];exact ⟨m1,m2,d,e,hi,b⟩,hd,hw⟩
section rules
variable {P:Program} {base:World} {n:Nat} {L:Env} {f:Frag} {A V:List HP} {q:Post} {ξ:Ext} {tl:List Oper}
variable {l rest:List Oper} {d:Nat} {ty:TypeId} {pos:String} {af:Array Edge} {gd:Option (Nat × Bool)}
theorem HQ.Au {vs:List (Nat × Value)} {z:Value} {out:List Value} [hu:Und P t (.struct fs.toArray)] [hpl:Plc P t pl] [hz:Zer P t z] (hw:want? l L gd = true)
  (hx:evP L ps = some vs) (hzs:cellsL z = zs) (ho:fillL (nthP pl) zs vs = some out) (hd:Nat.ble (d + 1) n = true) {lst:Lst}
  (k:HQ V ⟨lst.setIfInBounds ti true,tt⟩ P base n ((d,.agg out.toArray)::L) f A (.ops l rest q)):HQ V ⟨lst,(ti,false)::tt⟩ P base n L f A (.ops l (⟨some d,.build t ps.toArray,ty,pos,af,gd⟩::rest) q):=
 HQ.opV hw hd (fun a w hfr _=>by
  subst hzs
  have h1:=hpl.eq fs.toArray w hu.eq
  have h2:=fill_eq _ _ _ _ ho
  have h3:(fun i=>pl.toArray[i]?) = nthP pl:=by funext i;rw [nthP_eq];simp
  have h4:z.cells = (cellsL z).toArray:=by rw [← cellsL_eq]
  have h5:(ps.toArray.map fun x:Nat × Operand=>(x.1,a.eval x.2)).toList = vs:=by rw [List.map_toArray];exact hfr.evP hx
  show Sem.run P (Instr.build t (ps.toArray.map fun x=>(x.1,a.eval x.2)) >>= fun v=>pure (Next.value v)) w = _
  unfold Instr.build
  simp only [Sem.run_bind,hz.run,Result.andThen_ok,hu.run,h1,h3,h4,h5,h2,Sem.run_pure]) k
theorem HQ.slice {t e:TypeId} {x:Operand} {lo hi mx:Option Operand} {p:Option Addr} {len cap lv hv mv sz:Nat} [hu:Und P t (.slice e)] [hs:Siz P e sz] (hw:want? l L gd = true)
  (hx:ev? L x = some (.slice p len cap)) (h1:bnd L lo lv 0) (h2:bnd L hi hv len) (h3:bnd L mx mv cap) (hmx:mx.isSome→hi.isSome) (a1:lv ≤ hv) (a2:hv ≤ mv) (a3:mv ≤ cap) (hd:Nat.ble (d + 1) n = true) {lst:Lst} {ti:Nat} {tt:List (Nat × Bool)}
  (k:HQ V ⟨lst.setIfInBounds ti true,tt⟩ P base n ((d,.slice (slP p lv mv sz) (hv - lv) (mv - lv))::L) f A (.ops l rest q)):HQ V ⟨lst,(ti,false)::tt⟩ P base n L f A (.ops l (⟨some d,.slice t x lo hi mx,ty,pos,af,gd⟩::rest) q):=
 HQ.opV hw hd (fun a w hfr _=>by
  have hb:=run_bounds (P:=P) (w:=w) (isS:=true) hfr h1 h2 h3 hmx a1 a2 a3
  show Sem.run P (Instr.sliceAt t (a.eval x) (lo.map a.eval) (hi.map a.eval) (mx.map a.eval) >>= fun v=>pure (Next.value v)) w = _
  unfold Instr.sliceAt Instr.slice
  simp only [Sem.run_bind,hu.run,Result.andThen_ok,hfr.eval hx,hb,hs.run,Sem.run_pure,slP]) k
theorem HQ.Ce {lo:Option Operand} {len:Nat} [hu:Und P t (.array len e)] [hs:Siz P e sz] (hw:want? l L gd = true)
  (hx:ev? L x = some (.pointer (some ⟨b,off,none⟩))) (h1:bnd L lo lv 0) (h2:bnd L hi hv len) (h3:bnd L mx mv len) (hmx:mx.isSome→hi.isSome) (a1:lv ≤ hv) (a2:hv ≤ mv) (a3:mv ≤ len) (hd:Nat.ble (d + 1) n = true) {lst:Lst}
  (k:HQ V ⟨lst.setIfInBounds ti true,tt⟩ P base n ((d,.slice (slP (some ⟨b,off,none⟩) lv mv sz) (hv - lv) (mv - lv))::L) f A (.ops l rest q)):HQ V ⟨lst,(ti,false)::tt⟩ P base n L f A (.ops l (⟨some d,.slice t x lo hi mx,ty,pos,af,gd⟩::rest) q):=
 HQ.opV hw hd (fun a w hfr _=>by
  have hb:=run_bounds (P:=P) (w:=w) (isS:=false) hfr h1 h2 h3 hmx a1 a2 a3
  show Sem.run P (Instr.sliceAt t (a.eval x) (lo.map a.eval) (hi.map a.eval) (mx.map a.eval) >>= fun v=>pure (Next.value v)) w = _
  unfold Instr.sliceAt
  simp only [Sem.run_bind,hu.run,Result.andThen_ok,hfr.eval hx,hb,hs.run,Sem.run_pure,slP,Instr.sureAddr]
  split <;> rfl) k
end rules
def Ret (v:Value) (f:Frag) (A:List HP):Value→Frag→List HP→Prop:=fun u f' A'=>u = v ∧ f' = f ∧ A' = A
variable {xs:List Operand} {ats:Array TypeId} {α:Type}
section
variable {P:Program} {base:World} {n:Nat} {L:Env} {f f':Frag} {A A':List HP} {q:Post}
variable {l rest:List Oper} {d:Nat} {ty:TypeId} {pos:String} {af:Array Edge} {gd:Option (Nat × Bool)}
theorem H.Ag [hfun:Fun P fid] (hw:want? l L gd = true) (hd:Nat.ble (d + 1) n = true)
  (hx:evs? L xs = some vs) (hc:Fn P fid vs f A (Ret v f' A')) (k:H P base n ((d,v)::L) f' A' (.ops l rest q)) :
  H P base n L f A (.ops l (⟨some d,.call ⟨.value (.func fid),xs.toArray,ats⟩,ty,pos,af,gd⟩::rest) q):=
 H.Al hw hd hx hc fun _ _ _ h=>by obtain ⟨rfl,rfl,rfl⟩:=h;exact k
def RetE {α:Type} (v:α→Value) (f:Frag) (A:α→List HP):Value→Frag→List HP→Prop:=fun u f' A'=>∃ i,u = v i ∧ f' = f ∧ A' = A i
theorem H.callE {v:α→Value} {Ai:α→List HP} [hfun:Fun P fid] (hw:want? l L gd = true) (hd:Nat.ble (d + 1) n = true)
  (hx:evs? L xs = some vs) (hc:Fn P fid vs f A (RetE v f' Ai)) (k:∀ i,H P base n ((d,v i)::L) f' (Ai i) (.ops l rest q)) :
  H P base n L f A (.ops l (⟨some d,.call ⟨.value (.func fid),xs.toArray,ats⟩,ty,pos,af,gd⟩::rest) q):=
 H.Al hw hd hx hc fun _ _ _ h=>by obtain ⟨i,rfl,rfl,rfl⟩:=h;exact k i
theorem H.Aq {β:Type} {v:α→β→Value} {Ai:α→β→List HP} [hfun:Fun P fid] (hw:want? l L gd = true) (hd:Nat.ble (d + 1) n = true)
  (hx:evs? L xs = some vs) (hc:Fn P fid vs f A (fun u g B=>∃ i j,u = v i j ∧ g = f' ∧ B = Ai i j)) (k:∀ i j,H P base n ((d,v i j)::L) f' (Ai i j) (.ops l rest q)) :
  H P base n L f A (.ops l (⟨some d,.call ⟨.value (.func fid),xs.toArray,ats⟩,ty,pos,af,gd⟩::rest) q):=
 H.Al hw hd hx hc fun _ _ _ h=>by obtain ⟨i,j,rfl,rfl,rfl⟩:=h;exact k i j
end
theorem H.slc0 (T:TypeId) (sz:Nat) (k:H P base n L f (slc none 0 0 T sz []::A) K):H P base n L f A K:=
 H.imp (A':=slc none 0 0 T sz []::A) (fun h hh=>⟨nil0,h,(Dj.nil h).symm,(nil_un h).symm,slc_nil none T sz,hh⟩) k
variable {f1:Frag} {rest:List Oper} {d:Nat} {ty:TypeId} {pos:String} {af:Array Edge} {gd:Option (Nat × Bool)}
theorem H.cr {A1:List HP} {l:List Oper} [hfun:Fun P fid] (hc:Fn P fid vs f A (Ret v f1 A1)) (k:H P base n ((d,v)::L) f1 A1 (.ops l rest q)) (hw:want? l L gd = true:=by exact rfl) (hd:Nat.ble (d + 1) n = true:=by exact rfl) (hx:evs? L xs = some vs:=by exact rfl):H P base n L f A (.ops l (⟨some d,.call ⟨.value (.func fid),xs.toArray,ats⟩,ty,pos,af,gd⟩::rest) q):=H.Ag hw hd hx hc k
theorem H.ce {l:List Oper} {v:α→Value} {Ai:α→List HP} [hfun:Fun P fid] (hc:Fn P fid vs f A (RetE v f1 Ai)) (k:∀ i,H P base n ((d,v i)::L) f1 (Ai i) (.ops l rest q)) (hw:want? l L gd = true:=by exact rfl) (hd:Nat.ble (d + 1) n = true:=by exact rfl) (hx:evs? L xs = some vs:=by exact rfl):H P base n L f A (.ops l (⟨some d,.call ⟨.value (.func fid),xs.toArray,ats⟩,ty,pos,af,gd⟩::rest) q):=H.callE hw hd hx hc k
structure PM where
 g:Int
 init:List (Int × Int)
 lv:Int
 ln:Int
variable {s:PM} {long:Int}
namespace PM
def all (s:PM):List (Int × Int):=s.init ++ [(s.lv,s.ln)]
def new:PM:=⟨0,[],0,0⟩
def isOpen (s:PM) (v:Int):Bool:=decide (v = s.g ∧ v = s.lv)
def changeOk (s:PM) (v:Int):Bool:=decide (s.g < v ∧ v < 1073741824)
def change (s:PM) (v:Int):PM:=if changeOk s v then { s with g:=v } else s
def enterOk (s:PM) (v long:Int):Bool:=decide (s.lv < v ∧ s.g ≤ v ∧ v < 1073741824 ∧ 0 ≤ long)
def enter (s:PM) (v long:Int):PM:=if enterOk s v long then ⟨v,s.all,v,long⟩ else s
def prepare (s:PM) (v:Int):PM:=if isOpen s v then { s with ln:=s.ln + 1 } else s
def commitOk (s:PM) (v k most:Int):Bool:=decide ((v = s.g ∧ v = s.lv) ∧ 0 ≤ most ∧ k ≤ most ∧ k = s.ln + 1)
def commit (s:PM) (v k most:Int):PM:=if commitOk s v k most then { s with ln:=s.ln + 1 } else s
def voted:List (Int × Int)→Int→Option Int
 | [],_=>none
 | (w,n)::r,v=>if v = w then some n else voted r v
structure WF (s:PM) (B:Int):Prop where
 rise:(s.all.map (·.1)).Pairwise (· < ·)
 low:∀ p ∈ s.all,0 ≤ p.1 ∧ p.1 < 1073741824 ∧ 0 ≤ p.2 ∧ p.2 ≤ B
 top:s.lv ≤ s.g
 g0:0 ≤ s.g
theorem new_wf:WF new 0:=⟨by simp [new,all],by simp [new,all],by simp [new],by simp [new]⟩
theorem WF.last {B:Int} (h:WF s B):0 ≤ s.lv ∧ s.lv < 1073741824 ∧ 0 ≤ s.ln ∧ s.ln ≤ B:=h.low (s.lv,s.ln) (by simp [all])
theorem WF.below {B:Int} (h:WF s B):∀ p ∈ s.init,p.1 < s.lv:=by
 have:=h.rise;simp only [all,List.map_append,List.map_cons,List.map_nil,List.pairwise_append] at this
 intro p hp;exact this.2.2 p.1 (List.mem_map.2 ⟨p,hp,rfl⟩) s.lv (by simp)
theorem WF.mono {B B':Int} (h:WF s B) (hB:B ≤ B'):WF s B':=⟨h.rise,fun p hp=>by have:=h.low p hp;omega,h.top,h.g0⟩
theorem WF.bump {B:Int} (h:WF s B):WF { s with ln:=s.ln + 1 } (B + 1):=by
 refine ⟨?_,?_,h.top,h.g0⟩
 ·have:=h.rise;simpa [all] using this
 ·intro p hp;simp only [all,List.mem_append,List.mem_singleton] at hp;rcases hp with hp | rfl
  ·have:=h.low p (by simp [all,hp]);omega
  ·have:=h.last;simp only;omega
theorem WF.change {s:PM} {B:Int} (h:WF s B) (v:Int):WF (s.change v) B:=by
 unfold PM.change;split
 ·rename_i hc
  simp only [changeOk,decide_eq_true_eq] at hc;refine ⟨h.rise,h.low,?_,?_⟩
  ·have:=h.top;simp only;omega
  ·have:=h.g0;simp only;omega
 ·exact h
theorem WF.enter {s:PM} {B:Int} (h:WF s B) (v long:Int) (hl:long ≤ B):WF (s.enter v long) B:=by
 unfold PM.enter;split
 ·rename_i hc
  simp only [enterOk,decide_eq_true_eq] at hc;refine ⟨?_,?_,Int.le_refl _,?_⟩
  ·show ((s.all ++ [(v,long)]).map (·.1)).Pairwise (· < ·);rw [List.map_append,List.pairwise_append];refine ⟨h.rise,by simp,?_⟩;intro a ha b hb;simp at hb;subst hb;obtain ⟨p,hp,rfl⟩:=List.mem_map.1 ha;simp only [all,List.mem_append,List.mem_singleton] at hp;rcases hp with hp | rfl
   ·have:=h.below p hp;omega
   ·exact hc.1
  ·intro p hp;simp only [all,List.mem_append,List.mem_singleton] at hp;rcases hp with (hp | rfl) | rfl
   ·exact h.low p (by simp [all,hp])
   ·exact h.last
   ·have:=h.last;simp only;omega
  ·have:=h.last;simp only;omega
 ·exact h
theorem WF.prepare {s:PM} {B:Int} (h:WF s B) (v:Int):WF (s.prepare v) (B + 1):=by
 unfold PM.prepare;split
 ·exact h.bump
 ·exact h.mono (by omega)
theorem WF.commit {s:PM} {B:Int} (h:WF s B) (v k most:Int):WF (s.commit v k most) (B + 1):=by
 unfold PM.commit;split
 ·exact h.bump
 ·exact h.mono (by omega)
def kv (l:List (Int × Int)):List (Int × Value):=l.map fun p=>(p.1,.int .i64 p.2)
theorem kv_keys (l:List (Int × Int)):(kv l).map (·.1) = l.map (·.1):=by simp [kv,Function.comp_def]
theorem getKV_kv (l:List (Int × Int)) (v:Int):getKV (kv l) v = (voted l v).map (Value.int .i64):=by
 induction l with
 | nil=>rfl
 | cons p r ih =>
  obtain ⟨w,n⟩:=p;simp only [kv,List.map_cons,getKV,voted];split
  ·rfl
  ·exact ih
theorem put_absent {κ:Type} [DecidableEq κ]:∀ (m:List (κ × Value)) (k:κ) (v:Value),k ∉ m.map (·.1)→putKV m k v = m ++ [(k,v)]
 | [],_,_,_=>rfl
 | (j, u) :: r, k, v, h => by
  have e:¬ k = j:=fun e=>h (by simp [e])
  have:=put_absent r k v (fun e=>h (by simp at e ⊢;exact .inr e))
  simp [putKV,e,this]
theorem put_last {κ:Type} [DecidableEq κ]:∀ (m:List (κ × Value)) (k:κ) (u v:Value),k ∉ m.map (·.1)→putKV (m ++ [(k,u)]) k v = m ++ [(k,v)]
 | [],k,u,v,_=>by simp [putKV]
 | (j, w) :: r, k, u, v, h => by
  have e:¬ k = j:=fun e=>h (by simp [e])
  have:=put_last r k u v (fun e=>h (by simp at e ⊢;exact .inr e))
  simp [putKV,e,this]
theorem WF.not_init {B:Int} (h:WF s B):s.lv ∉ s.init.map (·.1):=by
 intro hm;obtain ⟨p,hp,e⟩:=List.mem_map.1 hm
 have:=h.below p hp;omega
theorem WF.kv_bump {B:Int} (h:WF s B):putKV (kv s.all) s.lv (.int .i64 (s.ln + 1)) = kv ({ s with ln:=s.ln + 1 }:PM).all:=by
 have:=put_last (kv s.init) s.lv (.int .i64 s.ln) (.int .i64 (s.ln + 1)) (by rw [kv_keys];exact h.not_init);simpa [kv,all] using this
theorem WF.not_all {B v:Int} (h:WF s B) (hv:s.lv < v):v ∉ s.all.map (·.1):=by
 intro hm;obtain ⟨p,hp,e⟩:=List.mem_map.1 hm;simp only [all,List.mem_append,List.mem_singleton] at hp;rcases hp with hp | rfl
 ·have:=h.below p hp;omega
 ·simp only at e;omega
theorem WF.kv_enter {B v:Int} (h:WF s B) (hv:s.lv < v):putKV (kv s.all) v (.int .i64 long) = kv (s.all ++ [(v,long)]):=by
 rw [put_absent _ _ _ (by rw [kv_keys];exact h.not_all hv)];simp [kv]
theorem WF.kv_enter2 {B v:Int} (h:WF s B) (hv:s.lv < v) (z:Value):putKV (putKV (kv s.all) v z) v (.int .i64 long) = kv (s.all ++ [(v,long)]):=by
 rw [put_absent (kv s.all) _ _ (by rw [kv_keys];exact h.not_all hv),put_last _ _ _ _ (by rw [kv_keys];exact h.not_all hv)];simp [kv]
theorem voted_last {B:Int} (h:WF s B):voted s.all s.lv = some s.ln:=by
 have:∀ l:List (Int × Int),s.lv ∉ l.map (·.1)→voted (l ++ [(s.lv,s.ln)]) s.lv = some s.ln:=by
  intro l
  induction l with
  | nil=>intro _;simp [voted]
  | cons p r ih =>
   intro hn;obtain ⟨w,n⟩:=p;have e:¬ s.lv = w:=fun e=>hn (by simp [e]);simp only [List.cons_append,voted,e,if_false]
   exact ih (fun e=>hn (by simp at e ⊢;exact .inr e))
 exact this _ h.not_init
end PM
/-! ### Equality of structs and arrays -/
variable {ys cs:List Value} {D:Nat}
section
variable {P:Program}
def chunk (xs:List Value) (off c:Nat):List Value:=(xs.drop off).take c
def shp (P:Program):Nat→TypeId→List Value→Bool
 | 0,_,_=>false
 | d + 1, t, cs => match P.underlying t with
  | some .bool => match cs with
   | [.bool _]=>true
   | _=>false
  | some (.int q) => match cs with
   | [.int q' _]=>decide (q' = q)
   | _=>false
  | some .string => match cs with
   | [.string _]=>true
   | _=>false
  | some (.array n e)=>(P.info? e).isSome && Nat.beq cs.length (n * P.cellsOf e) && (List.range' 0 n).all fun i=>shp P d e (chunk cs (i * P.cellsOf e) (P.cellsOf e))
  | some (.struct fs)=>!P.stoodInHeld t && Nat.beq cs.length (P.cellsOf t) && offs P fs.toList 0 cs.length && fs.toList.all fun f=>shp P d f.type (chunk cs f.offset (P.cellsOf f.type))
  | _=>false
where offs (P:Program):List Field→Nat→Nat→Bool
 | [],o,n=>Nat.beq o n
 | f :: fs, o, n => (f.name != "_") && Nat.beq f.offset o && offs P fs (o + P.cellsOf f.type) n
def mkV (P:Program) (t:TypeId) (xs:List Value):Value:=match P.underlying t with
 | some (.array _ _) | some (.struct _)=>.agg xs.toArray
 | _=>xs.headD undef
def eqv:Value→Value→Bool
 | .bool a,.bool b=>a == b
 | .int _ a,.int _ b=>a == b
 | .string a,.string b=>a == b
 | _,_=>false
def eqC:List Value→List Value→Bool
 | [],[]=>true
 | x::xs,y::ys=>eqv x y && eqC xs ys
 | _,_=>false
theorem eqC_append:∀ {a c:List Value} (b d:List Value),a.length = c.length→eqC (a ++ b) (c ++ d) = (eqC a c && eqC b d)
 | [],[],b,d,_=>by simp [eqC]
 | x :: a, y :: c, b, d, h => by
  simp only [List.cons_append,eqC]
  rw [eqC_append b d (by simpa using h),Bool.and_assoc]
theorem eqC_drop {xs:List Value} (h:xs.length = ys.length) (o c:Nat):eqC (xs.drop o) (ys.drop o) = (eqC (chunk xs o c) (chunk ys o c) && eqC (xs.drop (o + c)) (ys.drop (o + c))):=by
 have e:∀ l:List Value,l.drop o = chunk l o c ++ l.drop (o + c):=fun l=>by
  unfold chunk;rw [← List.drop_drop,List.take_append_drop]
 rw [e xs,e ys,eqC_append];unfold chunk;simp [h]
theorem shp_plain (h:shp P D t cs = true) (hp:∀ n e,P.underlying t ≠ some (.array n e)) (hs:∀ fs,P.underlying t ≠ some (.struct fs)) :
  P.plainKey t = true ∧ ∃ v,cs = [v] ∧ mkV P t cs = v ∧ ∀ D' ys,shp P D' t ys = true→∃ u,ys = [u] ∧ mkV P t ys = u ∧ ∀ w d,(Op.equalIn (d + 1) t v u).run P w = .ok (eqC cs ys) w:=by
 cases D with
 | zero=>simp [shp] at h
 | succ D =>
  unfold shp at h
  cases hu:P.underlying t with
  | none=>simp [hu] at h
  | some k =>
   cases k
   case bool =>
    rw [hu] at h;simp only at h;split at h
    ·rename_i a
     refine ⟨by simp [Program.plainKey,hu],_,rfl,by simp [mkV,hu],fun D' ys h'=>?_⟩
     cases D' with
     | zero=>simp [shp] at h'
     | succ D' =>
      unfold shp at h';rw [hu] at h';simp only at h';split at h'
      ·rename_i b
       refine ⟨_,rfl,by simp [mkV,hu],fun w d=>?_⟩;rw [run_equalIn_bool w d t a b hu];simp [eqC,eqv]
      ·cases h'
    ·cases h
   case int q =>
    rw [hu] at h;simp only at h;split at h
    ·rename_i q1 a
     refine ⟨by simp [Program.plainKey,hu],_,rfl,by simp [mkV,hu],fun D' ys h'=>?_⟩
     cases D' with
     | zero=>simp [shp] at h'
     | succ D' =>
      unfold shp at h';rw [hu] at h';simp only at h';split at h'
      ·rename_i q2 b
       refine ⟨_,rfl,by simp [mkV,hu],fun w d=>?_⟩;simp only [decide_eq_true_eq] at h h';subst h;subst h';rw [run_equalIn_int w d t _ _ _ _ hu];simp [eqC,eqv]
      ·cases h'
    ·cases h
   case string =>
    rw [hu] at h;simp only at h;split at h
    ·rename_i a
     refine ⟨by simp [Program.plainKey,hu],_,rfl,by simp [mkV,hu],fun D' ys h'=>?_⟩
     cases D' with
     | zero=>simp [shp] at h'
     | succ D' =>
      unfold shp at h';rw [hu] at h';simp only at h';split at h'
      ·rename_i b
       refine ⟨_,rfl,by simp [mkV,hu],fun w d=>?_⟩;rw [run_equalIn_string w d t a b hu];simp [eqC,eqv,beq_toListBytes]
      ·cases h'
    ·cases h
   case array n e=>exact absurd hu (hp n e)
   case struct fs=>exact absurd hu (hs fs)
   all_goals (simp [hu] at h;done)
theorem shp_len (hu:P.underlying t = some (.array n e)) (h:shp P D t cs = true):(∃ i,P.info? e = some i) ∧ cs.length = n * P.cellsOf e ∧ ∃ D',D = D' + 1 ∧ ∀ i,i < n→shp P D' e (chunk cs (i * P.cellsOf e) (P.cellsOf e)) = true:=by
 cases D with
 | zero=>simp [shp] at h
 | succ D =>
  unfold shp at h;rw [hu] at h;simp only [Bool.and_eq_true,List.all_eq_true] at h;exact ⟨Option.isSome_iff_exists.1 h.1.1,Nat.eq_of_beq_eq_true h.1.2,D,rfl,fun i hi=>h.2 i (by simp [List.mem_range'_1,hi])⟩
theorem shp_str {fs:Array Field} (hu:P.underlying t = some (.struct fs)) (h:shp P D t cs = true) :
  P.stoodInHeld t = false ∧ cs.length = P.cellsOf t ∧ shp.offs P fs.toList 0 cs.length = true ∧ ∃ D',D = D' + 1 ∧ ∀ f ∈ fs.toList,shp P D' f.type (chunk cs f.offset (P.cellsOf f.type)) = true:=by
 cases D with
 | zero=>simp [shp] at h
 | succ D =>
  unfold shp at h;rw [hu] at h;simp only [Bool.and_eq_true,List.all_eq_true,Bool.not_eq_true'] at h;exact ⟨h.1.1.1,Nat.eq_of_beq_eq_true h.1.1.2,h.1.2,D,rfl,h.2⟩
theorem zby (w:World) {xs:List Value} (h:shp P D e (chunk xs off (P.cellsOf e)) = true) (hle:off + P.cellsOf e ≤ xs.length) :
  (part e xs.toArray off).run P w = .ok (mkV P e (chunk xs off (P.cellsOf e))) w:=by
 have agg:(∃ n e',P.underlying e = some (.array n e')) ∨ (∃ fs,P.underlying e = some (.struct fs))→(part e xs.toArray off).run P w = .ok (mkV P e (chunk xs off (P.cellsOf e))) w:=by
  intro hk
  have hl:(xs.toArray.extract off (off + P.cellsOf e)) = (chunk xs off (P.cellsOf e)).toArray:=by
   apply Array.ext';rw [Array.toList_extract];simp [List.extract,chunk]
  rcases hk with ⟨n,e',hu⟩ | ⟨fs,hu⟩
  ·obtain ⟨i,hi⟩:=info_of_underlying hu;simp [part,isAgg,run_underlying hu,run_sizeOf w hi,mkV,hu,hl];rfl
  ·obtain ⟨i,hi⟩:=info_of_underlying hu;simp [part,isAgg,run_underlying hu,run_sizeOf w hi,mkV,hu,hl];rfl
 by_cases h1:∃ n e',P.underlying e = some (.array n e')
 ·exact agg (.inl h1)
 ·by_cases h2:∃ fs,P.underlying e = some (.struct fs)
  ·exact agg (.inr h2)
  ·obtain ⟨hpk,v,hv,hmk,_⟩:=shp_plain h (fun n e' hu=>h1 ⟨n,e',hu⟩) (fun fs hu=>h2 ⟨fs,hu⟩);rw [hmk];have:xs.toArray[off]? = some v:=getElem?_of_chunk (c:=P.cellsOf e) (by simpa [chunk] using hv);exact run_part_plain w hpk this
theorem run_eqItems_shp (w:World) {d D D':Nat} {e:TypeId} {xs ys:List Value} (hl:xs.length = ys.length)
  (IH:∀ w D D' xs ys,shp P D e xs = true→shp P D' e ys = true→D ≤ d→(Op.equalIn d e (mkV P e xs) (mkV P e ys)).run P w = .ok (eqC xs ys) w) (hD:D ≤ d) :
  ∀ (m k:Nat),(k + m) * P.cellsOf e = xs.length→(∀ i,k ≤ i→i < k + m→shp P D e (chunk xs (i * P.cellsOf e) (P.cellsOf e)) = true ∧ shp P D' e (chunk ys (i * P.cellsOf e) (P.cellsOf e)) = true) →
  (Op.eqItems d e (P.cellsOf e) xs.toArray ys.toArray (List.range' k m)).run P w = .ok (eqC (xs.drop (k * P.cellsOf e)) (ys.drop (k * P.cellsOf e))) w
 | 0, k, hk, _ => by
  have h1:xs.drop (k * P.cellsOf e) = []:=List.drop_eq_nil_of_le (by rw [← hk];simp)
  have h2:ys.drop (k * P.cellsOf e) = []:=List.drop_eq_nil_of_le (by rw [← hl,← hk];simp)
  rw [h1,h2]
  simp [Op.eqItems,eqC]
 | m + 1, k, hk, hs => by
  obtain ⟨a1,a2⟩:=hs k (Nat.le_refl _) (by omega)
  have hle:k * P.cellsOf e + P.cellsOf e ≤ xs.length:=by
   rw [← hk]
   calc k * P.cellsOf e + P.cellsOf e = (k + 1) * P.cellsOf e:=by rw [Nat.add_mul];omega
    _ ≤ (k + (m + 1)) * P.cellsOf e:=Nat.mul_le_mul_right _ (by omega)
  have p1:=zby w a1 hle
  have p2:=zby w a2 (by omega)
  have p3:=IH w D D' _ _ a1 a2 hD
  have ih:=run_eqItems_shp w hl IH hD m (k + 1) (by rw [← hk];congr 1;omega) (fun i h1 h2=>hs i (by omega) (by omega))
  rw [eqC_drop hl (k * P.cellsOf e) (P.cellsOf e)]
  rw [show k * P.cellsOf e + P.cellsOf e = (k + 1) * P.cellsOf e by rw [Nat.add_mul];omega]
  simp only [List.range'_succ,Op.eqItems,Sem.run_bind,p1,p2,p3,Result.andThen_ok]
  cases eqC (chunk xs (k * P.cellsOf e) (P.cellsOf e)) (chunk ys (k * P.cellsOf e) (P.cellsOf e))
  ·simp
  ·simpa using ih
theorem run_eqFields_shp (w:World) {d D D':Nat} {xs ys:List Value} (hl:xs.length = ys.length) (hD:D ≤ d) :
  ∀ (fs:List Field) (o:Nat),(∀ f ∈ fs,∀ w D D' xs ys,shp P D f.type xs = true→shp P D' f.type ys = true→D ≤ d→(Op.equalIn d f.type (mkV P f.type xs) (mkV P f.type ys)).run P w = .ok (eqC xs ys) w) →
  shp.offs P fs o xs.length = true→(∀ f ∈ fs,shp P D f.type (chunk xs f.offset (P.cellsOf f.type)) = true ∧ shp P D' f.type (chunk ys f.offset (P.cellsOf f.type)) = true) →
  (Op.eqFields d xs.toArray ys.toArray fs).run P w = .ok (eqC (xs.drop o) (ys.drop o)) w ∧ o ≤ xs.length
 | [], o, _, ho, _ => by
  have e:o = xs.length:=Nat.eq_of_beq_eq_true ho
  have h1:xs.drop o = []:=List.drop_eq_nil_of_le (by omega)
  have h2:ys.drop o = []:=List.drop_eq_nil_of_le (by omega)
  rw [h1,h2]
  exact ⟨by simp [Op.eqFields,eqC],by omega⟩
 | f :: fs, o, IH, ho, hs => by
  simp only [shp.offs,Bool.and_eq_true,bne_iff_ne,ne_eq] at ho
  obtain ⟨⟨hn,he⟩,hr⟩:=ho
  have he':f.offset = o:=Nat.eq_of_beq_eq_true he
  subst he'
  obtain ⟨ih,hle⟩:=run_eqFields_shp w hl hD fs (f.offset + P.cellsOf f.type) (fun g hg=>IH g (by simp [hg])) hr (fun g hg=>hs g (by simp [hg]))
  obtain ⟨a1,a2⟩:=hs f (by simp)
  have p1:=zby w a1 hle
  have p2:=zby w a2 (by omega)
  have p3:=IH f (by simp) w D D' _ _ a1 a2 hD
  refine ⟨?_,by omega⟩
  rw [eqC_drop hl f.offset (P.cellsOf f.type)]
  simp only [Op.eqFields,hn,ne_eq,not_false_eq_true,if_true,Sem.run_bind,p1,p2,p3,Result.andThen_ok]
  cases eqC (chunk xs f.offset (P.cellsOf f.type)) (chunk ys f.offset (P.cellsOf f.type))
  ·simp
  ·simpa using ih
theorem zbj:∀ (d:Nat) (t:TypeId) (w:World) (D D':Nat) (xs ys:List Value),shp P D t xs = true→shp P D' t ys = true→D ≤ d→(Op.equalIn d t (mkV P t xs) (mkV P t ys)).run P w = .ok (eqC xs ys) w
 | 0, t, w, D, D', xs, ys, hx, _, hd => by
  have:D = 0:=by omega
  subst this
  simp [shp] at hx
 | d + 1, t, w, D, D', xs, ys, hx, hy, hd => by
  by_cases h1:∃ n e',P.underlying t = some (.array n e')
  ·obtain ⟨n,e,hu⟩:=h1
   obtain ⟨⟨i,hi⟩,l1,D1,rfl,s1⟩:=shp_len hu hx
   obtain ⟨_,l2,D2,rfl,s2⟩:=shp_len hu hy
   have hm:mkV P t xs = .agg xs.toArray ∧ mkV P t ys = .agg ys.toArray:=by simp [mkV,hu]
   rw [hm.1,hm.2,run_equalIn_array w d xs.toArray ys.toArray hu hi]
   have:=run_eqItems_shp (P:=P) w (d:=d) (D:=D1) (D':=D2) (e:=e) (xs:=xs) (ys:=ys) (by omega) (fun w D D' xs ys=>zbj d e w D D' xs ys) (by omega) n 0 (by rw [Nat.zero_add,l1]) (fun i _ h2=>⟨s1 i (by omega),s2 i (by omega)⟩)
   rw [List.range_eq_range']
   simpa using this
  ·by_cases h2:∃ fs,P.underlying t = some (.struct fs)
   ·obtain ⟨fs,hu⟩:=h2
    obtain ⟨n1,l1,o1,D1,rfl,s1⟩:=shp_str hu hx
    obtain ⟨n2,l2,o2,D2,rfl,s2⟩:=shp_str hu hy
    have hm:mkV P t xs = .agg xs.toArray ∧ mkV P t ys = .agg ys.toArray:=by simp [mkV,hu]
    have hfs:P.fieldsOf t = fs:=by simp [Program.fieldsOf,hu]
    rw [hm.1,hm.2,run_equalIn_struct w d t xs.toArray ys.toArray (by rw [hfs];exact hu) n1,hfs]
    have:=(run_eqFields_shp (P:=P) w (d:=d) (D:=D1) (D':=D2) (xs:=xs) (ys:=ys) (by omega) (by omega) fs.toList 0 (fun f _ w D D' xs ys=>zbj d f.type w D D' xs ys) o1 (fun f hf=>⟨s1 f hf,s2 f hf⟩)).1
    simpa using this
   ·obtain ⟨_,v,rfl,hmk,hall⟩:=shp_plain hx (fun n e hu=>h1 ⟨n,e,hu⟩) (fun fs hu=>h2 ⟨fs,hu⟩)
    obtain ⟨u,rfl,hmk',hr⟩:=hall D' ys hy
    rw [hmk,hmk']
    exact hr w d
end
/-! ### Rules -/
def bitsI (op:BinOp) (k:IntKind) (x y:Int):Option Int:=match op with
 | .and=>some (k.wrap (BitVec.ofInt k.bits x &&& BitVec.ofInt k.bits y).toNat)
 | .or=>some (k.wrap (BitVec.ofInt k.bits x ||| BitVec.ofInt k.bits y).toNat)
 | .xor=>some (k.wrap (BitVec.ofInt k.bits x ^^^ BitVec.ofInt k.bits y).toNat)
 | .andNot=>some (k.wrap (BitVec.ofInt k.bits x &&& ~~~ BitVec.ofInt k.bits y).toNat)
 | _=>none
def shiftI (op:BinOp) (k:IntKind) (x y:Int):Option Int:=match op with
 | .shl=>some (k.wrap (x * 2 ^ (min y.toNat k.bits)))
 | .shr=>some (x.fdiv (2 ^ (min y.toNat k.bits)))
 | _=>none
section rules
variable {P:Program} {base:World} {n:Nat} {L:Env} {f:Frag} {A:List HP} {q:Post}
variable {l rest:List Oper} {d:Nat} {ty:TypeId} {pos:String} {af:Array Edge} {gd:Option (Nat × Bool)}
theorem H.Bg {k:IntKind} {p:Int} (hw:want? l L gd = true) (hx:ev? L x = some (.int k p)) (hy:ev? L y = some (.int k p2)) (hc:bitsI op k p p2 = some r) (hz:r = z) (hd:Nat.ble (d + 1) n = true)
  (kk:H P base n ((d,.int k z)::L) f A (.ops l rest q)):H P base n L f A (.ops l (⟨some d,.binOp op xt x y yt,ty,pos,af,gd⟩::rest) q):=
 H.opV hw hd (fun a w hf _=>by
  cases op <;> simp only [bitsI,Option.some.injEq,reduceCtorEq] at hc <;> subst hc <;> subst hz <;>
   simp [execOp,eqGuard,binOp,Op.intBits,hf.eval hx,hf.eval hy]) kk
theorem H.Bq {k k2:IntKind} {p:Int} (hw:want? l L gd = true) (hx:ev? L x = some (.int k p)) (hy:ev? L y = some (.int k2 p2)) (hc:shiftI op k p p2 = some r) (h0:0 ≤ p2) (hz:r = z) (hd:Nat.ble (d + 1) n = true)
  (kk:H P base n ((d,.int k z)::L) f A (.ops l rest q)):H P base n L f A (.ops l (⟨some d,.binOp op xt x y yt,ty,pos,af,gd⟩::rest) q):=
 H.opV hw hd (fun a w hf _=>by
  have h1:¬ p2 < 0:=by omega
  cases op <;> simp only [shiftI,Option.some.injEq,reduceCtorEq] at hc <;> subst hc <;> subst hz <;>
   simp [execOp,eqGuard,binOp,Op.shift,hf.eval hx,hf.eval hy,h1]) kk
theorem H.neg {k:IntKind} {p:Int} (hw:want? l L gd = true) (hx:ev? L x = some (.int k p)) (hz:k.wrap (0 - p) = z) (hd:Nat.ble (d + 1) n = true)
  (kk:H P base n ((d,.int k z)::L) f A (.ops l rest q)):H P base n L f A (.ops l (⟨some d,.unOp .neg xt x,ty,pos,af,gd⟩::rest) q):=
 H.opV hw hd (fun a w hf _=>by
  subst hz
  simp [execOp,Op.unary,Op.intArith,hf.eval hx]) kk
theorem H.max2 {x y:Operand} {ats:Array TypeId} {k:IntKind} {p p2 z:Int} (hw:want? l L gd = true) (hx:ev? L x = some (.int k p)) (hy:ev? L y = some (.int k p2)) (hz:(if p < p2 then p2 else p) = z) (hd:Nat.ble (d + 1) n = true)
  (kk:H P base n ((d,.int k z)::L) f A (.ops l rest q)):H P base n L f A (.ops l (⟨some d,.call ⟨.builtin .max,#[x,y],ats⟩,ty,pos,af,gd⟩::rest) q):=
 H.opV hw hd (fun a w hf _=>by
  subst hz
  simp [execOp,resolve,invoke,builtin,Builtin.max_,Builtin.max2,hf.eval hx,hf.eval hy]) kk
theorem H.Cn {fn:Go.Fn} {cs:List Operand} {us:List Value} (hw:want? l L gd = true) (hx:evs? L xs = some vs) (hc:evs? L cs = some us) (hd:Nat.ble (d + 1) n = true)
  (k:H P base n ((d,.func fn vs.toArray us.toArray)::L) f A (.ops l rest q)):H P base n L f A (.ops l (⟨some d,.makeFunc fn xs.toArray cs.toArray,ty,pos,af,gd⟩::rest) q):=
 H.opV hw hd (fun a w hf _=>by
  simp [execOp,Instr.makeFunc,hf.evals hx,hf.evals hc]) k
theorem H.aggEq {xs:List Value} {b:Bool} (hw:want? l L gd = true) (hx:ev? L x = some (.agg xs.toArray)) (hy:ev? L y = some (.agg ys.toArray)) (ho:op = .eql)
  (hg:P.eqGuardType P.depth xt = false) (h1:shp P D xt xs = true) (h2:shp P D xt ys = true) (hm:(match P.underlying xt with | some (.array _ _) | some (.struct _)=>true | _=>false) = true) (hD:D ≤ 10000) (hb:eqC xs ys = b) (hd:Nat.ble (d + 1) n = true)
  (kk:H P base n ((d,.bool b)::L) f A (.ops l rest q)):H P base n L f A (.ops l (⟨some d,.binOp op xt x y yt,ty,pos,af,gd⟩::rest) q):=
 H.opV hw hd (fun a w hf _=>by
  subst ho;subst hb
  have hmk:∀ zs:List Value,mkV P xt zs = .agg zs.toArray:=fun zs=>by
   unfold mkV
   split at hm <;> simp_all
  have h3:=zbj 10000 xt w D D xs ys h1 h2 hD
  rw [hmk,hmk] at h3
  refine run_bin _ ?_ ?_
  ·rw [hf.eval hx,hf.eval hy]
   simp [eqGuard,hg]
  ·rw [hf.eval hx,hf.eval hy]
   show Sem.run P (do pure (Value.bool (← Op.equal xt (.agg xs.toArray) (.agg ys.toArray)))) w = _
   have h4:Sem.run P (Op.equal xt (.agg xs.toArray) (.agg ys.toArray)) w = .ok (eqC xs ys) w:=h3
   simp [h4]) kk
end rules
/-! A call of a function value. -/
theorem run_enterV [hfun:Fun P fid] (a:Act) {dd:Option Tmp} {fs:List Value} (hx:a.eval x = .func (.func fid) fs.toArray cs.toArray) (hargs:xs.map a.eval = vs) :
  (execOp a.eval ⟨dd,.call ⟨.value x,xs.toArray,ats⟩,ty,pos,af,gd⟩).run P w = .ok (.enter fid (fs ++ vs ++ cs).toArray) w:=by
 obtain ⟨fn,h1,h2,h3⟩:=hfun.eq;have e1:(fs.toArray ++ Array.map a.eval xs.toArray:Array Value) ++ cs.toArray = (fs ++ vs ++ cs).toArray:=by simp [hargs]
 have e2:(execOp a.eval ⟨dd,.call ⟨.value x,xs.toArray,ats⟩,ty,pos,af,gd⟩).run P w = Sem.run P (callFunc fid ((fs.toArray ++ Array.map a.eval xs.toArray) ++ cs.toArray)) w:=by
  simp only [execOp,resolve,hx,Deferred.ofValue,Sem.run_bind,Sem.run_pure,Result.andThen_ok,invoke]
 rw [e2,e1];exact qcj
section
variable {P:Program} {base:World} {n:Nat} {L:Env} {f f':Frag} {A A':List HP} {q:Post}
variable {l rest:List Oper} {d:Nat} {ty:TypeId} {pos:String} {af:Array Edge} {gd:Option (Nat × Bool)}
theorem H.callV {fs:List Value} (hx:ev? L x = some (.func (.func fid) fs.toArray cs.toArray)) [hfun:Fun P fid] (hw:want? l L gd = true) (hd:Nat.ble (d + 1) n = true)
  (hxs:evs? L xs = some vs) (hc:Fn P fid (fs ++ vs ++ cs) f A R)
  (k:∀ v f' A',R v f' A'→H P base n ((d,v)::L) f' A' (.ops l rest q)) :
  H P base n L f A (.ops l (⟨some d,.call ⟨.value x,xs.toArray,ats⟩,ty,pos,af,gd⟩::rest) q):=.mk fun a w hf s=>by
 show wpList P l.toArray (q.den P) _ a w
 unfold wpList
 rw [if_pos (hf.want (o:=⟨some d,_,ty,pos,af,gd⟩) hw)]
 refine .inl ?_
 have hrun:=run_enterV (P:=P) (dd:=some d) (ats:=ats) (ty:=ty) (pos:=pos) (af:=af) (gd:=gd) (w:=w) a (fid:=fid) (hf.eval hx) (hf.evals hxs)
 simp only [Oper.wp,hrun,Oper.upon]
 refine (hc base w s).mono ?_
 rintro e w' ⟨v,f',A',rfl,hr,s'⟩
 exact (k v f' A' hr).out _ _ (hf.put (Nat.le_of_ble_eq_true hd) v) s'
theorem H.callVR {fs:List Value} (hx:ev? L x = some (.func (.func fid) fs.toArray cs.toArray)) [hfun:Fun P fid] (hw:want? l L gd = true) (hd:Nat.ble (d + 1) n = true)
  (hxs:evs? L xs = some vs) (hc:Fn P fid (fs ++ vs ++ cs) f A (Ret v f' A')) (k:H P base n ((d,v)::L) f' A' (.ops l rest q)) :
  H P base n L f A (.ops l (⟨some d,.call ⟨.value x,xs.toArray,ats⟩,ty,pos,af,gd⟩::rest) q):=
 H.callV hx hw hd hxs hc fun _ _ _ h=>by obtain ⟨rfl,rfl,rfl⟩:=h;exact k
end
variable {T u:TypeId} {news:List Value}
section rules
variable {P:Program} {base:World} {n:Nat} {L:Env} {f:Frag} {A:List HP} {q:Post}
variable {l rest:List Oper} {d:Nat} {ty:TypeId} {pos:String} {af:Array Edge} {gd:Option (Nat × Bool)}
theorem H.Bu [hu:Und P t (.slice e)] (hw:want? l L gd = true) (hx:ev? L x = some (.slice p m c)) (hd:Nat.ble (d + 1) n = true)
  (k:H P base n ((d,.int .i64 (c:Nat))::L) f A (.ops l rest q)):H P base n L f A (.ops l (⟨some d,.call ⟨.builtin .cap,#[x],#[t]⟩,ty,pos,af,gd⟩::rest) q):=
 H.opV hw hd (fun a w hfr _=>by
  simp [execOp,resolve,invoke,builtin,Builtin.cap_,hfr.eval hx,hu.run,goInt]) k
theorem H.slc_cap {xs:List Value} (h:At A (slc p m c T sz xs) A' (slc p m c T sz xs))
  (k:m ≤ c→c ≤ 9223372036854775807→xs.length = m * sz→H P base n L f A K):H P base n L f A K:=.mk fun a w hf s=>by
 obtain ⟨h1,h2,h3⟩:=s.slc_at h
 rcases h3 with ⟨rfl,rfl⟩ | ⟨b,sp,rfl,h4,_⟩
 ·exact (k (Nat.le_refl _) h2 h1).out a w hf s
 ·exact (k h4 h2 h1).out a w hf s
theorem slP0 (p:Option Addr) (mv sz:Nat):slP p 0 mv sz = p:=by
 unfold slP;split
 ·rfl
 ·cases p <;> simp [Addr.add]
theorem H.sliceTo {len:Nat} {kk:IntKind} [hu:Und P t (.slice e)] [hs:Siz P e sz] (hw:want? l L gd = true)
  (hx:ev? L x = some (.slice p len cap)) (hy:ev? L y = some (.int kk z)) (hz:z = (hv:Nat)) (a2:hv ≤ cap) (hd:Nat.ble (d + 1) n = true)
  (k:H P base n ((d,.slice p hv cap)::L) f A (.ops l rest q)):H P base n L f A (.ops l (⟨some d,.slice t x none (some y) none,ty,pos,af,gd⟩::rest) q):=
 H.slice (hu:=hu) (hs:=hs) (lv:=0) (hv:=hv) (mv:=cap) hw hx rfl ⟨kk,z,hy,hz⟩ rfl (fun h=>by cases h) (Nat.zero_le _) a2 (Nat.le_refl _) hd (by rw [slP0];exact k)
theorem H.slc_full {xs:List Value}
  (k:∀ sp:List Value,(xs ++ sp).length = c * sz→m ≤ c→H P base n L f (slc p c c T sz (xs ++ sp)::B) K):H P base n L f (slc p m c T sz xs::B) K:=.mk fun a w hf s=>by
 obtain ⟨mm,⟨m1,m2,dj,e,⟨h1,h2,h3⟩,r⟩,hd,hw⟩:=s.mem
 rcases h3 with ⟨rfl,rfl,hn⟩ | ⟨b,sp,rfl,h4,h5,hn⟩
 ·have:xs = []:=List.eq_nil_of_length_eq_zero (by simpa using h1)
  subst this
  exact (k [] (by simp) (Nat.le_refl _)).out a w hf ⟨s.os,s.tape,s.output,s.size,s.imm,mm,⟨m1,m2,dj,e,⟨by simp,h2,.inl ⟨rfl,rfl,hn⟩⟩,r⟩,hd,hw⟩
 ·exact (k sp h5 h4).out a w hf ⟨s.os,s.tape,s.output,s.size,s.imm,mm,⟨m1,m2,dj,e,⟨h5,h2,.inr ⟨b,[],rfl,Nat.le_refl _,by rw [List.append_nil];exact h5,by rw [List.append_nil];exact hn⟩⟩,r⟩,hd,hw⟩
theorem H.slc_trunc {m':Nat} {xs:List Value} (hm:m' ≤ m) (hc:m ≤ c) (hy:ys = xs.take (m' * sz))
  (k:H P base n L f (slc p m' c T sz ys::B) K):H P base n L f (slc p m c T sz xs::B) K:=.mk fun a w hf s=>by
 subst hy
 obtain ⟨mm,⟨m1,m2,dj,e,⟨h1,h2,h3⟩,r⟩,hd,hw⟩:=s.mem
 have hlen:(xs.take (m' * sz)).length = m' * sz:=by
  rw [List.length_take,h1];exact Nat.min_eq_left (Nat.mul_le_mul_right _ hm)
 refine k.out a w hf ⟨s.os,s.tape,s.output,s.size,s.imm,mm,⟨m1,m2,dj,e,⟨hlen,h2,?_⟩,r⟩,hd,hw⟩
 rcases h3 with ⟨rfl,rfl,hn⟩ | ⟨b,sp,rfl,h4,h5,hn⟩
 ·exact .inl ⟨by omega,rfl,hn⟩
 ·refine .inr ⟨b,xs.drop (m' * sz) ++ sp,rfl,by omega,?_,?_⟩
  ·rw [← List.append_assoc,List.take_append_drop];exact h5
  ·rw [← List.append_assoc,List.take_append_drop];exact hn
theorem run_append_zero_out {z:Value} {i:TypeInfo} {olds:List Value}
  (hu:Und P t (.slice e)) (hu2:Und P u (.int .i64)) (hi:P.info? e = some i) (hz:i.zero = some z) (hpos:0 < m * i.size)
  (hold:(Builtin.firstCells i.size n (.slice p n c)).run P w.drew = .ok olds.toArray w.drew)
  (hg:c < n + m) (h63:n + m ≤ 9223372036854775807) (hby:(n + m) * i.bytes ≤ 140737488355328) (hfit:Builtin.nextslicecap (n + m) c * i.bytes ≤ 281474976710656) :
  (Builtin.append_ #[t, u] ty #[.slice p n c, .int .i64 (m : Nat)]).run P w =
   .ok (.slice (some ⟨w.heap.size,0,none⟩) (n + m) (grownCap w (n + m) c e)) (w.drew.alloc (.cells (olds.toArray ++ Builtin.zeroCells z.cells m ++ Builtin.zeroCells z.cells (grownCap w (n + m) c e - (n + m))) e)):=by
 have hn:¬ (n + m ≤ c):=by omega
 have h63':¬ (9223372036854775807 < ((n:Int) + (m:Int))):=by omega
 have h48':¬ (281474976710656 < Builtin.nextslicecap (n + m) c * i.bytes):=by omega
 have hwr:IntKind.i64.wrap (m:Int) = (m:Int):=wr_i64 (by omega);have hm0:¬ ((m:Int) < 0):=by omega
 have hmb:m * i.bytes ≤ 281474976710656:=by
  have:m * i.bytes ≤ (n + m) * i.bytes:=Nat.mul_le_mul_right _ (by omega);omega
 have hmb':¬ (281474976710656 < (m:Int) * (i.bytes:Int)):=by
  rw [← Int.natCast_mul];omega
 have hp:¬ (m * i.size = 0):=by omega
 have hp2:¬ (m = 0 ∨ i.size = 0):=by
  rintro (h | h) <;> simp [h] at hpos
 simp [Builtin.append_,run_underlying hu.eq,run_underlying hu2.eq,sizeOf,typeInfo,zeroValue,hi,hz,hold,hn,h63',h48',hwr,hm0,hmb',hp,asInt,asIntOf,Question.forced,newRow,grownCap]
theorem run_append_zero {A':Option Addr→Nat→List HP} {bytes:Nat} {xs:List Value} {z:Value}
  (hu:Und P t (.slice e)) (hu2:Und P u (.int .i64)) (hs:Siz P e sz) (hb:Byt P e bytes) (hz:Zer P e z)
  (s:Sat base w f A) (hA:∀ p' c',At A (slc p n c e sz xs) (A' p' c') (slc p' (n + m) c' e sz (xs ++ (Builtin.zeroCells z.cells m).toList)))
  (hzs:z.cells.size = sz) (hpos:0 < m * sz) (hg:c < n + m) (h63:n + m ≤ 9223372036854775807) (hby:(n + m) * bytes ≤ 140737488355328) :
  ∃ p' c' w',(Builtin.append_ #[t,u] ty #[.slice p n c,.int .i64 (m:Nat)]).run P w = .ok (.slice p' (n + m) c') w' ∧ Sat base w' f (A' p' c'):=by
 obtain ⟨i,hi,rfl,rfl,hiz⟩:=info_of hs hb hz;obtain ⟨hl,hc,h3⟩:=s.slc_at (hA none 0)
 have hold:(Builtin.firstCells i.size n (.slice p n c)).run P w.drew = .ok xs.toArray w.drew:=by
  rcases h3 with ⟨rfl,rfl⟩ | ⟨b,sp,rfl,hnc,hcs,hw⟩
  ·have hx:xs = []:=List.eq_nil_of_length_eq_zero (by simpa using hl);subst hx
   cases p with
   | none=>exact run_firstCells_none w.drew i.size 0 0 0
   | some a=>exact run_firstCells_some w.drew i.size 0 a 0 0 [] (by simp) (by simp)
  ·exact run_firstCells_some (P:=P) w.drew i.size n ⟨b,0,none⟩ n c xs hl (fun j v hj=>by
    rw [zbb]
    have:j < xs.length:=by
     exact qcG
    simp [World.cell?,show w.drew.heap = w.heap from rfl,hw,List.getElem?_append_left this,hj])
 have hr:=run_append_zero_out (ty:=ty) hu hu2 hi hiz hpos hold hg h63 hby (growslice_fits hg hby)
 have hlen:(xs ++ (Builtin.zeroCells z.cells m).toList).length = (n + m) * i.size:=by
  rw [List.length_append,hl,Array.length_toList,size_zeroCells,hzs,Nat.add_mul]
 refine ⟨_,_,_,hr,s.fresh (hA _ _) rfl rfl rfl rfl ⟨hlen,?_,.inr ⟨_,(Builtin.zeroCells z.cells (grownCap w (n + m) c e - (n + m))).toList,rfl,grownCap_ge _ _ _ _,?_,?_⟩⟩⟩
 ·have:=grownCap_le_maxLen w (n + m) c e (by unfold maxLen;omega);unfold maxLen at this;omega
 ·have hge:=grownCap_ge w (n + m) c e;rw [List.length_append,hlen,Array.length_toList,size_zeroCells,hzs,← Nat.add_mul];congr 1;omega
 ·congr 2;rw [← List.append_toArray,← List.append_toArray,Array.toArray_toList,Array.toArray_toList]
theorem H.appendZ {A':Option Addr→Nat→List HP} {n0 bytes:Nat} {zi:Int} {xs:List Value} {z:Value}
  [hu:Und P t (.slice e)] [hu2:Und P u (.int .i64)] [hs:Siz P e sz] [hb:Byt P e bytes] [hz:Zer P e z] (hw:want? l L gd = true) (hd:Nat.ble (d + 1) n = true) (hx:ev? L x = some (.slice p n0 c)) (hy:ev? L y = some (.int .i64 zi)) (hzi:zi = (m:Nat))
  (hA:∀ p' c',At A (slc p n0 c e sz xs) (A' p' c') (slc p' (n0 + m) c' e sz (xs ++ (Builtin.zeroCells z.cells m).toList)))
  (hzs:z.cells.size = sz) (hpos:0 < m * sz) (hg:c < n0 + m) (h63:n0 + m ≤ 9223372036854775807) (hby:(n0 + m) * bytes ≤ 140737488355328)
  (k:∀ p' c',H P base n ((d,.slice p' (n0 + m) c')::L) f (A' p' c') (.ops l rest q)) :
  H P base n L f A (.ops l (⟨some d,.call ⟨.builtin .append,#[x,y],#[t,u]⟩,ty,pos,af,gd⟩::rest) q):=
 H.opE (ι:=Option Addr × Nat) (fun i=>.slice i.1 (n0 + m) i.2) (fun _=>f) (fun i=>A' i.1 i.2) (fun _=>True) hw hd (fun a w hfr s=>by
  subst hzi
  obtain ⟨p',c',w',hr,s'⟩:=run_append_zero (ty:=ty) hu hu2 hs hb hz s hA hzs hpos hg h63 hby
  exact ⟨(p',c'),w',trivial,run_builtin_append (by rw [hfr.eval hx,hfr.eval hy];exact hr),s'⟩) (fun i _=>k i.1 i.2)
theorem Src.cons {y:HP} {x:Value} (h:Src P f A x sz m news):Src P f (y::A) x sz m news:=
 ⟨h.len,fun base w s=>h.cells base w (s.drop (.here _ _)),h.size⟩
theorem Src.append {x:Value} (h:Src P f A x sz m news):Src P f (B ++ A) x sz m news:=by
 induction B with
 | nil=>exact h
 | cons b B ih=>exact ih.cons
theorem results_cell {p:Tmp} {tmps:Array Value} (h:fn.results = #[.cell p ty]) (hp:tmps.getD p undef = .pointer (some ⟨b,off,none⟩))
  (hl:(loadVar ty ⟨b,off,none⟩).run P w = .ok v w):(results fn tmps).run P w = .ok v w:=by
 have hp':tmps[p]?.getD undef = .pointer (some ⟨b,off,none⟩):=by simpa using hp
 simp only [results,h];simp [Sem.run_bind,asAddr,hp',hl]
end rules
instance ty14:Und Tryz.prog 3 (Go.TypeDesc.int Go.IntKind.i64):=⟨Tryz.underlying3⟩
instance ty15:Siz Tryz.prog 3 1:=⟨by kernel_rfl⟩
instance ty17:Zer Tryz.prog 3 (.int .i64 0):=⟨by kernel_rfl⟩
instance ty18:Und Tryz.prog 4 (Go.TypeDesc.bool):=⟨Tryz.underlying4⟩
instance ty19:Siz Tryz.prog 4 1:=⟨by kernel_rfl⟩
instance ty21:Zer Tryz.prog 4 (.bool false):=⟨by kernel_rfl⟩
instance ty22:Und Tryz.prog 5 (Go.TypeDesc.int Go.IntKind.u8):=⟨Tryz.underlying5⟩
instance ty23:Siz Tryz.prog 5 1:=⟨by kernel_rfl⟩
instance ty24:Byt Tryz.prog 5 1:=⟨by kernel_rfl⟩
instance ty25:Zer Tryz.prog 5 (.int .u8 0):=⟨by kernel_rfl⟩
instance ty40:Und Tryz.prog 9 (Go.TypeDesc.string):=⟨Tryz.underlying9⟩
instance ty41:Siz Tryz.prog 9 1:=⟨by kernel_rfl⟩
instance ty43:Zer Tryz.prog 9 (.string ByteArray.empty):=⟨by kernel_rfl⟩
instance ty96:Und Tryz.prog 22 (Go.TypeDesc.slice 88):=⟨Tryz.underlying22⟩
instance ty100:Und Tryz.prog 23 (Go.TypeDesc.slice 44):=⟨Tryz.underlying23⟩
instance ty101:Siz Tryz.prog 23 1:=⟨by kernel_rfl⟩
instance ty104:Und Tryz.prog 24 (Go.TypeDesc.int Go.IntKind.u64):=⟨Tryz.underlying24⟩
instance ty105:Siz Tryz.prog 24 1:=⟨by kernel_rfl⟩
instance ty106:Byt Tryz.prog 24 8:=⟨by kernel_rfl⟩
instance ty107:Zer Tryz.prog 24 (.int .u64 0):=⟨by kernel_rfl⟩
instance ty128:Und Tryz.prog 30 (Go.TypeDesc.slice 36):=⟨Tryz.underlying30⟩
instance ty129:Siz Tryz.prog 30 1:=⟨by kernel_rfl⟩
instance ty132:Und Tryz.prog 31 (Go.TypeDesc.slice 51):=⟨Tryz.underlying31⟩
instance ty133:Siz Tryz.prog 31 1:=⟨by kernel_rfl⟩
instance ty136:Und Tryz.prog 32 (Go.TypeDesc.pointer 75):=⟨Tryz.underlying32⟩
instance ty137:Siz Tryz.prog 32 1:=⟨by kernel_rfl⟩
instance ty145:type_of% (Und.mk Tryz.underlying34):=⟨Tryz.underlying34⟩
instance ty148:Plc Tryz.prog 34 [(0,1),(1,1),(2,1)]:=⟨fun fs w h=>by rw [Tryz.underlying34] at h;cases h;kernel_rfl⟩
instance ty149:Zer Tryz.prog 34 (.agg (([.slice none 0 0,.slice none 0 0,.pointer none]:List Value)).toArray):=⟨by kernel_rfl⟩
instance ty154:Und Tryz.prog 36 (Go.TypeDesc.array 11 24):=⟨Tryz.underlying36⟩
instance ty155:Siz Tryz.prog 36 11:=⟨by kernel_rfl⟩
instance ty156:Byt Tryz.prog 36 88:=⟨by kernel_rfl⟩
instance ty157:Zer Tryz.prog 36 (.agg ((List.replicate 11 (.int .u64 0):List Value)).toArray):=⟨by kernel_rfl⟩
instance ty158:Und Tryz.prog 37 (Go.TypeDesc.pointer 130):=⟨Tryz.underlying37⟩
instance ty159:Siz Tryz.prog 37 1:=⟨by kernel_rfl⟩
instance ty172:type_of% (Und.mk Tryz.underlying41):=⟨Tryz.underlying41⟩
instance ty173:Siz Tryz.prog 41 6:=⟨by kernel_rfl⟩
instance ty175:Plc Tryz.prog 41 [(0,1),(1,1),(2,1),(3,1),(4,1),(5,1)]:=⟨fun fs w h=>by rw [Tryz.underlying41] at h;cases h;kernel_rfl⟩
instance ty176:Zer Tryz.prog 41 (.agg (([.int .u8 0,.string ByteArray.empty,.string ByteArray.empty,.string ByteArray.empty,.string ByteArray.empty,.int .u64 0]:List Value)).toArray):=⟨by kernel_rfl⟩
instance ty177:Und Tryz.prog 42 (Go.TypeDesc.array 32 5):=⟨Tryz.underlying42⟩
instance ty178:Siz Tryz.prog 42 32:=⟨by kernel_rfl⟩
instance ty180:Zer Tryz.prog 42 (.agg ((List.replicate 32 (.int .u8 0):List Value)).toArray):=⟨by kernel_rfl⟩
instance ty186:type_of% (Und.mk Tryz.underlying44):=⟨Tryz.underlying44⟩
instance ty187:Siz Tryz.prog 44 40:=⟨by kernel_rfl⟩
instance ty188:Byt Tryz.prog 44 128:=⟨by kernel_rfl⟩
instance ty189:Plc Tryz.prog 44 [(0,1),(1,1),(2,6),(8,32)]:=⟨fun fs w h=>by rw [Tryz.underlying44] at h;cases h;kernel_rfl⟩
instance ty190:Zer Tryz.prog 44 (.agg (([.int .i64 0,.int .u64 0,.int .u8 0,.string ByteArray.empty,.string ByteArray.empty,.string ByteArray.empty,.string ByteArray.empty,.int .u64 0]:List Value) ++ (List.replicate 32 (.int .u8 0):List Value)).toArray):=⟨by kernel_rfl⟩
instance ty191:Und Tryz.prog 45 (Go.TypeDesc.slice 133):=⟨Tryz.underlying45⟩
instance ty192:Siz Tryz.prog 45 1:=⟨by kernel_rfl⟩
instance ty200:type_of% (Und.mk Tryz.underlying47):=⟨Tryz.underlying47⟩
instance ty201:Siz Tryz.prog 47 76:=⟨by kernel_rfl⟩
instance ty203:Plc Tryz.prog 47 [(0,1),(1,1),(2,1),(3,40),(43,1),(44,32)]:=⟨fun fs w h=>by rw [Tryz.underlying47] at h;cases h;kernel_rfl⟩
instance ty204:Zer Tryz.prog 47 (.agg (([.int .u8 0,.int .u64 0,.int .u64 0,.int .i64 0,.int .u64 0,.int .u8 0,.string ByteArray.empty,.string ByteArray.empty,.string ByteArray.empty,.string ByteArray.empty,.int .u64 0]:List Value) ++ (List.replicate 32 (.int .u8 0):List Value) ++ ([.slice none 0 0]:List Value) ++ (List.replicate 32 (.int .u8 0):List Value)).toArray):=⟨by kernel_rfl⟩
instance ty215:type_of% (Und.mk Tryz.underlying51):=⟨Tryz.underlying51⟩
instance ty216:Siz Tryz.prog 51 121:=⟨by kernel_rfl⟩
instance ty217:Byt Tryz.prog 51 344:=⟨by kernel_rfl⟩
instance ty218:Plc Tryz.prog 51 [(0,1),(1,1),(2,11),(13,76),(89,32)]:=⟨fun fs w h=>by rw [Tryz.underlying51] at h;cases h;kernel_rfl⟩
instance ty219:Zer Tryz.prog 51 (.agg (([.int .i64 0,.int .u64 0]:List Value) ++ (List.replicate 11 (.int .u64 0):List Value) ++ ([.int .u8 0,.int .u64 0,.int .u64 0,.int .i64 0,.int .u64 0,.int .u8 0,.string ByteArray.empty,.string ByteArray.empty,.string ByteArray.empty,.string ByteArray.empty,.int .u64 0]:List Value) ++ (List.replicate 32 (.int .u8 0):List Value) ++ ([.slice none 0 0]:List Value) ++ (List.replicate 32 (.int .u8 0):List Value) ++ (List.replicate 32 (.int .u8 0):List Value)).toArray):=⟨by kernel_rfl⟩
instance ty284:Und Tryz.prog 71 (Go.TypeDesc.slice 81):=⟨Tryz.underlying71⟩
instance ty285:Siz Tryz.prog 71 1:=⟨by kernel_rfl⟩
instance ty288:Und Tryz.prog 72 (Go.TypeDesc.slice 161):=⟨Tryz.underlying72⟩
instance ty289:Siz Tryz.prog 72 1:=⟨by kernel_rfl⟩
instance ty292:Und Tryz.prog 73 (Go.TypeDesc.slice 253):=⟨Tryz.underlying73⟩
instance ty293:Siz Tryz.prog 73 1:=⟨by kernel_rfl⟩
instance ty301:type_of% (Und.mk Tryz.underlying75):=⟨Tryz.underlying75⟩
instance ty304:Plc Tryz.prog 75 [(0,1),(1,11),(12,1),(13,1),(14,1)]:=⟨fun fs w h=>by rw [Tryz.underlying75] at h;cases h;kernel_rfl⟩
instance ty305:Zer Tryz.prog 75 (.agg (([.int .i64 0]:List Value) ++ (List.replicate 11 (.int .u64 0):List Value) ++ ([.slice none 0 0,.slice none 0 0,.slice none 0 0]:List Value)).toArray):=⟨by kernel_rfl⟩
instance ty318:Und Tryz.prog 79 (Go.TypeDesc.slice 258):=⟨Tryz.underlying79⟩
instance ty319:Siz Tryz.prog 79 1:=⟨by kernel_rfl⟩
instance ty327:type_of% (Und.mk Tryz.underlying81):=⟨Tryz.underlying81⟩
instance ty328:Siz Tryz.prog 81 4:=⟨by kernel_rfl⟩
instance ty329:Byt Tryz.prog 81 64:=⟨by kernel_rfl⟩
instance ty330:Plc Tryz.prog 81 [(0,1),(1,1),(2,1),(3,1)]:=⟨fun fs w h=>by rw [Tryz.underlying81] at h;cases h;kernel_rfl⟩
instance ty331:Zer Tryz.prog 81 (.agg (([.int .u64 0,.int .u64 0,.slice none 0 0,.slice none 0 0]:List Value)).toArray):=⟨by kernel_rfl⟩
instance ty348:Und Tryz.prog 86 (Go.TypeDesc.slice 5):=⟨Tryz.underlying86⟩
instance ty349:Siz Tryz.prog 86 1:=⟨by kernel_rfl⟩
instance ty351:Zer Tryz.prog 86 (.slice none 0 0):=⟨by kernel_rfl⟩
instance ty357:type_of% (Und.mk Tryz.underlying88):=⟨Tryz.underlying88⟩
instance ty358:Siz Tryz.prog 88 12:=⟨by kernel_rfl⟩
instance ty366:Und Tryz.prog 90 (Go.TypeDesc.slice 24):=⟨Tryz.underlying90⟩
instance ty367:Siz Tryz.prog 90 1:=⟨by kernel_rfl⟩
instance ty470:Und Tryz.prog 118 (Go.TypeDesc.pointer 120):=⟨Tryz.underlying118⟩
instance ty479:type_of% (Und.mk Tryz.underlying120):=⟨Tryz.underlying120⟩
instance ty482:Plc Tryz.prog 120 [(0,1),(1,1),(2,1),(3,1),(4,1),(5,1),(6,1),(7,1)]:=⟨fun fs w h=>by rw [Tryz.underlying120] at h;cases h;kernel_rfl⟩
instance ty483:Zer Tryz.prog 120 (.agg (([.pointer none,.int .i64 0,.int .i64 0,.slice none 0 0,.int .u64 0,.int .u64 0,.bool false,.int .i64 0]:List Value)).toArray):=⟨by kernel_rfl⟩
instance ty488:Und Tryz.prog 122 (Go.TypeDesc.func #[118] #[47,4] false):=⟨Tryz.underlying122⟩
instance ty489:Siz Tryz.prog 122 1:=⟨by kernel_rfl⟩
instance ty492:Und Tryz.prog 123 (Go.TypeDesc.array 5 122):=⟨Tryz.underlying123⟩
instance ty493:Siz Tryz.prog 123 5:=⟨by kernel_rfl⟩
instance ty495:Zer Tryz.prog 123 (.agg ((List.replicate 5 (.nilFunc):List Value)).toArray):=⟨by kernel_rfl⟩
instance ty500:Und Tryz.prog 125 (Go.TypeDesc.func #[47] #[4] false):=⟨Tryz.underlying125⟩
instance ty501:Siz Tryz.prog 125 1:=⟨by kernel_rfl⟩
instance ty504:Und Tryz.prog 126 (Go.TypeDesc.map 24 146):=⟨Tryz.underlying126⟩
instance ty505:Siz Tryz.prog 126 1:=⟨by kernel_rfl⟩
instance ty508:Und Tryz.prog 127 (Go.TypeDesc.slice 137):=⟨Tryz.underlying127⟩
instance ty509:Siz Tryz.prog 127 1:=⟨by kernel_rfl⟩
instance ty512:Und Tryz.prog 128 (Go.TypeDesc.slice 235):=⟨Tryz.underlying128⟩
instance ty513:Siz Tryz.prog 128 1:=⟨by kernel_rfl⟩
instance ty521:type_of% (Und.mk Tryz.underlying130):=⟨Tryz.underlying130⟩
instance ty524:Plc Tryz.prog 130 [(0,1),(1,11),(12,1),(13,1),(14,1)]:=⟨fun fs w h=>by rw [Tryz.underlying130] at h;cases h;kernel_rfl⟩
instance ty525:Zer Tryz.prog 130 (.agg (([.int .i64 0]:List Value) ++ (List.replicate 11 (.int .u64 0):List Value) ++ ([.map none,.slice none 0 0,.slice none 0 0]:List Value)).toArray):=⟨by kernel_rfl⟩
instance ty535:type_of% (Und.mk Tryz.underlying133):=⟨Tryz.underlying133⟩
instance ty536:Siz Tryz.prog 133 2:=⟨by kernel_rfl⟩
instance ty537:Byt Tryz.prog 133 16:=⟨by kernel_rfl⟩
instance ty538:Plc Tryz.prog 133 [(0,1),(1,1)]:=⟨fun fs w h=>by rw [Tryz.underlying133] at h;cases h;kernel_rfl⟩
instance ty539:Zer Tryz.prog 133 (.agg (([.int .i64 0,.int .u64 0]:List Value)).toArray):=⟨by kernel_rfl⟩
instance ty552:Und Tryz.prog 137 (Go.TypeDesc.pointer 188):=⟨Tryz.underlying137⟩
instance ty553:Siz Tryz.prog 137 1:=⟨by kernel_rfl⟩
instance ty554:Byt Tryz.prog 137 8:=⟨by kernel_rfl⟩
instance ty555:Zer Tryz.prog 137 (.pointer none):=⟨by kernel_rfl⟩
instance ty588:Und Tryz.prog 146 (Go.TypeDesc.pointer 150):=⟨Tryz.underlying146⟩
instance ty591:Zer Tryz.prog 146 (.pointer none):=⟨by kernel_rfl⟩
instance ty596:Und Tryz.prog 148 (Go.TypeDesc.map 152 4):=⟨Tryz.underlying148⟩
instance ty597:Siz Tryz.prog 148 1:=⟨by kernel_rfl⟩
instance ty605:type_of% (Und.mk Tryz.underlying150):=⟨Tryz.underlying150⟩
instance ty608:Plc Tryz.prog 150 [(0,1),(1,1),(2,1),(3,1),(4,1)]:=⟨fun fs w h=>by rw [Tryz.underlying150] at h;cases h;kernel_rfl⟩
instance ty609:Zer Tryz.prog 150 (.agg (([.int .u64 0,.int .i64 0,.slice none 0 0,.slice none 0 0,.map none]:List Value)).toArray):=⟨by kernel_rfl⟩
instance ty615:type_of% (Und.mk Tryz.underlying152):=⟨Tryz.underlying152⟩
instance ty618:Plc Tryz.prog 152 [(0,1),(1,1)]:=⟨fun fs w h=>by rw [Tryz.underlying152] at h;cases h;kernel_rfl⟩
instance ty619:Zer Tryz.prog 152 (.agg (([.int .i64 0,.int .u64 0]:List Value)).toArray):=⟨by kernel_rfl⟩
instance ty646:Und Tryz.prog 161 (Go.TypeDesc.pointer 202):=⟨Tryz.underlying161⟩
instance ty647:Siz Tryz.prog 161 1:=⟨by kernel_rfl⟩
instance ty648:Byt Tryz.prog 161 8:=⟨by kernel_rfl⟩
instance ty649:Zer Tryz.prog 161 (.pointer none):=⟨by kernel_rfl⟩
instance ty742:Und Tryz.prog 186 (Go.TypeDesc.map 24 3):=⟨Tryz.underlying186⟩
instance ty743:Siz Tryz.prog 186 1:=⟨by kernel_rfl⟩
instance ty751:type_of% (Und.mk Tryz.underlying188):=⟨Tryz.underlying188⟩
instance ty754:Plc Tryz.prog 188 [(0,1),(1,1),(2,1)]:=⟨fun fs w h=>by rw [Tryz.underlying188] at h;cases h;kernel_rfl⟩
instance ty755:Zer Tryz.prog 188 (.agg (([.int .u64 0,.slice none 0 0,.map none]:List Value)).toArray):=⟨by kernel_rfl⟩
instance ty793:Und Tryz.prog 199 (Go.TypeDesc.int Go.IntKind.u64):=⟨Tryz.underlying199⟩
instance ty797:Und Tryz.prog 200 (Go.TypeDesc.slice 204):=⟨Tryz.underlying200⟩
instance ty798:Siz Tryz.prog 200 1:=⟨by kernel_rfl⟩
instance ty806:type_of% (Und.mk Tryz.underlying202):=⟨Tryz.underlying202⟩
instance ty809:Plc Tryz.prog 202 [(0,1),(1,1)]:=⟨fun fs w h=>by rw [Tryz.underlying202] at h;cases h;kernel_rfl⟩
instance ty810:Zer Tryz.prog 202 (.agg (([.int .u64 0,.slice none 0 0]:List Value)).toArray):=⟨by kernel_rfl⟩
instance ty816:type_of% (Und.mk Tryz.underlying204):=⟨Tryz.underlying204⟩
instance ty817:Siz Tryz.prog 204 2:=⟨by kernel_rfl⟩
instance ty818:Byt Tryz.prog 204 16:=⟨by kernel_rfl⟩
instance ty819:Plc Tryz.prog 204 [(0,1),(1,1)]:=⟨fun fs w h=>by rw [Tryz.underlying204] at h;cases h;kernel_rfl⟩
instance ty820:Zer Tryz.prog 204 (.agg (([.int .u64 0,.int .i64 0]:List Value)).toArray):=⟨by kernel_rfl⟩
instance ty899:Und Tryz.prog 225 (Go.TypeDesc.func #[86,47] #[86] false):=⟨Tryz.underlying225⟩
instance ty900:Siz Tryz.prog 225 1:=⟨by kernel_rfl⟩
instance ty903:Und Tryz.prog 226 (Go.TypeDesc.func #[232,234] #[] false):=⟨Tryz.underlying226⟩
instance ty904:Siz Tryz.prog 226 1:=⟨by kernel_rfl⟩
instance ty912:type_of% (Und.mk Tryz.underlying228):=⟨Tryz.underlying228⟩
instance ty913:Siz Tryz.prog 228 3:=⟨by kernel_rfl⟩
instance ty915:Plc Tryz.prog 228 [(0,1),(1,1),(2,1)]:=⟨fun fs w h=>by rw [Tryz.underlying228] at h;cases h;kernel_rfl⟩
instance ty916:Zer Tryz.prog 228 (.agg (([.nilFunc,.nilFunc,.nilFunc]:List Value)).toArray):=⟨by kernel_rfl⟩
instance ty918:Und Tryz.prog 230 (Go.TypeDesc.map 5 228):=⟨Tryz.underlying230⟩
instance ty926:Und Tryz.prog 232 (Go.TypeDesc.pointer 290):=⟨Tryz.underlying232⟩
instance ty938:Und Tryz.prog 235 (Go.TypeDesc.slice 237):=⟨Tryz.underlying235⟩
instance ty939:Siz Tryz.prog 235 1:=⟨by kernel_rfl⟩
instance ty940:Byt Tryz.prog 235 24:=⟨by kernel_rfl⟩
instance ty941:Zer Tryz.prog 235 (.slice none 0 0):=⟨by kernel_rfl⟩
instance ty947:type_of% (Und.mk Tryz.underlying237):=⟨Tryz.underlying237⟩
instance ty948:Siz Tryz.prog 237 2:=⟨by kernel_rfl⟩
instance ty949:Byt Tryz.prog 237 16:=⟨by kernel_rfl⟩
instance ty950:Plc Tryz.prog 237 [(0,1),(1,1)]:=⟨fun fs w h=>by rw [Tryz.underlying237] at h;cases h;kernel_rfl⟩
instance ty951:Zer Tryz.prog 237 (.agg (([.int .u64 0,.int .u64 0]:List Value)).toArray):=⟨by kernel_rfl⟩
instance ty980:Und Tryz.prog 245 (Go.TypeDesc.int Go.IntKind.u32):=⟨Tryz.underlying245⟩
instance ty981:Siz Tryz.prog 245 1:=⟨by kernel_rfl⟩
instance ty984:Und Tryz.prog 246 (Go.TypeDesc.array 8 245):=⟨Tryz.underlying246⟩
instance ty985:Siz Tryz.prog 246 8:=⟨by kernel_rfl⟩
instance ty987:Zer Tryz.prog 246 (.agg ((List.replicate 8 (.int .u32 0):List Value)).toArray):=⟨by kernel_rfl⟩
instance ty992:Und Tryz.prog 248 (Go.TypeDesc.array 64 5):=⟨Tryz.underlying248⟩
instance ty993:Siz Tryz.prog 248 64:=⟨by kernel_rfl⟩
instance ty995:Zer Tryz.prog 248 (.agg ((List.replicate 64 (.int .u8 0):List Value)).toArray):=⟨by kernel_rfl⟩
instance ty1004:Und Tryz.prog 251 (Go.TypeDesc.int Go.IntKind.u16):=⟨Tryz.underlying251⟩
instance ty1012:Und Tryz.prog 253 (Go.TypeDesc.slice 255):=⟨Tryz.underlying253⟩
instance ty1013:Siz Tryz.prog 253 1:=⟨by kernel_rfl⟩
instance ty1014:Byt Tryz.prog 253 24:=⟨by kernel_rfl⟩
instance ty1015:Zer Tryz.prog 253 (.slice none 0 0):=⟨by kernel_rfl⟩
instance ty1021:type_of% (Und.mk Tryz.underlying255):=⟨Tryz.underlying255⟩
instance ty1022:Siz Tryz.prog 255 2:=⟨by kernel_rfl⟩
instance ty1023:Byt Tryz.prog 255 16:=⟨by kernel_rfl⟩
instance ty1024:Plc Tryz.prog 255 [(0,1),(1,1)]:=⟨fun fs w h=>by rw [Tryz.underlying255] at h;cases h;kernel_rfl⟩
instance ty1025:Zer Tryz.prog 255 (.agg (([.int .u64 0,.int .u64 0]:List Value)).toArray):=⟨by kernel_rfl⟩
instance ty1035:type_of% (Und.mk Tryz.underlying258):=⟨Tryz.underlying258⟩
instance ty1036:Siz Tryz.prog 258 41:=⟨by kernel_rfl⟩
instance ty1037:Byt Tryz.prog 258 136:=⟨by kernel_rfl⟩
instance ty1038:Plc Tryz.prog 258 [(0,1),(1,40)]:=⟨fun fs w h=>by rw [Tryz.underlying258] at h;cases h;kernel_rfl⟩
instance ty1039:Zer Tryz.prog 258 (.agg (([.int .u64 0,.int .i64 0,.int .u64 0,.int .u8 0,.string ByteArray.empty,.string ByteArray.empty,.string ByteArray.empty,.string ByteArray.empty,.int .u64 0]:List Value) ++ (List.replicate 32 (.int .u8 0):List Value)).toArray):=⟨by kernel_rfl⟩
instance ty1164:type_of% (Und.mk Tryz.underlying290):=⟨Tryz.underlying290⟩
instance ty1167:Plc Tryz.prog 290 [(0,1),(1,1)]:=⟨fun fs w h=>by rw [Tryz.underlying290] at h;cases h;kernel_rfl⟩
instance ty1168:Zer Tryz.prog 290 (.agg (([.slice none 0 0,.bool false]:List Value)).toArray):=⟨by kernel_rfl⟩
instance ty1177:Und Tryz.prog 293 (Go.TypeDesc.array 64 245):=⟨Tryz.underlying293⟩
instance ty1178:Siz Tryz.prog 293 64:=⟨by kernel_rfl⟩
instance ty1180:Zer Tryz.prog 293 (.agg ((List.replicate 64 (.int .u32 0):List Value)).toArray):=⟨by kernel_rfl⟩
instance ty1193:Und Tryz.prog 297 (Go.TypeDesc.int Go.IntKind.u64):=⟨Tryz.underlying297⟩
instance ty1194:Siz Tryz.prog 297 1:=⟨by kernel_rfl⟩
instance ty1196:Zer Tryz.prog 297 (.int .u64 0):=⟨by kernel_rfl⟩
instance ty1233:Und Tryz.prog 307 (Go.TypeDesc.slice 9):=⟨Tryz.underlying307⟩
instance ty1262:Und Tryz.prog 315 (Go.TypeDesc.slice 86):=⟨Tryz.underlying315⟩
instance ty1286:Und Tryz.prog 321 (Go.TypeDesc.pointer 327):=⟨Tryz.underlying321⟩
instance ty1311:type_of% (Und.mk Tryz.underlying327):=⟨Tryz.underlying327⟩
instance ty1312:Siz Tryz.prog 327 74:=⟨by kernel_rfl⟩
instance ty1314:Plc Tryz.prog 327 [(0,8),(8,64),(72,1),(73,1)]:=⟨fun fs w h=>by rw [Tryz.underlying327] at h;cases h;kernel_rfl⟩
instance ty1315:Zer Tryz.prog 327 (.agg ((List.replicate 8 (.int .u32 0):List Value) ++ (List.replicate 64 (.int .u8 0):List Value) ++ ([.int .i64 0,.int .u64 0]:List Value)).toArray):=⟨by kernel_rfl⟩
instance ty1328:Und Tryz.prog 331 (Go.TypeDesc.slice 245):=⟨Tryz.underlying331⟩
instance ty1412:Fun Tryz.prog 13:=.i Tryz.func13
instance ty1414:Fun Tryz.prog 15:=.i Tryz.func15
instance ty1415:Fun Tryz.prog 16:=.i Tryz.func16
instance ty1416:Fun Tryz.prog 17:=.i Tryz.func17
instance ty1417:Fun Tryz.prog 18:=.i Tryz.func18
instance ty1418:Fun Tryz.prog 19:=.i Tryz.func19
instance ty1419:Fun Tryz.prog 20:=.i Tryz.func20
instance ty1420:Fun Tryz.prog 21:=.i Tryz.func21
instance ty1421:Fun Tryz.prog 22:=.i Tryz.func22
instance ty1422:Fun Tryz.prog 23:=.i Tryz.func23
instance ty1423:Fun Tryz.prog 24:=.i Tryz.func24
instance ty1424:Fun Tryz.prog 25:=.i Tryz.func25
instance ty1425:Fun Tryz.prog 26:=.i Tryz.func26
instance ty1434:Fun Tryz.prog 35:=.i Tryz.func35
instance ty1435:Fun Tryz.prog 36:=.i Tryz.func36
instance ty1436:Fun Tryz.prog 37:=.i Tryz.func37
instance ty1437:Fun Tryz.prog 38:=.i Tryz.func38
instance ty1444:Fun Tryz.prog 45:=.i Tryz.func45
instance ty1445:Fun Tryz.prog 46:=.i Tryz.func46
instance ty1446:Fun Tryz.prog 47:=.i Tryz.func47
instance ty1447:Fun Tryz.prog 48:=.i Tryz.func48
instance ty1448:Fun Tryz.prog 49:=.i Tryz.func49
instance ty1449:Fun Tryz.prog 50:=.i Tryz.func50
instance ty1450:Fun Tryz.prog 51:=.i Tryz.func51
instance ty1451:Fun Tryz.prog 52:=.i Tryz.func52
instance ty1452:Fun Tryz.prog 53:=.i Tryz.func53
instance ty1453:Fun Tryz.prog 54:=.i Tryz.func54
instance ty1454:Fun Tryz.prog 55:=.i Tryz.func55
instance ty1455:Fun Tryz.prog 56:=.i Tryz.func56
instance ty1456:Fun Tryz.prog 57:=.i Tryz.func57
instance ty1457:Fun Tryz.prog 58:=.i Tryz.func58
instance ty1458:Fun Tryz.prog 59:=.i Tryz.func59
instance ty1459:Fun Tryz.prog 60:=.i Tryz.func60
instance ty1460:Fun Tryz.prog 61:=.i Tryz.func61
instance ty1461:Fun Tryz.prog 62:=.i Tryz.func62
instance ty1462:Fun Tryz.prog 63:=.i Tryz.func63
instance ty1463:Fun Tryz.prog 64:=.i Tryz.func64
instance ty1464:Fun Tryz.prog 65:=.i Tryz.func65
instance ty1471:Fun Tryz.prog 72:=.i Tryz.func72
instance ty1472:Fun Tryz.prog 73:=.i Tryz.func73
instance ty1473:Fun Tryz.prog 74:=.i Tryz.func74
instance ty1474:Fun Tryz.prog 75:=.i Tryz.func75
instance ty1480:Fun Tryz.prog 81:=.i Tryz.func81
instance ty1481:Fun Tryz.prog 82:=.i Tryz.func82
instance ty1482:Fun Tryz.prog 83:=.i Tryz.func83
instance ty1483:Fun Tryz.prog 84:=.i Tryz.func84
instance ty1484:Fun Tryz.prog 85:=.i Tryz.func85
instance ty1485:Fun Tryz.prog 86:=.i Tryz.func86
instance ty1486:Fun Tryz.prog 87:=.i Tryz.func87
instance ty1487:Fun Tryz.prog 88:=.i Tryz.func88
instance ty1488:Fun Tryz.prog 89:=.i Tryz.func89
instance ty1489:Fun Tryz.prog 90:=.i Tryz.func90
instance ty1490:Fun Tryz.prog 91:=.i Tryz.func91
instance ty1491:Fun Tryz.prog 92:=.i Tryz.func92
instance ty1492:Fun Tryz.prog 93:=.i Tryz.func93
instance ty1493:Fun Tryz.prog 94:=.i Tryz.func94
instance ty1494:Fun Tryz.prog 95:=.i Tryz.func95
instance ty1495:Fun Tryz.prog 96:=.i Tryz.func96
instance ty1496:Fun Tryz.prog 97:=.i Tryz.func97
instance ty1497:Fun Tryz.prog 98:=.i Tryz.func98
instance ty1498:Fun Tryz.prog 99:=.i Tryz.func99
instance ty1499:Fun Tryz.prog 100:=.i Tryz.func100
instance ty1500:Fun Tryz.prog 101:=.i Tryz.func101
instance ty1501:Fun Tryz.prog 102:=.i Tryz.func102
instance ty1502:Fun Tryz.prog 103:=.i Tryz.func103
instance ty1503:Fun Tryz.prog 104:=.i Tryz.func104
instance ty1504:Fun Tryz.prog 105:=.i Tryz.func105
instance ty1505:Fun Tryz.prog 106:=.i Tryz.func106
instance ty1506:Fun Tryz.prog 107:=.i Tryz.func107
instance ty1507:Fun Tryz.prog 108:=.i Tryz.func108
instance ty1508:Fun Tryz.prog 109:=.i Tryz.func109
instance ty1510:Fun Tryz.prog 111:=.i Tryz.func111
instance ty1512:Fun Tryz.prog 113:=.i Tryz.func113
instance ty1513:Fun Tryz.prog 114:=.i Tryz.func114
instance ty1514:Fun Tryz.prog 115:=.i Tryz.func115
instance ty1515:Fun Tryz.prog 116:=.i Tryz.func116
instance ty1516:Fun Tryz.prog 117:=.i Tryz.func117
instance ty1523:Fun Tryz.prog 124:=.i Tryz.func124
instance ty1524:Fun Tryz.prog 125:=.i Tryz.func125
instance ty1525:Fun Tryz.prog 126:=.i Tryz.func126
instance ty1526:Fun Tryz.prog 127:=.i Tryz.func127
instance ty1527:Fun Tryz.prog 128:=.i Tryz.func128
instance ty1528:Fun Tryz.prog 129:=.i Tryz.func129
instance ty1529:Fun Tryz.prog 130:=.i Tryz.func130
instance ty1530:Fun Tryz.prog 131:=.i Tryz.func131
instance ty1531:Fun Tryz.prog 132:=.i Tryz.func132
instance ty1532:Fun Tryz.prog 133:=.i Tryz.func133
instance ty1533:Fun Tryz.prog 134:=.i Tryz.func134
instance ty1534:Fun Tryz.prog 135:=.i Tryz.func135
instance ty1535:Fun Tryz.prog 136:=.i Tryz.func136
instance ty1536:Fun Tryz.prog 137:=.i Tryz.func137
instance ty1537:Fun Tryz.prog 138:=.i Tryz.func138
instance ty1538:Fun Tryz.prog 139:=.i Tryz.func139
instance ty1539:Fun Tryz.prog 140:=.i Tryz.func140
instance ty1540:Fun Tryz.prog 141:=.i Tryz.func141
instance ty1541:Fun Tryz.prog 142:=.i Tryz.func142
instance ty1542:Fun Tryz.prog 143:=.i Tryz.func143
instance ty1543:Fun Tryz.prog 144:=.i Tryz.func144
instance ty1544:Fun Tryz.prog 145:=.i Tryz.func145
instance ty1545:Fun Tryz.prog 146:=.i Tryz.func146
instance ty1546:Fun Tryz.prog 147:=.i Tryz.func147
instance ty1547:Fun Tryz.prog 148:=.i Tryz.func148
instance ty1548:Fun Tryz.prog 149:=.i Tryz.func149
instance ty1549:Fun Tryz.prog 150:=.i Tryz.func150
instance ty1550:Fun Tryz.prog 151:=.i Tryz.func151
instance ty1551:Fun Tryz.prog 152:=.i Tryz.func152
instance ty1552:Fun Tryz.prog 153:=.i Tryz.func153
instance ty1562:Fun Tryz.prog 163:=.i Tryz.func163
instance ty1563:Fun Tryz.prog 164:=.i Tryz.func164
instance ty1572:Fun Tryz.prog 173:=.i Tryz.func173
instance ty1573:Fun Tryz.prog 174:=.i Tryz.func174
instance ty1574:Fun Tryz.prog 175:=.i Tryz.func175
instance ty1575:Fun Tryz.prog 176:=.i Tryz.func176
instance ty1576:Fun Tryz.prog 177:=.i Tryz.func177
instance ty1577:Fun Tryz.prog 178:=.i Tryz.func178
instance ty1578:Fun Tryz.prog 179:=.i Tryz.func179
instance ty1579:Fun Tryz.prog 180:=.i Tryz.func180
instance ty1580:Fun Tryz.prog 181:=.i Tryz.func181
instance ty1581:Fun Tryz.prog 182:=.i Tryz.func182
instance ty1582:Fun Tryz.prog 183:=.i Tryz.func183
instance ty1583:Fun Tryz.prog 184:=.i Tryz.func184
instance ty1584:Fun Tryz.prog 185:=.i Tryz.func185
instance ty1585:Fun Tryz.prog 186:=.i Tryz.func186
instance ty1586:Fun Tryz.prog 187:=.i Tryz.func187
instance ty1587:Fun Tryz.prog 188:=.i Tryz.func188
instance ty1588:Fun Tryz.prog 189:=.i Tryz.func189
instance ty1589:Fun Tryz.prog 190:=.i Tryz.func190
instance ty1590:Fun Tryz.prog 191:=.i Tryz.func191
instance ty1591:Fun Tryz.prog 192:=.i Tryz.func192
instance ty1592:Fun Tryz.prog 193:=.i Tryz.func193
instance ty1593:Fun Tryz.prog 194:=.i Tryz.func194
instance ty1594:Fun Tryz.prog 195:=.i Tryz.func195
instance ty1595:Fun Tryz.prog 196:=.i Tryz.func196
instance ty1596:Fun Tryz.prog 197:=.i Tryz.func197
instance ty1597:Fun Tryz.prog 198:=.i Tryz.func198
instance ty1598:Fun Tryz.prog 199:=.i Tryz.func199
instance ty1599:Fun Tryz.prog 200:=.i Tryz.func200
instance ty1600:Fun Tryz.prog 201:=.i Tryz.func201
instance ty1601:Fun Tryz.prog 202:=.i Tryz.func202
instance ty1602:Fun Tryz.prog 203:=.i Tryz.func203
instance ty1603:Fun Tryz.prog 204:=.i Tryz.func204
instance ty1604:Fun Tryz.prog 205:=.i Tryz.func205
instance ty1605:Fun Tryz.prog 206:=.i Tryz.func206
instance ty1606:Fun Tryz.prog 207:=.i Tryz.func207
instance ty1607:Fun Tryz.prog 208:=.i Tryz.func208
instance ty1608:Fun Tryz.prog 209:=.i Tryz.func209
instance ty1609:Fun Tryz.prog 210:=.i Tryz.func210
instance ty1610:Fun Tryz.prog 211:=.i Tryz.func211
instance ty1611:Fun Tryz.prog 212:=.i Tryz.func212
instance ty1612:Fun Tryz.prog 213:=.i Tryz.func213
instance ty1613:Fun Tryz.prog 214:=.i Tryz.func214
instance ty1614:Fun Tryz.prog 215:=.i Tryz.func215
instance ty1615:Fun Tryz.prog 216:=.i Tryz.func216
instance ty1616:Fun Tryz.prog 217:=.i Tryz.func217
instance ty1617:Fun Tryz.prog 218:=.i Tryz.func218
instance ty1619:Fun Tryz.prog 220:=.i Tryz.func220
instance ty1620:Fun Tryz.prog 221:=.i Tryz.func221
instance ty1629:Fun Tryz.prog 230:=.i Tryz.func230
instance ty1630:Fun Tryz.prog 231:=.i Tryz.func231
instance ty1631:Fun Tryz.prog 232:=.i Tryz.func232
instance ty1632:Fun Tryz.prog 233:=.i Tryz.func233
instance ty1633:Fun Tryz.prog 234:=.i Tryz.func234
instance ty1634:Fun Tryz.prog 235:=.i Tryz.func235
instance ty1635:Fun Tryz.prog 236:=.i Tryz.func236
instance ty1636:Fun Tryz.prog 237:=.i Tryz.func237
instance ty1637:Fun Tryz.prog 238:=.i Tryz.func238
instance ty1638:Fun Tryz.prog 239:=.i Tryz.func239
instance ty1639:Fun Tryz.prog 240:=.i Tryz.func240
instance ty1640:Fun Tryz.prog 241:=.i Tryz.func241
instance ty1641:Fun Tryz.prog 242:=.i Tryz.func242
instance ty1642:Fun Tryz.prog 243:=.i Tryz.func243
instance ty1643:Fun Tryz.prog 244:=.i Tryz.func244
instance ty1644:Fun Tryz.prog 245:=.i Tryz.func245
instance ty1645:Fun Tryz.prog 246:=.i Tryz.func246
instance ty1646:Fun Tryz.prog 247:=.i Tryz.func247
instance ty1648:Fun Tryz.prog 249:=.i Tryz.func249
instance ty1653:Fun Tryz.prog 254:=.i Tryz.func254
instance ty1654:Fun Tryz.prog 255:=.i Tryz.func255
instance ty1655:Fun Tryz.prog 256:=.i Tryz.func256
instance ty1656:Fun Tryz.prog 257:=.i Tryz.func257
instance ty1657:Fun Tryz.prog 258:=.i Tryz.func258
instance ty1658:Fun Tryz.prog 259:=.i Tryz.func259
instance ty1660:Fun Tryz.prog 261:=.i Tryz.func261
instance ty1661:Fun Tryz.prog 262:=.i Tryz.func262
instance ty1662:Fun Tryz.prog 263:=.i Tryz.func263
instance ty1663:Fun Tryz.prog 264:=.i Tryz.func264
instance ty1664:Fun Tryz.prog 265:=.i Tryz.func265
instance ty1665:Fun Tryz.prog 266:=.i Tryz.func266
instance ty1666:Fun Tryz.prog 267:=.i Tryz.func267
instance ty1667:Fun Tryz.prog 268:=.i Tryz.func268
instance ty1668:Fun Tryz.prog 269:=.i Tryz.func269
def byteAt (n:Int) (i:Nat):UInt8:=UInt8.ofNat ((n.fdiv (2 ^ (8 * i))) % 256).toNat
def beTop (k:Nat) (n:Int):Nat→List UInt8
 | 0=>[]
 | i + 1=>beTop k n i ++ [byteAt n (k - 1 - i)]
def be (k:Nat) (n:Int):List UInt8:=beTop k n k
theorem beTop_len (k:Nat) (n:Int):∀ i,(beTop k n i).length = i
 | 0=>rfl
 | i + 1=>by simp [beTop,beTop_len k n i]
theorem be_len (k:Nat) (n:Int):(be k n).length = k:=beTop_len k n k
theorem byteAt_wrap (n:Int) (i:Nat):IntKind.u8.wrap (n.fdiv (2 ^ (8 * i))) = ((byteAt n i).toNat:Int):=by
 have h:IntKind.u8.wrap (n.fdiv (2 ^ (8 * i))) = (n.fdiv (2 ^ (8 * i))) % 256:=by
  simp [IntKind.wrap,IntKind.signed,IntKind.bits]
 rw [h];unfold byteAt;have h1:0 ≤ (n.fdiv (2 ^ (8 * i))) % 256:=Int.emod_nonneg _ (by decide);have h2:(n.fdiv (2 ^ (8 * i))) % 256 < 256:=Int.emod_lt_of_pos _ (by decide)
 generalize (n.fdiv (2 ^ (8 * i))) % 256 = z at h1 h2;exact qcu
theorem zad (l:List UInt8):(bytesV l).length = l.length:=by simp [bytesV]
theorem zal (a b:List UInt8):bytesV (a ++ b) = bytesV a ++ bytesV b:=by simp [bytesV]
theorem zas (l:List UInt8):∀ v ∈ bytesV l,one v = true:=by
 intro v hv;obtain ⟨b,_,rfl⟩:=List.mem_map.1 hv;rfl
theorem Fn.slc_cap {xs:List Value} (h:At A (slc p m c T sz xs) A' (slc p m c T sz xs))
  (k:m ≤ c→c ≤ 9223372036854775807→xs.length = m * sz→Fn P fid args f A R):Fn P fid args f A R:=fun base w s=>by
 obtain ⟨h1,h2,h3⟩:=s.slc_at h
 rcases h3 with ⟨rfl,rfl⟩ | ⟨b,sp,rfl,h4,_⟩
 ·exact k (Nat.le_refl _) h2 h1 base w s
 ·exact k h4 h2 h1 base w s
def BytesR (l:List UInt8) (f:Frag) (A:List HP):Value→Frag→List HP→Prop:=fun v f' A'=>∃ p c,v = .slice p l.length c ∧ f' = f ∧ A' = slc p l.length c 5 1 (bytesV l)::A
variable {l:List UInt8}
section
variable (f:Frag) (A:List HP)
theorem cloneB_fn (hs:Src Tryz.prog f A (.slice p l.length c) 1 l.length (bytesV l)) (hn:p = none→l = []) (hl:l.length ≤ 100000000000) :
  Fn Tryz.prog 206 [.slice p l.length c] f A (BytesR l f A):=by
 cases p with
 | none =>
  have:=hn rfl;subst this
  refine Fn.e1 Tryz.func206 Tryz.ntmps206 fun base=>?_;refine gg ?_;refine H.slc0 5 1 ?_;exact H.r1 ⟨none,0,rfl,rfl,rfl⟩
 | some a =>
  refine Fn.e1 Tryz.func206 Tryz.ntmps206 fun base=>?_;refine qfo fun eb=>?_;repeat (((apply H.Ap);(iterate 3 exact rfl)))
  refine H.imp (A':=slc (some ⟨eb,0,none⟩) 0 0 5 1 []::A) ?_ ?_
  ·rintro x ⟨m1,m2,d,e,a,r⟩;exact qbB
  refine H.Av rfl rfl rfl rfl rfl (fun p' c'=>.here _ _ _) hs.cons (zas l) rfl (by omega) (by omega) fun p' c'=>?_;refine gZ ?_;refine H.Ad rfl rfl (A':=slc p' l.length c' 5 1 (bytesV l)::A) ?_ ⟨p',c',by rw [Nat.zero_add],rfl,rfl⟩;simp only [List.nil_append,Nat.zero_add];exact fun _ h=>h
theorem growB_fn (hl:l.length ≤ 100000000000) (hm:m ≤ 1000000) :
  Fn Tryz.prog 249 [.slice p l.length c,.int .i64 (m:Nat)] f (slc p l.length c 5 1 (bytesV l)::A) (BytesR l f A):=by
 refine Fn.slc_cap (.here _ _ _) fun hc hcm _=>?_;by_cases hg:c < l.length + m
 ·refine Fn.e2 Tryz.func249 Tryz.ntmps249 fun base=>?_;refine gQ ?_;skip;refine H.slc_full fun sp hsp _=>?_;refine H.sliceTo rfl rfl rfl rfl (Nat.le_refl _) rfl ?_;refine gL ?_;refine H.appendZ (m:=m - (c - l.length)) rfl rfl rfl rfl (by omega) (fun p' c'=>.here _ _ _) rfl (by omega) (by omega) (by omega) (by omega) fun p' c'=>?_;repeat (((first | apply H.Ap | apply H.Bi);(iterate 3 exact rfl)))
  refine H.slc_cap (.here _ _ _) fun hc' _ _=>?_;refine H.sliceTo rfl rfl rfl rfl (by omega) rfl ?_;refine H.slc_trunc (m':=l.length) (ys:=bytesV l) (by omega) hc' ?_ ?_
  ·rw [List.append_assoc,Nat.mul_one,List.take_append_of_le_length (by rw [zad];exact Nat.le_refl _),List.take_of_length_le (by rw [zad];exact Nat.le_refl _)]
  refine gZ ?_;exact H.r1 ⟨p',c',rfl,rfl,rfl⟩
 ·refine Fn.e2 Tryz.func249 Tryz.ntmps249 fun base=>?_;refine gQ ?_;skip;exact H.r1 ⟨p,c,rfl,rfl,rfl⟩
theorem put_fn {k:Nat} {n:Int} (hs:Src Tryz.prog f A (.slice p l.length c) 1 l.length (bytesV l)) (hn:p = none→l = []) (hl:l.length ≤ 10000000000) (hk:k ≤ 8) :
  Fn Tryz.prog 237 [.slice p l.length c,.int .u64 n,.int .i64 (k:Nat)] f A (BytesR (l ++ be k n) f A):=by
 refine Fn.e3 Tryz.func237 Tryz.ntmps237 fun base=>?_;refine gL ?_;refine H.Aq rfl rfl rfl (cloneB_fn f A hs hn (by omega)) fun p1 c1=>?_;refine gL ?_;refine H.Aq rfl rfl rfl (growB_fn f A (by omega) (by omega)) fun p2 c2=>?_;exact qab
theorem putH_fn {k:Nat} {n:Int} (hs:Src Tryz.prog f A (.slice p l.length c) 1 l.length (bytesV l)) (hn:p = none→l = []) (hl:l.length ≤ 10000000000) (hk:k ≤ 2) :
  Fn Tryz.prog 264 [.slice p l.length c,.int .u16 n,.int .i64 (k:Nat)] f A (BytesR (l ++ be k n) f A):=by
 refine Fn.e3 Tryz.func264 Tryz.ntmps264 fun base=>?_;refine gL ?_;refine H.Aq rfl rfl rfl (cloneB_fn f A hs hn (by omega)) fun p1 c1=>?_;refine gL ?_;refine H.Aq rfl rfl rfl (growB_fn f A (by omega) (by omega)) fun p2 c2=>?_;refine gX ?_
 refine H.loop (ι:=Nat × Option Addr × Nat) (fun i=>[(8,.int .i64 ((k:Int) - 1 - (i.1:Int))),(7,.slice i.2.1 (l ++ beTop k n i.1).length i.2.2),(1,.int .u16 n)]) (fun _=>f)
  (fun i=>slc i.2.1 (l ++ beTop k n i.1).length i.2.2 5 1 (bytesV (l ++ beTop k n i.1))::A) (fun i=>i.1 ≤ k) (fun i=>k - i.1) (0,p2,c2) (Nat.zero_le _) ?_ rfl ?_ fun i hi=>?_
 ·refine ⟨?_,?_,rfl,trivial⟩
  ·show some (Value.int .i64 ((k:Int) - 1)) = some (Value.int .i64 ((k:Int) - 1 - ((0:Nat):Int)));simp
  ·show some (Value.slice p2 l.length c2) = some (Value.slice p2 (l ++ []).length c2);simp
 ·show slc p2 l.length c2 _ 1 (bytesV l)::A = slc p2 (l ++ []).length c2 _ 1 (bytesV (l ++ []))::A;simp
 ·obtain ⟨i,p',c'⟩:=i;have hi:i ≤ k:=hi;show H _ _ _ [(8,.int .i64 ((k:Int) - 1 - (i:Int))),(7,.slice p' (l ++ beTop k n i).length c'),(1,.int .u16 n)] _ (slc p' (l ++ beTop k n i).length c' _ 1 (bytesV (l ++ beTop k n i))::A) _
  generalize hacc:l ++ beTop k n i = acc;have hlen:acc.length = l.length + i:=by rw [← hacc,List.length_append,beTop_len]
  by_cases hlt:i < k
  ·have hexp:min (8 * ((k:Int) - 1 - (i:Int))).toNat IntKind.u16.bits = 8 * (k - 1 - i):=by simp only [IntKind.bits];omega
   have hsh:n.fdiv (2 ^ (min (8 * ((k:Int) - 1 - (i:Int))).toNat IntKind.u16.bits)) = n.fdiv (2 ^ (8 * (k - 1 - i))):=by rw [hexp]
   refine gO ?_;refine H.Bq rfl rfl rfl rfl (by omega) hsh rfl ?_;refine H.Bl rfl rfl (byteAt_wrap n (k - 1 - i)) rfl ?_;refine qdN fun tb=>?_;refine qeP fun p'' c''=>?_;refine gX ?_;refine qdx ?_;have e1:l ++ beTop k n (i + 1) = acc ++ [byteAt n (k - 1 - i)]:=by rw [← hacc];simp [beTop]
   refine H.Bk (d:=8) (u:=.int .i64 ((k:Int) - 1 - ((i + 1:Nat):Int))) rfl (congrArg (Value.int .i64) (by omega)) ?_;refine H.Ax (i + 1,p'',c'') (by show i + 1 ≤ k;omega) (by show k - (i + 1) < k - i;omega) ⟨rfl,?_,rfl,trivial⟩ rfl ?_
   ·show some _ = some (Value.slice p'' (l ++ beTop k n (i + 1)).length c'');rw [e1,List.length_append];exact rfl
   ·show _ = slc p'' (l ++ beTop k n (i + 1)).length c'' _ 1 (bytesV (l ++ beTop k n (i + 1)))::A;rw [e1,List.length_append,zal];rfl
  ·have:i = k:=by omega
   subst this;subst hacc;refine gF ?_;exact H.r1 ⟨p',c',rfl,rfl,rfl⟩
theorem rput_fn {k:Nat} {n:Int} (hs:Src Tryz.prog f A (.slice p l.length c) 1 l.length (bytesV l)) (hl:l.length ≤ 10000000000) (hk:k ≤ 8) :
  Fn Tryz.prog 142 [.slice p l.length c,.int .u64 n,.int .i64 (k:Nat)] f A (BytesR (l ++ be k n) f A):=by
 refine Fn.e3 Tryz.func142 Tryz.ntmps142 fun base=>?_;repeat (first | ((apply H.Bb);(iterate 3 exact rfl)) | (first | apply H.seq | apply H.Bf | apply H.nil | apply H.Bh))
 refine qdN fun eb=>?_;repeat (((apply H.Ap);(iterate 3 exact rfl)))
 refine H.imp (A':=slc (some ⟨eb,0,none⟩) 0 0 5 1 []::A) ?_ ?_
 ·rintro x ⟨m1,m2,d,e,a,r⟩;exact qbB
 refine H.Av rfl rfl rfl rfl rfl (fun p' c'=>.here _ _ _) hs.cons (zas l) rfl (by omega) (by omega) fun p2 c2=>?_;rw [Nat.zero_add,List.nil_append];exact qab
theorem word_fn {n:Int} (hs:Src Tryz.prog f A (.slice p l.length c) 1 l.length (bytesV l)) (hn:p = none→l = []) (hl:l.length ≤ 10000000000) :
  Fn Tryz.prog 188 [.slice p l.length c,.int .u64 n] f A (BytesR (l ++ be 8 n) f A):=by
 refine Fn.e2 Tryz.func188 Tryz.ntmps188 fun base=>?_;refine gL ?_;refine H.Aq rfl rfl rfl (put_fn (k:=8) f A hs hn hl (by decide)) fun p1 c1=>?_;exact qbg
theorem half_fn {n:Int} (hs:Src Tryz.prog f A (.slice p l.length c) 1 l.length (bytesV l)) (hn:p = none→l = []) (hl:l.length ≤ 10000000000) :
  Fn Tryz.prog 258 [.slice p l.length c,.int .u16 n] f A (BytesR (l ++ be 2 n) f A):=by
 refine Fn.e2 Tryz.func258 Tryz.ntmps258 fun base=>?_;refine gL ?_;refine H.Aq rfl rfl rfl (putH_fn (k:=2) f A hs hn hl (by decide)) fun p1 c1=>?_;exact qbg
theorem zbr {n:Int} (hs:Src Tryz.prog f A (.slice p l.length c) 1 l.length (bytesV l)) (hl:l.length ≤ 10000000000) :
  Fn Tryz.prog 101 [.slice p l.length c,.int .u64 n] f A (BytesR (l ++ be 8 n) f A):=by
 refine Fn.e2 Tryz.func101 Tryz.ntmps101 fun base=>?_;refine gL ?_;refine H.Aq rfl rfl rfl (rput_fn (k:=8) f A hs hl (by decide)) fun p1 c1=>?_;exact qbg
theorem rhalf_fn {n:Int} (hs:Src Tryz.prog f A (.slice p l.length c) 1 l.length (bytesV l)) (hl:l.length ≤ 10000000000) (h0:0 ≤ n ∧ n ≤ 65535) :
  Fn Tryz.prog 145 [.slice p l.length c,.int .u16 n] f A (BytesR (l ++ be 2 n) f A):=by
 refine Fn.e2 Tryz.func145 Tryz.ntmps145 fun base=>?_;refine gX ?_;refine H.Aq rfl rfl rfl (rput_fn (k:=2) f A hs hl (by decide)) fun p1 c1=>?_;exact qbg
end
def BytesR2 (l:List UInt8) (e:Int) (f:Frag) (A:List HP):Value→Frag→List HP→Prop:=fun v f' A'=>∃ p c,v = .tuple #[.slice p l.length c,.int .i64 e] ∧ f' = f ∧ A' = slc p l.length c 5 1 (bytesV l)::A
def textB (s:ByteArray):List UInt8:=be 2 (s.size:Nat) ++ s.data.toList
section
variable (f:Frag) (A:List HP)
theorem zbn (s:ByteArray):s.data.toList.length = s.size:=by rw [Array.length_toList];rfl
theorem text_fn {s:ByteArray} (hs:Src Tryz.prog f A (.slice p l.length c) 1 l.length (bytesV l)) (hn:p = none→l = []) (hl:l.length ≤ 10000000000) (hz:s.size < 65536) :
  Fn Tryz.prog 236 [.slice p l.length c,.string s] f A (BytesR2 (l ++ textB s) 0 f A):=by
 refine Fn.e2 Tryz.func236 Tryz.ntmps236 fun base=>?_;refine gO ?_;skip;skip;refine H.Aq rfl rfl rfl (half_fn f A hs hn hl) fun p1 c1=>?_;exact qaD
theorem rtext_fn {s:ByteArray} (hs:Src Tryz.prog f A (.slice p l.length c) 1 l.length (bytesV l)) (hl:l.length ≤ 10000000000) (hz:s.size < 65536) :
  Fn Tryz.prog 105 [.slice p l.length c,.string s] f A (BytesR2 (l ++ textB s) 0 f A):=by
 refine Fn.e2 Tryz.func105 Tryz.ntmps105 fun base=>?_;refine gO ?_;skip;skip;refine H.Aq rfl rfl rfl (rhalf_fn f A hs hl (by omega)) fun p1 c1=>?_;exact qaD
end
def BAt (f:Frag) (p:Option Addr) (l:List UInt8):Prop:=
 l = [] ∨ ∃ b off cs T fr,p = some ⟨b,off,none⟩ ∧ f b = some (.cells cs T fr) ∧ ∀ i,i < l.length→cs[off + i]? = (bytesV l)[i]?
theorem BAt.take (h:BAt f p l) (n:Nat):BAt f p (l.take n):=by
 rcases h with rfl | ⟨b,off,cs,T,fr,h1,h2,h3⟩
 ·exact .inl (by simp)
 ·refine .inr ⟨b,off,cs,T,fr,h1,h2,fun i hi=>?_⟩;rw [List.length_take] at hi;rw [h3 i (by omega)];simp only [bytesV,List.map_take];rw [List.getElem?_take,if_pos (by omega)]
theorem BAt.drop (h:BAt f p l) (hn:n ≤ l.length) (hc:l.length ≤ c):BAt f (slP p n c 1) (l.drop n):=by
 unfold slP;split
 ·rename_i e
  subst e;exact .inl (List.drop_eq_nil_of_le hc)
 ·rcases h with rfl | ⟨b,off,cs,T,fr,rfl,h2,h3⟩
  ·exact .inl (by simp)
  ·refine .inr ⟨b,off + n,cs,T,fr,?_,h2,fun i hi=>?_⟩
   ·rw [Option.map_some,zbb,Nat.mul_one]
   ·rw [List.length_drop] at hi;rw [Nat.add_assoc,h3 (n + i) (by omega)];simp only [bytesV,List.map_drop];rw [List.getElem?_drop]
theorem BAt.src (h:BAt f p l):Src P f A (.slice p l.length c) 1 l.length (bytesV l):=by
 rcases h with rfl | ⟨b,off,cs,T,fr,rfl,h2,h3⟩
 ·refine ⟨fun w=>rfl,fun base w s=>?_,rfl⟩
  cases p with
  | none=>exact run_firstCells_none w 1 0 0 c
  | some a=>exact run_firstCells_some w 1 0 a 0 c [] (by simp) (by simp)
 ·exact Src.slice (Rd.imm h2 (fun i hi=>h3 i (by rwa [zad] at hi))) (by rw [zad,Nat.mul_one])
def cutL (cb:Nat) (p:Option Addr) (c:Nat) (l:List UInt8) (sp:Bool):HP:=row cb 290 [.slice p l.length c,.bool sp]
def cutH (f:Frag) (cb:Nat) (l:List UInt8) (sp:Bool):HP:=fun h=>∃ i:Option Addr × Nat,stars [fact (BAt f i.1 l ∧ l.length ≤ i.2),cutL cb i.1 i.2 l sp] h
variable {cb:Nat} {sp:Bool} {F:List HP}
theorem zbg (hb:BAt f p l) (hc:l.length ≤ c):∀ x,stars (cutL cb p c l sp::F) x→stars (cutH f cb l sp::F) x:=by
 intro x hx;obtain ⟨m1,m2,d,e,a,r⟩:=hx;refine ⟨m1,m2,d,e,⟨(p,c),?_⟩,r⟩;exact ⟨nil0,m1,(Dj.nil m1).symm,(nil_un m1).symm,⟨⟨hb,hc⟩,rfl⟩,m1,nil0,Dj.nil m1,(un_nil m1).symm,a,rfl⟩
theorem cutH_open
  (k:∀ p c,BAt f p l→l.length ≤ c→Fn Tryz.prog fid args f (row cb 290 [.slice p l.length c,.bool sp]::F) R):Fn Tryz.prog fid args f (cutH f cb l sp::F) R:=fun base w s=>by
 obtain ⟨m,hm,hd,hw⟩:=s.mem
 obtain ⟨m1,m2,d,rfl,⟨⟨p,c⟩,hh⟩,r⟩:=hm
 obtain ⟨n1,n2,dd,rfl,⟨⟨hb,hc⟩,rfl⟩,n3,n4,d3,rfl,h4,h5⟩:=hh
 refine k p c hb hc base w ⟨s.os,s.tape,s.output,s.size,s.imm,_,?_,hd,hw⟩
 have e5:n4 = nil0:=h5
 subst e5
 rw [nil_un,un_nil]
 rw [nil_un,un_nil] at d
 exact ⟨n3,m2,d,rfl,h4,r⟩
def RetP {α:Type} (φ:α→Prop) (v:α→Value) (f:Frag) (A:α→List HP):Value→Frag→List HP→Prop:=fun u f' A'=>∃ i,φ i ∧ u = v i ∧ f' = f ∧ A' = A i
section
variable {P:Program} {base:World} {n:Nat} {L:Env} {f f':Frag} {A:List HP} {q:Post}
variable {l rest:List Oper} {d:Nat} {ty:TypeId} {pos:String} {af:Array Edge} {gd:Option (Nat × Bool)}
theorem H.callP {φ:α→Prop} {v:α→Value} {Ai:α→List HP} [hfun:Fun P fid] (hw:want? l L gd = true) (hd:Nat.ble (d + 1) n = true)
  (hx:evs? L xs = some vs) (hc:Fn P fid vs f A (RetP φ v f' Ai)) (k:∀ i,φ i→H P base n ((d,v i)::L) f' (Ai i) (.ops l rest q)) :
  H P base n L f A (.ops l (⟨some d,.call ⟨.value (.func fid),xs.toArray,ats⟩,ty,pos,af,gd⟩::rest) q):=
 H.Al hw hd hx hc fun _ _ _ h=>by obtain ⟨i,hp,rfl,rfl,rfl⟩:=h;exact k i hp
theorem H.callVP {φ:α→Prop} {fs:List Value} {v:α→Value} {Ai:α→List HP} (hx:ev? L x = some (.func (.func fid) fs.toArray cs.toArray)) [hfun:Fun P fid] (hw:want? l L gd = true) (hd:Nat.ble (d + 1) n = true)
  (hxs:evs? L xs = some vs) (hc:Fn P fid (fs ++ vs ++ cs) f A (RetP φ v f' Ai)) (k:∀ i,φ i→H P base n ((d,v i)::L) f' (Ai i) (.ops l rest q)) :
  H P base n L f A (.ops l (⟨some d,.call ⟨.value x,xs.toArray,ats⟩,ty,pos,af,gd⟩::rest) q):=
 H.callV hx hw hd hxs hc fun _ _ _ h=>by obtain ⟨i,hp,rfl,rfl,rfl⟩:=h;exact k i hp
end
section
variable (f:Frag) (F:List HP) (cb:Nat)
theorem take_no {n:Int} (h:sp = true ∨ n < 0 ∨ (l.length:Int) < n) :
  Fn Tryz.prog 238 [.pointer (some ⟨cb,0,none⟩),.int .i64 n] f (cutH f cb l sp::F) (Ret (.slice none 0 0) f (cutH f cb l true::F)):=by
 refine cutH_open fun p c hb hc=>?_;have fin:∀ x,stars (row cb 290 [.slice p l.length c,.bool true]::F) x→stars (cutH f cb l true::F) x:=zbg hb hc
 cases sp with
 | true =>
  exact qcy
 | false =>
  by_cases h0:n < 0
  ·exact qcy
  ·have h1:(l.length:Int) < n:=by simp at h;omega
   refine Fn.e2 Tryz.func238 Tryz.ntmps238 fun base=>?_;refine gY ?_;rw [decide_eq_true h1];exact H.Ad rfl rfl fin ⟨rfl,rfl,rfl⟩
theorem take_yes (hn:n ≤ l.length) (hl:l.length ≤ 1000000000000) :
  Fn Tryz.prog 238 [.pointer (some ⟨cb,0,none⟩),.int .i64 (n:Nat)] f (cutH f cb l false::F)
   (RetP (fun i:Option Addr × Nat=>BAt f i.1 (l.take n)) (fun i=>.slice i.1 n i.2) f (fun _=>cutH f cb (l.drop n) false::F)):=by
 refine cutH_open fun p c hb hc=>?_
 have fin:∀ x,stars (row cb 290 [.slice (slP p n c 1) (l.length - n) (c - n),.bool false]::F) x→stars (cutH f cb (l.drop n) false::F) x:=by
  have:=zbg (cb:=cb) (sp:=false) (F:=F) (hb.drop hn hc) (c:=c - n) (by rw [List.length_drop];omega);rw [show cutL cb (slP p n c 1) (c - n) (l.drop n) false = row cb 290 [.slice (slP p n c 1) (l.length - n) (c - n),.bool false] by unfold cutL;rw [List.length_drop]] at this
  exact this
 refine Fn.e2 Tryz.func238 Tryz.ntmps238 fun base=>?_;refine gY ?_;rw [decide_eq_false (show ¬ ((l.length:Int) < (n:Int)) by omega)];skip;refine H.sliceTo rfl rfl rfl rfl (by omega) rfl ?_;refine gH ?_;refine H.slice (lv:=n) (hv:=l.length) (mv:=c) rfl rfl ⟨_,_,rfl,rfl⟩ rfl rfl (fun h=>by cases h) hn hc (Nat.le_refl _) rfl ?_;refine gT ?_;exact H.Ad rfl rfl fin ⟨(p,c),hb.take n,rfl,rfl,rfl⟩
end
def numB (l:List UInt8):Nat:=l.foldl (fun n b=>n * 256 + b.toNat) 0
theorem numB_snoc (l:List UInt8) (b:UInt8):numB (l ++ [b]) = numB l * 256 + b.toNat:=by simp [numB]
theorem numB_acc:∀ (l:List UInt8) (a k:Nat),a < 256 ^ k→l.foldl (fun n b=>n * 256 + b.toNat) a < 256 ^ (k + l.length)
 | [],a,k,h=>h
 | b :: l, a, k, h => by
  have hb:=b.toNat_lt
  have:=numB_acc l (a * 256 + b.toNat) (k + 1) (by rw [Nat.pow_succ];omega)
  rw [List.length_cons,show k + (l.length + 1) = k + 1 + l.length by omega]
  exact this
theorem numB_lt (l:List UInt8):numB l < 256 ^ l.length:=by
 have:=numB_acc l 0 0 (by decide);rwa [Nat.zero_add] at this
theorem or_byte {b:UInt8} (hn:n < 72057594037927936):bitsI .or .u64 (IntKind.u64.wrap ((n:Int) * 2 ^ 8)) ((b.toNat:Nat):Int) = some ((n * 256 + b.toNat:Nat):Int):=by
 have hb:=b.toNat_lt
 have h1:IntKind.u64.wrap ((n:Int) * 2 ^ 8) = ((n * 256:Nat):Int):=by
  rw [wr_u64 (by omega)];omega
 rw [h1];simp only [bitsI,Option.some.injEq]
 have e1:(BitVec.ofInt IntKind.u64.bits ((n * 256:Nat):Int) ||| BitVec.ofInt IntKind.u64.bits ((b.toNat:Nat):Int)).toNat = n * 256 + b.toNat:=by
  rw [BitVec.toNat_or];simp only [BitVec.ofInt_natCast,BitVec.toNat_ofNat,IntKind.bits];rw [Nat.mod_eq_of_lt (by omega),Nat.mod_eq_of_lt (by omega)]
  have:=Nat.shiftLeft_add_eq_or_of_lt (i:=8) (b:=b.toNat) (by simpa using hb) n;rw [Nat.shiftLeft_eq,show n * 2 ^ 8 = n * 256 from rfl] at this
  omega
 rw [e1,wr_u64 (by omega)]
section
variable (f:Frag) (F:List HP) (cb:Nat)
abbrev takeV (cb:Nat):Value:=.func (.func 238) #[.pointer (some ⟨cb,0,none⟩)] #[]
theorem sum_no {n:Int} (h:sp = true ∨ n < 0 ∨ (l.length:Int) < n) :
  Fn Tryz.prog 239 [takeV cb,.int .i64 n] f (cutH f cb l sp::F) (Ret (.int .u64 0) f (cutH f cb l true::F)):=by
 refine Fn.e2 Tryz.func239 Tryz.ntmps239 fun base=>?_;refine gL ?_;refine H.callVR (fs:=[_]) (cs:=[]) rfl rfl rfl rfl (take_no f F cb h) ?_;refine gZ ?_;refine H.lo (ι:=Unit) (fun _=>[(4,.int .u64 0),(9,.slice none 0 0),(10,.int .i64 ((0:Nat):Int)),(11,.int .i64 0)]) (fun _=>f) (fun _=>cutH f cb l true::F) (fun _=>True) (fun _=>0) () trivial fun _ _=>?_;refine gV ?_;exact qap
theorem sum_yes {k:Nat} (hn:k ≤ l.length) (hk:k ≤ 8) (hl:l.length ≤ 1000000000000) :
  Fn Tryz.prog 239 [takeV cb,.int .i64 (k:Nat)] f (cutH f cb l false::F) (Ret (.int .u64 (numB (l.take k):Nat)) f (cutH f cb (l.drop k) false::F)):=by
 refine Fn.e2 Tryz.func239 Tryz.ntmps239 fun base=>?_;refine gL ?_;refine H.callVP (fs:=[_]) (cs:=[]) rfl rfl rfl rfl (take_yes f F cb hn hl) fun i hb=>?_;obtain ⟨p,c⟩:=i;have hb:BAt f p (l.take k):=hb;refine gZ ?_
 have hlen:(l.take k).length = k:=by rw [List.length_take];omega
 refine H.lo (ι:=Nat) (fun i=>[(4,.int .u64 (numB ((l.take k).take i):Nat)),(9,.slice p k c),(10,.int .i64 ((k:Nat):Int)),(11,.int .i64 (i:Int))]) (fun _=>f) (fun _=>cutH f cb (l.drop k) false::F) (fun i=>i ≤ k) (fun i=>k - i) 0 (Nat.zero_le _) fun i hi=>?_;have hi:i ≤ k:=hi;refine gM ?_
 by_cases hlt:i < k
 ·obtain ⟨x,hx⟩:∃ x,(l.take k)[i]? = some x:=⟨(l.take k)[i]'(by omega),List.getElem?_eq_getElem (by omega)⟩;have hsrc:(l.take k).take (i + 1) = (l.take k).take i ++ [x]:=by rw [List.take_add_one,hx];rfl
  have hm:numB ((l.take k).take i) < 72057594037927936:=by
   have h1:=numB_lt ((l.take k).take i);have h2:((l.take k).take i).length = i:=by rw [List.length_take];omega
   rw [h2] at h1;have h3:256 ^ i ≤ 256 ^ 7:=Nat.pow_le_pow_right (by decide) (by omega);have h4:(256:Nat) ^ 7 = 72057594037927936:=by decide
   omega
  rcases hb with hnil | ⟨b,off,cs,T,fr,rfl,h2,h3⟩
  ·rw [hnil] at hlen;simp at hlen;omega
  have rd:∀ A,Rd f A b off (bytesV (l.take k)):=fun A=>Rd.imm h2 (fun j hj=>h3 j (by rwa [zad] at hj));have hv:(bytesV (l.take k))[i]? = some (.int .u8 (x.toNat:Nat)):=by unfold bytesV;rw [List.getElem?_map,hx];rfl
  refine gI ?_;refine H.index1 rfl rfl rfl rfl hlt rfl ?_;refine H.Ab rfl rfl rfl (.of (rd _) hv) rfl ?_;refine gL ?_;have hxl:=x.toNat_lt;refine H.Bq rfl rfl rfl rfl (by decide) rfl rfl ?_
  refine gX ?_;refine H.Bg rfl rfl rfl (or_byte hm) rfl rfl ?_;refine gX ?_;refine H.Ax (i + 1) (by show i + 1 ≤ k;omega) (by show k - (i + 1) < k - i;omega) ⟨?_,rfl,rfl,rfl,trivial⟩ rfl rfl;show some _ = some (Value.int .u64 (numB ((l.take k).take (i + 1)):Nat));rw [hsrc,numB_snoc]
 ·have:i = k:=by omega
  subst this;rw [List.take_of_length_le (by omega)];refine gF ?_;exact qap
theorem cutWord_no (h:sp = true ∨ l.length < 8) :
  Fn Tryz.prog 190 [.pointer (some ⟨cb,0,none⟩)] f (cutH f cb l sp::F) (Ret (.int .u64 0) f (cutH f cb l true::F)):=by
 refine Fn.e1 Tryz.func190 Tryz.ntmps190 fun base=>?_;refine gV ?_;refine H.Ag rfl rfl rfl (sum_no f F cb (n:=8) (h.elim .inl fun h=>.inr (.inr (by omega)))) ?_;refine gZ ?_;exact qap
theorem cutWord_yes (h:8 ≤ l.length) (hl:l.length ≤ 1000000000000) :
  Fn Tryz.prog 190 [.pointer (some ⟨cb,0,none⟩)] f (cutH f cb l false::F) (Ret (.int .u64 (numB (l.take 8):Nat)) f (cutH f cb (l.drop 8) false::F)):=by
 have hb:=numB_lt (l.take 8);rw [show (l.take 8).length = 8 by rw [List.length_take];omega] at hb
 have e:(256:Nat) ^ 8 = 18446744073709551616:=by decide
 rw [e] at hb;clear e;refine Fn.e1 Tryz.func190 Tryz.ntmps190 fun base=>?_;refine gV ?_;refine H.Ag rfl rfl rfl (sum_yes f F cb (k:=8) h (by decide) hl) ?_;refine gZ ?_;exact qap
theorem cutHalf_no (h:sp = true ∨ l.length < 2) :
  Fn Tryz.prog 259 [.pointer (some ⟨cb,0,none⟩)] f (cutH f cb l sp::F) (Ret (.int .u16 0) f (cutH f cb l true::F)):=by
 refine Fn.e1 Tryz.func259 Tryz.ntmps259 fun base=>?_;refine gV ?_;refine H.Ag rfl rfl rfl (sum_no f F cb (n:=2) (h.elim .inl fun h=>.inr (.inr (by omega)))) ?_;refine gX ?_;exact qap
theorem cutHalf_yes (h:2 ≤ l.length) (hl:l.length ≤ 1000000000000) :
  Fn Tryz.prog 259 [.pointer (some ⟨cb,0,none⟩)] f (cutH f cb l false::F) (Ret (.int .u16 (numB (l.take 2):Nat)) f (cutH f cb (l.drop 2) false::F)):=by
 have hb:=numB_lt (l.take 2);rw [show (l.take 2).length = 2 by rw [List.length_take];omega] at hb
 have e:(256:Nat) ^ 2 = 65536:=by decide
 rw [e] at hb;clear e;refine Fn.e1 Tryz.func259 Tryz.ntmps259 fun base=>?_;refine gV ?_;refine H.Ag rfl rfl rfl (sum_yes f F cb (k:=2) h (by decide) hl) ?_;refine gX ?_;exact qap
theorem cutByte_no (h:sp = true ∨ l.length < 1) :
  Fn Tryz.prog 199 [.pointer (some ⟨cb,0,none⟩)] f (cutH f cb l sp::F) (Ret (.int .u8 0) f (cutH f cb l true::F)):=by
 refine Fn.e1 Tryz.func199 Tryz.ntmps199 fun base=>?_;refine gV ?_;refine H.Ag rfl rfl rfl (sum_no f F cb (n:=1) (h.elim .inl fun h=>.inr (.inr (by omega)))) ?_;refine gX ?_;exact qap
theorem cutByte_yes (h:1 ≤ l.length) (hl:l.length ≤ 1000000000000) :
  Fn Tryz.prog 199 [.pointer (some ⟨cb,0,none⟩)] f (cutH f cb l false::F) (Ret (.int .u8 (numB (l.take 1):Nat)) f (cutH f cb (l.drop 1) false::F)):=by
 have hb:=numB_lt (l.take 1);rw [show (l.take 1).length = 1 by rw [List.length_take];omega] at hb
 have e:(256:Nat) ^ 1 = 256:=by decide
 rw [e] at hb;clear e;refine Fn.e1 Tryz.func199 Tryz.ntmps199 fun base=>?_;refine gV ?_;refine H.Ag rfl rfl rfl (sum_yes f F cb (k:=1) h (by decide) hl) ?_;refine gX ?_;exact qap
end
section
variable (f:Frag) (F:List HP) (cb:Nat)
theorem cutLeft_fn:Fn Tryz.prog 200 [.pointer (some ⟨cb,0,none⟩)] f (cutH f cb l sp::F) (Ret (.bool (!sp)) f (cutH f cb l sp::F)):=by
 refine cutH_open fun p c hb hc=>?_;refine Fn.e1 Tryz.func200 Tryz.ntmps200 fun base=>?_;refine gY ?_;exact H.Ad rfl rfl (zbg hb hc) ⟨rfl,rfl,rfl⟩
theorem raw_no {n:Int} (h:sp = true ∨ n < 0 ∨ (l.length:Int) < n) :
  Fn Tryz.prog 244 [.pointer (some ⟨cb,0,none⟩),.int .i64 n] f (cutH f cb l sp::F) (BytesR [] f (cutH f cb l true::F)):=by
 refine Fn.e2 Tryz.func244 Tryz.ntmps244 fun base=>?_;refine gL ?_;refine H.Ag rfl rfl rfl (take_no f F cb h) ?_;skip;refine H.Aq rfl rfl rfl (cloneB_fn (l:=[]) f _ Src.nil (fun _=>rfl) (by decide)) fun p c=>?_;refine gZ ?_;exact H.r1 ⟨p,c,rfl,rfl,rfl⟩
theorem raw_yes (hn:n ≤ l.length) (hl:l.length ≤ 10000000000) :
  Fn Tryz.prog 244 [.pointer (some ⟨cb,0,none⟩),.int .i64 (n:Nat)] f (cutH f cb l false::F) (BytesR (l.take n) f (cutH f cb (l.drop n) false::F)):=by
 have hlen:(l.take n).length = n:=by rw [List.length_take];omega
 refine Fn.e2 Tryz.func244 Tryz.ntmps244 fun base=>?_;refine gL ?_;refine H.callP rfl rfl rfl (take_yes f F cb hn (by omega)) fun i hb=>?_;obtain ⟨p,c⟩:=i;have hb:BAt f p (l.take n):=hb;skip
 have hs:Src Tryz.prog f (cutH f cb (l.drop n) false::F) (.slice p (l.take n).length c) 1 (l.take n).length (bytesV (l.take n)):=hb.src;have hc:=cloneB_fn f _ hs (fun hp=>by rcases hb with h | ⟨b,off,cs,T,fr,h,_⟩;exact h;rw [hp] at h;cases h) (by omega)
 rw [hlen] at hc;refine H.Aq rfl rfl rfl hc fun p1 c1=>?_;exact qbg
theorem slc_bat {g:Frag} (h:slc p l.length c T 1 (bytesV l) g) (hd:Dj f g):BAt (un f g) p l:=by
 obtain ⟨_,_,h3⟩:=h;rcases h3 with ⟨h0,_,_⟩ | ⟨b,sp,rfl,h4,h5,rfl⟩
 ·exact .inl (List.eq_nil_of_length_eq_zero h0)
 ·refine .inr ⟨b,0,(bytesV l ++ sp).toArray,T,(0,0),rfl,?_,fun i hi=>?_⟩
  ·show (f b).or (sing b _ b) = _
   have:f b = none:=by
    rcases hd b with h | h
    ·exact h
    ·simp [sing] at h
   rw [this];simp [sing]
  ·rw [Nat.zero_add];simp only [List.getElem?_toArray];rw [List.getElem?_append_left (by rw [zad];exact hi)]
theorem octNew_fn {p0:Option Addr} {c0:Nat} (hs:Src Tryz.prog f F (.slice p0 l.length c0) 1 l.length (bytesV l)) (hn:p0 = none→l = []) (hl:l.length ≤ 100000000000) :
  Fn Tryz.prog 131 [.slice p0 l.length c0] f F (fun v f' A'=>∃ g cb p c,v = .pointer (some ⟨cb,0,none⟩) ∧ slc p l.length c 5 1 (bytesV l) g ∧ Dj f g ∧ f' = un f g ∧ A' = cutH (un f g) cb l false::F):=by
 refine Fn.e1 Tryz.func131 Tryz.ntmps131 fun base=>?_;refine gL ?_;refine H.Aq rfl rfl rfl (cloneB_fn f F hs hn hl) fun p c=>?_;refine H.slc_cap (.here _ _ _) fun hc _ _=>?_;refine H.Cg (.here _ _) fun g hg hd=>?_;refine gM ?_;refine H.box (ls:=[.slice p l.length c,.bool false]) rfl rfl rfl rfl fun cb=>?_;refine gZ ?_;exact H.Ad rfl rfl (zbg (slc_bat f hg hd) hc) ⟨g,cb,p,c,rfl,hg,hd,rfl,rfl⟩
end
structure Cs where
 l:List UInt8
 bad:Bool
def Cs.ok (s:Cs) (n:Nat):Bool:=!s.bad && Nat.ble n s.l.length
def Cs.num (s:Cs) (n:Nat):Nat:=if s.ok n then numB (s.l.take n) else 0
def Cs.skip (s:Cs) (n:Nat):Cs:=if s.ok n then ⟨s.l.drop n,false⟩ else ⟨s.l,true⟩
def Cs.raw (s:Cs) (n:Nat):List UInt8:=if s.ok n then s.l.take n else []
def Cs.tok (s:Cs) (most:Nat):Bool:=s.ok 2 && Nat.ble (s.num 2) most && Nat.ble (2 + s.num 2) s.l.length
def Cs.text (s:Cs) (most:Nat):List UInt8:=if s.tok most then (s.l.drop 2).take (s.num 2) else []
def Cs.textS (s:Cs) (most:Nat):Cs:=if s.tok most then ⟨s.l.drop (2 + s.num 2),false⟩ else ⟨s.l,true⟩
theorem Cs.ok_iff (s:Cs) (n:Nat):s.ok n = true ↔ s.bad = false ∧ n ≤ s.l.length:=by
 simp [Cs.ok]
theorem Cs.skip_len (s:Cs) (n:Nat):(s.skip n).l.length ≤ s.l.length:=by
 unfold Cs.skip;split
 ·simp
 ·exact Nat.le_refl _
theorem Cs.textS_len (s:Cs) (n:Nat):(s.textS n).l.length ≤ s.l.length:=by
 unfold Cs.textS;split
 ·simp
 ·exact Nat.le_refl _
theorem Cs.num_lt (s:Cs) (n:Nat):s.num n < 256 ^ n:=by
 unfold Cs.num;split
 ·rename_i h
  have h1:=numB_lt (s.l.take n);have h2:=((Cs.ok_iff s n).1 h).2
  rw [List.length_take,Nat.min_eq_left h2] at h1;exact h1
 ·exact Nat.pow_pos (by decide)
theorem Cs.num1_lt (s:Cs):s.num 1 < 256:=s.num_lt 1
theorem Cs.num2_lt (s:Cs):s.num 2 < 65536:=s.num_lt 2
def cutC (f:Frag) (cb:Nat) (s:Cs):HP:=cutH f cb s.l s.bad
section
variable (f:Frag) (F:List HP) (cb:Nat) (s:Cs)
theorem Cs.no (h:¬ s.ok n = true):s.bad = true ∨ s.l.length < n:=by
 rw [Cs.ok_iff] at h
 cases hb:s.bad with
 | true=>exact .inl rfl
 | false=>refine .inr ?_;simp [hb] at h;omega
theorem word_cs (hl:s.l.length ≤ 1000000000000) :
  Fn Tryz.prog 190 [.pointer (some ⟨cb,0,none⟩)] f (cutC f cb s::F) (Ret (.int .u64 (s.num 8:Nat)) f (cutC f cb (s.skip 8)::F)):=by
 unfold Cs.num Cs.skip cutC;by_cases h:s.ok 8 = true
 ·rw [if_pos h,if_pos h];obtain ⟨h1,h2⟩:=(Cs.ok_iff _ _).1 h;rw [h1];exact cutWord_yes f F cb h2 hl
 ·rw [if_neg h,if_neg h];exact cutWord_no f F cb (s.no h)
theorem half_cs (hl:s.l.length ≤ 1000000000000) :
  Fn Tryz.prog 259 [.pointer (some ⟨cb,0,none⟩)] f (cutC f cb s::F) (Ret (.int .u16 (s.num 2:Nat)) f (cutC f cb (s.skip 2)::F)):=by
 unfold Cs.num Cs.skip cutC;by_cases h:s.ok 2 = true
 ·rw [if_pos h,if_pos h];obtain ⟨h1,h2⟩:=(Cs.ok_iff _ _).1 h;rw [h1];exact cutHalf_yes f F cb h2 hl
 ·rw [if_neg h,if_neg h];exact cutHalf_no f F cb (s.no h)
theorem byte_cs (hl:s.l.length ≤ 1000000000000) :
  Fn Tryz.prog 199 [.pointer (some ⟨cb,0,none⟩)] f (cutC f cb s::F) (Ret (.int .u8 (s.num 1:Nat)) f (cutC f cb (s.skip 1)::F)):=by
 unfold Cs.num Cs.skip cutC;by_cases h:s.ok 1 = true
 ·rw [if_pos h,if_pos h];obtain ⟨h1,h2⟩:=(Cs.ok_iff _ _).1 h;rw [h1];exact cutByte_yes f F cb h2 hl
 ·rw [if_neg h,if_neg h];exact cutByte_no f F cb (s.no h)
theorem raw_cs (n:Nat) (hl:s.l.length ≤ 10000000000) :
  Fn Tryz.prog 244 [.pointer (some ⟨cb,0,none⟩),.int .i64 (n:Nat)] f (cutC f cb s::F) (BytesR (s.raw n) f (cutC f cb (s.skip n)::F)):=by
 unfold Cs.raw Cs.skip cutC;by_cases h:s.ok n = true
 ·rw [if_pos h,if_pos h];obtain ⟨h1,h2⟩:=(Cs.ok_iff _ _).1 h;rw [h1];exact raw_yes f F cb h2 hl
 ·rw [if_neg h,if_neg h];exact raw_no f F cb ((s.no h).elim .inl fun h=>.inr (.inr (by omega)))
theorem ok_cs:Fn Tryz.prog 200 [.pointer (some ⟨cb,0,none⟩)] f (cutC f cb s::F) (Ret (.bool (!s.bad)) f (cutC f cb s::F)):=cutLeft_fn f F cb
end
end Go.Proofs.YtminmjlfmolfeaaGreatDoor
