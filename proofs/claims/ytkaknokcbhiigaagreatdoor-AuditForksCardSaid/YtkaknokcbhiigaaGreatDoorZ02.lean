/- Parts of the proof. No conditions. -/
import Derived.Test.YtkaknokcbhiigaaGreatDoorZ01
import Derived.Orders
import Derived.StillTail
import Derived.IntWalk
import Derived.ChangeKeysEq
import Derived.Laws.StructEq
import Derived.Laws.IdiomStrings
import Derived.Laws.IdiomCopy
import Derived.ProofKit
import Derived.Lib.SmallJoins
import Derived.Deep.Slices
import Derived.Deep.Fields
set_option linter.unusedSectionVars false
/- The engine, part f: a region that draws its order. Its operations that only read are taken first; the others come one at a time. No program in sight; no conditions. -/
namespace Go.Proofs.YtkaknokcbhiigaaGreatDoor
open Go
variable {o oi:Oper} {v:Value} {a:Act} {j fuel:Nat} {w:World} {ops:Array Oper} {listed:Array Bool}
section
variable {P:Program} {ops:Array Oper} {Q:Exit→Act→World→Prop} {C:World→Prop}
def wpAnyC(P:Program)(C:World→Prop)(ops:Array Oper)(Q:Exit→Act→World→Prop)(cut:Array Bool):Nat→Array Bool→Act→World→Prop
 |0,listed,a,w=>C w∧Region.ready .any ops listed= []∧Q .normal a w
 | fuel + 1, listed, a, w => C w ∧ if listed = cut then wpAny P .any ops Q (fuel + 1) listed a w else ((Region.ready .any ops listed = [] → Q .normal a w) ∧
  ∀i∈Region.ready .any ops listed,wpOp P ops Q i (wpAnyC P C ops Q cut fuel (listed.setIfInBounds i true)) a w)
theorem wpAnyC.any{cut:Array Bool}:∀(fuel:Nat) (listed:Array Bool) (a:Act) (w:World),wpAnyC P C ops Q cut fuel listed a w→wpAny P .any ops Q fuel listed a w
 |0,_,_,_,h=>h.2
 | fuel + 1, listed, _, _, h => by
  have h2:=h.2
  split at h2
  ·exact h2
  ·exact⟨h2.1,fun i hi=>wpOp_mono (fun a w=>wpAnyC.any fuel _ a w) (h2.2 i hi)⟩
def YieldsC(P:Program)(C:World→Prop)(ops:Array Oper)(o:Oper)(v:Value)(a:Act):Prop:=
 (Region.wanted o (yielded ops a.tmps)=true∧∀w,C w→(execOp a.eval o).run P w= .ok (.value v) w)∨
 (Region.wanted o (yielded ops a.tmps)=false∧v=undef)
theorem YieldsC.wpOp{i:Nat}{o:Oper}{v:Value}{a:Act}(hi:ops[i]? =some o)(hy:YieldsC P C ops o v a)
  {K:Act→World→Prop} {w:World} (hc:C w) (h:K (a.put o.dst v) w):wpOp P ops Q i K a w:=by
 unfold Go.wpOp;simp only[hi];rcases hy with⟨hw,hv⟩|⟨hw,rfl⟩
 ·simp only[hw,if_true,Oper.wp,hv w hc,Oper.upon];exact .inl h
 ·simp only[hw,Bool.false_eq_true,if_false];exact h
theorem YieldsC.of_same{a':Act}(hy:YieldsC P C ops o v a)(he:execOp a'.eval o=execOp a.eval o)
  (hw:Region.wanted o (yielded ops a'.tmps)=Region.wanted o (yielded ops a.tmps)):YieldsC P C ops o v a':=by
 unfold YieldsC at *;rw[he,hw];exact hy
theorem wpOp_putC{oj:Oper}(hj:ops[j]? =some oj)(hap:oi.apart ops oj=true)
  (hsi:∀cs b,oi.op≠ .select cs b) (hsj:∀cs b,oj.op≠ .select cs b)
  (hQ:∀c a w,Q (.panic c) (a.put oi.dst v) w→Q (.panic c) a w) {K:Act→World→Prop}
  (hy:YieldsC P C ops oi v a) (h:wpOp P ops Q j K (a.put oi.dst v) w) :
  wpOp P ops Q j (fun a' w'=>YieldsC P C ops oi v a'∧K (a'.put oi.dst v) w') a w:=by
 obtain⟨h1,h2,h3⟩:=Oper.apart_spec hap
 have keep:∀(a:Act),YieldsC P C ops oi v a→∀u,YieldsC P C ops oi v (a.put oj.dst u):=fun a hy u=>
  hy.of_same (execOp_put oi hsi a oj.dst u h3) (wanted_put oi a oj.dst u h3)
 have keepD:∀d,YieldsC P C ops oi v {a with defers:=d::a.defers}:=fun d=>hy.of_same rfl rfl;unfold wpOp at *
 simp only[hj]at *;rw[wanted_put oj a oi.dst v h1]at h;split
 ·rename_i hw
  simp only[hw,if_true]at h;rcases h with h|⟨hasks,hlets⟩;case inr=>exact .inr ⟨by unfold Oper.asks at *;rw[execOp_put oj hsj a oi.dst v h1]at hasks;exact hasks,hlets⟩
  refine .inl ?_;unfold Oper.wp at *;rw[execOp_put oj hsj a oi.dst v h1]at h;generalize(execOp a.eval oj).run P w=r at *
  cases r with
  | ok n w' =>
   cases n<;>simp only[Oper.upon]at h⊢
   case value u=>exact⟨keep a hy u,by rw[←Act.put_comm a v u h2];exact h⟩
   case skip=>exact⟨keep a hy _,by rw[←Act.put_comm a v undef h2];exact h⟩
   case defer d=>
    refine⟨keep _ (keepD d) _,?_⟩;rw[←Act.put_comm _ v undef h2,←Act.put_defers];exact h
   case enter f args=>
    refine Calls.mono h fun e w'' he=>?_
    cases e with
    |returned u=>exact⟨keep a hy u,by rw[←Act.put_comm a v u h2];exact he⟩
    |panicked c=>exact hQ _ _ _ he
    |outgrown=>exact he
   case row row args=>exact Rows.mono h fun u w'' he=>⟨keep a hy u,by rw[←Act.put_comm a v u h2];exact he⟩
  | halt x w' =>
   cases x<;>simp only[Oper.upon]at h⊢
   case panic u=>exact hQ _ _ _ h
 ·rename_i hw
  simp only[hw]at h;exact⟨keep a hy _,by rw[←Act.put_comm a v undef h2];exact h⟩
def closedB(ops:Array Oper)(listed:Array Bool):Bool:=(List.range ops.size).all fun k=>!listed.getD k false||match ops[k]? with
 |some o=>o.after.all fun e=>!Region.binds .any e||listed.getD e.on false
 |none=>true
def Closed(ops:Array Oper)(listed:Array Bool):Prop:=∀(k:Nat) (o:Oper),ops[k]? =some o→listed.getD k false=true→∀e∈o.after,Region.binds .any e=true→listed.getD e.on false=true
theorem closed_of(h:closedB ops listed=true):Closed ops listed:=fun k o ho hk e he hb=>by
 have hlt:k<ops.size:=(Array.getElem?_eq_some_iff.1 ho).1
 have:=List.all_eq_true.1 h k (List.mem_range.2 hlt)
 rw[ho,hk]at this
 simp only[Bool.not_true,Bool.false_or,Array.all_eq_true_iff_forall_mem]at this
 have h2:=this e he
 rw[hb]at h2
 simpa using h2
theorem Closed.put(h:Closed ops listed)(hj:j∈Region.ready .any ops listed):Closed ops (listed.setIfInBounds j true):=fun k o ho hk e he hb=>by
 obtain⟨hjun,oj,hoj,hall⟩:=mem_ready.1 hj
 have key:∀m,listed.getD m false=true→(listed.setIfInBounds j true).getD m false=true:=fun m hm=>by
  by_cases c:j=m
  ·subst c
   have:j<listed.size:=by
    rcases Nat.lt_or_ge j listed.size with h'|h'
    ·exact h'
    ·simp[Array.getElem?_eq_none h']at hm
   simp[this]
  ·rw[getD_set_ne false c];exact hm
 by_cases c:j=k
 ·subst c
  rw[hoj]at ho
  cases ho
  exact key _ (hall e he hb)
 ·rw[getD_set_ne false c]at hk
  exact key _ (h k o ho hk e he hb)
def barB(ops:Array Oper)(cut:Array Bool)(i:Nat):Bool:=
 cut.size == 0||(cut.getD i false&& (((List.range ops.size).any fun k=>!(k == i)&& cut.getD k false&& match ops[k]? with
  |some o=>o.after.any fun e=>Region.binds .any e&& e.on == i
  |none=>false)||(Region.ready .any ops (cut.setIfInBounds i false)).all fun j=>j == i||cut.getD j false))
theorem ready_false{i:Nat}(hi:i∈Region.ready .any ops listed):listed.getD i true=false:=(mem_ready.1 hi).1
theorem getD_both{l:Array Bool}{i:Nat}(h:l.getD i true=false):i<l.size∧l.getD i false=false:=by
 rcases Nat.lt_or_ge i l.size with h'|h'
 ·exact⟨h',by simpa [h']using h⟩
 ·simp[Array.getElem?_eq_none h']at h
theorem barB_ne{cut:Array Bool}{i:Nat}(h:barB ops cut i=true)(hi:i∈Region.ready .any ops listed):listed≠cut:=by
 rintro rfl;have h1:=getD_both (ready_false hi);unfold barB at h
 rw[h1.2]at h;simp at h
 have:=h1.1;rw[h]at this
 simp at this
theorem barB_two{cut:Array Bool}{i:Nat}(h:barB ops cut i=true)(hcl:Closed ops listed)(hi:i∈Region.ready .any ops listed)(hj:j∈Region.ready .any ops listed)(hji:j≠i):listed.setIfInBounds i true≠cut:=by
 intro e;have h1:=getD_both (ready_false hi);have h2:=getD_both (ready_false hj)
 have e2:cut.setIfInBounds i false=listed:=by
  rw[←e];apply Array.ext_getElem?;intro k;by_cases hk:i=k
  ·subst hk
   have:=h1.1;have h3:=h1.2
   simp[this]at h3;simp[this,h3]
  ·rw[Array.getElem?_setIfInBounds_ne hk,Array.getElem?_setIfInBounds_ne hk]
 unfold barB at h;rw[e2]at h;have hs:cut.size=listed.size:=by rw[←e];simp
 have h4:(cut.size == 0)=false:=by
  have:=h1.1;rw[beq_eq_false_iff_ne];omega
 rw[h4,Bool.false_or,Bool.and_eq_true,Bool.or_eq_true]at h;rcases h.2 with hdep|h7
 ·obtain⟨k,hk,hk2⟩:=List.any_eq_true.1 hdep;simp only[Bool.and_eq_true,Bool.not_eq_true',beq_eq_false_iff_ne]at hk2;obtain⟨⟨hki,hck⟩,hm⟩:=hk2
  have hlk:listed.getD k false=true:=by
   rw[←e,getD_set_ne false (Ne.symm hki)]at hck;exact hck
  cases ho:ops[k]? with
  |none=>rw[ho]at hm;cases hm
  | some o =>
   rw[ho]at hm;obtain⟨x,hx,hx2⟩:=Array.any_eq_true'.1 hm;simp only[Bool.and_eq_true,beq_iff_eq]at hx2
   have:=hcl k o ho hlk x hx hx2.1;rw[hx2.2,h1.2]at this
   cases this
 have h5:=List.all_eq_true.1 h7 j hj
 have h6:cut.getD j false=false:=by
  rw[←e,getD_set_ne false (Ne.symm hji)];exact h2.2
 rw[h6]at h5;simp at h5;exact hji h5
theorem wpAnyC_first{cut:Array Bool}{i:Nat}(hi:ops[i]? =some oi)(hsel:∀(j:Nat) (o:Oper) cs b,ops[j]? =some o→o.op≠ .select cs b)
  (hQ:∀c a w,Q (.panic c) (a.put oi.dst v) w→Q (.panic c) a w) (hbar:barB ops cut i=true) :
  ∀(fuel:Nat) (listed:Array Bool) (a:Act) (w:World),
   (∀j oj,ops[j]? =some oj→j≠i→listed.getD j true=false→(∀e∈oj.after,Region.binds .any e=true→e.on≠i)→oi.apart ops oj=true)→
   i∈Region.ready .any ops listed→Closed ops listed→YieldsC P C ops oi v a→
   wpAnyC P C ops Q cut fuel (listed.setIfInBounds i true) (a.put oi.dst v) w→wpAnyC P C ops Q cut (fuel+1) listed a w:=by
 intro fuel
 induction fuel with
 | zero =>
  intro listed a w _ hr hcl hy H;refine⟨H.1,?_⟩;rw[if_neg (barB_ne hbar hr)];refine⟨fun h=>(by rw[h]at hr;cases hr),fun j hj=>?_⟩;by_cases hji:j=i
  ·subst hji;exact hy.wpOp hi H.1 H
  ·have:=ready_mono hj hji;rw[H.2.1]at this
   cases this
 | succ fuel ih =>
  intro listed a w hfree hr hcl hy H;refine⟨H.1,?_⟩;rw[if_neg (barB_ne hbar hr)];refine⟨fun h=>(by rw[h]at hr;cases hr),fun j hj=>?_⟩;by_cases hji:j=i
  ·subst hji;exact hy.wpOp hi H.1 H
  ·have H2:=H.2;rw[if_neg (barB_two hbar hcl hr hj hji)]at H2
   have h1:=H2.2 j (ready_mono hj hji);obtain⟨hjun,oj,hoj,hall⟩:=mem_ready.1 hj
   have hnot:∀e∈oj.after,Region.binds .any e=true→e.on≠i:=fun e he hb heq=>by
    have h1:=hall e he hb;have h0:=(mem_ready.1 hr).1
    rw[heq]at h1;rcases Nat.lt_or_ge i listed.size with h'|h'
    ·simp[h']at h0 h1;rw[h0]at h1;cases h1
    ·simp[Array.getElem?_eq_none h']at h1
   have h2:=wpOp_putC hoj (hfree j oj hoj hji hjun hnot) (fun cs b=>hsel i oi cs b hi) (fun cs b=>hsel j oj cs b hoj) hQ hy h1
   have hfree':∀k ok,ops[k]? =some ok→k≠i→(listed.setIfInBounds j true).getD k true=false→
     (∀e∈ok.after,Region.binds .any e=true→e.on≠i)→oi.apart ops ok=true:=fun k ok hk hki hun hno=>by
    refine hfree k ok hk hki ?_ hno
    by_cases hjk:j=k
    ·subst hjk;exact hjun
    ·rw[getD_set_ne true hjk]at hun;exact hun
   refine wpOp_mono (fun a' w' h3=>ih (listed.setIfInBounds j true) a' w' hfree' (ready_mono hr (Ne.symm hji)) (hcl.put hj) h3.1 ?_) h2;rw[Array.setIfInBounds_comm _ _ hji];exact h3.2
theorem wpAnyC_take{cut:Array Bool}{i:Nat}(hi:ops[i]? =some oi)
  (hs:Region.noSelect ops=true) (hf:Region.free .any ops listed i=true) (hbar:barB ops cut i=true) (hcl:closedB ops listed=true) (hr:(Region.ready .any ops listed).contains i=true)
  (hQ:∀c a w,Q (.panic c) (a.put oi.dst v) w→Q (.panic c) a w) (hy:YieldsC P C ops oi v a)
  (h:wpAnyC P C ops Q cut fuel (listed.setIfInBounds i true) (a.put oi.dst v) w):wpAnyC P C ops Q cut (fuel+1) listed a w:=
 wpAnyC_first hi (Region.noSelect_spec hs) hQ hbar fuel listed a w (Region.free_spec hi hf) (by simpa using hr) (closed_of hcl) hy h
theorem wpAnyC_one{cut:Array Bool}{i:Nat}(hr:Region.ready .any ops listed= [i])(hne:listed≠cut)(hc:C w)
  (h:wpOp P ops Q i (wpAnyC P C ops Q cut fuel (listed.setIfInBounds i true)) a w):wpAnyC P C ops Q cut (fuel+1) listed a w:=by
 refine⟨hc,?_⟩;rw[if_neg hne];exact⟨(fun h0=>by rw[hr]at h0;simp at h0),(fun j hj=>by rw[hr]at hj;simp at hj;subst hj;exact h)⟩
end
structure Lst where
 a:Array Bool
 cut:Array Bool
 left:Nat
 /-- The rest is gone through otherwise. -/
 opn:Bool
def Lst.setIfInBounds(l:Lst)(i:Nat)(b:Bool):Lst:=⟨l.a.setIfInBounds i b,l.cut,l.left,l.opn⟩
def ordOK(ops:Array Oper):Lst→List (Nat×Bool)→Bool
 | listed, [] => match listed.opn with
  |true=>true
  | false => match listed.left with
   |0=>Region.ready .any ops listed.a == []
   |_+1=>listed.a == listed.cut
 |listed,(i,true)::r=>Region.ready .any ops listed.a == [i]&& (listed.a !=listed.cut)&& ordOK ops (listed.setIfInBounds i true) r
 |listed,(i,false)::r=>(Region.ready .any ops listed.a).contains i&& Region.free .any ops listed.a i&& barB ops listed.cut i&& closedB ops listed.a&& ordOK ops (listed.setIfInBounds i true) r
def pickOps(l:List Oper):List (Nat×Bool)→List Oper
 | []=>[]
 | (i, _) :: r => match getO l i with
  |some o=>o::pickOps l r
  |none=>[]
def Post.blind(P:Program)(q:Post):Prop:=∀(c:List PanicEntry) (a:Act) (dst:Option Tmp) (v:Value) (w:World),q.den P (.panic c) (a.put dst v) w→q.den P (.panic c) a w
structure Ext where
 listed:Lst
 todo:List (Nat×Bool)
structure HQ(V:List HP)(ξ:Ext)(P:Program)(base:World)(n:Nat)(L:Env)(f:Frag)(S:List HP)(K:Kont):Prop where
 out:∀l q,K= .ops l (pickOps l ξ.todo) q→Region.noSelect l.toArray=true→q.blind P→ordOK l.toArray ξ.listed ξ.todo=true→(∀t∈ξ.todo,(getO l t.1).isSome)→
  ∀a w,Fr n a L→Sat base w f (S++V)→wpAnyC P (fun w=>∃V,Sat base w f (S++V)) l.toArray (q.den P) ξ.listed.cut (ξ.todo.length+ξ.listed.left) ξ.listed.a a w
variable {K:Kont} {B V' S V A':List HP} {op:BinOp} {ls:Lst} {ti id b c off m fo bo sz:Nat} {tt:List (Nat × Bool)} {fn:Func} {R:Value→Frag→List HP→Prop} {q:Post} {e xt yt s t st ft kt et:TypeId} {p1:Op} {q1 nm tg pk:String} {a1:Array Edge} {g1:Option (Nat × Bool)} {x y:Operand} {p:Option Addr} {p2 r z:Int} {vs:List Value} {em:Bool} {dd:TypeDesc} {ik:IntKind}
section rules
variable {P:Program} {base:World} {n:Nat} {L:Env} {f:Frag} {A V:List HP} {q:Post} {ξ:Ext}
variable {l rest:List Oper} {d:Nat} {ty:TypeId} {pos:String} {af:Array Edge} {gd:Option (Nat × Bool)}
theorem sat_left(s:Sat base w f (A++B)):Sat base w f A:=by
 obtain⟨a1,a2,a3,a4,a5,m,hm,hd,hw⟩:=s;rw[zby]at hm;obtain⟨m1,m2,dj,rfl,h1,_⟩:=hm;exact⟨a1,a2,a3,a4,a5,m1,h1,(Dj.un_right.1 hd).1,fun k o hk=>hw k o (by simp[un,hk])⟩
theorem HQ.opV{op:Op}(hw:want? l L gd=true)(hd:Nat.ble (d+1) n=true)
  (hx:∀a w,Fr n a L→Sat base w f A→(execOp a.eval ⟨some d,op,ty,pos,af,gd⟩).run P w= .ok (.value v) w)
  (k:HQ V ⟨ls.setIfInBounds ti true,tt⟩ P base n ((d,v)::L) f A (.ops l rest q)):HQ V ⟨ls,(ti,false)::tt⟩ P base n L f A (.ops l (⟨some d,op,ty,pos,af,gd⟩::rest) q):=.mk fun l' q' hK hs hb ho hg a w hf s=>by
 simp only[Kont.ops.injEq]at hK
 obtain⟨rfl,hp,rfl⟩:=hK
 have hgi:=hg (ti,false) jL
 cases hgo:getO l ti with
 |none=>simp[hgo]at hgi
 | some o =>
  simp only[pickOps,hgo,List.cons.injEq]at hp
  obtain⟨ho1,hp2⟩:=hp
  simp only[ordOK,Bool.and_eq_true]at ho
  have hk:=k.out l q (by rw[hp2]) hs hb ho.2 (fun t' ht=>hg t' kN) _ w (hf.put (Nat.le_of_ble_eq_true hd) v) s
  subst ho1
  rw[show((ti,false)::tt).length+ls.left=(tt.length+ls.left)+1 by simp only[List.length_cons];omega]
  exact wpAnyC_take (oi:=⟨some d,op,ty,pos,af,gd⟩) (v:=v) kB hs ho.1.1.1.2 ho.1.1.2 ho.1.2 ho.1.1.1.1 (fun c a w h=>hb c a _ _ w h) (.inl ⟨hf.want hw,fun w' ⟨V',s'⟩=>hx a w' hf (sat_left s')⟩) hk
theorem HQ.pass{op:Op}(hw:skip? l L gd=true)(hd:Nat.ble (d+1) n=true)
  (k:HQ V ⟨ls.setIfInBounds ti true,tt⟩ P base n ((d,.tuple #[])::L) f A (.ops l rest q)):HQ V ⟨ls,(ti,false)::tt⟩ P base n L f A (.ops l (⟨some d,op,ty,pos,af,gd⟩::rest) q):=.mk fun l' q' hK hs hb ho hg a w hf s=>by
 simp only[Kont.ops.injEq]at hK
 obtain⟨rfl,hp,rfl⟩:=hK
 have hgi:=hg (ti,false) jL
 cases hgo:getO l ti with
 |none=>simp[hgo]at hgi
 | some o =>
  simp only[pickOps,hgo,List.cons.injEq]at hp
  obtain⟨ho1,hp2⟩:=hp
  simp only[ordOK,Bool.and_eq_true]at ho
  have hk:=k.out l q (by rw[hp2]) hs hb ho.2 (fun t' ht=>hg t' kN) _ w (hf.put (Nat.le_of_ble_eq_true hd) _) s
  subst ho1
  rw[show((ti,false)::tt).length+ls.left=(tt.length+ls.left)+1 by simp only[List.length_cons];omega]
  exact wpAnyC_take (oi:=⟨some d,op,ty,pos,af,gd⟩) (v:=undef) kB hs ho.1.1.1.2 ho.1.1.2 ho.1.2 ho.1.1.1.1 (fun c a w h=>hb c a _ _ w h) (.inr ⟨hf.skip hw,rfl⟩) hk
def backPost(P:Program)(base:World)(f:Frag)(S:List HP)(ξ:Ext)(l:List Oper)(q:Post):Exit→Act→World→Prop
 | .normal,a,w=>wpAnyC P (fun w=>∃V,Sat base w f (S++V)) l.toArray (q.den P) ξ.listed.cut (ξ.todo.length+ξ.listed.left) ξ.listed.a a w
 |e,a,w=>q.den P e a w
theorem upon_mono{K K':Act→World→Prop}{Q Q':Exit→Act→World→Prop}(h:∀a w,K a w→K' a w)(hq:∀c a w,Q (.panic c) a w→Q' (.panic c) a w)(ho:∀a w,Q .outgrown a w→Q' .outgrown a w)
  (hh:o.wp P a w K Q):o.wp P a w K' Q':=by
 unfold Oper.wp at *;generalize(execOp a.eval o).run P w=r at *
 cases r with
 | ok n w' =>
  cases n<;>simp only[Oper.upon]at hh⊢
  case value=>exact h _ _ hh
  case skip=>exact h _ _ hh
  case defer=>exact h _ _ hh
  case enter=>
   refine Calls.mono hh fun e w'' he=>?_
   cases e with
   |returned v=>exact h _ _ he
   |panicked c=>exact hq _ _ _ he
   |outgrown=>obtain⟨x,y,z⟩:=he;exact⟨x,y,ho _ _ z⟩
  case row=>exact Rows.mono hh fun _ _ he=>h _ _ he
 | halt x w' =>
  cases x<;>simp only[Oper.upon]at hh⊢
  exact hq _ _ _ hh
def evPost(P:Program)(base:World)(f:Frag)(S:List HP)(ξ:Ext)(l rest:List Oper)(q:Post)(e:Exit)(a:Act)(w:World):Prop:=
 Region.noSelect l.toArray=true→q.blind P→ordOK l.toArray ξ.listed ξ.todo=true→(∀t∈ξ.todo,(getO l t.1).isSome)→rest=pickOps l ξ.todo→backPost P base f S ξ l q e a w
theorem HQ.event{i:Nat}{t:List (Nat×Bool)}
  (k:H P base n L f (A++V) (.ops l [o] (.fn (evPost P base f A ⟨ls.setIfInBounds i true,t⟩ l rest q)))) :
  HQ V ⟨ls,(i,true)::t⟩ P base n L f A (.ops l (o::rest) q):=.mk fun l' q' hK hs hb ho hg a w hf s=>by
 simp only[Kont.ops.injEq]at hK
 obtain⟨rfl,hp,rfl⟩:=hK
 have hgi:=hg (i,true) jL
 cases hgo:getO l i with
 |none=>simp[hgo]at hgi
 | some o' =>
  simp only[pickOps,hgo,List.cons.injEq]at hp
  obtain⟨rfl,hp2⟩:=hp
  simp only[ordOK,Bool.and_eq_true]at ho
  have hk:=k.out a w hf s
  have hr:Region.ready .any l.toArray ls.a= [i]:=by simpa using ho.1.1
  have hne:ls.a≠ls.cut:=by simpa using ho.1.2
  rw[show((i,true)::t).length+ls.left=(t.length+ls.left)+1 by simp only[List.length_cons];omega]
  refine wpAnyC_one hr hne ⟨V,s⟩ ?_
  have h2:∀t'∈t,(getO l t'.1).isSome:=fun t' ht=>hg t' kN
  unfold wpOp
  rw[List.getElem?_toArray,←getO_eq,hgo]
  show if Region.wanted o (yielded l.toArray a.tmps)=true then _ else _
  have hk':wpList P l.toArray (evPost P base f A ⟨ls.setIfInBounds i true,t⟩ l rest q) [o] a w:=hk
  simp only[wpList]at hk'
  have e1:∀a w,evPost P base f A ⟨ls.setIfInBounds i true,t⟩ l rest q .normal a w→
    wpAnyC P (fun w=>∃V,Sat base w f (A++V)) l.toArray (q.den P) ls.cut (t.length+ls.left) (ls.a.setIfInBounds i true) a w:=fun a w h=>h hs hb ho.2 h2 hp2
  by_cases hw:Region.wanted o (yielded l.toArray a.tmps)=true
  ·rw[if_pos hw]at hk'⊢
   rcases hk' with h|⟨hasks,x,y,z⟩
   ·exact .inl (upon_mono e1 (fun c a w h=>h hs hb ho.2 h2 hp2) (fun a w h=>h hs hb ho.2 h2 hp2) h)
   ·exact .inr ⟨hasks,x,y,z hs hb ho.2 h2 hp2⟩
  ·rw[if_neg hw]at hk'⊢
   exact e1 _ _ hk'
theorem H.back(hB:B=A++V')(k:HQ V' ξ P base n L f A (.ops l rest q)):
  H P base n L f B (.out .normal (.fn (evPost P base f A ξ l rest q))):=.mk fun a w hf s hs hb h1 h2 h3=>by
 subst hB;subst h3
 exact k.out l q rfl hs hb h1 h2 a w hf s
theorem HQ.nil{a cut:Array Bool}(k:H P base n L f (A++V) (.out .normal q)):HQ V ⟨⟨a,cut,0,false⟩,[]⟩ P base n L f A (.ops l [] q):=.mk fun l' q' hK hs hb ho hg a w hf s=>by
 simp only[Kont.ops.injEq]at hK
 obtain⟨rfl,hp,rfl⟩:=hK
 exact⟨⟨V,s⟩,by simpa [ordOK]using ho,k.out a w hf s⟩
theorem HQ.done(h0:(ls.left,ls.opn)=(0,false))(k:H P base n L f (A++V) (.out .normal q)):HQ V ⟨ls,[]⟩ P base n L f A (.ops l [] q):=by
 obtain⟨a,cut,left,opn⟩:=ls;simp only[Prod.mk.injEq]at h0;obtain⟨rfl,rfl⟩:=h0;exact HQ.nil k
def lstAfter(a:Array Bool)(t:List (Nat×Bool)):Array Bool:=t.foldl (fun a x=>a.setIfInBounds x.1 true) a
def cutOf(a:Array Bool)(t:List (Nat×Bool)):Nat→Array Bool
 |0=>#[]
 |_+1=>lstAfter a t
def qt:Nat→Nat→List (Nat×Bool)
 |0,_=>[]
 |n+1,k=>(k,false)::qt n (k+1)
theorem H.drawP(todo:List (Nat×Bool))(left:Nat)(hm:P.follows .mixedOrders=true)(hn:(Region.noSelect l.toArray&& ordOK l.toArray ⟨Array.replicate l.length false,cutOf (Array.replicate l.length false) todo left,left,false⟩ todo&& todo.all (fun t=>(getO l t.1).isSome)&& (todo.length+left == l.length))=true)(hb:q.blind P)(hB:B=S++V)(k:HQ V ⟨⟨Array.replicate l.length false,cutOf (Array.replicate l.length false) todo left,left,false⟩,todo⟩ P base n L f S (.ops l (pickOps l todo) q)):H P base n L f B (.code (.region id l.toArray true) q):=.mk fun a w hf s=>by
 simp only[Bool.and_eq_true,List.all_eq_true,beq_iff_eq]at hn
 obtain⟨⟨⟨h1,h2⟩,h3⟩,h4⟩:=hn
 refine wp_region_any hm ?_
 subst hB
 have s':Sat base {w with drawn:=w.drawn+1} f (S++V):=s.same rfl rfl rfl rfl
 have:=k.out l q rfl h1 hb h2 h3 a _ hf s'
 simp only[h4]at this
 simpa using wpAnyC.any _ _ _ _ this
theorem H.draw(todo:List (Nat×Bool))(hm:P.follows .mixedOrders=true)(hn:(Region.noSelect l.toArray&& ordOK l.toArray ⟨Array.replicate l.length false,#[],0,false⟩ todo&& todo.all (fun t=>(getO l t.1).isSome)&& (todo.length == l.length))=true)(hb:q.blind P)(hB:B=S++V)(k:HQ V ⟨⟨Array.replicate l.length false,#[],0,false⟩,todo⟩ P base n L f S (.ops l (pickOps l todo) q)):H P base n L f B (.code (.region id l.toArray true) q):=
 H.drawP todo 0 hm hn hb hB k
theorem H.drawQ(hm:P.follows .mixedOrders=true)(hn:(Region.noSelect l.toArray&& ordOK l.toArray ⟨Array.replicate l.length false,#[],0,false⟩ (qt l.length 0)&& (qt l.length 0).all (fun t=>(getO l t.1).isSome)&& ((qt l.length 0).length == l.length))=true)(hb:q.blind P)
  (k:HQ [] ⟨⟨Array.replicate l.length false,#[],0,false⟩,qt l.length 0⟩ P base n L f A (.ops l (pickOps l (qt l.length 0)) q)):H P base n L f A (.code (.region id l.toArray true) q):=
 H.draw _ hm hn hb (List.append_nil A).symm k
theorem HQ.done0(h0:(ls.left,ls.opn)=(0,false))(k:H P base n L f A (.out .normal q)):HQ [] ⟨ls,[]⟩ P base n L f A (.ops l [] q):=HQ.done h0 (by rw[List.append_nil];exact k)
theorem zad:(Post.fn (FnPost P fn base R)).blind P:=fun c a dst v w h=>by
 obtain⟨h1,h2⟩:=h
 exact⟨by cases dst<;>simpa [Act.put]using h1,h2⟩
theorem zab{y:Code}(h:q.blind P):(Post.seq y q).blind P:=fun c a dst v w h'=>h c a dst v w h'
theorem zag(h:q.blind P):(Post.block id q).blind P:=fun c a dst v w h'=>h c a dst v w h'
theorem zaj{I:Act→World→Prop}(h:q.blind P):(Post.loop I q).blind P:=fun c a dst v w h'=>h c a dst v w h'
structure HS(tl:List Oper)(P:Program)(base:World)(n:Nat)(L:Env)(f:Frag)(A:List HP)(K:Kont):Prop where
 out:∀l rest q,K= .ops l rest q→∀a w,Fr n a L→Sat base w f A→wpStill P l.toArray w (fun a'=>wpList P l.toArray (q.den P) tl a' w) rest a
variable {tl:List Oper}
theorem HS.opV{op:Op}(hw:want? l L gd=true)(hd:Nat.ble (d+1) n=true)
  (hx:∀a w,Fr n a L→Sat base w f A→(execOp a.eval ⟨some d,op,ty,pos,af,gd⟩).run P w= .ok (.value v) w)
  (k:HS tl P base n ((d,v)::L) f A (.ops l rest q)):HS tl P base n L f A (.ops l (⟨some d,op,ty,pos,af,gd⟩::rest) q):=.mk fun l' r' q' hK a w hf s=>by
 simp only[Kont.ops.injEq]at hK
 obtain⟨rfl,rfl,rfl⟩:=hK
 unfold wpStill
 rw[if_pos (hf.want (o:=⟨some d,op,ty,pos,af,gd⟩) hw)]
 unfold Oper.still
 rw[hx a w hf s]
 exact⟨rfl,k.out l rest q rfl _ _ (hf.put (Nat.le_of_ble_eq_true hd) v) s⟩
theorem HS.done(k:H P base n L f A (.ops l tl q)):HS tl P base n L f A (.ops l [] q):=.mk fun l' r' q' hK a w hf s=>by
 simp only[Kont.ops.injEq]at hK
 obtain⟨rfl,rfl,rfl⟩:=hK
 exact k.out a w hf s
def tk:Nat→List Oper→List Oper
 |0,_=>[]
 |_,[]=>[]
 |n+1,o::r=>o::tk n r
def dr:Nat→List Oper→List Oper
 |0,l=>l
 |_+1,[]=>[]
 |n+1,_::r=>dr n r
theorem tk_eq:∀(k:Nat) (l:List Oper),tk k l=l.take k
 |0,l=>by simp[tk]
 |k+1,[]=>by simp[tk]
 |k+1,o::r=>by simp[tk,tk_eq k r]
theorem dr_eq:∀(k:Nat) (l:List Oper),dr k l=l.drop k
 |0,l=>by simp[dr]
 |k+1,[]=>by simp[dr]
 |k+1,o::r=>by simp[dr,dr_eq k r]
theorem H.drawT(m:Nat)(hm:P.follows .mixedOrders=true)(hB:Region.lexTailB .any l.toArray m=true)
  (k:HS (dr m l) P base n L f A (.ops l (tk m l) q)):H P base n L f A (.code (.region id l.toArray true) q):=.mk fun a w hf s=>
 wp_region_still_tail m hm hB (by
  have:=k.out l (tk m l) q rfl a {w with drawn:=w.drawn+1} hf (s.same rfl rfl rfl rfl)
  rw[tk_eq,dr_eq]at this
  exact this)
variable {κ:Type} [DecidableEq κ] {enc:κ→Value}
theorem HQ.Bh{e:Nat}{u:Value}(hv:look? L e=some v)(he:v=u)(h:HQ V ξ P base n ((e,u)::L) f A K):HQ V ξ P base n L f A K:=.mk fun l q hK hs hb ho hg a w hf s=>by
 exact h.out l q hK hs hb ho hg a w (hf.know hv he) s
theorem HQ.gset{b:Bool}{c:Bool}{e:Nat}{t1:TypeId}(hg:o.guard=some (j,b))(hj:getO l j=some ⟨some e,p1,t1,q1,a1,g1⟩)(hv:look? L e=some (.bool c))(ht:c=true→HQ V ξ P base n ((e,.bool true)::L) f A (.ops l (o::rest) q))
  (hf:c=false→HQ V ξ P base n ((e,.bool false)::L) f A (.ops l (o::rest) q)):HQ V ξ P base n L f A (.ops l (o::rest) q):=by
 have _:=hg;have _:=hj
 cases c with
 |true=>exact HQ.Bh hv rfl (ht rfl)
 |false=>exact HQ.Bh hv rfl (hf rfl)
theorem HQ.Aw(hw:want? l L gd=true)(hx:ev? L x=some v)(hd:Nat.ble (d+1) n=true){lst:Lst}
  (k:HQ V ⟨lst.setIfInBounds ti true,tt⟩ P base n ((d,v)::L) f A (.ops l rest q)):HQ V ⟨lst,(ti,false)::tt⟩ P base n L f A (.ops l (⟨some d,.move x,ty,pos,af,gd⟩::rest) q):=
 HQ.opV hw hd (fun a w hf _=>by simp[execOp,hf.eval hx]) k
theorem HQ.Be(hw:want? l L gd=true)(hx:ev? L x=some v)(hd:Nat.ble (d+1) n=true){lst:Lst}
  (k:HQ V ⟨lst.setIfInBounds ti true,tt⟩ P base n ((d,v)::L) f A (.ops l rest q)):HQ V ⟨lst,(ti,false)::tt⟩ P base n L f A (.ops l (⟨some d,.assign x,ty,pos,af,gd⟩::rest) q):=
 HQ.opV hw hd (fun a w hf _=>by simp[execOp,hf.eval hx]) k
theorem HQ.pickT{c:Operand}(hw:want? l L gd=true)(hc:ev? L c=some (.bool true))(hx:ev? L x=some v)(hd:Nat.ble (d+1) n=true){lst:Lst}
  (k:HQ V ⟨lst.setIfInBounds ti true,tt⟩ P base n ((d,v)::L) f A (.ops l rest q)):HQ V ⟨lst,(ti,false)::tt⟩ P base n L f A (.ops l (⟨some d,.pick c x y,ty,pos,af,gd⟩::rest) q):=
 HQ.opV hw hd (fun a w hf _=>by simp[execOp,hf.eval hx,hf.eval hc,asBool]) k
theorem HQ.Br{c:Operand}(hw:want? l L gd=true)(hc:ev? L c=some (.bool false))(hx:ev? L y=some v)(hd:Nat.ble (d+1) n=true){lst:Lst}
  (k:HQ V ⟨lst.setIfInBounds ti true,tt⟩ P base n ((d,v)::L) f A (.ops l rest q)):HQ V ⟨lst,(ti,false)::tt⟩ P base n L f A (.ops l (⟨some d,.pick c x y,ty,pos,af,gd⟩::rest) q):=
 HQ.opV hw hd (fun a w hf _=>by simp[execOp,hf.eval hx,hf.eval hc,asBool]) k
theorem HQ.Bd{p:Addr}(hw:want? l L gd=true)(hx:ev? L x=some (.pointer (some p)))(hd:Nat.ble (d+1) n=true){lst:Lst}
  (k:HQ V ⟨lst.setIfInBounds ti true,tt⟩ P base n ((d,.pointer (some p))::L) f A (.ops l rest q)):HQ V ⟨lst,(ti,false)::tt⟩ P base n L f A (.ops l (⟨some d,.nilCheck x,ty,pos,af,gd⟩::rest) q):=
 HQ.opV hw hd (fun a w hf _=>by simp[execOp,hf.eval hx]) k
theorem HQ.cmp{k:IntKind}{p:Int}{b:Bool}(hw:want? l L gd=true)(hx:ev? L x=some (.int k p))(hy:ev? L y=some (.int k p2))(hc:cmpP op p p2=some b)(hd:Nat.ble (d+1) n=true){lst:Lst}
  (kk:HQ V ⟨lst.setIfInBounds ti true,tt⟩ P base n ((d,.bool b)::L) f A (.ops l rest q)):HQ V ⟨lst,(ti,false)::tt⟩ P base n L f A (.ops l (⟨some d,.binOp op xt x y yt,ty,pos,af,gd⟩::rest) q):=
 HQ.opV hw hd (fun a w hf _=>by
  cases op<;>simp only[cmpP,Option.some.injEq,reduceCtorEq]at hc<;>subst hc<;>
   simp[execOp,eqGuard,binOp,Op.intCmp,hf.eval hx,hf.eval hy]<;>by_cases e:p=p2<;>simp[e]) kk
theorem HQ.ar{k:IntKind}{p:Int}(hw:want? l L gd=true)(hx:ev? L x=some (.int k p))(hy:ev? L y=some (.int k p2))(hc:arP op k p p2=some r)(hz:r=z)(hd:Nat.ble (d+1) n=true){lst:Lst}
  (kk:HQ V ⟨lst.setIfInBounds ti true,tt⟩ P base n ((d,.int k z)::L) f A (.ops l rest q)):HQ V ⟨lst,(ti,false)::tt⟩ P base n L f A (.ops l (⟨some d,.binOp op xt x y yt,ty,pos,af,gd⟩::rest) q):=
 HQ.opV hw hd (fun a w hf _=>by
  cases op<;>simp only[arP,Option.some.injEq,reduceCtorEq]at hc<;>subst hc<;>subst hz<;>
   simp[execOp,eqGuard,binOp,Op.intArith,hf.eval hx,hf.eval hy]) kk
theorem HQ.quo{k:IntKind}{p:Int}(hw:want? l L gd=true)(hx:ev? L x=some (.int k p))(hy:ev? L y=some (.int k p2))(h0:p2≠0)(hz:k.wrap (p.tdiv p2)=z)(hd:Nat.ble (d+1) n=true){lst:Lst}
  (kk:HQ V ⟨lst.setIfInBounds ti true,tt⟩ P base n ((d,.int k z)::L) f A (.ops l rest q)):HQ V ⟨lst,(ti,false)::tt⟩ P base n L f A (.ops l (⟨some d,.binOp .quo xt x y yt,ty,pos,af,gd⟩::rest) q):=
 HQ.opV hw hd (fun a w hf _=>by subst hz;simp[execOp,eqGuard,binOp,Op.intDiv,hf.eval hx,hf.eval hy,h0]) kk
theorem HQ.rem{k:IntKind}{p:Int}(hw:want? l L gd=true)(hx:ev? L x=some (.int k p))(hy:ev? L y=some (.int k p2))(h0:p2≠0)(hz:p.tmod p2=z)(hd:Nat.ble (d+1) n=true){lst:Lst}
  (kk:HQ V ⟨lst.setIfInBounds ti true,tt⟩ P base n ((d,.int k z)::L) f A (.ops l rest q)):HQ V ⟨lst,(ti,false)::tt⟩ P base n L f A (.ops l (⟨some d,.binOp .rem xt x y yt,ty,pos,af,gd⟩::rest) q):=
 HQ.opV hw hd (fun a w hf _=>by subst hz;simp[execOp,eqGuard,binOp,Op.intDiv,hf.eval hx,hf.eval hy,h0]) kk
theorem HQ.ptrNil{b:Bool}[hu:Und P xt (.pointer e)](hw:want? l L gd=true)(hx:ev? L x=some (.pointer p))(hy:ev? L y=some (.pointer none))(hb:nilP op p=some b)(hd:Nat.ble (d+1) n=true){lst:Lst}
  (kk:HQ V ⟨lst.setIfInBounds ti true,tt⟩ P base n ((d,.bool b)::L) f A (.ops l rest q)):HQ V ⟨lst,(ti,false)::tt⟩ P base n L f A (.ops l (⟨some d,.binOp op xt x y yt,ty,pos,af,gd⟩::rest) q):=
 HQ.opV hw hd (fun a w hf _=>by
  refine run_bin _ ?_ ?_
  ·rw[hf.eval hx,hf.eval hy];exact run_guard_ptr _ _ _ _ _ _ _
  ·rw[hf.eval hx,hf.eval hy]
   have e1:Sem.run P (do pure (Value.bool (←Op.equal xt (.pointer p) (.pointer none)))) w= .ok (.bool p.isNone) w:=by simp[run_equal_pn hu]
   have e2:Sem.run P (do pure (Value.bool (!(←Op.equal xt (.pointer p) (.pointer none))))) w= .ok (.bool (!p.isNone)) w:=by simp[run_equal_pn hu]
   cases op<;>cases p<;>simp only[nilP,Option.some.injEq,reduceCtorEq]at hb<;>subst hb<;>first|exact e1|exact e2) kk
theorem HQ.not{b c:Bool}(hw:want? l L gd=true)(hx:ev? L x=some (.bool b))(hb:(!b)=c)(hd:Nat.ble (d+1) n=true){lst:Lst}
  (k:HQ V ⟨lst.setIfInBounds ti true,tt⟩ P base n ((d,.bool c)::L) f A (.ops l rest q)):HQ V ⟨lst,(ti,false)::tt⟩ P base n L f A (.ops l (⟨some d,.unOp .not xt x,ty,pos,af,gd⟩::rest) q):=
 HQ.opV hw hd (fun a w hf _=>by subst hb;simp[execOp,Op.unary,hf.eval hx]) k
theorem HQ.Bk{i j:IntKind}{p:Int}{ds:TypeDesc}[hs:Und P s ds][ht:Und P t (.int j)](hw:want? l L gd=true)(hx:ev? L x=some (.int i p))(hz:j.wrap p=z)(hd:Nat.ble (d+1) n=true){lst:Lst}
  (k:HQ V ⟨lst.setIfInBounds ti true,tt⟩ P base n ((d,.int j z)::L) f A (.ops l rest q)):HQ V ⟨lst,(ti,false)::tt⟩ P base n L f A (.ops l (⟨some d,.convert s t x,ty,pos,af,gd⟩::rest) q):=
 HQ.opV hw hd (fun a w hf _=>by
  subst hz
  have h1:=hs.run w
  have h2:=ht.run w
  simp only[execOp,convert,hf.eval hx,Sem.run_bind,h1,h2,Result.andThen_ok]
  cases ds<;>simp[Conv.intToInt]) k
theorem HQ.Bv{i:Nat}(hw:want? l L gd=true)(hx:ev? L x=some (.tuple vs.toArray))(hv:nthV vs i=some v)(hd:Nat.ble (d+1) n=true){lst:Lst}
  (k:HQ V ⟨lst.setIfInBounds ti true,tt⟩ P base n ((d,v)::L) f A (.ops l rest q)):HQ V ⟨lst,(ti,false)::tt⟩ P base n L f A (.ops l (⟨some d,.extract x i,ty,pos,af,gd⟩::rest) q):=
 HQ.opV hw hd (fun a w hf _=>by
  rw[nthV_eq]at hv
  simp[execOp,Instr.extract,hf.eval hx,hv]) k
theorem HQ.gdec{b:Bool}{e:Nat}{t1:TypeId}{p:Prop}{_:Decidable p}(hg:o.guard=some (j,b))(hj:getO l j=some ⟨some e,p1,t1,q1,a1,g1⟩)(hv:look? L e=some (.bool (decide p)))
  (ht:p→HQ V ξ P base n ((e,.bool true)::L) f A (.ops l (o::rest) q)) (hf:¬p→HQ V ξ P base n ((e,.bool false)::L) f A (.ops l (o::rest) q)):HQ V ξ P base n L f A (.ops l (o::rest) q):=
 HQ.gset hg hj hv (fun h=>ht (of_decide_eq_true h)) (fun h=>hf (of_decide_eq_false h))
theorem HQ.gyes{b:Bool}{e:Nat}{t1:TypeId}{p:Prop}{_:Decidable p}(hg:o.guard=some (j,b))(hj:getO l j=some ⟨some e,p1,t1,q1,a1,g1⟩)(hv:look? L e=some (.bool (decide p)))
  (hp:p) (ht:HQ V ξ P base n ((e,.bool true)::L) f A (.ops l (o::rest) q)):HQ V ξ P base n L f A (.ops l (o::rest) q):=
 HQ.gdec hg hj hv (fun _=>ht) (fun h=>absurd hp h)
theorem HQ.gno{b:Bool}{e:Nat}{t1:TypeId}{p:Prop}{_:Decidable p}(hg:o.guard=some (j,b))(hj:getO l j=some ⟨some e,p1,t1,q1,a1,g1⟩)(hv:look? L e=some (.bool (decide p)))
  (hp:¬p) (hf:HQ V ξ P base n ((e,.bool false)::L) f A (.ops l (o::rest) q)):HQ V ξ P base n L f A (.ops l (o::rest) q):=
 HQ.gdec hg hj hv (fun h=>absurd h hp) (fun _=>hf)
theorem HQ.Bm{i:Nat}{fs:List Field}[hu:Und P st (.struct fs.toArray)](hw:want? l L gd=true)
  (hx:ev? L x=some (.pointer (some ⟨b,off,none⟩))) (hf:nthF fs i=some ⟨nm,ft,fo,em,tg,pk,bo⟩) (hs:Siz P ft (m+1)) (hd:Nat.ble (d+1) n=true) {lst:Lst}
  (k:HQ V ⟨lst.setIfInBounds ti true,tt⟩ P base n ((d,.pointer (some ⟨b,off+fo,none⟩))::L) f A (.ops l rest q)):HQ V ⟨lst,(ti,false)::tt⟩ P base n L f A (.ops l (⟨some d,.fieldAddr st x i,ty,pos,af,gd⟩::rest) q):=
 HQ.opV hw hd (fun a w hfr _=>by
  rw[nthF_eq]at hf
  simp[execOp,Instr.fieldAt,hfr.eval hx,hu.run,hf,Instr.sureAddr,fieldPlace,hs.run,zaz]) k
theorem HQ.Ad[hu:Und P t dd](hw:want? l L gd=true)(hx:ev? L x=some (.pointer (some ⟨b,off,none⟩)))(ha:aggD dd=false)
  (hr:Rd1 f A b off v) (hd:Nat.ble (d+1) n=true) {lst:Lst}
  (k:HQ V ⟨lst.setIfInBounds ti true,tt⟩ P base n ((d,v)::L) f A (.ops l rest q)):HQ V ⟨lst,(ti,false)::tt⟩ P base n L f A (.ops l (⟨some d,.load t x,ty,pos,af,gd⟩::rest) q):=
 HQ.opV hw hd (fun a w hfr s=>by simp[execOp,hfr.eval hx,run_loadAt1 hu ha (hr base w s)]) k
theorem HQ.Ab{ls:List Value}[hu:Und P t dd][hs:Siz P t m](hw:want? l L gd=true)(hx:ev? L x=some (.pointer (some ⟨b,off,none⟩)))(ha:aggD dd=true)
  (hr:Rd f A b off ls) (hm:ls.length=m) (hd:Nat.ble (d+1) n=true) {lst:Lst}
  (k:HQ V ⟨lst.setIfInBounds ti true,tt⟩ P base n ((d,.agg ls.toArray)::L) f A (.ops l rest q)):HQ V ⟨lst,(ti,false)::tt⟩ P base n L f A (.ops l (⟨some d,.load t x,ty,pos,af,gd⟩::rest) q):=
 HQ.opV hw hd (fun a w hfr s=>by simp[execOp,hfr.eval hx,run_loadAtN hu ha hs (hr base w s) hm]) k
theorem HQ.Bi[hu:Und P t (.slice e)](hw:want? l L gd=true)(hx:ev? L x=some (.slice p m c))(hd:Nat.ble (d+1) n=true){lst:Lst}
  (k:HQ V ⟨lst.setIfInBounds ti true,tt⟩ P base n ((d,.int .i64 (m:Nat))::L) f A (.ops l rest q)):HQ V ⟨lst,(ti,false)::tt⟩ P base n L f A (.ops l (⟨some d,.call ⟨.builtin .len,#[x],#[t]⟩,ty,pos,af,gd⟩::rest) q):=
 HQ.opV hw hd (fun a w hfr _=>by
  simp[execOp,resolve,invoke,builtin,Builtin.len_,hfr.eval hx,hu.run,goInt]) k
theorem HQ.Ak{i:Nat}[hu:Und P t (.slice e)][hs:Siz P e sz](hw:want? l L gd=true)
  (hx:ev? L x=some (.slice (some ⟨b,off,none⟩) m c)) (hy:ev? L y=some (.int ik z)) (hq:z=(i:Nat)) (hi:i<m) (hd:Nat.ble (d+1) n=true) {lst:Lst}
  (k:HQ V ⟨lst.setIfInBounds ti true,tt⟩ P base n ((d,.pointer (some ⟨b,off+i*sz,none⟩))::L) f A (.ops l rest q)):HQ V ⟨lst,(ti,false)::tt⟩ P base n L f A (.ops l (⟨some d,.indexAddr t x y,ty,pos,af,gd⟩::rest) q):=
 HQ.opV hw hd (fun a w hfr _=>by
  subst hq
  simp only[execOp,Instr.indexAt,hfr.eval hx,hfr.eval hy,Sem.run_bind,asIntOf,Sem.run_pure,Result.andThen_ok,hu.run]
  simp[hi,hs.run,zaz]) k
theorem HQ.Ao{i:Nat}[hu:Und P t (.array m e)][hs:Siz P e sz](hw:want? l L gd=true)
  (hx:ev? L x=some (.pointer (some ⟨b,off,none⟩))) (hy:ev? L y=some (.int ik z)) (hq:z=(i:Nat)) (hi:i<m) (hd:Nat.ble (d+1) n=true) {lst:Lst}
  (k:HQ V ⟨lst.setIfInBounds ti true,tt⟩ P base n ((d,.pointer (some ⟨b,off+i*sz,none⟩))::L) f A (.ops l rest q)):HQ V ⟨lst,(ti,false)::tt⟩ P base n L f A (.ops l (⟨some d,.indexAddr t x y,ty,pos,af,gd⟩::rest) q):=
 HQ.opV hw hd (fun a w hfr _=>by
  subst hq
  simp only[execOp,Instr.indexAt,hfr.eval hx,hfr.eval hy,Sem.run_bind,asIntOf,Sem.run_pure,Result.andThen_ok,hu.run,Instr.sureAddr]
  simp[hi,hs.run,zaz]) k
theorem HQ.Cd{i:Nat}[hu:Und P t (.slice e)][hs:Siz P e 1](hw:want? l L gd=true)
  (hx:ev? L x=some (.slice (some ⟨b,off,none⟩) m c)) (hy:ev? L y=some (.int ik z)) (hq:z=(i:Nat)) (hi:i<m) (hd:Nat.ble (d+1) n=true) {lst:Lst}
  (k:HQ V ⟨lst.setIfInBounds ti true,tt⟩ P base n ((d,.pointer (some ⟨b,off+i,none⟩))::L) f A (.ops l rest q)):HQ V ⟨lst,(ti,false)::tt⟩ P base n L f A (.ops l (⟨some d,.indexAddr t x y,ty,pos,af,gd⟩::rest) q):=
 HQ.opV hw hd (fun a w hfr _=>by
  subst hq
  simp only[execOp,Instr.indexAt,hfr.eval hx,hfr.eval hy,Sem.run_bind,asIntOf,Sem.run_pure,Result.andThen_ok,hu.run]
  simp[hi,hs.run,zaz]) k
theorem HQ.Ah{i:Nat}[hu:Und P t (.slice e)][hs:Siz P e sz](hw:want? l L gd=true)
  (hx:ev? L x=some (.slice (some ⟨b,0,none⟩) m c)) (hy:ev? L y=some (.int ik z)) (hq:z=(i:Nat)) (hi:i<m) (hd:Nat.ble (d+1) n=true) {lst:Lst}
  (k:HQ V ⟨lst.setIfInBounds ti true,tt⟩ P base n ((d,.pointer (some ⟨b,i*sz,none⟩))::L) f A (.ops l rest q)):HQ V ⟨lst,(ti,false)::tt⟩ P base n L f A (.ops l (⟨some d,.indexAddr t x y,ty,pos,af,gd⟩::rest) q):=
 HQ.opV hw hd (fun a w hfr _=>by
  subst hq
  simp only[execOp,Instr.indexAt,hfr.eval hx,hfr.eval hy,Sem.run_bind,asIntOf,Sem.run_pure,Result.andThen_ok,hu.run]
  simp[hi,hs.run,zaz]) k
theorem HQ.Bn{m:List (κ×Value)}{k:κ}{z kv:Value}[hu:Und P t (.map kt et)][hk:KeyT P kt enc][hz:Zer P et z](hw:want? l L gd=true)
  (hx:ev? L x=some (.map (some b))) (hy:ev? L y=some kv) (hA:At A (mp b enc m) A' (mp b enc m)) (hkv:kv=enc k) (hv:(getKV m k).getD z=v) (hd:Nat.ble (d+1) n=true) {lst:Lst}
  (kk:HQ V ⟨lst.setIfInBounds ti true,tt⟩ P base n ((d,v)::L) f A (.ops l rest q)):HQ V ⟨lst,(ti,false)::tt⟩ P base n L f A (.ops l (⟨some d,.lookup t x y false,ty,pos,af,gd⟩::rest) q):=
 HQ.opV hw hd (fun a w hfr s=>by
  subst hv;subst hkv
  have h:=run_lookup_mp (c:=false) (k:=k) hu hk hz s hA
  simp only[execOp,hfr.eval hx,hfr.eval hy,Sem.run_bind,h,Result.andThen_ok,Sem.run_pure]
  rfl) kk
theorem HQ.Cm{m:List (κ×Value)}{k:κ}{z kv:Value}{i:Bool}[hu:Und P t (.map kt et)][hk:KeyT P kt enc][hz:Zer P et z](hw:want? l L gd=true)
  (hx:ev? L x=some (.map (some b))) (hy:ev? L y=some kv) (hA:At A (mp b enc m) A' (mp b enc m)) (hkv:kv=enc k) (hv:(getKV m k).getD z=v) (hi:(getKV m k).isSome=i) (hd:Nat.ble (d+1) n=true) {lst:Lst}
  (kk:HQ V ⟨lst.setIfInBounds ti true,tt⟩ P base n ((d,.tuple #[v,.bool i])::L) f A (.ops l rest q)):HQ V ⟨lst,(ti,false)::tt⟩ P base n L f A (.ops l (⟨some d,.lookup t x y true,ty,pos,af,gd⟩::rest) q):=
 HQ.opV hw hd (fun a w hfr s=>by
  subst hv;subst hkv;subst hi
  have h:=run_lookup_mp (c:=true) (k:=k) hu hk hz s hA
  simp only[execOp,hfr.eval hx,hfr.eval hy,Sem.run_bind,h,Result.andThen_ok,Sem.run_pure]
  rfl) kk
theorem HS.Aw(hw:want? l L gd=true)(hx:ev? L x=some v)(hd:Nat.ble (d+1) n=true)
  (k:HS tl P base n ((d,v)::L) f A (.ops l rest q)):HS tl P base n L f A (.ops l (⟨some d,.move x,ty,pos,af,gd⟩::rest) q):=
 HS.opV hw hd (fun a w hf _=>by simp[execOp,hf.eval hx]) k
theorem HS.Bd{p:Addr}(hw:want? l L gd=true)(hx:ev? L x=some (.pointer (some p)))(hd:Nat.ble (d+1) n=true)
  (k:HS tl P base n ((d,.pointer (some p))::L) f A (.ops l rest q)):HS tl P base n L f A (.ops l (⟨some d,.nilCheck x,ty,pos,af,gd⟩::rest) q):=
 HS.opV hw hd (fun a w hf _=>by simp[execOp,hf.eval hx]) k
theorem HS.ar{k:IntKind}{p:Int}(hw:want? l L gd=true)(hx:ev? L x=some (.int k p))(hy:ev? L y=some (.int k p2))(hc:arP op k p p2=some r)(hz:r=z)(hd:Nat.ble (d+1) n=true)
  (kk:HS tl P base n ((d,.int k z)::L) f A (.ops l rest q)):HS tl P base n L f A (.ops l (⟨some d,.binOp op xt x y yt,ty,pos,af,gd⟩::rest) q):=
 HS.opV hw hd (fun a w hf _=>by
  cases op<;>simp only[arP,Option.some.injEq,reduceCtorEq]at hc<;>subst hc<;>subst hz<;>
   simp[execOp,eqGuard,binOp,Op.intArith,hf.eval hx,hf.eval hy]) kk
theorem HS.Bm{i:Nat}{fs:List Field}[hu:Und P st (.struct fs.toArray)](hw:want? l L gd=true)
  (hx:ev? L x=some (.pointer (some ⟨b,off,none⟩))) (hf:nthF fs i=some ⟨nm,ft,fo,em,tg,pk,bo⟩) (hs:Siz P ft (m+1)) (hd:Nat.ble (d+1) n=true)
  (k:HS tl P base n ((d,.pointer (some ⟨b,off+fo,none⟩))::L) f A (.ops l rest q)):HS tl P base n L f A (.ops l (⟨some d,.fieldAddr st x i,ty,pos,af,gd⟩::rest) q):=
 HS.opV hw hd (fun a w hfr _=>by
  rw[nthF_eq]at hf
  simp[execOp,Instr.fieldAt,hfr.eval hx,hu.run,hf,Instr.sureAddr,fieldPlace,hs.run,zaz]) k
theorem HS.Ad[hu:Und P t dd](hw:want? l L gd=true)(hx:ev? L x=some (.pointer (some ⟨b,off,none⟩)))(ha:aggD dd=false)
  (hr:Rd1 f A b off v) (hd:Nat.ble (d+1) n=true)
  (k:HS tl P base n ((d,v)::L) f A (.ops l rest q)):HS tl P base n L f A (.ops l (⟨some d,.load t x,ty,pos,af,gd⟩::rest) q):=
 HS.opV hw hd (fun a w hfr s=>by simp[execOp,hfr.eval hx,run_loadAt1 hu ha (hr base w s)]) k
theorem HS.Bi[hu:Und P t (.slice e)](hw:want? l L gd=true)(hx:ev? L x=some (.slice p m c))(hd:Nat.ble (d+1) n=true)
  (k:HS tl P base n ((d,.int .i64 (m:Nat))::L) f A (.ops l rest q)):HS tl P base n L f A (.ops l (⟨some d,.call ⟨.builtin .len,#[x],#[t]⟩,ty,pos,af,gd⟩::rest) q):=
 HS.opV hw hd (fun a w hfr _=>by
  simp[execOp,resolve,invoke,builtin,Builtin.len_,hfr.eval hx,hu.run,goInt]) k
theorem HS.Ah{i:Nat}[hu:Und P t (.slice e)][hs:Siz P e sz](hw:want? l L gd=true)
  (hx:ev? L x=some (.slice (some ⟨b,0,none⟩) m c)) (hy:ev? L y=some (.int ik z)) (hq:z=(i:Nat)) (hi:i<m) (hd:Nat.ble (d+1) n=true)
  (k:HS tl P base n ((d,.pointer (some ⟨b,i*sz,none⟩))::L) f A (.ops l rest q)):HS tl P base n L f A (.ops l (⟨some d,.indexAddr t x y,ty,pos,af,gd⟩::rest) q):=
 HS.opV hw hd (fun a w hfr _=>by
  subst hq
  simp only[execOp,Instr.indexAt,hfr.eval hx,hfr.eval hy,Sem.run_bind,asIntOf,Sem.run_pure,Result.andThen_ok,hu.run]
  simp[hi,hs.run,zaz]) k
end rules
variable {P:Program} {base:World} {n:Nat} {L:Env} {f:Frag} {A:List HP} {l:List Oper}
theorem H.dq(k:HQ [] ⟨⟨Array.replicate l.length false,#[],0,false⟩,qt l.length 0⟩ P base n L f A (.ops l (pickOps l (qt l.length 0)) q))(hm:P.follows .mixedOrders=true:=by kernel_rfl)(hn:(Region.noSelect l.toArray&& ordOK l.toArray ⟨Array.replicate l.length false,#[],0,false⟩ (qt l.length 0)&& (qt l.length 0).all (fun t=>(getO l t.1).isSome)&& ((qt l.length 0).length == l.length))=true:=by decide+kernel)(hb:q.blind P:=by with_reducible (repeat(first|exact zad|refine zab ?_|refine zag ?_|refine zaj ?_))):H P base n L f A (.code (.region id l.toArray true) q):=H.drawQ hm hn hb k
def cellsL:Value→List Value
 | .agg cs=>cs.toList
 |v=>[v]
def spl:List Value→Nat→List Value→List Value
 |cs,0,[]=>cs
 |_::cs,0,v::vs=>v::spl cs 0 vs
 |c::cs,n+1,vs=>c::spl cs n vs
 | [],_,_=>[]
def fillL(place:Nat→Option (Nat×Nat)):List Value→List (Nat×Value)→Option (List Value)
 |cs,[]=>some cs
 | cs, (i, v) :: r => match place i with
  |none=>none
  | some (off, size) => match Nat.beq (cellsL v).length size && Nat.ble (off + size) cs.length with
   |true=>fillL place (spl cs off (cellsL v)) r
   |false=>none
theorem cellsL_eq(v:Value):v.cells.toList=cellsL v:=by cases v<;>rfl
theorem spl_get:∀(cs:List Value) (off:Nat) (vs:List Value),off+vs.length≤cs.length→∀i,(spl cs off vs)[i]? =if off≤i∧i<off+vs.length then vs[i-off]? else cs[i]?
 | [], off, vs, h, i => by
  have h':off+vs.length≤0:=h
  have h1:off=0:=jA
  have h2:vs= []:=List.eq_nil_of_length_eq_zero jA
  subst h1;subst h2;simp[spl]
 |c::cs,0,[],_,i=>by simp[spl]
 | c :: cs, 0, v :: vs, h, i => by
  simp only[List.length_cons]at h
  cases i with
  |zero=>simp[spl]
  | succ i =>
   simp only[spl,List.getElem?_cons_succ]
   rw[spl_get cs 0 vs jA i]
   simp
 | c :: cs, off + 1, vs, h, i => by
  simp only[List.length_cons]at h
  cases i with
  |zero=>simp[spl]
  | succ i =>
   simp only[spl,List.getElem?_cons_succ]
   rw[spl_get cs off vs jA i]
   have e1:(off+1≤i+1∧i+1<off+1+vs.length)↔(off≤i∧i<off+vs.length):=jA
   simp only[e1,Nat.reduceSubDiff]
theorem spl_splice(cs:List Value)(off:Nat)(vs:List Value)(h:off+vs.length≤cs.length):spl cs off vs=splice cs off vs:=by
 apply List.ext_getElem?;intro i;rw[spl_get cs off vs h];unfold splice;simp only[List.getElem?_append,List.length_append,List.length_take,List.getElem?_take,List.getElem?_drop];have e:min off cs.length=off:=jA
 rw[e];by_cases c1:i<off
 ·simp[c1,show¬off≤i by omega,show i<off+vs.length by omega]
 ·by_cases c2:i<off+vs.length
  ·simp[c1,c2,show off≤i by omega]
  ·have:off+vs.length+(i-(off+vs.length))=i:=jA
   simp[c2,this]
theorem fold_spl(off:Nat):∀(vs:List Value) (k:Nat) (cs:List Value),off+k+vs.length≤cs.length→
  (vs.zipIdx k).foldl (fun(cs:Array Value) (x:Value×Nat)=>cs.setIfInBounds (off+x.2) x.1) cs.toArray=(splice cs (off+k) vs).toArray
 | [],k,cs,_=>by simp[splice_nil]
 | v :: vs, k, cs, h => by
  simp only[List.length_cons]at h
  simp only[List.zipIdx_cons,List.foldl_cons]
  have e:(cs.toArray.setIfInBounds (off+k) v)=(cs.set (off+k) v).toArray:=by simp
  rw[e,fold_spl off vs (k+1) _ je,←splice_cons cs (off+k) v vs jA]
  rfl
theorem fill_eq(place:Nat→Option (Nat×Nat)):∀(parts:List (Nat×Value)) (cs out:List Value),fillL place cs parts=some out→
  Instr.fill place cs.toArray parts=some out.toArray
 | [],cs,out,h=>by simp[fillL]at h;simp[Instr.fill,h]
 | (i, v) :: r, cs, out, h => by
  simp only[fillL]at h
  unfold Instr.fill
  cases hp:place i with
  |none=>rw[hp]at h;cases h
  | some os =>
   obtain⟨off,size⟩:=os
   rw[hp]at h
   simp only at h⊢
   split at h
   ·rename_i hb
    simp only[Bool.and_eq_true]at hb
    have h1:(cellsL v).length=size:=Nat.eq_of_beq_eq_true hb.1
    have h2:off+size≤cs.length:=Nat.le_of_ble_eq_true hb.2
    have h3:v.cells.size=size:=by rw[←h1,←cellsL_eq];simp
    have hc:¬(v.cells.size≠size∨off+v.cells.size>cs.toArray.size):=by rw[h3];simp;omega
    simp only[Bool.or_eq_true,decide_eq_true_eq,ne_eq,hc,if_false]
    have hf:v.cells.zipIdx.foldl (fun(cs:Array Value) (x:Value×Nat)=>cs.setIfInBounds (off+x.2) x.1) cs.toArray=(spl cs off (cellsL v)).toArray:=by
     rw[spl_splice _ _ _ jA,←cellsL_eq];have e:=fold_spl off v.cells.toList 0 cs (by simp[h3];omega);rw[Nat.add_zero]at e
     rw[←e,←Array.foldl_toList];congr 1;rw[Array.toList_zipIdx]
    have e2:∀(a:Array Value),(v.cells.zipIdx.foldl (fun cs (x:Value×Nat)=>match x with|(c,j)=>cs.setIfInBounds (off+j) c) a)=v.cells.zipIdx.foldl (fun(cs:Array Value) (x:Value×Nat)=>cs.setIfInBounds (off+x.2) x.1) a:=fun a=>rfl
    rw[e2,hf]
    exact fill_eq place r _ _ h
   ·cases h
class Plc (P:Program) (t:TypeId) (pl:outParam (List (Nat×Nat))):Prop where
 eq:∀(fs:Array Field) (w:World),P.underlying t=some (.struct fs)→(fs.mapM fun(f:Field)=>do pure (f.offset,←sizeOf f.type)).run P w= .ok pl.toArray w
def nthP:List (Nat×Nat)→Nat→Option (Nat×Nat)
 | [],_=>none
 |v::_,0=>some v
 |_::r,i+1=>nthP r i
theorem nthP_eq:∀(l:List (Nat×Nat)) (i:Nat),nthP l i=l[i]?
 | [],i=>by simp[nthP]
 |o::r,0=>by simp[nthP]
 |o::r,i+1=>by simp[nthP,nthP_eq r i]
def evP(L:Env):List (Nat×Operand)→Option (List (Nat×Value))
 | []=>some []
 |(i,x)::r=>(ev? L x).bind fun v=>(evP L r).bind fun vs=>some ((i,v)::vs)
theorem Fr.evP{n:Nat}{a:Act}{L:Env}(h:Fr n a L):∀ {xs:List (Nat×Operand)} {vs:List (Nat×Value)},evP L xs=some vs→xs.map (fun p=>(p.1,a.eval p.2))=vs
 | [],vs,hx=>by simp[Proofs.YtkaknokcbhiigaaGreatDoor.evP]at hx;simp[hx]
 | (i, x) :: xs, vs, hx => by
  simp only[Proofs.YtkaknokcbhiigaaGreatDoor.evP,Option.bind_eq_some_iff,Option.some.injEq]at hx
  obtain⟨v,hv,us,hus,rfl⟩:=hx
  simp[h.eval hv,h.evP hus]
def zeros(z:List Value):Nat→List Value
 |0=>[]
 |n+1=>z++zeros z n
theorem zeros_length(z:List Value)(n:Nat):(zeros z n).length=n*z.length:=by
 induction n with
 |zero=>simp[zeros]
 |succ n ih=>simp[zeros,ih,Nat.add_mul,Nat.add_comm]
theorem zeros_get(z:List Value):∀(n i:Nat),i<n*z.length→(zeros z n)[i]? =z[i % z.length]?
 |0,i,h=>by simp at h
 | n + 1, i, h => by
  simp only[zeros]
  by_cases c:i<z.length
  ·rw[List.getElem?_append_left c,Nat.mod_eq_of_lt c]
  ·rw[List.getElem?_append_right jA,zeros_get z n _ (by rw[Nat.add_mul,Nat.one_mul]at h;omega),Nat.mod_eq_sub_mod (a:=i) jA]
theorem zeros_array(z:List Value)(n:Nat)(hz:0<z.length):((Array.range (n*z.length)).map (z.toArray[· % z.toArray.size]!))=(zeros z n).toArray:=by
 apply Array.ext_getElem?;intro i;by_cases h:i<n*z.length
 ·have:=Nat.mod_lt i hz;simp[h,zeros_get z n i h,this]
 ·simp[h,List.getElem?_eq_none (show(zeros z n).length≤i by rw[zeros_length];omega)]
variable {ps:List (Nat × Operand)} {pl:List (Nat × Nat)} {zs:List Value} {hi mx:Option Operand} {lv hv mv cap:Nat}
section rules
variable {P:Program} {base:World} {n:Nat} {L:Env} {f:Frag} {A:List HP} {q:Post}
variable {l rest:List Oper} {d:Nat} {ty:TypeId} {pos:String} {af:Array Edge} {gd:Option (Nat × Bool)}
theorem H.Ay{vs:List (Nat×Value)}{fs:List Field}{z:Value}{out:List Value}[hu:Und P t (.struct fs.toArray)][hpl:Plc P t pl][hz:Zer P t z](hw:want? l L gd=true)
  (hx:evP L ps=some vs) (hzs:cellsL z=zs) (ho:fillL (nthP pl) zs vs=some out) (hd:Nat.ble (d+1) n=true)
  (k:H P base n ((d,.agg out.toArray)::L) f A (.ops l rest q)):H P base n L f A (.ops l (⟨some d,.build t ps.toArray,ty,pos,af,gd⟩::rest) q):=
 H.opV hw hd (fun a w hfr _=>by
  subst hzs
  have h1:=hpl.eq fs.toArray w hu.eq
  have h2:=fill_eq _ _ _ _ ho
  have h3:(fun i=>pl.toArray[i]?)=nthP pl:=by funext i;rw[nthP_eq];simp
  have h4:z.cells=(cellsL z).toArray:=by rw[←cellsL_eq]
  have h5:(ps.toArray.map fun x:Nat×Operand=>(x.1,a.eval x.2)).toList=vs:=by rw[List.map_toArray];exact hfr.evP hx
  show Sem.run P (Instr.build t (ps.toArray.map fun x=>(x.1,a.eval x.2)) >>= fun v=>pure (Next.value v)) w=_
  unfold Instr.build
  simp only[Sem.run_bind,hz.run,Result.andThen_ok,hu.run,h1,h3,h4,h5,h2,Sem.run_pure]) k
theorem H.buildA{len:Nat}{vs:List (Nat×Value)}{z:Value}{out:List Value}[hu:Und P t (.array len e)][hsz:Siz P e sz][hz:Zer P t z](hw:want? l L gd=true)
  (hx:evP L ps=some vs) (hzs:cellsL z=zs) (ho:fillL (fun i=>some (i*sz,sz)) zs vs=some out) (hd:Nat.ble (d+1) n=true)
  (k:H P base n ((d,.agg out.toArray)::L) f A (.ops l rest q)):H P base n L f A (.ops l (⟨some d,.build t ps.toArray,ty,pos,af,gd⟩::rest) q):=
 H.opV hw hd (fun a w hfr _=>by
  subst hzs
  have h2:=fill_eq _ _ _ _ ho
  have h4:z.cells=(cellsL z).toArray:=by rw[←cellsL_eq]
  have h5:(ps.toArray.map fun x:Nat×Operand=>(x.1,a.eval x.2)).toList=vs:=by rw[List.map_toArray];exact hfr.evP hx
  show Sem.run P (Instr.build t (ps.toArray.map fun x=>(x.1,a.eval x.2)) >>= fun v=>pure (Next.value v)) w=_
  unfold Instr.build
  simp only[Sem.run_bind,hz.run,Result.andThen_ok,hu.run,hsz.run,h4,h5,h2,Sem.run_pure]) k
theorem H.Am{len:Nat}{vs:List (Nat×Value)}{z:Value}{out:List Value}[hu:Und P t (.slice e)][hsz:Siz P e sz][hz:Zer P e z](hw:want? l L gd=true)
  (hx:evP L ps=some vs) (hzs:cellsL z=zs) (h0:zs.length=sz) (h1:0<sz) (hlen:len*sz≤16777216) (ho:fillL (fun i=>some (i*sz,sz)) (zeros zs len) vs=some out) (hd:Nat.ble (d+1) n=true)
  (k:∀b,H P base n ((d,.slice (some ⟨b,0,none⟩) len len)::L) f (row b e out::A) (.ops l rest q)):H P base n L f A (.ops l (⟨some d,.buildSlice t len ps.toArray,ty,pos,af,gd⟩::rest) q):=
 H.opE (fun b=>.slice (some ⟨b,0,none⟩) len len) (fun _=>f) (fun b=>row b e out::A) (fun _=>True) hw hd (fun a w hfr s=>by
  subst hzs;subst h0
  have h2:=fill_eq _ _ _ _ ho
  have h4:z.cells=(cellsL z).toArray:=by rw[←cellsL_eq]
  have h5:(ps.toArray.map fun x:Nat×Operand=>(x.1,a.eval x.2)).toList=vs:=by rw[List.map_toArray];exact hfr.evP hx
  have h6:¬(len*(cellsL z).length>2 ^ 24):=jA
  refine⟨w.heap.size,w.alloc (.cells out.toArray e (0,0)),trivial,?_,s.alloc rfl rfl rfl rfl⟩
  show Sem.run P (Instr.buildSlice t len (ps.toArray.map fun x=>(x.1,a.eval x.2)) >>= fun v=>pure (Next.value v)) w=_
  unfold Instr.buildSlice newRow
  by_cases c:len*(cellsL z).length=0
  ·have c0:len=0:=by
    rcases Nat.mul_eq_zero.1 c with h|h
    ·exact h
    ·omega
   subst c0
   have e0:(Array.range (0*(cellsL z).length)).map ((#[]:Array Value)[· % (#[]:Array Value).size]!)=(zeros (cellsL z) 0).toArray:=by simp[zeros]
   simp only[Sem.run_bind,hu.run,hsz.run,Result.andThen_ok,if_neg h6,if_pos c,Sem.run_pure,e0,h5,h2,run_newObj]
   rfl
  ·have e1:=zeros_array (cellsL z) len h1
   simp only[Sem.run_bind,hu.run,hsz.run,hz.run,Result.andThen_ok,if_neg h6,if_neg c,Sem.run_pure,h4,e1,h5,h2,run_newObj]
   rfl) (fun b _=>k b)
def slP(p:Option Addr)(l m sz:Nat):Option Addr:=if m=l then p else p.map (·.add (l*sz))
def bnd(L:Env)(o:Option Operand)(i dflt:Nat):Prop:=match o with
 |none=>i=dflt
 |some x=>∃k z,ev? L x=some (.int k z)∧z=(i:Nat)
theorem zcb{k:IntKind}{i y:Nat}{c:BoundsCode}(h:i≤y):(Instr.sliceBound (.int k (i:Nat)) y c).run P w= .ok i w:=by
 unfold Instr.sliceBound;have:(0:Int)≤i∧(i:Int)≤y:=jA
 simp[asIntOf,h]
theorem run_bounds(hfr:Fr n a L){lo:Option Operand}{len:Nat}{isS:Bool}(h1:bnd L lo lv 0)(h2:bnd L hi hv len)(h3:bnd L mx mv cap)(hmx:mx.isSome→hi.isSome)
  (a1:lv≤hv) (a2:hv≤mv) (a3:mv≤cap):(Instr.sliceBounds isS len cap (lo.map a.eval) (hi.map a.eval) (mx.map a.eval)).run P w= .ok (lv,hv,mv) w:=by
 unfold Instr.sliceBounds
 cases lo with
 | none =>
  cases hi with
  | none =>
   cases mx with
   |none=>simp only[bnd]at h1 h2 h3;subst h1;subst h2;subst h3;simp
   |some m=>simp at hmx
  | some hh =>
   obtain⟨kh,zh,eh,rfl⟩:=h2;simp only[bnd]at h1;subst h1
   cases mx with
   |none=>simp only[bnd]at h3;subst h3;simp[hfr.eval eh,zcb a2]
   | some m =>
    obtain⟨km,zm,em,rfl⟩:=h3;simp[hfr.eval eh,hfr.eval em,zcb a2,zcb a3]
 | some ll =>
  obtain⟨kl,zl,el,rfl⟩:=h1
  cases hi with
  | none =>
   cases mx with
   |none=>simp only[bnd]at h2 h3;subst h2;subst h3;simp[hfr.eval el,zcb a1]
   |some m=>simp at hmx
  | some hh =>
   obtain⟨kh,zh,eh,rfl⟩:=h2
   cases mx with
   |none=>simp only[bnd]at h3;subst h3;simp[hfr.eval eh,hfr.eval el,zcb a2,zcb a1]
   | some m =>
    obtain⟨km,zm,em,rfl⟩:=h3;simp[hfr.eval eh,hfr.eval em,hfr.eval el,zcb a2,zcb a3,zcb a1]
theorem H.slice{t e:TypeId}{x:Operand}{lo hi mx:Option Operand}{p:Option Addr}{len cap lv hv mv sz:Nat}[hu:Und P t (.slice e)][hs:Siz P e sz](hw:want? l L gd=true)
  (hx:ev? L x=some (.slice p len cap)) (h1:bnd L lo lv 0) (h2:bnd L hi hv len) (h3:bnd L mx mv cap) (hmx:mx.isSome→hi.isSome) (a1:lv≤hv) (a2:hv≤mv) (a3:mv≤cap) (hd:Nat.ble (d+1) n=true)
  (k:H P base n ((d,.slice (slP p lv mv sz) (hv-lv) (mv-lv))::L) f A (.ops l rest q)):H P base n L f A (.ops l (⟨some d,.slice t x lo hi mx,ty,pos,af,gd⟩::rest) q):=
 H.opV hw hd (fun a w hfr _=>by
  have hb:=run_bounds (P:=P) (w:=w) (isS:=true) hfr h1 h2 h3 hmx a1 a2 a3
  show Sem.run P (Instr.sliceAt t (a.eval x) (lo.map a.eval) (hi.map a.eval) (mx.map a.eval) >>= fun v=>pure (Next.value v)) w=_
  unfold Instr.sliceAt Instr.slice
  simp only[Sem.run_bind,hu.run,Result.andThen_ok,hfr.eval hx,hb,hs.run,Sem.run_pure,slP]) k
theorem H.Bw{lo:Option Operand}{len:Nat}[hu:Und P t (.array len e)][hs:Siz P e sz](hw:want? l L gd=true)
  (hx:ev? L x=some (.pointer (some ⟨b,off,none⟩))) (h1:bnd L lo lv 0) (h2:bnd L hi hv len) (h3:bnd L mx mv len) (hmx:mx.isSome→hi.isSome) (a1:lv≤hv) (a2:hv≤mv) (a3:mv≤len) (hd:Nat.ble (d+1) n=true)
  (k:H P base n ((d,.slice (slP (some ⟨b,off,none⟩) lv mv sz) (hv-lv) (mv-lv))::L) f A (.ops l rest q)):H P base n L f A (.ops l (⟨some d,.slice t x lo hi mx,ty,pos,af,gd⟩::rest) q):=
 H.opV hw hd (fun a w hfr _=>by
  have hb:=run_bounds (P:=P) (w:=w) (isS:=false) hfr h1 h2 h3 hmx a1 a2 a3
  show Sem.run P (Instr.sliceAt t (a.eval x) (lo.map a.eval) (hi.map a.eval) (mx.map a.eval) >>= fun v=>pure (Next.value v)) w=_
  unfold Instr.sliceAt
  simp only[Sem.run_bind,hu.run,Result.andThen_ok,hfr.eval hx,hb,hs.run,Sem.run_pure,slP,Instr.sureAddr]
  split<;>rfl) k
theorem run_equal_sn(hu:Und P t (.slice e))(p:Option Addr)(m c:Nat)(w:World):(Op.equal t (.slice p m c) (.slice none 0 0)).run P w= .ok p.isNone w:=by
 have h:∀d,(Op.equalIn (d+1) t (.slice p m c) (.slice none 0 0)).run P w= .ok p.isNone w:=fun d=>by
  cases p<;>simp[Op.equalIn,hu.run]
 exact h 9999
theorem run_guard_slice(op:BinOp)(t:TypeId)(x y:Operand)(p:Option Addr)(m c:Nat)(w:World):(eqGuard op t x y (.slice p m c) (.slice none 0 0)).run P w= .ok () w:=by
 cases op<;>rfl
theorem H.sliceNil{b:Bool}[hu:Und P xt (.slice e)](hw:want? l L gd=true)(hx:ev? L x=some (.slice p m c))(hy:ev? L y=some (.slice none 0 0))(hb:nilP op p=some b)(hd:Nat.ble (d+1) n=true)
  (kk:H P base n ((d,.bool b)::L) f A (.ops l rest q)):H P base n L f A (.ops l (⟨some d,.binOp op xt x y yt,ty,pos,af,gd⟩::rest) q):=
 H.opV hw hd (fun a w hf _=>by
  refine run_bin _ ?_ ?_
  ·rw[hf.eval hx,hf.eval hy];exact run_guard_slice _ _ _ _ _ _ _ _
  ·rw[hf.eval hx,hf.eval hy]
   have e1:Sem.run P (do pure (Value.bool (←Op.equal xt (.slice p m c) (.slice none 0 0)))) w= .ok (.bool p.isNone) w:=by simp[run_equal_sn hu]
   have e2:Sem.run P (do pure (Value.bool (!(←Op.equal xt (.slice p m c) (.slice none 0 0))))) w= .ok (.bool (!p.isNone)) w:=by simp[run_equal_sn hu]
   cases op<;>cases p<;>simp only[nilP,Option.some.injEq,reduceCtorEq]at hb<;>subst hb<;>first|exact e1|exact e2) kk
end rules
theorem wr_i64(h:-9223372036854775808≤z∧z≤9223372036854775807):IntKind.i64.wrap z=z:=IntWalk.i64_in z h
theorem wr_u64(h:0≤z∧z≤18446744073709551615):IntKind.u64.wrap z=z:=IntWalk.u64_in z h
theorem wr_u8(h:0≤z∧z≤255):IntKind.u8.wrap z=z:=IntWalk.u8_in z h
theorem wr_u16(h:0≤z∧z≤65535):IntKind.u16.wrap z=z:=IntWalk.u16_in z h
theorem zbd{a:Nat}(h:a+b≤9223372036854775807):IntKind.i64.wrap ((a:Int)+(b:Int))=((a+b:Nat):Int):=by
 rw[wr_i64 jA];omega
theorem zbf{a:Nat}(h:a+1≤9223372036854775807):IntKind.i64.wrap ((a:Int)+1)=((a+1:Nat):Int):=by
 rw[wr_i64 jA];omega
theorem zbe{a:Nat}(h:a≤9223372036854775807):IntKind.i64.wrap (((a+1:Nat):Int)-1)=(a:Int):=by
 rw[wr_i64 jA];omega
theorem fold_stars{p:HP}(h:∀x,stars B x→p x):∀x,stars (B++A) x→stars (p::A) x:=by
 intro x hx;rw[zby]at hx;obtain⟨m1,m2,d,e,a,b⟩:=hx;exact⟨m1,m2,d,e,h m1 a,b⟩
theorem keep_stars{p:HP}(h:∀x,stars B x→stars A x):∀x,stars (p::B) x→stars (p::A) x:=by
 rintro x ⟨m1,m2,d,e,a,b⟩;exact⟨m1,m2,d,e,a,h m2 b⟩
theorem pull_stars{p:HP}(h:Pull B p A):∀x,stars B x→stars (p::A) x:=by
 intro x hx;rw[h.eq]at hx;exact hx
theorem stars_two{p q:HP}{x:Frag}:stars (p::q::A) x→stars (q::p::A) x:=by
 intro h;exact pull_stars (.there _ (.here _ _)) x h
variable {fid:FuncId}
theorem Fn.unfold{args:List Value}{p:HP}{ι:Sort _}{B:ι→List HP}(hp:∀h,p h→∃i,stars (B i) h)
  (k:∀i,Fn P fid args f (B i++A) R):Fn P fid args f (p::A) R:=fun base w s=>by
 obtain⟨a1,a2,a3,a4,a5,m,⟨m1,m2,d,e,a,b⟩,hd,hw⟩:=s
 obtain⟨i,hi⟩:=hp m1 a
 exact k i base w ⟨a1,a2,a3,a4,a5,m,by rw[zby];exact⟨m1,m2,d,e,hi,b⟩,hd,hw⟩
theorem H.unfold{p:HP}{ι:Sort _}{B:ι→List HP}(hp:∀h,p h→∃i,stars (B i) h)
  (k:∀i,H P base n L f (B i++A) K):H P base n L f (p::A) K:=.mk fun a w hf s=>by
 obtain⟨a1,a2,a3,a4,a5,m,⟨m1,m2,d,e,aa,b⟩,hd,hw⟩:=s
 obtain⟨i,hi⟩:=hp m1 aa
 exact(k i).out a w hf ⟨a1,a2,a3,a4,a5,m,by rw[zby];exact⟨m1,m2,d,e,hi,b⟩,hd,hw⟩
theorem Fn.imp{P:Program}{fid:FuncId}{args:List Value}{f:Frag}{A A':List HP}{R:Value→Frag→List HP→Prop}(hx:∀x,stars A x→stars A' x)(k:Fn P fid args f A' R):Fn P fid args f A R:=fun base w s=>k base w (s.imp hx)
section rules
variable {P:Program} {base:World} {n:Nat} {L:Env} {f:Frag} {A V:List HP} {q:Post} {ξ:Ext} {tl:List Oper}
variable {l rest:List Oper} {d:Nat} {ty:TypeId} {pos:String} {af:Array Edge} {gd:Option (Nat × Bool)}
theorem HQ.Ay{vs:List (Nat×Value)}{fs:List Field}{z:Value}{out:List Value}[hu:Und P t (.struct fs.toArray)][hpl:Plc P t pl][hz:Zer P t z](hw:want? l L gd=true)
  (hx:evP L ps=some vs) (hzs:cellsL z=zs) (ho:fillL (nthP pl) zs vs=some out) (hd:Nat.ble (d+1) n=true) {lst:Lst}
  (k:HQ V ⟨lst.setIfInBounds ti true,tt⟩ P base n ((d,.agg out.toArray)::L) f A (.ops l rest q)):HQ V ⟨lst,(ti,false)::tt⟩ P base n L f A (.ops l (⟨some d,.build t ps.toArray,ty,pos,af,gd⟩::rest) q):=
 HQ.opV hw hd (fun a w hfr _=>by
  subst hzs
  have h1:=hpl.eq fs.toArray w hu.eq
  have h2:=fill_eq _ _ _ _ ho
  have h3:(fun i=>pl.toArray[i]?)=nthP pl:=by funext i;rw[nthP_eq];simp
  have h4:z.cells=(cellsL z).toArray:=by rw[←cellsL_eq]
  have h5:(ps.toArray.map fun x:Nat×Operand=>(x.1,a.eval x.2)).toList=vs:=by rw[List.map_toArray];exact hfr.evP hx
  show Sem.run P (Instr.build t (ps.toArray.map fun x=>(x.1,a.eval x.2)) >>= fun v=>pure (Next.value v)) w=_
  unfold Instr.build
  simp only[Sem.run_bind,hz.run,Result.andThen_ok,hu.run,h1,h3,h4,h5,h2,Sem.run_pure]) k
theorem HQ.slice{t e:TypeId}{x:Operand}{lo hi mx:Option Operand}{p:Option Addr}{len cap lv hv mv sz:Nat}[hu:Und P t (.slice e)][hs:Siz P e sz](hw:want? l L gd=true)
  (hx:ev? L x=some (.slice p len cap)) (h1:bnd L lo lv 0) (h2:bnd L hi hv len) (h3:bnd L mx mv cap) (hmx:mx.isSome→hi.isSome) (a1:lv≤hv) (a2:hv≤mv) (a3:mv≤cap) (hd:Nat.ble (d+1) n=true) {lst:Lst} {ti:Nat} {tt:List (Nat×Bool)}
  (k:HQ V ⟨lst.setIfInBounds ti true,tt⟩ P base n ((d,.slice (slP p lv mv sz) (hv-lv) (mv-lv))::L) f A (.ops l rest q)):HQ V ⟨lst,(ti,false)::tt⟩ P base n L f A (.ops l (⟨some d,.slice t x lo hi mx,ty,pos,af,gd⟩::rest) q):=
 HQ.opV hw hd (fun a w hfr _=>by
  have hb:=run_bounds (P:=P) (w:=w) (isS:=true) hfr h1 h2 h3 hmx a1 a2 a3
  show Sem.run P (Instr.sliceAt t (a.eval x) (lo.map a.eval) (hi.map a.eval) (mx.map a.eval) >>= fun v=>pure (Next.value v)) w=_
  unfold Instr.sliceAt Instr.slice
  simp only[Sem.run_bind,hu.run,Result.andThen_ok,hfr.eval hx,hb,hs.run,Sem.run_pure,slP]) k
theorem HQ.Bw{lo:Option Operand}{len:Nat}[hu:Und P t (.array len e)][hs:Siz P e sz](hw:want? l L gd=true)
  (hx:ev? L x=some (.pointer (some ⟨b,off,none⟩))) (h1:bnd L lo lv 0) (h2:bnd L hi hv len) (h3:bnd L mx mv len) (hmx:mx.isSome→hi.isSome) (a1:lv≤hv) (a2:hv≤mv) (a3:mv≤len) (hd:Nat.ble (d+1) n=true) {lst:Lst}
  (k:HQ V ⟨lst.setIfInBounds ti true,tt⟩ P base n ((d,.slice (slP (some ⟨b,off,none⟩) lv mv sz) (hv-lv) (mv-lv))::L) f A (.ops l rest q)):HQ V ⟨lst,(ti,false)::tt⟩ P base n L f A (.ops l (⟨some d,.slice t x lo hi mx,ty,pos,af,gd⟩::rest) q):=
 HQ.opV hw hd (fun a w hfr _=>by
  have hb:=run_bounds (P:=P) (w:=w) (isS:=false) hfr h1 h2 h3 hmx a1 a2 a3
  show Sem.run P (Instr.sliceAt t (a.eval x) (lo.map a.eval) (hi.map a.eval) (mx.map a.eval) >>= fun v=>pure (Next.value v)) w=_
  unfold Instr.sliceAt
  simp only[Sem.run_bind,hu.run,Result.andThen_ok,hfr.eval hx,hb,hs.run,Sem.run_pure,slP,Instr.sureAddr]
  split<;>rfl) k
end rules
def Ret(v:Value)(f:Frag)(A:List HP):Value→Frag→List HP→Prop:=fun u f' A'=>u=v∧f'=f∧A'=A
variable {xs:List Operand} {ats:Array TypeId} {α β:Type}
section
variable {P:Program} {base:World} {n:Nat} {L:Env} {f f':Frag} {A A':List HP} {q:Post}
variable {l rest:List Oper} {d:Nat} {ty:TypeId} {pos:String} {af:Array Edge} {gd:Option (Nat × Bool)}
theorem H.Af[hfun:Fun P fid](hw:want? l L gd=true)(hd:Nat.ble (d+1) n=true)
  (hx:evs? L xs=some vs) (hc:Fn P fid vs f A (Ret v f' A')) (k:H P base n ((d,v)::L) f' A' (.ops l rest q)) :
  H P base n L f A (.ops l (⟨some d,.call ⟨.value (.func fid),xs.toArray,ats⟩,ty,pos,af,gd⟩::rest) q):=
 H.Aq hw hd hx hc fun _ _ _ h=>by obtain⟨rfl,rfl,rfl⟩:=h;exact k
def RetE{α:Type}(v:α→Value)(f:Frag)(A:α→List HP):Value→Frag→List HP→Prop:=fun u f' A'=>∃i,u=v i∧f'=f∧A'=A i
theorem H.callE{v:α→Value}{Ai:α→List HP}[hfun:Fun P fid](hw:want? l L gd=true)(hd:Nat.ble (d+1) n=true)
  (hx:evs? L xs=some vs) (hc:Fn P fid vs f A (RetE v f' Ai)) (k:∀i,H P base n ((d,v i)::L) f' (Ai i) (.ops l rest q)) :
  H P base n L f A (.ops l (⟨some d,.call ⟨.value (.func fid),xs.toArray,ats⟩,ty,pos,af,gd⟩::rest) q):=
 H.Aq hw hd hx hc fun _ _ _ h=>by obtain⟨i,rfl,rfl,rfl⟩:=h;exact k i
theorem H.Al{v:α→β→Value}{Ai:α→β→List HP}[hfun:Fun P fid](hw:want? l L gd=true)(hd:Nat.ble (d+1) n=true)
  (hx:evs? L xs=some vs) (hc:Fn P fid vs f A (fun u g B=>∃i j,u=v i j∧g=f'∧B=Ai i j)) (k:∀i j,H P base n ((d,v i j)::L) f' (Ai i j) (.ops l rest q)) :
  H P base n L f A (.ops l (⟨some d,.call ⟨.value (.func fid),xs.toArray,ats⟩,ty,pos,af,gd⟩::rest) q):=
 H.Aq hw hd hx hc fun _ _ _ h=>by obtain⟨i,j,rfl,rfl,rfl⟩:=h;exact k i j
end
theorem H.slc0(T:TypeId)(sz:Nat)(k:H P base n L f (slc none 0 0 T sz []::A) K):H P base n L f A K:=
 H.imp (A':=slc none 0 0 T sz []::A) (fun h hh=>⟨nil0,h,(Dj.nil h).symm,(nil_un h).symm,slc_nil none T sz,hh⟩) k
variable {f1:Frag} {rest:List Oper} {d:Nat} {ty:TypeId} {pos:String} {af:Array Edge} {gd:Option (Nat × Bool)}
theorem H.cr{A1:List HP}[hfun:Fun P fid](hc:Fn P fid vs f A (Ret v f1 A1))(k:H P base n ((d,v)::L) f1 A1 (.ops l rest q))(hw:want? l L gd=true:=by exact rfl)(hd:Nat.ble (d+1) n=true:=by exact rfl)(hx:evs? L xs=some vs:=by exact rfl):H P base n L f A (.ops l (⟨some d,.call ⟨.value (.func fid),xs.toArray,ats⟩,ty,pos,af,gd⟩::rest) q):=H.Af hw hd hx hc k
theorem H.ce{v:α→Value}{Ai:α→List HP}[hfun:Fun P fid](hc:Fn P fid vs f A (RetE v f1 Ai))(k:∀i,H P base n ((d,v i)::L) f1 (Ai i) (.ops l rest q))(hw:want? l L gd=true:=by exact rfl)(hd:Nat.ble (d+1) n=true:=by exact rfl)(hx:evs? L xs=some vs:=by exact rfl):H P base n L f A (.ops l (⟨some d,.call ⟨.value (.func fid),xs.toArray,ats⟩,ty,pos,af,gd⟩::rest) q):=H.callE hw hd hx hc k
/-! ### Equality of structs and arrays -/
variable {ys cs:List Value} {D:Nat}
section
variable {P:Program}
def chunk(xs:List Value)(off c:Nat):List Value:=(xs.drop off).take c
def shp(P:Program):Nat→TypeId→List Value→Bool
 |0,_,_=>false
 | d + 1, t, cs => match P.underlying t with
  | some .bool => match cs with
   | [.bool _]=>true
   |_=>false
  | some (.int q) => match cs with
   | [.int q' _]=>decide (q'=q)
   |_=>false
  | some .string => match cs with
   | [.string _]=>true
   |_=>false
  |some (.array n e)=>(P.info? e).isSome&& Nat.beq cs.length (n*P.cellsOf e)&& (List.range' 0 n).all fun i=>shp P d e (chunk cs (i*P.cellsOf e) (P.cellsOf e))
  |some (.struct fs)=>!P.stoodInHeld t&& Nat.beq cs.length (P.cellsOf t)&& offs P fs.toList 0 cs.length&& fs.toList.all fun f=>shp P d f.type (chunk cs f.offset (P.cellsOf f.type))
  |_=>false
where offs (P:Program):List Field→Nat→Nat→Bool
 | [],o,n=>Nat.beq o n
 | f :: fs, o, n => (f.name != "_") && Nat.beq f.offset o && offs P fs (o + P.cellsOf f.type) n
def mkV(P:Program)(t:TypeId)(xs:List Value):Value:=match P.underlying t with
 |some (.array _ _)|some (.struct _)=>.agg xs.toArray
 |_=>xs.headD undef
def eqv:Value→Value→Bool
 | .bool a,.bool b=>a == b
 | .int _ a,.int _ b=>a == b
 | .string a,.string b=>a == b
 |_,_=>false
def eqC:List Value→List Value→Bool
 | [],[]=>true
 |x::xs,y::ys=>eqv x y&& eqC xs ys
 |_,_=>false
theorem eqC_append:∀ {a c:List Value} (b d:List Value),a.length=c.length→eqC (a++b) (c++d)=(eqC a c&& eqC b d)
 | [],[],b,d,_=>by simp[eqC]
 | x :: a, y :: c, b, d, h => by
  simp only[List.cons_append,eqC]
  rw[eqC_append b d jx,Bool.and_assoc]
theorem eqC_drop{xs:List Value}(h:xs.length=ys.length)(o c:Nat):eqC (xs.drop o) (ys.drop o)=(eqC (chunk xs o c) (chunk ys o c)&& eqC (xs.drop (o+c)) (ys.drop (o+c))):=by
 have e:∀l:List Value,l.drop o=chunk l o c++l.drop (o+c):=fun l=>by
  unfold chunk;rw[←List.drop_drop,List.take_append_drop]
 rw[e xs,e ys,eqC_append];unfold chunk;simp[h]
theorem shp_plain(h:shp P D t cs=true)(hp:∀n e,P.underlying t≠some (.array n e))(hs:∀fs,P.underlying t≠some (.struct fs)):
  P.plainKey t=true∧∃v,cs= [v]∧mkV P t cs=v∧∀D' ys,shp P D' t ys=true→∃u,ys= [u]∧mkV P t ys=u∧∀w d,(Op.equalIn (d+1) t v u).run P w= .ok (eqC cs ys) w:=by
 cases D with
 |zero=>simp[shp]at h
 | succ D =>
  unfold shp at h
  cases hu:P.underlying t with
  |none=>simp[hu]at h
  | some k =>
   cases k
   case bool=>
    rw[hu]at h;simp only at h;split at h
    ·rename_i a
     refine⟨by simp[Program.plainKey,hu],_,rfl,by simp[mkV,hu],fun D' ys h'=>?_⟩
     cases D' with
     |zero=>simp[shp]at h'
     | succ D' =>
      unfold shp at h';rw[hu]at h';simp only at h';split at h'
      ·rename_i b
       refine⟨_,rfl,by simp[mkV,hu],fun w d=>?_⟩;rw[run_equalIn_bool w d t a b hu];simp[eqC,eqv]
      ·cases h'
    ·cases h
   case int q=>
    rw[hu]at h;simp only at h;split at h
    ·rename_i q1 a
     refine⟨by simp[Program.plainKey,hu],_,rfl,by simp[mkV,hu],fun D' ys h'=>?_⟩
     cases D' with
     |zero=>simp[shp]at h'
     | succ D' =>
      unfold shp at h';rw[hu]at h';simp only at h';split at h'
      ·rename_i q2 b
       refine⟨_,rfl,by simp[mkV,hu],fun w d=>?_⟩;simp only[decide_eq_true_eq]at h h';subst h;subst h';rw[run_equalIn_int w d t _ _ _ _ hu];simp[eqC,eqv]
      ·cases h'
    ·cases h
   case string=>
    rw[hu]at h;simp only at h;split at h
    ·rename_i a
     refine⟨by simp[Program.plainKey,hu],_,rfl,by simp[mkV,hu],fun D' ys h'=>?_⟩
     cases D' with
     |zero=>simp[shp]at h'
     | succ D' =>
      unfold shp at h';rw[hu]at h';simp only at h';split at h'
      ·rename_i b
       refine⟨_,rfl,by simp[mkV,hu],fun w d=>?_⟩;rw[run_equalIn_string w d t a b hu];simp[eqC,eqv,beq_toListBytes]
      ·cases h'
    ·cases h
   case array n e=>exact absurd hu (hp n e)
   case struct fs=>exact absurd hu (hs fs)
   all_goals (simp[hu]at h;done)
theorem shp_len(hu:P.underlying t=some (.array n e))(h:shp P D t cs=true):(∃i,P.info? e=some i)∧cs.length=n*P.cellsOf e∧∃D',D=D'+1∧∀i,i<n→shp P D' e (chunk cs (i*P.cellsOf e) (P.cellsOf e))=true:=by
 cases D with
 |zero=>simp[shp]at h
 | succ D =>
  unfold shp at h;rw[hu]at h;simp only[Bool.and_eq_true,List.all_eq_true]at h;exact⟨Option.isSome_iff_exists.1 h.1.1,Nat.eq_of_beq_eq_true h.1.2,D,rfl,fun i hi=>h.2 i (by simp[List.mem_range'_1,hi])⟩
theorem shp_str{fs:Array Field}(hu:P.underlying t=some (.struct fs))(h:shp P D t cs=true):
  P.stoodInHeld t=false∧cs.length=P.cellsOf t∧shp.offs P fs.toList 0 cs.length=true∧∃D',D=D'+1∧∀f∈fs.toList,shp P D' f.type (chunk cs f.offset (P.cellsOf f.type))=true:=by
 cases D with
 |zero=>simp[shp]at h
 | succ D =>
  unfold shp at h;rw[hu]at h;simp only[Bool.and_eq_true,List.all_eq_true,Bool.not_eq_true']at h;exact⟨h.1.1.1,Nat.eq_of_beq_eq_true h.1.1.2,h.1.2,D,rfl,h.2⟩
theorem zbz(w:World){xs:List Value}(h:shp P D e (chunk xs off (P.cellsOf e))=true)(hle:off+P.cellsOf e≤xs.length):
  (part e xs.toArray off).run P w= .ok (mkV P e (chunk xs off (P.cellsOf e))) w:=by
 have agg:(∃n e',P.underlying e=some (.array n e'))∨(∃fs,P.underlying e=some (.struct fs))→(part e xs.toArray off).run P w= .ok (mkV P e (chunk xs off (P.cellsOf e))) w:=by
  intro hk
  have hl:(xs.toArray.extract off (off+P.cellsOf e))=(chunk xs off (P.cellsOf e)).toArray:=by
   apply Array.ext';rw[Array.toList_extract];simp[List.extract,chunk]
  rcases hk with⟨n,e',hu⟩|⟨fs,hu⟩
  ·obtain⟨i,hi⟩:=info_of_underlying hu;simp[part,isAgg,run_underlying hu,run_sizeOf w hi,mkV,hu,hl];rfl
  ·obtain⟨i,hi⟩:=info_of_underlying hu;simp[part,isAgg,run_underlying hu,run_sizeOf w hi,mkV,hu,hl];rfl
 by_cases h1:∃n e',P.underlying e=some (.array n e')
 ·exact agg (.inl h1)
 ·by_cases h2:∃fs,P.underlying e=some (.struct fs)
  ·exact agg (.inr h2)
  ·obtain⟨hpk,v,hv,hmk,_⟩:=shp_plain h (fun n e' hu=>h1 ⟨n,e',hu⟩) (fun fs hu=>h2 ⟨fs,hu⟩);rw[hmk];have:xs.toArray[off]? =some v:=getElem?_of_chunk (c:=P.cellsOf e) (by simpa [chunk]using hv);exact run_part_plain w hpk this
theorem run_eqItems_shp(w:World){d D D':Nat}{e:TypeId}{xs ys:List Value}(hl:xs.length=ys.length)
  (IH:∀w D D' xs ys,shp P D e xs=true→shp P D' e ys=true→D≤d→(Op.equalIn d e (mkV P e xs) (mkV P e ys)).run P w= .ok (eqC xs ys) w) (hD:D≤d) :
  ∀(m k:Nat),(k+m)*P.cellsOf e=xs.length→(∀i,k≤i→i<k+m→shp P D e (chunk xs (i*P.cellsOf e) (P.cellsOf e))=true∧shp P D' e (chunk ys (i*P.cellsOf e) (P.cellsOf e))=true)→
  (Op.eqItems d e (P.cellsOf e) xs.toArray ys.toArray (List.range' k m)).run P w= .ok (eqC (xs.drop (k*P.cellsOf e)) (ys.drop (k*P.cellsOf e))) w
 | 0, k, hk, _ => by
  have h1:xs.drop (k*P.cellsOf e)= []:=List.drop_eq_nil_of_le (by rw[←hk];simp)
  have h2:ys.drop (k*P.cellsOf e)= []:=List.drop_eq_nil_of_le (by rw[←hl,←hk];simp)
  rw[h1,h2]
  simp[Op.eqItems,eqC]
 | m + 1, k, hk, hs => by
  obtain⟨a1,a2⟩:=hs k (Nat.le_refl _) jA
  have hle:k*P.cellsOf e+P.cellsOf e≤xs.length:=by
   rw[←hk]
   calc k*P.cellsOf e+P.cellsOf e=(k+1)*P.cellsOf e:=by rw[Nat.add_mul];omega
    _≤(k+(m+1))*P.cellsOf e:=Nat.mul_le_mul_right _ jA
  have p1:=zbz w a1 hle
  have p2:=zbz w a2 jA
  have p3:=IH w D D' _ _ a1 a2 hD
  have ih:=run_eqItems_shp w hl IH hD m (k+1) (by rw[←hk];congr 1;omega) (fun i h1 h2=>hs i jA jA)
  rw[eqC_drop hl (k*P.cellsOf e) (P.cellsOf e)]
  rw[show k*P.cellsOf e+P.cellsOf e=(k+1)*P.cellsOf e by rw[Nat.add_mul];omega]
  simp only[List.range'_succ,Op.eqItems,Sem.run_bind,p1,p2,p3,Result.andThen_ok]
  cases eqC (chunk xs (k*P.cellsOf e) (P.cellsOf e)) (chunk ys (k*P.cellsOf e) (P.cellsOf e))
  ·simp
  ·simpa using ih
theorem run_eqFields_shp(w:World){d D D':Nat}{xs ys:List Value}(hl:xs.length=ys.length)(hD:D≤d):
  ∀(fs:List Field) (o:Nat),(∀f∈fs,∀w D D' xs ys,shp P D f.type xs=true→shp P D' f.type ys=true→D≤d→(Op.equalIn d f.type (mkV P f.type xs) (mkV P f.type ys)).run P w= .ok (eqC xs ys) w)→
  shp.offs P fs o xs.length=true→(∀f∈fs,shp P D f.type (chunk xs f.offset (P.cellsOf f.type))=true∧shp P D' f.type (chunk ys f.offset (P.cellsOf f.type))=true)→
  (Op.eqFields d xs.toArray ys.toArray fs).run P w= .ok (eqC (xs.drop o) (ys.drop o)) w∧o≤xs.length
 | [], o, _, ho, _ => by
  have e:o=xs.length:=Nat.eq_of_beq_eq_true ho
  have h1:xs.drop o= []:=List.drop_eq_nil_of_le jA
  have h2:ys.drop o= []:=List.drop_eq_nil_of_le jA
  rw[h1,h2]
  exact⟨by simp[Op.eqFields,eqC],by omega⟩
 | f :: fs, o, IH, ho, hs => by
  simp only[shp.offs,Bool.and_eq_true,bne_iff_ne,ne_eq]at ho
  obtain⟨⟨hn,he⟩,hr⟩:=ho
  have he':f.offset=o:=Nat.eq_of_beq_eq_true he
  subst he'
  obtain⟨ih,hle⟩:=run_eqFields_shp w hl hD fs (f.offset+P.cellsOf f.type) (fun g hg=>IH g (by simp[hg])) hr (fun g hg=>hs g (by simp[hg]))
  obtain⟨a1,a2⟩:=hs f jL
  have p1:=zbz w a1 hle
  have p2:=zbz w a2 jA
  have p3:=IH f jL w D D' _ _ a1 a2 hD
  refine⟨?_,by omega⟩
  rw[eqC_drop hl f.offset (P.cellsOf f.type)]
  simp only[Op.eqFields,hn,ne_eq,not_false_eq_true,if_true,Sem.run_bind,p1,p2,p3,Result.andThen_ok]
  cases eqC (chunk xs f.offset (P.cellsOf f.type)) (chunk ys f.offset (P.cellsOf f.type))
  ·simp
  ·simpa using ih
theorem zbl:∀(d:Nat) (t:TypeId) (w:World) (D D':Nat) (xs ys:List Value),shp P D t xs=true→shp P D' t ys=true→D≤d→(Op.equalIn d t (mkV P t xs) (mkV P t ys)).run P w= .ok (eqC xs ys) w
 | 0, t, w, D, D', xs, ys, hx, _, hd => by
  have:D=0:=jA
  subst this
  simp[shp]at hx
 | d + 1, t, w, D, D', xs, ys, hx, hy, hd => by
  by_cases h1:∃n e',P.underlying t=some (.array n e')
  ·obtain⟨n,e,hu⟩:=h1
   obtain⟨⟨i,hi⟩,l1,D1,rfl,s1⟩:=shp_len hu hx
   obtain⟨_,l2,D2,rfl,s2⟩:=shp_len hu hy
   have hm:mkV P t xs= .agg xs.toArray∧mkV P t ys= .agg ys.toArray:=by simp[mkV,hu]
   rw[hm.1,hm.2,run_equalIn_array w d xs.toArray ys.toArray hu hi]
   have:=run_eqItems_shp (P:=P) w (d:=d) (D:=D1) (D':=D2) (e:=e) (xs:=xs) (ys:=ys) jA (fun w D D' xs ys=>zbl d e w D D' xs ys) jA n 0 (by rw[Nat.zero_add,l1]) (fun i _ h2=>⟨s1 i jA,s2 i jA⟩)
   rw[List.range_eq_range']
   simpa using this
  ·by_cases h2:∃fs,P.underlying t=some (.struct fs)
   ·obtain⟨fs,hu⟩:=h2
    obtain⟨n1,l1,o1,D1,rfl,s1⟩:=shp_str hu hx
    obtain⟨n2,l2,o2,D2,rfl,s2⟩:=shp_str hu hy
    have hm:mkV P t xs= .agg xs.toArray∧mkV P t ys= .agg ys.toArray:=by simp[mkV,hu]
    have hfs:P.fieldsOf t=fs:=by simp[Program.fieldsOf,hu]
    rw[hm.1,hm.2,run_equalIn_struct w d t xs.toArray ys.toArray (by rw[hfs];exact hu) n1,hfs]
    have:=(run_eqFields_shp (P:=P) w (d:=d) (D:=D1) (D':=D2) (xs:=xs) (ys:=ys) jA jA fs.toList 0 (fun f _ w D D' xs ys=>zbl d f.type w D D' xs ys) o1 (fun f hf=>⟨s1 f hf,s2 f hf⟩)).1
    simpa using this
   ·obtain⟨_,v,rfl,hmk,hall⟩:=shp_plain hx (fun n e hu=>h1 ⟨n,e,hu⟩) (fun fs hu=>h2 ⟨fs,hu⟩)
    obtain⟨u,rfl,hmk',hr⟩:=hall D' ys hy
    rw[hmk,hmk']
    exact hr w d
end
/-! ### Rules -/
def bitsI(op:BinOp)(k:IntKind)(x y:Int):Option Int:=match op with
 | .and=>some (k.wrap (BitVec.ofInt k.bits x &&& BitVec.ofInt k.bits y).toNat)
 | .or=>some (k.wrap (BitVec.ofInt k.bits x ||| BitVec.ofInt k.bits y).toNat)
 | .xor=>some (k.wrap (BitVec.ofInt k.bits x ^^^ BitVec.ofInt k.bits y).toNat)
 | .andNot=>some (k.wrap (BitVec.ofInt k.bits x &&& ~~~ BitVec.ofInt k.bits y).toNat)
 |_=>none
def shiftI(op:BinOp)(k:IntKind)(x y:Int):Option Int:=match op with
 | .shl=>some (k.wrap (x*2 ^ (min y.toNat k.bits)))
 | .shr=>some (x.fdiv (2 ^ (min y.toNat k.bits)))
 |_=>none
def strP(op:BinOp)(s t:ByteArray):Option Bool:=match op with
 | .eql=>some (s.toList == t.toList)
 | .neq=>some (!(s.toList == t.toList))
 |_=>none
variable {k2:IntKind}
section rules
variable {P:Program} {base:World} {n:Nat} {L:Env} {f:Frag} {A:List HP} {q:Post}
variable {l rest:List Oper} {d:Nat} {ty:TypeId} {pos:String} {af:Array Edge} {gd:Option (Nat × Bool)}
theorem H.Bf{k:IntKind}{p:Int}(hw:want? l L gd=true)(hx:ev? L x=some (.int k p))(hy:ev? L y=some (.int k p2))(hc:bitsI op k p p2=some r)(hz:r=z)(hd:Nat.ble (d+1) n=true)
  (kk:H P base n ((d,.int k z)::L) f A (.ops l rest q)):H P base n L f A (.ops l (⟨some d,.binOp op xt x y yt,ty,pos,af,gd⟩::rest) q):=
 H.opV hw hd (fun a w hf _=>by
  cases op<;>simp only[bitsI,Option.some.injEq,reduceCtorEq]at hc<;>subst hc<;>subst hz<;>
   simp[execOp,eqGuard,binOp,Op.intBits,hf.eval hx,hf.eval hy]) kk
theorem H.Bo{k:IntKind}{p:Int}(hw:want? l L gd=true)(hx:ev? L x=some (.int k p))(hy:ev? L y=some (.int k2 p2))(hc:shiftI op k p p2=some r)(h0:0≤p2)(hz:r=z)(hd:Nat.ble (d+1) n=true)
  (kk:H P base n ((d,.int k z)::L) f A (.ops l rest q)):H P base n L f A (.ops l (⟨some d,.binOp op xt x y yt,ty,pos,af,gd⟩::rest) q):=
 H.opV hw hd (fun a w hf _=>by
  have h1:¬p2<0:=jA
  cases op<;>simp only[shiftI,Option.some.injEq,reduceCtorEq]at hc<;>subst hc<;>subst hz<;>
   simp[execOp,eqGuard,binOp,Op.shift,hf.eval hx,hf.eval hy,h1]) kk
theorem H.neg{k:IntKind}{p:Int}(hw:want? l L gd=true)(hx:ev? L x=some (.int k p))(hz:k.wrap (0-p)=z)(hd:Nat.ble (d+1) n=true)
  (kk:H P base n ((d,.int k z)::L) f A (.ops l rest q)):H P base n L f A (.ops l (⟨some d,.unOp .neg xt x,ty,pos,af,gd⟩::rest) q):=
 H.opV hw hd (fun a w hf _=>by
  subst hz
  simp[execOp,Op.unary,Op.intArith,hf.eval hx]) kk
theorem H.streq{s t:ByteArray}{b c:Bool}(hw:want? l L gd=true)(hx:ev? L x=some (.string s))(hy:ev? L y=some (.string t))(hb:strP op s t=some b)(hc:b=c)(hd:Nat.ble (d+1) n=true)
  (kk:H P base n ((d,.bool c)::L) f A (.ops l rest q)):H P base n L f A (.ops l (⟨some d,.binOp op xt x y yt,ty,pos,af,gd⟩::rest) q):=
 H.opV hw hd (fun a w hf _=>by
  cases op<;>simp only[strP,Option.some.injEq,reduceCtorEq]at hb<;>subst hb<;>subst hc<;>
   simp[execOp,eqGuard,binOp,Op.stringOp,hf.eval hx,hf.eval hy]) kk
theorem H.min2{x y:Operand}{ats:Array TypeId}{k:IntKind}{p p2 z:Int}(hw:want? l L gd=true)(hx:ev? L x=some (.int k p))(hy:ev? L y=some (.int k p2))(hz:(if p2<p then p2 else p)=z)(hd:Nat.ble (d+1) n=true)
  (kk:H P base n ((d,.int k z)::L) f A (.ops l rest q)):H P base n L f A (.ops l (⟨some d,.call ⟨.builtin .min,#[x,y],ats⟩,ty,pos,af,gd⟩::rest) q):=
 H.opV hw hd (fun a w hf _=>by
  subst hz
  simp[execOp,resolve,invoke,builtin,Builtin.min_,Builtin.min2,hf.eval hx,hf.eval hy]) kk
theorem H.max2{x y:Operand}{ats:Array TypeId}{k:IntKind}{p p2 z:Int}(hw:want? l L gd=true)(hx:ev? L x=some (.int k p))(hy:ev? L y=some (.int k p2))(hz:(if p<p2 then p2 else p)=z)(hd:Nat.ble (d+1) n=true)
  (kk:H P base n ((d,.int k z)::L) f A (.ops l rest q)):H P base n L f A (.ops l (⟨some d,.call ⟨.builtin .max,#[x,y],ats⟩,ty,pos,af,gd⟩::rest) q):=
 H.opV hw hd (fun a w hf _=>by
  subst hz
  simp[execOp,resolve,invoke,builtin,Builtin.max_,Builtin.max2,hf.eval hx,hf.eval hy]) kk
theorem H.Co{fn:Go.Fn}{cs:List Operand}{us:List Value}(hw:want? l L gd=true)(hx:evs? L xs=some vs)(hc:evs? L cs=some us)(hd:Nat.ble (d+1) n=true)
  (k:H P base n ((d,.func fn vs.toArray us.toArray)::L) f A (.ops l rest q)):H P base n L f A (.ops l (⟨some d,.makeFunc fn xs.toArray cs.toArray,ty,pos,af,gd⟩::rest) q):=
 H.opV hw hd (fun a w hf _=>by
  simp[execOp,Instr.makeFunc,hf.evals hx,hf.evals hc]) k
theorem H.aggEq{xs:List Value}{b:Bool}(hw:want? l L gd=true)(hx:ev? L x=some (.agg xs.toArray))(hy:ev? L y=some (.agg ys.toArray))(ho:op= .eql)
  (hg:P.eqGuardType P.depth xt=false) (h1:shp P D xt xs=true) (h2:shp P D xt ys=true) (hm:(match P.underlying xt with|some (.array _ _)|some (.struct _)=>true|_=>false)=true) (hD:D≤10000) (hb:eqC xs ys=b) (hd:Nat.ble (d+1) n=true)
  (kk:H P base n ((d,.bool b)::L) f A (.ops l rest q)):H P base n L f A (.ops l (⟨some d,.binOp op xt x y yt,ty,pos,af,gd⟩::rest) q):=
 H.opV hw hd (fun a w hf _=>by
  subst ho;subst hb
  have hmk:∀zs:List Value,mkV P xt zs= .agg zs.toArray:=fun zs=>by
   unfold mkV
   split at hm<;>simp_all
  have h3:=zbl 10000 xt w D D xs ys h1 h2 hD
  rw[hmk,hmk]at h3
  refine run_bin _ ?_ ?_
  ·rw[hf.eval hx,hf.eval hy]
   simp[eqGuard,hg]
  ·rw[hf.eval hx,hf.eval hy]
   show Sem.run P (do pure (Value.bool (←Op.equal xt (.agg xs.toArray) (.agg ys.toArray)))) w=_
   have h4:Sem.run P (Op.equal xt (.agg xs.toArray) (.agg ys.toArray)) w= .ok (eqC xs ys) w:=h3
   simp[h4]) kk
end rules
/-! A call of a function value. -/
variable {fs:List Value}
theorem run_enterV[hfun:Fun P fid](a:Act){dd:Option Tmp}(hx:a.eval x= .func (.func fid) fs.toArray cs.toArray)(hargs:xs.map a.eval=vs):
  (execOp a.eval ⟨dd,.call ⟨.value x,xs.toArray,ats⟩,ty,pos,af,gd⟩).run P w= .ok (.enter fid (fs++vs++cs).toArray) w:=by
 obtain⟨fn,h1,h2,h3⟩:=hfun.eq;have e1:(fs.toArray++Array.map a.eval xs.toArray:Array Value)++cs.toArray=(fs++vs++cs).toArray:=by simp[hargs]
 have e2:(execOp a.eval ⟨dd,.call ⟨.value x,xs.toArray,ats⟩,ty,pos,af,gd⟩).run P w=Sem.run P (callFunc fid ((fs.toArray++Array.map a.eval xs.toArray)++cs.toArray)) w:=by
  simp only[execOp,resolve,hx,Deferred.ofValue,Sem.run_bind,Sem.run_pure,Result.andThen_ok,invoke]
 rw[e2,e1];exact qcz
section
variable {P:Program} {base:World} {n:Nat} {L:Env} {f f':Frag} {A A':List HP} {q:Post}
variable {l rest:List Oper} {d:Nat} {ty:TypeId} {pos:String} {af:Array Edge} {gd:Option (Nat × Bool)}
theorem H.callV(hx:ev? L x=some (.func (.func fid) fs.toArray cs.toArray))[hfun:Fun P fid](hw:want? l L gd=true)(hd:Nat.ble (d+1) n=true)
  (hxs:evs? L xs=some vs) (hc:Fn P fid (fs++vs++cs) f A R)
  (k:∀v f' A',R v f' A'→H P base n ((d,v)::L) f' A' (.ops l rest q)) :
  H P base n L f A (.ops l (⟨some d,.call ⟨.value x,xs.toArray,ats⟩,ty,pos,af,gd⟩::rest) q):=.mk fun a w hf s=>by
 show wpList P l.toArray (q.den P) _ a w
 unfold wpList
 rw[if_pos (hf.want (o:=⟨some d,_,ty,pos,af,gd⟩) hw)]
 refine .inl ?_
 have hrun:=run_enterV (P:=P) (dd:=some d) (ats:=ats) (ty:=ty) (pos:=pos) (af:=af) (gd:=gd) (w:=w) a (fid:=fid) (hf.eval hx) (hf.evals hxs)
 simp only[Oper.wp,hrun,Oper.upon]
 refine(hc base w s).mono ?_
 rintro e w' ⟨v,f',A',rfl,hr,s'⟩
 exact(k v f' A' hr).out _ _ (hf.put (Nat.le_of_ble_eq_true hd) v) s'
theorem H.callVR(hx:ev? L x=some (.func (.func fid) fs.toArray cs.toArray))[hfun:Fun P fid](hw:want? l L gd=true)(hd:Nat.ble (d+1) n=true)
  (hxs:evs? L xs=some vs) (hc:Fn P fid (fs++vs++cs) f A (Ret v f' A')) (k:H P base n ((d,v)::L) f' A' (.ops l rest q)) :
  H P base n L f A (.ops l (⟨some d,.call ⟨.value x,xs.toArray,ats⟩,ty,pos,af,gd⟩::rest) q):=
 H.callV hx hw hd hxs hc fun _ _ _ h=>by obtain⟨rfl,rfl,rfl⟩:=h;exact k
end
variable {T u:TypeId} {news:List Value}
section rules
variable {P:Program} {base:World} {n:Nat} {L:Env} {f:Frag} {A:List HP} {q:Post}
variable {l rest:List Oper} {d:Nat} {ty:TypeId} {pos:String} {af:Array Edge} {gd:Option (Nat × Bool)}
theorem H.Bt[hu:Und P t (.slice e)](hw:want? l L gd=true)(hx:ev? L x=some (.slice p m c))(hd:Nat.ble (d+1) n=true)
  (k:H P base n ((d,.int .i64 (c:Nat))::L) f A (.ops l rest q)):H P base n L f A (.ops l (⟨some d,.call ⟨.builtin .cap,#[x],#[t]⟩,ty,pos,af,gd⟩::rest) q):=
 H.opV hw hd (fun a w hfr _=>by
  simp[execOp,resolve,invoke,builtin,Builtin.cap_,hfr.eval hx,hu.run,goInt]) k
theorem H.slc_cap{xs:List Value}(h:At A (slc p m c T sz xs) A' (slc p m c T sz xs))
  (k:m≤c→c≤9223372036854775807→xs.length=m*sz→H P base n L f A K):H P base n L f A K:=.mk fun a w hf s=>by
 obtain⟨h1,h2,h3⟩:=s.slc_at h
 rcases h3 with⟨rfl,rfl⟩|⟨b,sp,rfl,h4,_⟩
 ·exact(k (Nat.le_refl _) h2 h1).out a w hf s
 ·exact(k h4 h2 h1).out a w hf s
theorem slP0(p:Option Addr)(mv sz:Nat):slP p 0 mv sz=p:=by
 unfold slP;split
 ·rfl
 ·cases p<;>simp[Addr.add]
theorem H.sliceTo{len:Nat}{kk:IntKind}[hu:Und P t (.slice e)][hs:Siz P e sz](hw:want? l L gd=true)
  (hx:ev? L x=some (.slice p len cap)) (hy:ev? L y=some (.int kk z)) (hz:z=(hv:Nat)) (a2:hv≤cap) (hd:Nat.ble (d+1) n=true)
  (k:H P base n ((d,.slice p hv cap)::L) f A (.ops l rest q)):H P base n L f A (.ops l (⟨some d,.slice t x none (some y) none,ty,pos,af,gd⟩::rest) q):=
 H.slice (hu:=hu) (hs:=hs) (lv:=0) (hv:=hv) (mv:=cap) hw hx rfl ⟨kk,z,hy,hz⟩ rfl (fun h=>by cases h) (Nat.zero_le _) a2 (Nat.le_refl _) hd (by rw[slP0];exact k)
theorem H.slc_full{xs:List Value}
  (k:∀sp:List Value,(xs++sp).length=c*sz→m≤c→H P base n L f (slc p c c T sz (xs++sp)::B) K):H P base n L f (slc p m c T sz xs::B) K:=.mk fun a w hf s=>by
 obtain⟨mm,⟨m1,m2,dj,e,⟨h1,h2,h3⟩,r⟩,hd,hw⟩:=s.mem
 rcases h3 with⟨rfl,rfl,hn⟩|⟨b,sp,rfl,h4,h5,hn⟩
 ·have:xs= []:=List.eq_nil_of_length_eq_zero (by simpa using h1)
  subst this
  exact(k [] jL (Nat.le_refl _)).out a w hf ⟨s.os,s.tape,s.output,s.size,s.imm,mm,⟨m1,m2,dj,e,⟨by simp,h2,.inl ⟨rfl,rfl,hn⟩⟩,r⟩,hd,hw⟩
 ·exact(k sp h5 h4).out a w hf ⟨s.os,s.tape,s.output,s.size,s.imm,mm,⟨m1,m2,dj,e,⟨h5,h2,.inr ⟨b,[],rfl,Nat.le_refl _,by rw[List.append_nil];exact h5,by rw[List.append_nil];exact hn⟩⟩,r⟩,hd,hw⟩
theorem H.slc_trunc{m':Nat}{xs:List Value}(hm:m'≤m)(hc:m≤c)(hy:ys=xs.take (m'*sz))
  (k:H P base n L f (slc p m' c T sz ys::B) K):H P base n L f (slc p m c T sz xs::B) K:=.mk fun a w hf s=>by
 subst hy
 obtain⟨mm,⟨m1,m2,dj,e,⟨h1,h2,h3⟩,r⟩,hd,hw⟩:=s.mem
 have hlen:(xs.take (m'*sz)).length=m'*sz:=by
  rw[List.length_take,h1];exact Nat.min_eq_left (Nat.mul_le_mul_right _ hm)
 refine k.out a w hf ⟨s.os,s.tape,s.output,s.size,s.imm,mm,⟨m1,m2,dj,e,⟨hlen,h2,?_⟩,r⟩,hd,hw⟩
 rcases h3 with⟨rfl,rfl,hn⟩|⟨b,sp,rfl,h4,h5,hn⟩
 ·exact .inl ⟨by omega,rfl,hn⟩
 ·refine .inr ⟨b,xs.drop (m'*sz)++sp,rfl,by omega,?_,?_⟩
  ·rw[←List.append_assoc,List.take_append_drop];exact h5
  ·rw[←List.append_assoc,List.take_append_drop];exact hn
theorem run_append_zero_out{z:Value}{i:TypeInfo}{olds:List Value}
  (hu:Und P t (.slice e)) (hu2:Und P u (.int .i64)) (hi:P.info? e=some i) (hz:i.zero=some z) (hpos:0<m*i.size)
  (hold:(Builtin.firstCells i.size n (.slice p n c)).run P w.drew= .ok olds.toArray w.drew)
  (hg:c<n+m) (h63:n+m≤9223372036854775807) (hby:(n+m)*i.bytes≤140737488355328) (hfit:Builtin.nextslicecap (n+m) c*i.bytes≤281474976710656) :
  (Builtin.append_ #[t, u] ty #[.slice p n c, .int .i64 (m : Nat)]).run P w =
   .ok (.slice (some ⟨w.heap.size,0,none⟩) (n+m) (grownCap w (n+m) c e)) (w.drew.alloc (.cells (olds.toArray++Builtin.zeroCells z.cells m++Builtin.zeroCells z.cells (grownCap w (n+m) c e-(n+m))) e)):=by
 have hn:¬(n+m≤c):=jA
 have h63':¬(9223372036854775807<((n:Int)+(m:Int))):=jA
 have h48':¬(281474976710656<Builtin.nextslicecap (n+m) c*i.bytes):=jA
 have hwr:IntKind.i64.wrap (m:Int)=(m:Int):=wr_i64 jA;have hm0:¬((m:Int)<0):=jA
 have hmb:m*i.bytes≤281474976710656:=by
  have:m*i.bytes≤(n+m)*i.bytes:=Nat.mul_le_mul_right _ jA;omega
 have hmb':¬(281474976710656<(m:Int)*(i.bytes:Int)):=by
  rw[←Int.natCast_mul];omega
 have hp:¬(m*i.size=0):=jA
 have hp2:¬(m=0∨i.size=0):=by
  rintro(h|h)<;>simp[h]at hpos
 simp[Builtin.append_,run_underlying hu.eq,run_underlying hu2.eq,sizeOf,typeInfo,zeroValue,hi,hz,hold,hn,h63',h48',hwr,hm0,hmb',hp,asInt,asIntOf,Question.forced,newRow,grownCap]
theorem run_append_zero{A':Option Addr→Nat→List HP}{bytes:Nat}{xs:List Value}{z:Value}
  (hu:Und P t (.slice e)) (hu2:Und P u (.int .i64)) (hs:Siz P e sz) (hb:Byt P e bytes) (hz:Zer P e z)
  (s:Sat base w f A) (hA:∀p' c',At A (slc p n c e sz xs) (A' p' c') (slc p' (n+m) c' e sz (xs++(Builtin.zeroCells z.cells m).toList)))
  (hzs:z.cells.size=sz) (hpos:0<m*sz) (hg:c<n+m) (h63:n+m≤9223372036854775807) (hby:(n+m)*bytes≤140737488355328) :
  ∃p' c' w',(Builtin.append_ #[t,u] ty #[.slice p n c,.int .i64 (m:Nat)]).run P w= .ok (.slice p' (n+m) c') w'∧Sat base w' f (A' p' c'):=by
 obtain⟨i,hi,rfl,rfl,hiz⟩:=info_of hs hb hz;obtain⟨hl,hc,h3⟩:=s.slc_at (hA none 0)
 have hold:(Builtin.firstCells i.size n (.slice p n c)).run P w.drew= .ok xs.toArray w.drew:=by
  rcases h3 with⟨rfl,rfl⟩|⟨b,sp,rfl,hnc,hcs,hw⟩
  ·have hx:xs= []:=List.eq_nil_of_length_eq_zero kg;subst hx
   cases p with
   |none=>exact run_firstCells_none w.drew i.size 0 0 0
   |some a=>exact run_firstCells_some w.drew i.size 0 a 0 0 [] jL jL
  ·exact run_firstCells_some (P:=P) w.drew i.size n ⟨b,0,none⟩ n c xs hl (fun j v hj=>by
    rw[zaz]
    have:j<xs.length:=by
     exact qcT
    simp[World.cell?,show w.drew.heap=w.heap from rfl,hw,List.getElem?_append_left this,hj])
 have hr:=run_append_zero_out (ty:=ty) hu hu2 hi hiz hpos hold hg h63 hby (growslice_fits hg hby)
 have hlen:(xs++(Builtin.zeroCells z.cells m).toList).length=(n+m)*i.size:=by
  rw[List.length_append,hl,Array.length_toList,size_zeroCells,hzs,Nat.add_mul]
 refine⟨_,_,_,hr,s.fresh (hA _ _) rfl rfl rfl rfl ⟨hlen,?_,.inr ⟨_,(Builtin.zeroCells z.cells (grownCap w (n+m) c e-(n+m))).toList,rfl,grownCap_ge _ _ _ _,?_,?_⟩⟩⟩
 ·have:=grownCap_le_maxLen w (n+m) c e (by unfold maxLen;omega);unfold maxLen at this;omega
 ·have hge:=grownCap_ge w (n+m) c e;rw[List.length_append,hlen,Array.length_toList,size_zeroCells,hzs,←Nat.add_mul];congr 1;omega
 ·congr 2;rw[←List.append_toArray,←List.append_toArray,Array.toArray_toList,Array.toArray_toList]
theorem H.appendZ{A':Option Addr→Nat→List HP}{n0 bytes:Nat}{zi:Int}{xs:List Value}{z:Value}
  [hu:Und P t (.slice e)] [hu2:Und P u (.int .i64)] [hs:Siz P e sz] [hb:Byt P e bytes] [hz:Zer P e z] (hw:want? l L gd=true) (hd:Nat.ble (d+1) n=true) (hx:ev? L x=some (.slice p n0 c)) (hy:ev? L y=some (.int .i64 zi)) (hzi:zi=(m:Nat))
  (hA:∀p' c',At A (slc p n0 c e sz xs) (A' p' c') (slc p' (n0+m) c' e sz (xs++(Builtin.zeroCells z.cells m).toList)))
  (hzs:z.cells.size=sz) (hpos:0<m*sz) (hg:c<n0+m) (h63:n0+m≤9223372036854775807) (hby:(n0+m)*bytes≤140737488355328)
  (k:∀p' c',H P base n ((d,.slice p' (n0+m) c')::L) f (A' p' c') (.ops l rest q)) :
  H P base n L f A (.ops l (⟨some d,.call ⟨.builtin .append,#[x,y],#[t,u]⟩,ty,pos,af,gd⟩::rest) q):=
 H.opE (ι:=Option Addr×Nat) (fun i=>.slice i.1 (n0+m) i.2) (fun _=>f) (fun i=>A' i.1 i.2) (fun _=>True) hw hd (fun a w hfr s=>by
  subst hzi
  obtain⟨p',c',w',hr,s'⟩:=run_append_zero (ty:=ty) hu hu2 hs hb hz s hA hzs hpos hg h63 hby
  exact⟨(p',c'),w',trivial,run_builtin_append jm,s'⟩) (fun i _=>k i.1 i.2)
theorem Src.cons{y:HP}{x:Value}(h:Src P f A x sz m news):Src P f (y::A) x sz m news:=
 ⟨h.len,fun base w s=>h.cells base w (s.drop (.here _ _)),h.size⟩
theorem Src.append{x:Value}(h:Src P f A x sz m news):Src P f (B++A) x sz m news:=by
 induction B with
 |nil=>exact h
 |cons b B ih=>exact ih.cons
theorem results_cell{p:Tmp}{tmps:Array Value}(h:fn.results= #[.cell p ty])(hp:tmps.getD p undef= .pointer (some ⟨b,off,none⟩))
  (hl:(loadVar ty ⟨b,off,none⟩).run P w= .ok v w):(results fn tmps).run P w= .ok v w:=by
 have hp':tmps[p]?.getD undef= .pointer (some ⟨b,off,none⟩):=by simpa using hp
 simp only[results,h];simp[Sem.run_bind,asAddr,hp',hl]
end rules
variable {dT sT:TypeId} {dl k0:Nat} {xv:Value}
section rules
variable {P:Program} {base:World} {n:Nat} {L:Env} {f:Frag} {A:List HP} {q:Post}
variable {l rest:List Oper} {d:Nat} {ty:TypeId} {pos:String} {af:Array Edge} {gd:Option (Nat × Bool)}
theorem H.convBS{bs:List UInt8}[hs:Und P s (.slice e)][he:Und P e (.int .u8)][ht:Und P t .string](hw:want? l L gd=true)(hx:ev? L x=some (.slice p bs.length c))
  (hsrc:Src P f A (.slice p bs.length c) 1 bs.length (bytesV bs)) (hn:p=none→bs= []) (hd:Nat.ble (d+1) n=true)
  (k:H P base n ((d,.string ⟨bs.toArray⟩)::L) f A (.ops l rest q)):H P base n L f A (.ops l (⟨some d,.convert s t x,ty,pos,af,gd⟩::rest) q):=
 H.opV hw hd (fun a w hf s'=>by
  have h1:=hsrc.cells base w s'
  have h2:(convert s t (.slice p bs.length c)).run P w= .ok (.string ⟨bs.toArray⟩) w:=by
   rw[run_convert_bytes_string w s t e p bs.length c hs.eq he.eq ht.eq]
   cases p with
   | none =>
    have:=hn rfl
    subst this
    simp[Conv.bytesToString]
    rfl
   | some a =>
    have h3:(loadCells a bs.length).run P w= .ok ((bs.map (fun b=>(b.toNat:Int))).map (Value.int .u8)).toArray w:=by
     have h4:(Builtin.firstCells 1 bs.length (.slice (some a) bs.length c)).run P w=(loadCells a (bs.length*1)).run P w:=rfl
     rw[Nat.mul_one]at h4
     rw[←h4,h1]
     unfold bytesV
     rw[List.map_map]
     rfl
    rw[run_bytesToString w a bs.length c _ h3,foldl_push_byteCells]
    have he0:ByteArray.empty.data= #[]:=rfl
    rw[he0]
    simp
  simp only[execOp,hf.eval hx,Sem.run_bind,h2,Result.andThen_ok,Sem.run_pure]) k
def strRow(b:Nat)(s:ByteArray)(c:Nat)(e:TypeId):HP:=pts b (.cells (bytesRow s c) e ((bytesRow s c).size,(bytesRow s c).size+1))
theorem bytesRow_get(s:ByteArray)(c:Nat){i:Nat}(h:i<s.size):(bytesRow s c)[i]? =(bytesV s.data.toList)[i]?:=by
 unfold bytesRow bytesV;have h':i<s.data.size:=h;rw[Array.getElem?_append_left (by simpa using h')]
 rw[List.getElem?_map,Array.getElem?_map,Array.getElem?_toList]
theorem Src.strRow{c':Nat}{s:ByteArray}(h:At A (strRow b s c e) A' (strRow b s c e)):Src P f A (.slice (some ⟨b,0,none⟩) s.size c') 1 s.size (bytesV s.data.toList):=by
 have hl:(bytesV s.data.toList).length=s.size*1:=by unfold bytesV;rw[List.length_map,Array.length_toList,Nat.mul_one];rfl
 refine Src.slice (fun base w sa=>⟨_,_,_,sa.got h,fun i hi=>?_⟩) hl;rw[hl,Nat.mul_one]at hi;rw[Nat.zero_add];exact bytesRow_get s c hi
theorem H.convSB{bs:ByteArray}[hs:Und P s .string][ht:Und P t (.slice e)][he:Und P e (.int .u8)](hw:want? l L gd=true)(hx:ev? L x=some (.string bs))(hd:Nat.ble (d+1) n=true)
  (k:∀b c,H P base n ((d,.slice (some ⟨b,0,none⟩) bs.size c)::L) f (strRow b bs c e::A) (.ops l rest q)):H P base n L f A (.ops l (⟨some d,.convert s t x,ty,pos,af,gd⟩::rest) q):=
 H.opE (ι:=Nat×Nat) (fun i=>.slice (some ⟨i.1,0,none⟩) bs.size i.2) (fun _=>f) (fun i=>strRow i.1 bs i.2 e::A) (fun _=>True) hw hd (fun a w hfr s'=>by
  have h1:=run_bytes_of_string (P:=P) w s t e bs hs.eq ht.eq he.eq
  have h2:(execOp a.eval ⟨some d,.convert s t x,ty,pos,af,gd⟩).run P w= .ok (.value (.slice (some ⟨w.heap.size,0,none⟩) bs.size (grownCap w bs.size 0 e))) (w.drew.alloc (.cells (bytesRow bs (grownCap w bs.size 0 e)) e ((bytesRow bs (grownCap w bs.size 0 e)).size,(bytesRow bs (grownCap w bs.size 0 e)).size+1))):=by
   simp only[execOp,hfr.eval hx,Sem.run_bind,h1,Result.andThen_ok,Sem.run_pure]
  exact⟨(w.heap.size,grownCap w bs.size 0 e),_,trivial,h2,Sat.alloc (w:=w) s' rfl rfl rfl rfl⟩) (fun i _=>k i.1 i.2)
theorem run_copy_own{elem:TypeId}{o dc:Nat}{cur:Array Value}(hu:Und P dT (.slice elem))(hs:Siz P elem 1)
  (hg:w.heap[b]? =some (.cells cur T (0,0))) (hlen:(Builtin.lenOf xv).run P w= .ok m w) (hcs:(Builtin.firstCells 1 (Nat.min m dl) xv).run P w= .ok cs.toArray w) (hfit:o+cs.length≤cur.size) (h1:∀v∈cs,v.oneCell'=true) :
  (Builtin.copy_ #[dT,sT] ty #[.slice (some ⟨b,o,none⟩) dl dc,xv]).run P w= .ok (goInt (Nat.min m dl)) (w.setRow b (cur.toList.take o++cs++cur.toList.drop (o+cs.length)).toArray):=by
 have hst:=run_storeCells_at P b o T cs 0 cur w hg (by simpa using hfit) h1;simp only[Nat.add_zero]at hst
 simp[Builtin.copy_,run_underlying hu.eq,hlen,hs.run,hcs,hst]
theorem run_builtin_copy{w':World}{dd:Option Tmp}(h:(Builtin.copy_ #[t,u] ty #[a.eval x,a.eval y]).run P w= .ok v w'):
  (execOp a.eval ⟨dd,.call ⟨.builtin .copy,#[x,y],#[t,u]⟩,ty,pos,af,gd⟩).run P w= .ok (.value v) w':=by
 exact qcn
theorem H.copy{o dc:Nat}{ls ls':List Value}[hu:Und P dT (.slice e)][hs:Siz P e 1](hw:want? l L gd=true)(hd:Nat.ble (d+1) n=true)
  (hx:ev? L x=some (.slice (some ⟨b,o,none⟩) dl dc)) (hy:ev? L y=some xv) (hlen:∀w,(Builtin.lenOf xv).run P w= .ok m w) (hk:Nat.min m dl=k0) (hcs:∀base w,Sat base w f A→(Builtin.firstCells 1 k0 xv).run P w= .ok cs.toArray w)
  (hset:splice ls o cs=ls') (hfit:o+cs.length≤ls.length) (h1:∀v∈cs,one v=true) (hA:At A (row b T ls) A' (row b T ls'))
  (k:H P base n ((d,.int .i64 (k0:Nat))::L) f A' (.ops l rest q)):H P base n L f A (.ops l (⟨some d,.call ⟨.builtin .copy,#[x,y],#[dT,sT]⟩,ty,pos,af,gd⟩::rest) q):=
 H.opE (ι:=Unit) (fun _=>.int .i64 (k0:Nat)) (fun _=>f) (fun _=>A') (fun _=>True) hw hd (fun a w hfr s'=>by
  subst hset;subst hk
  have hb:=s'.got hA
  have hr:=run_copy_own (P:=P) (ty:=ty) (sT:=sT) (dc:=dc) hu hs hb (hlen w) (hcs base w s') (by simpa using hfit) (fun v hv=>by rw[one_eq];exact h1 v hv)
  refine⟨(),_,trivial,run_builtin_copy jm,?_⟩
  exact s'.set hA rfl rfl rfl (setRow_is hb)) (fun _ _=>k)
theorem Src.copy(h:Src P f A xv 1 m cs):∀base w,Sat base w f A→(Builtin.firstCells 1 m xv).run P w= .ok cs.toArray w:=h.cells
theorem firstCells_part(h:Rd f A b off news)(hk:k0≤news.length):∀base w,Sat base w f A→(Builtin.firstCells 1 k0 (.slice (some ⟨b,off,none⟩) m c)).run P w= .ok (news.take k0).toArray w:=fun base w s=>by
 refine run_firstCells_some w 1 k0 ⟨b,off,none⟩ m c (news.take k0) je (fun j v hj=>?_)
 rw[zaz]
 rw[List.getElem?_take]at hj
 split at hj
 ·exact(h base w s).cell hj
 ·cases hj
end rules
theorem Le.un(f g:Frag):Le f (un f g):=fun k o h=>by simp[Proofs.YtkaknokcbhiigaaGreatDoor.un,h]
variable {g:Frag}
theorem Sat.weak(h:Le f g)(s:Sat base w g A):Sat base w f A:=by
 obtain⟨a,b,c,d,e,m,hm,hd,hw⟩:=s;refine⟨a,b,c,d,fun k o hk=>e k o (h k o hk),m,hm,fun k=>?_,hw⟩;rcases hd k with h1|h1
 ·refine .inl ?_
  cases hf:f k with
  |none=>rfl
  |some o=>rw[h k o hf]at h1;cases h1
 ·exact .inr h1
theorem wpAnyC_mono{P:Program}{C C':World→Prop}{ops:Array Oper}{Q:Exit→Act→World→Prop}{cut:Array Bool}(hC:∀w,C w→C' w):∀(fuel:Nat) (listed:Array Bool) (a:Act) (w:World),wpAnyC P C ops Q cut fuel listed a w→wpAnyC P C' ops Q cut fuel listed a w
 |0,_,_,_,h=>⟨hC _ h.1,h.2⟩
 | fuel + 1, listed, a, w, h => by
  refine⟨hC _ h.1,?_⟩
  have h2:=h.2
  split at h2
  ·rename_i hc;rw[if_pos hc];exact h2
  ·rename_i hc;rw[if_neg hc];exact⟨h2.1,fun i hi=>wpOp_mono (fun a w=>wpAnyC_mono hC fuel _ a w) (h2.2 i hi)⟩
structure HB(S V:List HP)(cut listed:Array Bool)(fuel:Nat)(P:Program)(base:World)(n:Nat)(L:Env)(f:Frag)(K:Kont):Prop where
 out:∀l q,K= .ops l [] q→Region.noSelect l.toArray=true→q.blind P→∀a w,Fr n a L→Sat base w f (S++V)→
  wpAnyC P (fun w=>∃V,Sat base w f (S++V)) l.toArray (q.den P) cut fuel listed a w
def bPost(P:Program)(base:World)(f:Frag)(S:List HP)(cut listed:Array Bool)(fuel:Nat)(l:List Oper)(q:Post)(e:Exit)(a:Act)(w:World):Prop:=
 Region.noSelect l.toArray=true→q.blind P→match e with
  | .normal=>wpAnyC P (fun w=>∃V,Sat base w f (S++V)) l.toArray (q.den P) cut fuel listed a w
  |e=>q.den P e a w
variable {S':List HP} {f':Frag}
section rules
variable {P:Program} {base:World} {n:Nat} {L:Env} {f:Frag} {A S V:List HP} {q:Post} {cut listed:Array Bool} {fuel:Nat} {ξ:Ext} {tl:List Oper}
variable {l rest:List Oper} {d:Nat} {ty:TypeId} {pos:String} {af:Array Edge} {gd:Option (Nat × Bool)}
theorem HB.quiet(todo:List (Nat×Bool))(left:Nat)(hn:(ordOK l.toArray ⟨listed,cut,left,true⟩ todo&& todo.all (fun t=>(getO l t.1).isSome)&& Nat.beq fuel (todo.length+left))=true)
  (k:HQ V ⟨⟨listed,cut,left,true⟩,todo⟩ P base n L f S (.ops l (pickOps l todo) q)):HB S V cut listed fuel P base n L f (.ops l [] q):=.mk fun l' q' hK hs hb a w hf s=>by
 simp only[Kont.ops.injEq]at hK
 obtain⟨rfl,_,rfl⟩:=hK
 simp only[Bool.and_eq_true,List.all_eq_true]at hn
 obtain⟨⟨h1,h2⟩,h3⟩:=hn
 have h4:fuel=todo.length+left:=Nat.eq_of_beq_eq_true h3
 subst h4
 exact k.out l q rfl hs hb h1 h2 a w hf s
theorem HQ.Aa(h0:ls.opn=true)(k:HB A V ls.cut ls.a ls.left P base n L f (.ops l [] q)):HQ V ⟨ls,[]⟩ P base n L f A (.ops l [] q):=.mk fun l' q' hK hs hb ho hg a w hf s=>by
 simp only[Kont.ops.injEq]at hK
 obtain⟨rfl,_,rfl⟩:=hK
 have _:=h0
 have:=k.out l q rfl hs hb a w hf s
 simp only[List.length_nil,Nat.zero_add]
 exact this
theorem HB.done(h0:(Nat.beq fuel 0&& Region.ready .any l.toArray listed == [])=true)(k:H P base n L f (S++V) (.out .normal q)):HB S V cut listed fuel P base n L f (.ops l [] q):=.mk fun l' q' hK hs hb a w hf s=>by
 simp only[Kont.ops.injEq]at hK
 obtain⟨rfl,_,rfl⟩:=hK
 simp only[Bool.and_eq_true,beq_iff_eq]at h0
 have h1:fuel=0:=Nat.eq_of_beq_eq_true h0.1
 subst h1
 exact⟨⟨V,s⟩,h0.2,k.out a w hf s⟩
theorem event_step{i:Nat}(ho:getO l i=some o)(hs:Region.noSelect l.toArray=true)(hb:q.blind P)(hf:Fr n a L)(s:Sat base w f (S++V))
  (k:H P base n L f (S++V) (.ops l [o] (.fn (bPost P base f S cut (listed.setIfInBounds i true) fuel l q)))) :
  wpOp P l.toArray (q.den P) i (wpAnyC P (fun w=>∃V,Sat base w f (S++V)) l.toArray (q.den P) cut fuel (listed.setIfInBounds i true)) a w:=by
 have hk:=k.out a w hf s;unfold wpOp
 rw[List.getElem?_toArray,←getO_eq,ho];show if Region.wanted o (yielded l.toArray a.tmps)=true then _ else _
 have hk':wpList P l.toArray (bPost P base f S cut (listed.setIfInBounds i true) fuel l q) [o] a w:=hk;simp only[wpList]at hk'
 have e1:∀a w,bPost P base f S cut (listed.setIfInBounds i true) fuel l q .normal a w→
   wpAnyC P (fun w=>∃V,Sat base w f (S++V)) l.toArray (q.den P) cut fuel (listed.setIfInBounds i true) a w:=fun a w h=>h hs hb
 by_cases hw:Region.wanted o (yielded l.toArray a.tmps)=true
 ·rw[if_pos hw]at hk'⊢;rcases hk' with h|⟨hasks,x,y,z⟩
  ·exact .inl (upon_mono e1 (fun c a w h=>h hs hb) (fun a w h=>h hs hb) h)
  ·exact .inr ⟨hasks,x,y,z hs hb⟩
 ·rw[if_neg hw]at hk'⊢;exact e1 _ _ hk'
def oneB(l:List Oper)(cut listed:Array Bool)(is:List Nat):Bool:=Region.ready .any l.toArray listed == is&& (listed !=cut)
theorem HB.ev1{i:Nat}(hr:oneB l cut listed [i]=true)(ho:getO l i=some o)
  (k:H P base n L f (S++V) (.ops l [o] (.fn (bPost P base f S cut (listed.setIfInBounds i true) fuel l q)))):HB S V cut listed (fuel+1) P base n L f (.ops l [] q):=.mk fun l' q' hK hs hb a w hf s=>by
 simp only[Kont.ops.injEq]at hK
 obtain⟨rfl,_,rfl⟩:=hK
 simp only[oneB,Bool.and_eq_true,beq_iff_eq,bne_iff_ne,ne_eq]at hr
 exact wpAnyC_one hr.1 hr.2 ⟨V,s⟩ (event_step ho hs hb hf s k)
theorem HB.ev2{i:Nat}{o':Oper}(hr:oneB l cut listed [i,j]=true)(ho:getO l i=some o)(ho':getO l j=some o')
  (k:H P base n L f (S++V) (.ops l [o] (.fn (bPost P base f S cut (listed.setIfInBounds i true) fuel l q))))
  (k':H P base n L f (S++V) (.ops l [o'] (.fn (bPost P base f S cut (listed.setIfInBounds j true) fuel l q)))):HB S V cut listed (fuel+1) P base n L f (.ops l [] q):=.mk fun l' q' hK hs hb a w hf s=>by
 simp only[Kont.ops.injEq]at hK
 obtain⟨rfl,_,rfl⟩:=hK
 simp only[oneB,Bool.and_eq_true,beq_iff_eq,bne_iff_ne,ne_eq]at hr
 refine⟨⟨V,s⟩,?_⟩
 rw[if_neg hr.2]
 refine⟨(fun h0=>by rw[hr.1]at h0;simp at h0),fun x hx=>?_⟩
 rw[hr.1]at hx
 simp only[List.mem_cons,List.not_mem_nil,or_false]at hx
 rcases hx with rfl|rfl
 ·exact event_step ho hs hb hf s k
 ·exact event_step ho' hs hb hf s k'
theorem H.on(E:List HP)(hg:Le f g)(hB:B=(S++E)++V')(k:HB (S++E) V' cut listed fuel P base n L g (.ops l [] q)):
  H P base n L g B (.out .normal (.fn (bPost P base f S cut listed fuel l q))):=.mk fun a w hf s hs hb=>by
 subst hB
 refine wpAnyC_mono (fun w ⟨V1,s1⟩=>⟨E++V1,?_⟩) _ _ _ _ (k.out l q rfl hs hb a w hf s)
 rw[←List.append_assoc]
 exact s1.weak hg
theorem H.on0(hB:B=S++V')(k:HB S V' cut listed fuel P base n L f (.ops l [] q)):
  H P base n L f B (.out .normal (.fn (bPost P base f S cut listed fuel l q))):=.mk fun a w hf s hs hb=>by
 subst hB
 exact k.out l q rfl hs hb a w hf s
theorem H.drawB(hm:P.follows .mixedOrders=true)(hn:Region.noSelect l.toArray=true)(hb:q.blind P)(hB:B=S++V)(k:HB S V #[] (Array.replicate l.length false) l.length P base n L f (.ops l [] q)):H P base n L f B (.code (.region id l.toArray true) q):=.mk fun a w hf s=>by
 refine wp_region_any hm ?_
 subst hB
 have s':Sat base {w with drawn:=w.drawn+1} f (S++V):=s.same rfl rfl rfl rfl
 have:=k.out l q rfl hn hb a _ hf s'
 simpa using wpAnyC.any _ _ _ _ this
theorem H.drawC(upto:List Nat)(hm:P.follows .mixedOrders=true)(hn:Region.noSelect l.toArray=true)(hb:q.blind P)(hB:B=S++V)(k:HB S V (upto.foldl (fun a i=>a.setIfInBounds i true) (Array.replicate l.length false)) (Array.replicate l.length false) l.length P base n L f (.ops l [] q)):H P base n L f B (.code (.region id l.toArray true) q):=.mk fun a w hf s=>by
 refine wp_region_any hm ?_
 subst hB
 have s':Sat base {w with drawn:=w.drawn+1} f (S++V):=s.same rfl rfl rfl rfl
 have:=k.out l q rfl hn hb a _ hf s'
 simpa using wpAnyC.any _ _ _ _ this
theorem HB.next(upto:List Nat)(hc:(listed == cut&& Nat.blt 0 fuel)=true)(hB:S++V=S'++V')
  (k:HB S' V' (match upto with| []=>#[]|_=>upto.foldl (fun a i=>a.setIfInBounds i true) listed) listed fuel P base n L f (.ops l [] q)):HB S V cut listed fuel P base n L f (.ops l [] q):=.mk fun l' q' hK hs hb a w hf s=>by
 simp only[Kont.ops.injEq]at hK
 obtain⟨rfl,_,rfl⟩:=hK
 simp only[Bool.and_eq_true,beq_iff_eq]at hc
 obtain⟨h1,h2⟩:=hc
 have h3:=Nat.le_of_ble_eq_true h2
 obtain⟨m,rfl⟩:∃m,fuel=m+1:=⟨fuel-1,by omega⟩
 refine⟨⟨V,s⟩,?_⟩
 rw[if_pos h1]
 rw[hB]at s
 exact(k.out l q rfl hs hb a w hf s).any
structure HN(listed:Array Bool)(fuel:Nat)(P:Program)(base:World)(n:Nat)(L:Env)(f:Frag)(A:List HP)(K:Kont):Prop where
 out:∀l q,K= .ops l [] q→Region.noSelect l.toArray=true→q.blind P→∀a w,Fr n a L→Sat base w f A→wpAny P .any l.toArray (q.den P) fuel listed a w
theorem wpAnyC_true{ops:Array Oper}{Q:Exit→Act→World→Prop}(h0:ops.size≠0):∀(fuel:Nat) (listed:Array Bool) (a:Act) (w:World),listed.size=ops.size→wpAny P .any ops Q fuel listed a w→wpAnyC P (fun _=>True) ops Q #[] fuel listed a w
 |0,_,_,_,_,h=>⟨trivial,h⟩
 | fuel + 1, listed, a, w, hl, h => by
  refine⟨trivial,?_⟩
  rw[if_neg (by rintro rfl;exact h0 (by simpa using hl.symm))]
  exact⟨h.1,fun i hi=>wpOp_mono (fun a w=>wpAnyC_true h0 fuel _ a w kg) (h.2 i hi)⟩
theorem H.drawN(hm:P.follows .mixedOrders=true)(hn:Region.noSelect l.toArray=true)(hb:q.blind P)
  (k:HN (Array.replicate l.length false) l.length P base n L f A (.ops l [] q)):H P base n L f A (.code (.region id l.toArray true) q):=.mk fun a w hf s=>by
 refine wp_region_any hm ?_
 have s':Sat base {w with drawn:=w.drawn+1} f A:=s.same rfl rfl rfl rfl
 have:=k.out l q rfl hn hb a _ hf s'
 simpa using this
def pureB(l:List Oper)(listed:Array Bool)(i:Nat):Bool:=(Region.ready .any l.toArray listed).contains i&& Region.free .any l.toArray listed i&& barB l.toArray #[] i&& closedB l.toArray listed&& Nat.beq listed.size l.length&& Nat.blt 0 l.length
theorem HN.move{i:Nat}{x:Operand}{v:Value}(hc:pureB l listed i=true)(ho:getO l i=some ⟨some d,.move x,ty,pos,af,gd⟩)(hw:want? l L gd=true)(hx:ev? L x=some v)(hd:Nat.ble (d+1) n=true)
  (k:HN (listed.setIfInBounds i true) fuel P base n ((d,v)::L) f A (.ops l [] q)):HN listed (fuel+1) P base n L f A (.ops l [] q):=.mk fun l' q' hK hs hb a w hf s=>by
 simp only[Kont.ops.injEq]at hK
 obtain⟨rfl,_,rfl⟩:=hK
 simp only[pureB,Bool.and_eq_true]at hc
 obtain⟨⟨⟨⟨⟨h1,h2⟩,h3⟩,h4⟩,h5⟩,h6⟩:=hc
 have h5':listed.size=l.toArray.size:=by simpa using Nat.eq_of_beq_eq_true h5
 have h6':l.toArray.size≠0:=by
  have:=Nat.le_of_ble_eq_true h6;simp only[List.size_toArray];omega
 have hk:=k.out l q rfl hs hb (a.put (some d) v) w (hf.put (Nat.le_of_ble_eq_true hd) v) s
 have hk2:=wpAnyC_true h6' _ _ _ _ (by simpa using h5') hk
 refine wpAnyC.any _ _ _ _ (wpAnyC_take (C:=fun _=>True) (cut:=#[]) (oi:=⟨some d,.move x,ty,pos,af,gd⟩) (v:=v) kG hs h2 h3 h4 h1 (fun c a w h=>hb c a _ _ w h) (.inl ⟨hf.want hw,fun w' _=>?_⟩) hk2)
 simp[execOp,hf.eval hx]
theorem HN.phase(upto:List Nat)(hB:A=S++V)(k:HB S V (match upto with| []=>#[]|_=>upto.foldl (fun a i=>a.setIfInBounds i true) listed) listed fuel P base n L f (.ops l [] q)):HN listed fuel P base n L f A (.ops l [] q):=.mk fun l' q' hK hs hb a w hf s=>by
 simp only[Kont.ops.injEq]at hK
 obtain⟨rfl,_,rfl⟩:=hK
 subst hB
 exact(k.out l q rfl hs hb a w hf s).any
theorem HQ.Bf{k:IntKind}{p:Int}(hw:want? l L gd=true)(hx:ev? L x=some (.int k p))(hy:ev? L y=some (.int k p2))(hc:bitsI op k p p2=some r)(hz:r=z)(hd:Nat.ble (d+1) n=true){lst:Lst}
  (kk:HQ V ⟨lst.setIfInBounds ti true,tt⟩ P base n ((d,.int k z)::L) f A (.ops l rest q)):HQ V ⟨lst,(ti,false)::tt⟩ P base n L f A (.ops l (⟨some d,.binOp op xt x y yt,ty,pos,af,gd⟩::rest) q):=
 HQ.opV hw hd (fun a w hf _=>by
  cases op<;>simp only[bitsI,Option.some.injEq,reduceCtorEq]at hc<;>subst hc<;>subst hz<;>
   simp[execOp,eqGuard,binOp,Op.intBits,hf.eval hx,hf.eval hy]) kk
theorem HQ.Bo{k:IntKind}{p:Int}(hw:want? l L gd=true)(hx:ev? L x=some (.int k p))(hy:ev? L y=some (.int k2 p2))(hc:shiftI op k p p2=some r)(h0:0≤p2)(hz:r=z)(hd:Nat.ble (d+1) n=true){lst:Lst}
  (kk:HQ V ⟨lst.setIfInBounds ti true,tt⟩ P base n ((d,.int k z)::L) f A (.ops l rest q)):HQ V ⟨lst,(ti,false)::tt⟩ P base n L f A (.ops l (⟨some d,.binOp op xt x y yt,ty,pos,af,gd⟩::rest) q):=
 HQ.opV hw hd (fun a w hf _=>by
  have h1:¬p2<0:=jA
  cases op<;>simp only[shiftI,Option.some.injEq,reduceCtorEq]at hc<;>subst hc<;>subst hz<;>
   simp[execOp,eqGuard,binOp,Op.shift,hf.eval hx,hf.eval hy,h1]) kk
theorem HQ.flip{k:IntKind}{p:Int}(hw:want? l L gd=true)(hx:ev? L x=some (.int k p))(hc:bitsI .xor k (if k.signed then-1 else k.max) p=some r)(hz:r=z)(hd:Nat.ble (d+1) n=true){lst:Lst}
  (kk:HQ V ⟨lst.setIfInBounds ti true,tt⟩ P base n ((d,.int k z)::L) f A (.ops l rest q)):HQ V ⟨lst,(ti,false)::tt⟩ P base n L f A (.ops l (⟨some d,.unOp .xor xt x,ty,pos,af,gd⟩::rest) q):=
 HQ.opV hw hd (fun a w hf _=>by
  simp only[bitsI,Option.some.injEq]at hc
  subst hc;subst hz
  simp[execOp,Op.unary,Op.intBits,hf.eval hx]) kk
theorem HQ.max2{x y:Operand}{ats:Array TypeId}{k:IntKind}{p p2 z:Int}(hw:want? l L gd=true)(hx:ev? L x=some (.int k p))(hy:ev? L y=some (.int k p2))(hz:(if p<p2 then p2 else p)=z)(hd:Nat.ble (d+1) n=true){lst:Lst}{ti:Nat}{tt:List (Nat×Bool)}
  (kk:HQ V ⟨lst.setIfInBounds ti true,tt⟩ P base n ((d,.int k z)::L) f A (.ops l rest q)):HQ V ⟨lst,(ti,false)::tt⟩ P base n L f A (.ops l (⟨some d,.call ⟨.builtin .max,#[x,y],ats⟩,ty,pos,af,gd⟩::rest) q):=
 HQ.opV hw hd (fun a w hf _=>by
  subst hz
  simp[execOp,resolve,invoke,builtin,Builtin.max_,Builtin.max2,hf.eval hx,hf.eval hy]) kk
theorem HQ.aggEq{xs:List Value}{b:Bool}(hw:want? l L gd=true)(hx:ev? L x=some (.agg xs.toArray))(hy:ev? L y=some (.agg ys.toArray))(ho:op= .eql)
  (hg:P.eqGuardType P.depth xt=false) (h1:shp P D xt xs=true) (h2:shp P D xt ys=true) (hm:(match P.underlying xt with|some (.array _ _)|some (.struct _)=>true|_=>false)=true) (hD:D≤10000) (hb:eqC xs ys=b) (hd:Nat.ble (d+1) n=true) {lst:Lst}
  (kk:HQ V ⟨lst.setIfInBounds ti true,tt⟩ P base n ((d,.bool b)::L) f A (.ops l rest q)):HQ V ⟨lst,(ti,false)::tt⟩ P base n L f A (.ops l (⟨some d,.binOp op xt x y yt,ty,pos,af,gd⟩::rest) q):=
 HQ.opV hw hd (fun a w hf _=>by
  subst ho;subst hb
  have hmk:∀zs:List Value,mkV P xt zs= .agg zs.toArray:=fun zs=>by
   unfold mkV
   split at hm<;>simp_all
  have h3:=zbl 10000 xt w D D xs ys h1 h2 hD
  rw[hmk,hmk]at h3
  refine run_bin _ ?_ ?_
  ·rw[hf.eval hx,hf.eval hy]
   simp[eqGuard,hg]
  ·rw[hf.eval hx,hf.eval hy]
   show Sem.run P (do pure (Value.bool (←Op.equal xt (.agg xs.toArray) (.agg ys.toArray)))) w=_
   have h4:Sem.run P (Op.equal xt (.agg xs.toArray) (.agg ys.toArray)) w= .ok (eqC xs ys) w:=h3
   simp[h4]) kk
theorem HQ.aggNe{xs:List Value}{b:Bool}(hw:want? l L gd=true)(hx:ev? L x=some (.agg xs.toArray))(hy:ev? L y=some (.agg ys.toArray))(ho:op= .neq)
  (hg:P.eqGuardType P.depth xt=false) (h1:shp P D xt xs=true) (h2:shp P D xt ys=true) (hm:(match P.underlying xt with|some (.array _ _)|some (.struct _)=>true|_=>false)=true) (hD:D≤10000) (hb:(!eqC xs ys)=b) (hd:Nat.ble (d+1) n=true) {lst:Lst}
  (kk:HQ V ⟨lst.setIfInBounds ti true,tt⟩ P base n ((d,.bool b)::L) f A (.ops l rest q)):HQ V ⟨lst,(ti,false)::tt⟩ P base n L f A (.ops l (⟨some d,.binOp op xt x y yt,ty,pos,af,gd⟩::rest) q):=
 HQ.opV hw hd (fun a w hf _=>by
  subst ho;subst hb
  have hmk:∀zs:List Value,mkV P xt zs= .agg zs.toArray:=fun zs=>by
   unfold mkV
   split at hm<;>simp_all
  have h3:=zbl 10000 xt w D D xs ys h1 h2 hD
  rw[hmk,hmk]at h3
  refine run_bin _ ?_ ?_
  ·rw[hf.eval hx,hf.eval hy]
   simp[eqGuard,hg]
  ·rw[hf.eval hx,hf.eval hy]
   show Sem.run P (do pure (Value.bool (!(←Op.equal xt (.agg xs.toArray) (.agg ys.toArray))))) w=_
   have h4:Sem.run P (Op.equal xt (.agg xs.toArray) (.agg ys.toArray)) w= .ok (eqC xs ys) w:=h3
   simp[h4]) kk
theorem H.index_arrT[hu:Und P t (.array m e)][hs:Siz P e sz](hw:want? l L gd=true)
  (hx:ev? L x=some (.pointer (some ⟨b,off,none⟩))) (hy:ev? L y=some (.int ik z)) (hq:0≤z∧z.toNat<m) (hd:Nat.ble (d+1) n=true)
  (k:H P base n ((d,.pointer (some ⟨b,off+z.toNat *sz,none⟩))::L) f A (.ops l rest q)):H P base n L f A (.ops l (⟨some d,.indexAddr t x y,ty,pos,af,gd⟩::rest) q):=
 H.Ao hw hx hy jA hq.2 hd k
theorem HQ.index_arrT[hu:Und P t (.array m e)][hs:Siz P e sz](hw:want? l L gd=true)
  (hx:ev? L x=some (.pointer (some ⟨b,off,none⟩))) (hy:ev? L y=some (.int ik z)) (hq:0≤z∧z.toNat<m) (hd:Nat.ble (d+1) n=true) {lst:Lst}
  (k:HQ V ⟨lst.setIfInBounds ti true,tt⟩ P base n ((d,.pointer (some ⟨b,off+z.toNat *sz,none⟩))::L) f A (.ops l rest q)):HQ V ⟨lst,(ti,false)::tt⟩ P base n L f A (.ops l (⟨some d,.indexAddr t x y,ty,pos,af,gd⟩::rest) q):=
 HQ.Ao hw hx hy jA hq.2 hd k
theorem H.Ax{t:Nat}{ls:List Value}[hu:Und P ty dd][hs:Siz P ty m](hr:fn.results= #[.cell t ty])(hv:look? L t=some (.pointer (some ⟨b,off,none⟩)))(ha:aggD dd=true)
  (hrd:Rd f A b off ls) (hm:ls.length=m) (hA:∀w,Sat base w f A→Sat base w f A') (h:R (.agg ls.toArray) f A') (hmk:mk? L=none:=by exact rfl):H P base n L f A (.out .ret (.fn (FnPost P fn base R))):=.mk fun a w hf s=>by
 show bodyPost P fn (fun e w'=>∃v f' A',e= .returned v∧R v f' A'∧Sat base w' f' A') .ret a w
 refine bodyPost_ret (v:=.agg ls.toArray) ?_ (hf.bare hmk) ⟨_,f,A',rfl,h,hA w s⟩
 have h1:=hf.get t _ hv
 have h2:a.tmps.getD t undef= .pointer (some ⟨b,off,none⟩):=by simp[Array.getD_eq_getD_getElem?,h1]
 have h3:=run_loadAtN (P:=P) hu ha hs (hrd base w s) hm
 unfold Instr.loadAt Instr.sureAddr at h3
 exact results_cell hr h2 (by simpa using h3)
theorem H.callVE{v:α→Value}{Ai:α→List HP}(hx:ev? L x=some (.func (.func fid) fs.toArray cs.toArray))[hfun:Fun P fid](hw:want? l L gd=true)(hd:Nat.ble (d+1) n=true)
  (hxs:evs? L xs=some vs) (hc:Fn P fid (fs++vs++cs) f A (RetE v f' Ai)) (k:∀i,H P base n ((d,v i)::L) f' (Ai i) (.ops l rest q)) :
  H P base n L f A (.ops l (⟨some d,.call ⟨.value x,xs.toArray,ats⟩,ty,pos,af,gd⟩::rest) q):=
 H.callV hx hw hd hxs hc fun _ _ _ h=>by obtain⟨i,rfl,rfl,rfl⟩:=h;exact k i
theorem H.callVE2{v:α→β→Value}{Ai:α→β→List HP}(hx:ev? L x=some (.func (.func fid) fs.toArray cs.toArray))[hfun:Fun P fid](hw:want? l L gd=true)(hd:Nat.ble (d+1) n=true)
  (hxs:evs? L xs=some vs) (hc:Fn P fid (fs++vs++cs) f A (fun u g B=>∃i j,u=v i j∧g=f'∧B=Ai i j)) (k:∀i j,H P base n ((d,v i j)::L) f' (Ai i j) (.ops l rest q)) :
  H P base n L f A (.ops l (⟨some d,.call ⟨.value x,xs.toArray,ats⟩,ty,pos,af,gd⟩::rest) q):=
 H.callV hx hw hd hxs hc fun _ _ _ h=>by obtain⟨i,j,rfl,rfl,rfl⟩:=h;exact k i j
end rules
def qz:List Nat→List (Nat×Bool)
 | []=>[]
 |i::r=>(i,false)::qz r
theorem HB.qu{cut:Array Bool}(is:List Nat)(left:Nat)(k:HQ V ⟨⟨listed,cut,left,true⟩,qz is⟩ P base n L f S (.ops l (pickOps l (qz is)) q))(hn:(ordOK l.toArray ⟨listed,cut,left,true⟩ (qz is)&& (qz is).all (fun t=>(getO l t.1).isSome)&& Nat.beq fuel ((qz is).length+left))=true:=by kernel_rfl):HB S V cut listed fuel P base n L f (.ops l [] q):=HB.quiet (qz is) left hn k
theorem HB.ev{cut:Array Bool}(i:Nat)(k:H P base n L f (S++V) (.ops l [o] (.fn (bPost P base f S cut (listed.setIfInBounds i true) fuel l q))))(hr:oneB l cut listed [i]=true:=by kernel_rfl)(ho:getO l i=some o:=by exact rfl):HB S V cut listed (fuel+1) P base n L f (.ops l [] q):=HB.ev1 hr ho k
theorem HB.dn{cut:Array Bool}(k:H P base n L f (S++V) (.out .normal q))(h0:(Nat.beq fuel 0&& Region.ready .any l.toArray listed == [])=true:=by kernel_rfl):HB S V cut listed fuel P base n L f (.ops l [] q):=HB.done h0 k
theorem H.db(hB:B=S++V)(k:HB S V #[] (Array.replicate l.length false) l.length P base n L f (.ops l [] q))(hm:P.follows .mixedOrders=true:=by kernel_rfl)(hn:Region.noSelect l.toArray=true:=by decide+kernel)(hb:q.blind P:=by with_reducible (repeat(first|exact zad|refine zab ?_|refine zag ?_|refine zaj ?_))):H P base n L f B (.code (.region id l.toArray true) q):=H.drawB hm hn hb hB k
theorem H.dc(upto:List Nat)(hB:B=S++V)(k:HB S V (upto.foldl (fun a i=>a.setIfInBounds i true) (Array.replicate l.length false)) (Array.replicate l.length false) l.length P base n L f (.ops l [] q))(hm:P.follows .mixedOrders=true:=by kernel_rfl)(hn:Region.noSelect l.toArray=true:=by decide+kernel)(hb:q.blind P:=by with_reducible (repeat(first|exact zad|refine zab ?_|refine zag ?_|refine zaj ?_))):H P base n L f B (.code (.region id l.toArray true) q):=H.drawC upto hm hn hb hB k
theorem HB.nx{cut:Array Bool}(upto:List Nat)(hB:S++V=S'++V')(k:HB S' V' (match upto with| []=>#[]|_=>upto.foldl (fun a i=>a.setIfInBounds i true) listed) listed fuel P base n L f (.ops l [] q))(hc:(listed == cut&& Nat.blt 0 fuel)=true:=by kernel_rfl):HB S V cut listed fuel P base n L f (.ops l [] q):=HB.next upto hc hB k
end Go.Proofs.YtkaknokcbhiigaaGreatDoor

namespace Go.Proofs.YtkaknokcbhiigaaGreatDoor
open Go Go.ChangeShapes Go.WideShapes Go.RowKit Go.Deep
def memOf(W:World):Frag:=fun k=>W.heap[k]?
theorem sat_start(W:World):Sat W W (memOf W) []:=
 ⟨rfl,rfl,rfl,Nat.le_refl _,fun _ _ h=>h,nil0,rfl,Dj.nil _,fun k o h=>by cases h⟩
variable {W:World}
theorem Sat.below{w:World}{A:List HP}(s:Sat W w (memOf W) A):Below W.heap.size W w:=
 ⟨s.os, s.tape, s.output, s.size, fun k hk => by
  have e:W.heap[k]? =some W.heap[k]:=Array.getElem?_eq_getElem hk
  rw[e];exact s.imm k _ e⟩
variable {v:Value}
section
variable {H':Type} {enc:TypeId × Value→H'} {P:Program}
theorem trodAll_below{W W':World}(hl:laidOutB P=true)(hb:Below W.heap.size W W'){sp:Nat→Bool}:∀ {ts:List TypeId} {vs:List Value} {ds:List (DataW H')} {ps:List MemPlace},
  (∀t∈ts,P.readableRec t=true∧t<P.types.size)→DataW.TrodAll enc P W 0 (fun _=>true) true ts vs ds ps→(∀x∈ps,x.block<W.heap.size)→(∀x∈ps,sp x.block=true)→
  DataW.TrodAll enc P W' 0 sp true ts vs ds ps
 | [],[],[],_,_,h,_,_=>h
 | t :: ts, v :: vs, d :: ds, ps, hr, h, hlt, hsp => by
  obtain⟨p,q,h1,h2,rfl⟩:=h
  exact⟨p,q,WideElems.Trod_stays hl (hr t jL).1 (hr t jL).2 h1 (fun x hx=>hb.same (hlt x kp)) (fun x hx=>hsp x kp),
   trodAll_below hl hb (fun u hu=>hr u (by simp[hu])) h2 (fun x hx=>hlt x kp) (fun x hx=>hsp x kp),rfl⟩
theorem trodAll_len{W:World}{b:Nat}{sp:Nat→Bool}{hd:Bool}:∀ {ts:List TypeId} {vs:List Value} {ds:List (DataW H')} {ps:List MemPlace},DataW.TrodAll enc P W b sp hd ts vs ds ps→ds.length=ts.length
 | [],[],[],_,_=>rfl
 | _ :: _, _ :: _, _ :: _, _, h => by
  obtain⟨p,q,h1,h2,rfl⟩:=h
  simp[trodAll_len h2]
theorem post_own{fn:Func}{s:ChangeSpec}{apart fresh handsOn again:Bool}{W':World}{args:Array Value}{ds:List (DataW H')}{p:List MemPlace}
  (hW:DataW.Whole enc P fn.params.toList s.vars apart W args.toList ds [] p) (hv:s.vars= [])
  (hA:DataW.TrodAll enc P W 0 (fun _=>true) true fn.params.toList args.toList ds p)
  (hl:laidOutB P=true) (hts:∀t∈fn.params.toList,P.readableRec t=true∧t<P.types.size)
  (hres:∀(b:Nat) (sp:Nat→Bool) (hd:Bool),DataW.TrodAll enc P W' b sp hd fn.resultTypes.toList (v.resultList fn.resultTypes.size) (s.fn H' (ds++ [])).results [])
  (hargs:(s.fn H' (ds++ [])).args=ds) (hvars:(s.fn H' (ds++ [])).vars= [])
  (hb:Below W.heap.size W W')
  (hok:∀(j:Nat) (t:TypeId) (r:Value),fn.resultTypes[j]? =some t→(v.resultList fn.resultTypes.size)[j]? =some r→Value.okWide P W' .any 0 t r) :
  s.post enc P fn apart fresh handsOn again W args v W':=by
 have hlt:=hW.lt;have hold:∀x∈p,(fun b=>decide (b<W.heap.size)) x.block=true:=fun x hx=>by simpa using hlt x hx
 have args':∀sp:Nat→Bool,(∀x∈p,sp x.block=true)→DataW.TrodAll enc P W' 0 sp true fn.params.toList args.toList (s.fn H' (ds++ [])).args p:=fun sp hsp=>by
  rw[hargs];exact trodAll_below hl hb hts hA hlt hsp
 have vars':∀sp:Nat→Bool,DataW.TrodVars enc P W' sp s.vars (s.fn H' (ds++ [])).vars []:=fun sp=>by rw[hvars,hv];exact rfl
 refine⟨ds,[],p,[],p,[],hW,hres _ _ _,args' _ hold,vars' _,World.keptBut_mono (fun x hx=>⟨hx,?_⟩) (hb.frame (· ∈p)),fun _=>?_⟩
 ·exact .inr jr
 ·obtain⟨_,_,_,_,_,hz,hn⟩:=hW;refine⟨hok,_,_,([]++p)++ [],⟨[]++p,[],trodAll_append (args' _ (fun _ _=>rfl)) (hres _ _ _),vars' _,rfl,?_,?_⟩,?_⟩
  ·intro b off hp;have hp':MemPlace.cell b off∈p:=by simpa using hp
   rw[hb.frozen (p:=⟨b,off,none⟩) (hlt _ hp')];exact hz b off hp'
  ·intro ha
   have:=hn ha;simpa using this
  ·intro x hx _;simpa using hx
end
/-! ### Arguments: what their cells are -/
def Reads(P:Program)(W:World)(t:TypeId)(cs:List Value):Prop:=
 ∃(H':Type) (enc:TypeId×Value→H') (base:Nat) (spare:Nat→Bool) (held:Bool) (fuel:Nat) (x:DataW H'×List MemPlace),DataW.trod enc P W base spare held fuel t cs=some x
def ArgOk(P:Program)(W:World)(t:TypeId)(v:Value):Prop:=(∃b,Value.okWide P W .any b t v)∧Reads P W t v.cells.toList
def ArgsOk(P:Program)(W:World):List TypeId→List Value→Prop
 | [],[]=>True
 |t::ts,v::vs=>ArgOk P W t v∧ArgsOk P W ts vs
 |_,_=>False
theorem argsOk_of{H':Type}{enc:TypeId×Value→H'}{P:Program}{W:World}{b:Nat}{sp:Nat→Bool}{hd:Bool}:∀ {ts:List TypeId} {vs:List Value} {ds:List (DataW H')} {ps:List MemPlace},
  DataW.TrodAll enc P W b sp hd ts vs ds ps→(∀(j:Nat) t v,ts[j]? =some t→vs[j]? =some v→∃b,Value.okWide P W .any b t v)→ArgsOk P W ts vs
 | [],[],[],_,_,_=>trivial
 | t :: ts, v :: vs, d :: ds, _, h, hv => by
  obtain⟨p,q,⟨n,h1⟩,h2,rfl⟩:=h
  exact⟨⟨hv 0 t v rfl rfl,H',enc,b,sp,hd,n,_,h1⟩,argsOk_of h2 fun j t v=>hv (j+1) t v⟩
theorem wf_int{k:IntKind}{z:Int}(h:(Lit.int k z).wf=true):k.min≤z∧z≤k.max:=by
 simpa [Lit.wf]using h
variable {P:Program} {t:TypeId} {cs:List Value}
theorem Reads.int{k:IntKind}(ht:P.underlying t=some (.int k))(h:Reads P W t cs):∃z,cs= [.int k z]∧k.min≤z∧z≤k.max:=by
 obtain⟨H',enc,b,sp,hd,n,x,h⟩:=h;obtain⟨z,h1,_,h2⟩:=DataW.trod_int ht h;exact⟨z,h1,wf_int h2⟩
theorem ArgOk.int{P:Program}{W:World}{t:TypeId}{v:Value}{k:IntKind}(ht:P.underlying t=some (.int k))(h:ArgOk P W t v):∃z,v= .int k z∧k.min≤z∧z≤k.max:=by
 obtain⟨⟨b,h1⟩,h2⟩:=h;obtain⟨z,rfl⟩:=okWide_int ht h1;obtain⟨z',e,h3⟩:=h2.int ht;simp[Value.cells]at e;subst e;exact⟨z,rfl,h3⟩
theorem Reads.struct{fs:Array Field}(ht:P.underlying t=some (.struct fs))(h:Reads P W t cs):
  cs.length=P.cellsOf t∧∀(i:Nat) (f:Field),fs[i]? =some f→Reads P W f.type ((cs.drop f.offset).take (P.cellsOf f.type)):=by
 obtain⟨H',enc,b,sp,hd,n,x,h⟩:=h;obtain⟨xs,n,rfl,_,h1,h2,h3⟩:=DataW.trod_struct ht h;refine⟨h1,fun i f hf=>?_⟩;have hi:i<xs.length:=by rw[h2];exact(Array.getElem?_eq_some_iff.1 hf).1
 exact⟨H',enc,b,sp,hd,n,xs[i],(h3 i f hf).trans (List.getElem?_eq_getElem hi)⟩
def ElemsAt(f:Frag)(p:Option Addr)(sz n:Nat)(g:Nat→List Value):Prop:=
 ∀i,i<n→(g i).length=sz∧∃b off cs T fr,p=some ⟨b,off,none⟩∧f b=some (.cells cs T fr)∧∀j,j<sz→cs[off+i*sz+j]? =(g i)[j]?
theorem add_add'(a:Addr)(i j:Nat):(a.add i).add j=a.add (i+j):=by
 unfold Addr.add;by_cases h:i=0
 ·subst h;simp
 ·by_cases h2:j=0
  ·subst h2;simp
  ·have:¬i+j=0:=jA
   simp[h,h2,this,Nat.add_assoc]
theorem cell_spot{a:Addr}(h:W.cell? a=some v):∃cs T fr,a=⟨a.block,a.off,none⟩∧W.heap[a.block]? =some (.cells cs T fr)∧cs[a.off]? =some v:=by
 unfold World.cell? at h;split at h
 ·rename_i c T fr e
  split at h
  ·cases h
  ·rename_i hs
   refine⟨c,T,fr,?_,e,h⟩;obtain⟨b,o,s⟩:=a
   cases s with
   |none=>rfl
   |some x=>simp at hs
 ·cases h
variable {e:TypeId}
theorem Reads.slice(ht:P.underlying t=some (.slice e))(h0:0<P.cellsOf e)(h:Reads P W t cs):
  ∃(p:Option Addr) (n c:Nat) (g:Nat→List Value),cs= [.slice p n c]∧n≤c∧c≤maxLen∧ElemsAt (memOf W) p (P.cellsOf e) n g∧∀i,i<n→Reads P W e (g i):=by
 obtain⟨H',enc,b,sp,hd,n,x,h⟩:=h;rcases open_slice ht h with⟨rfl,_⟩|⟨a,len,cap,m,k,D,Pl,rfl,hb,hl,hm,hmm,_,hi⟩
 ·exact⟨none,0,0,fun _=>[],rfl,Nat.le_refl _,by simp[maxLen],fun i hi=>by omega,fun i hi=>by omega⟩
 ·have hlm:len≤m:=by subst hmm;split<;>omega
  have hi':∀i,∃cs',i<len→(W.cells? b (a.add (i*P.cellsOf e)) (P.cellsOf e)=some cs'∧Reads P W e cs'):=fun i=>by
   by_cases hil:i<len
   ·obtain⟨cs',h1,h2⟩:=hi i jA;exact⟨cs',fun _=>⟨h1,H',enc,b,sp,hd,k,_,h2⟩⟩
   ·exact⟨[],fun h=>absurd h hil⟩
  obtain ⟨g, hG⟩ : ∃ g : Nat → List Value, ∀ i, i < len → W.cells? b (a.add (i * P.cellsOf e)) (P.cellsOf e) = some (g i) ∧ Reads P W e (g i) := ⟨fun i => (hi' i).choose, fun i h => (hi' i).choose_spec h⟩;refine ⟨some a, len, cap, g, rfl, hl, hm, fun i hil => ?_, fun i hil => (hG i hil).2⟩;obtain ⟨_, hlen, hget⟩ := World.cells?_some (hG i hil).1;refine ⟨hlen, ?_⟩;-- the base address bears no spot
  have hspot:∃cs T fr,a=⟨a.block,a.off,none⟩∧W.heap[a.block]? =some (.cells cs T fr):=by
   obtain⟨_,hl0,hg0⟩:=World.cells?_some (hG 0 jA).1;have h00:=hg0 0 h0;have:(g 0)[0]? =some ((g 0)[0]' jA):=List.getElem?_eq_getElem jA
   rw[this]at h00;have e1:(a.add (0*P.cellsOf e)).add 0=a:=by simp[Addr.add]
   rw[e1]at h00;obtain⟨cs,T,fr,h1,h2,_⟩:=cell_spot h00;exact⟨cs,T,fr,h1,h2⟩
  obtain⟨cs,T,fr,hs,hh⟩:=hspot;refine⟨a.block,a.off,cs,T,fr,by rw[←hs],hh,fun j hj=>?_⟩;have hg:=hget j hj;have hv:(g i)[j]? =some ((g i)[j]' jA):=List.getElem?_eq_getElem jA
  rw[hv]at hg
  have ha:(a.add (i*P.cellsOf e)).add j=⟨a.block,a.off+(i*P.cellsOf e+j),none⟩:=by
   rw[add_add',hs,zaz]
  rw[ha]at hg;simp only[World.cell?,hh,Option.isSome_none,Bool.false_eq_true,if_false]at hg;rw[hv,←hg,Nat.add_assoc]
theorem elems_list{α:Type}{vals:α→List Value}{Q:α→Prop}{g:Nat→List Value}:∀ {n:Nat},(∀i,i<n→∃x,Q x∧g i=vals x)→∃xs:List α,xs.length=n∧(∀x∈xs,Q x)∧∀i x,xs[i]? =some x→g i=vals x
 |0,_=>⟨[],rfl,by simp,by simp⟩
 | n + 1, h => by
  obtain⟨xs,h1,h2,h3⟩:=elems_list (n:=n) fun i hi=>h i jA
  obtain⟨x,hq,hx⟩:=h n jA
  refine⟨xs++ [x],by simp[h1],?_,?_⟩
  ·intro y hy
   simp only[List.mem_append,List.mem_singleton]at hy
   rcases hy with hy|rfl
   ·exact h2 y hy
   ·exact hq
  ·intro i y hy
   rw[List.getElem?_append]at hy
   split at hy
   ·exact h3 i y hy
   ·rename_i hi
    have:i-xs.length=0:=by
     rcases Nat.eq_zero_or_pos (i-xs.length)with h|h
     ·exact h
     ·rw[List.getElem?_eq_none je]at hy;cases hy
    rw[this]at hy
    have e:i=n:=jA
    simp at hy
    subst hy;subst e
    exact hx
def ListAt{α:Type}(f:Frag)(p:Option Addr)(sz:Nat)(vals:α→List Value)(xs:List α):Prop:=
 ∀i x,xs[i]? =some x→∃b off cs T fr,p=some ⟨b,off,none⟩∧f b=some (.cells cs T fr)∧∀j,j<(vals x).length→cs[off+i*sz+j]? =(vals x)[j]?
theorem Reads.list{α:Type}{vals:α→List Value}{Q:α→Prop}{sz:Nat}(ht:P.underlying t=some (.slice e))(hsz:P.cellsOf e=sz)(h0:0<sz)
  (hr:∀cs,Reads P W e cs→∃x,Q x∧cs=vals x) (h:Reads P W t cs) :
  ∃(p:Option Addr) (c:Nat) (xs:List α),cs= [.slice p xs.length c]∧xs.length≤c∧c≤maxLen∧(∀x∈xs,Q x)∧ListAt (memOf W) p sz vals xs:=by
 subst hsz;obtain⟨p,n,c,g,e1,h1,h2,h3,h4⟩:=h.slice ht h0;obtain⟨xs,rfl,hq,hg⟩:=elems_list fun i hi=>hr _ (h4 i hi);refine⟨p,c,xs,e1,h1,h2,hq,fun i x hx=>?_⟩
 have hi:i<xs.length:=by
  rcases Nat.lt_or_ge i xs.length with h|h
  ·exact h
  ·rw[List.getElem?_eq_none h]at hx;cases hx
 obtain⟨hl,b,off,cs,T,fr,a1,a2,a3⟩:=h3 i hi;refine⟨b,off,cs,T,fr,a1,a2,fun j hj=>?_⟩;rw[←hg i x hx]at hj⊢;exact a3 j jA
theorem ArgOk.list{P:Program}{W:World}{t e:TypeId}{v:Value}{α:Type}{vals:α→List Value}{Q:α→Prop}{sz:Nat}(ht:P.underlying t=some (.slice e))(hsz:P.cellsOf e=sz)(h0:0<sz)
  (hr:∀cs,Reads P W e cs→∃x,Q x∧cs=vals x) (h:ArgOk P W t v) :
  ∃(p:Option Addr) (c:Nat) (xs:List α),v= .slice p xs.length c∧xs.length≤c∧c≤maxLen∧(∀x∈xs,Q x)∧ListAt (memOf W) p sz vals xs:=by
 obtain⟨⟨b,h1⟩,h2⟩:=h;obtain⟨p,c,xs,e1,r⟩:=h2.list ht hsz h0 hr;refine⟨p,c,xs,?_,r⟩;obtain⟨p',n',c',rfl⟩:=okWide_slice ht h1;simpa [Value.cells]using e1
end Go.Proofs.YtkaknokcbhiigaaGreatDoor

namespace Go.Proofs.YtkaknokcbhiigaaGreatDoor
open Go
/-! ### Lists of structs -/
variable {l l':List Value} {v:Value} {f g:Frag} {A A':List HP} {b n c:Nat} {T:TypeId} {p:Option Addr} {P:Program}
section
variable {α:Type} {vals:α→List Value} {sz:Nat}
theorem zbn(hv:∀x,(vals x).length=sz):∀xs:List α,(xs.flatMap vals).length=xs.length*sz
 | []=>by simp
 |x::xs=>by rw[List.flatMap_cons,List.length_append,hv,zbn hv xs,List.length_cons,Nat.add_mul];omega
theorem flat_split(xs:List α){i:Nat}{x:α}(h:xs[i]? =some x):xs.flatMap vals=(xs.take i).flatMap vals++vals x++(xs.drop (i+1)).flatMap vals:=by
 have hi:i<xs.length:=by
  exact qcW
 have e:xs=xs.take i++x::xs.drop (i+1):=by
  have h2:xs[i]=x:=by rw[List.getElem?_eq_getElem hi]at h;exact Option.some.inj h
  rw[←h2,List.getElem_cons_drop,List.take_append_drop]
 conv=>lhs;rw[e]
 simp
theorem flat_get(hv:∀x,(vals x).length=sz){xs:List α}{i:Nat}{x:α}(h:xs[i]? =some x){j:Nat}(hj:j<sz):(xs.flatMap vals)[i*sz+j]? =(vals x)[j]?:=by
 have hi:i<xs.length:=by
  exact qcW
 have hl:((xs.take i).flatMap vals).length=i*sz:=by rw[zbn hv,List.length_take,Nat.min_eq_left jA]
 rw[flat_split xs h,List.append_assoc,List.getElem?_append_right jA,hl,show i*sz+j-i*sz=j by omega,List.getElem?_append_left (by rw[hv];exact hj)]
theorem SetV.app'{i:Nat}(h:SetV l i v l')(post:List Value):SetV (l++post) i v (l'++post):=by
 induction h with
 |here x v t=>exact .here _ _ _
 |there x h ih=>exact .there _ ih
theorem SetV.mid'{i:Nat}(h:SetV l i v l')(pre post:List Value):SetV (pre++l++post) (pre.length+i) v (pre++l'++post):=by
 rw[List.append_assoc,List.append_assoc]
 induction pre with
 |nil=>rw[List.length_nil,Nat.zero_add];exact h.app' post
 | cons p pre ih =>
  exact qdg
theorem flat_take(hv:∀x,(vals x).length=sz)(xs:List α)(k:Nat):(xs.flatMap vals).take (k*sz)=(xs.take k).flatMap vals:=by
 rcases Nat.lt_or_ge k xs.length with h|h
 ·have hl:((xs.take k).flatMap vals).length=k*sz:=by rw[zbn hv,List.length_take,Nat.min_eq_left jA]
  conv=>lhs;rw[←List.take_append_drop k xs,List.flatMap_append]
  rw[←hl,List.take_left]
 ·rw[List.take_of_length_le (by rw[zbn hv];exact Nat.mul_le_mul_right _ h),List.take_of_length_le h]
theorem Rd.slcElem{xs:List α}(hv:∀x,(vals x).length=sz)(h0:0<sz)(h:At A (slc (some ⟨b,0,none⟩) n c T sz (xs.flatMap vals)) A' (slc (some ⟨b,0,none⟩) n c T sz (xs.flatMap vals)))
  {i:Nat} {x:α} (hx:xs[i]? =some x):Rd f A b (i*sz) (vals x):=by
 have hi:i<xs.length:=by
  exact qcU
 have hl:((xs.take i).flatMap vals).length=i*sz:=by rw[zbn hv,List.length_take,Nat.min_eq_left jA]
 intro base w s;obtain⟨h1,h2,h3⟩:=s.slc_at h;rw[zbn hv]at h1;rcases h3 with⟨rfl,rfl⟩|⟨b',sp,e,_,_,hw⟩
 ·rw[Nat.zero_mul]at h1;rcases Nat.mul_eq_zero.1 h1 with h|h<;>omega
 ·cases e
  refine⟨_,_,_,hw,fun j hj=>?_⟩;rw[hv]at hj
  have:=flat_get hv hx hj;simp only[List.getElem?_toArray]
  rw[List.getElem?_append_left ?_,this];rcases Nat.lt_or_ge (i*sz+j) (xs.flatMap vals).length with h|h
  ·exact h
  ·rw[List.getElem?_eq_none h]at this;rw[List.getElem?_eq_getElem (by rw[hv];exact hj)]at this;cases this
theorem Le.right(h:Dj f g):Le g (Proofs.YtkaknokcbhiigaaGreatDoor.un f g):=fun k o hk=>by
 rcases h k with e|e
 ·simp[Proofs.YtkaknokcbhiigaaGreatDoor.un,e,hk]
 ·rw[e]at hk;cases hk
theorem ListAt.mono(h:Le f g){xs:List α}(hl:ListAt f p sz vals xs):ListAt g p sz vals xs:=fun i x hx=>by
 obtain⟨b,off,cs,T,fr,h1,h2,h3⟩:=hl i x hx
 exact⟨b,off,cs,T,fr,h1,h _ _ h2,h3⟩
theorem ListAt.nil(f:Frag)(p:Option Addr):ListAt f p sz vals ([]:List α):=fun i x h=>by simp at h
theorem zbi(hv:∀x,(vals x).length=sz){xs:List α}(h:slc p xs.length c T sz (xs.flatMap vals) g):ListAt g p sz vals xs:=fun i x hx=>by
 obtain⟨_,_,h3⟩:=h
 have hi:i<xs.length:=by
  exact qcU
 rcases h3 with⟨h0,_,_⟩|⟨b,sp,rfl,h4,h5,rfl⟩
 ·omega
 ·refine⟨b,0,(xs.flatMap vals++sp).toArray,T,(0,0),rfl,by simp[sing],fun j hj=>?_⟩
  have hj':j<sz:=by rw[←hv x];exact hj
  have:=flat_get hv hx hj'
  rw[Nat.zero_add]
  simp only[List.getElem?_toArray]
  rw[List.getElem?_append_left ?_,this]
  rcases Nat.lt_or_ge (i*sz+j) (xs.flatMap vals).length with h|h
  ·exact h
  ·rw[List.getElem?_eq_none h]at this
   rw[List.getElem?_eq_getElem hj]at this
   cases this
theorem ListAt.src(hv:∀x,(vals x).length=sz)(h0:0<sz){xs:List α}(h:ListAt f p sz vals xs):Src P f A (.slice p xs.length c) sz xs.length (xs.flatMap vals):=by
 cases xs with
 | nil =>
  refine⟨fun w=>rfl,fun base w s=>?_,by simp⟩
  cases p with
  |none=>exact run_firstCells_none w sz 0 0 c
  |some a=>exact run_firstCells_some w sz 0 a 0 c [] jL jL
 | cons x0 r =>
  obtain⟨b,off,cs,T,fr,rfl,hf,_⟩:=h 0 x0 rfl;refine Src.slice (Rd.imm hf fun i hi=>?_) (zbn hv _);rw[zbn hv]at hi;have hq:i / sz<(x0::r).length:=(Nat.div_lt_iff_lt_mul h0).2 hi;obtain⟨b2,off2,cs2,T2,fr2,e2,hf2,h3⟩:=h (i / sz) _ (List.getElem?_eq_getElem hq)
  cases e2
  rw[hf]at hf2;cases hf2
  have hm:i % sz<sz:=Nat.mod_lt _ h0;have h4:=h3 (i % sz) (by rw[hv];exact hm)
  have h5:=flat_get hv (List.getElem?_eq_getElem hq) hm;have h6:i / sz*sz+i % sz=i:=by rw[Nat.mul_comm];exact Nat.div_add_mod i sz
  rw[h6]at h5;rw[Nat.add_assoc,h6]at h4;rw[h4,h5]
end
/-! ### Parts of an owned slice -/
/-! ### Results: a struct in a cell of its own, and a value -/
variable {fn:Func} {ty:TypeId} {off:Nat}
theorem results_cell_tmp{t u:Tmp}{tmps:Array Value}{w:World}{x:Value}(h:fn.results= #[.cell t ty,.tmp u])(hp:tmps.getD t undef= .pointer (some ⟨b,off,none⟩))(hx:tmps.getD u undef=x)
  (hl:(loadVar ty ⟨b,off,none⟩).run P w= .ok v w):(results fn tmps).run P w= .ok (.tuple #[v,x]) w:=by
 have hp':tmps[t]?.getD undef= .pointer (some ⟨b,off,none⟩):=by simpa using hp
 have hx':tmps[u]?.getD undef=x:=by simpa using hx
 simp only[results,h];simp[Sem.run_bind,asAddr,hp',hx',hl]
variable {base:World} {L:Env} {R:Value→Frag→List HP→Prop}
theorem H.retCT{t u:Nat}{x:Value}{dd:TypeDesc}{m:Nat}{ls:List Value}[hu:Und P ty dd][hs:Siz P ty m](hr:fn.results= #[.cell t ty,.tmp u])(hv:look? L t=some (.pointer (some ⟨b,off,none⟩)))(hx:look? L u=some x)(ha:aggD dd=true)
  (hrd:Rd f A b off ls) (hm:ls.length=m) (hA:∀w,Sat base w f A→Sat base w f A') (h:R (.tuple #[.agg ls.toArray,x]) f A') (hmk:mk? L=none:=by exact rfl):H P base n L f A (.out .ret (.fn (FnPost P fn base R))):=.mk fun a w hf s=>by
 show bodyPost P fn (fun e w'=>∃v f' A',e= .returned v∧R v f' A'∧Sat base w' f' A') .ret a w
 refine bodyPost_ret (v:=.tuple #[.agg ls.toArray,x]) ?_ (hf.bare hmk) ⟨_,f,A',rfl,h,hA w s⟩
 have h1:=hf.get t _ hv
 have h1':=hf.get u _ hx
 have h2:a.tmps.getD t undef= .pointer (some ⟨b,off,none⟩):=by simp[Array.getD_eq_getD_getElem?,h1]
 have h2':a.tmps.getD u undef=x:=by simp[Array.getD_eq_getD_getElem?,h1']
 have h3:=run_loadAtN (P:=P) hu ha hs (hrd base w s) hm
 unfold Instr.loadAt Instr.sureAddr at h3
 exact results_cell_tmp hr h2 h2' (by simpa using h3)
/-! ### 'clear' of a part of a row -/
/-! ### What several things are owned together -/
def pack{ι:Type}(φ:ι→Prop)(B:ι→List HP):HP:=fun x=>∃i,φ i∧stars (B i) x
variable {ι:Type}
theorem pack_fold{φ:ι→Prop}{B:ι→List HP}(i:ι)(h:φ i):∀x,stars (B i++A) x→stars (pack φ B::A) x:=
 fold_stars fun x hx=>⟨i,h,hx⟩
theorem H.By{K:Kont}{φ:ι→Prop}{B:ι→List HP}(k:∀i,φ i→H P base n L f (B i++A) K):H P base n L f (pack φ B::A) K:=
 H.unfold (ι:={i // φ i}) (B:=fun i=>B i.1) (fun h ⟨i,hi,hx⟩=>⟨⟨i,hi⟩,hx⟩) fun i=>k i.1 i.2
theorem Fn.unpack{fid:FuncId}{args:List Value}{φ:ι→Prop}{B:ι→List HP}(k:∀i,φ i→Fn P fid args f (B i++A) R):Fn P fid args f (pack φ B::A) R:=
 Fn.unfold (ι:={i // φ i}) (B:=fun i=>B i.1) (fun h ⟨i,hi,hx⟩=>⟨⟨i,hi⟩,hx⟩) fun i=>k i.1 i.2
variable {α:Type} {sz:Nat}
theorem flat_splice{vals:α→List Value}(hv:∀x,(vals x).length=sz){xs:List α}{i:Nat}(z:α)(hi:i<xs.length)(sp:List Value):
  splice (xs.flatMap vals++sp) (i*sz) (vals z)=(xs.set i z).flatMap vals++sp:=by
 have hx:xs[i]? =some xs[i]:=List.getElem?_eq_getElem hi;have hl:((xs.take i).flatMap vals).length=i*sz:=by rw[zbn hv,List.length_take,Nat.min_eq_left jA]
 have h2:(xs.set i z)[i]? =some z:=by rw[List.getElem?_set_self hi]
 have e1:(xs.set i z).take i=xs.take i:=by rw[List.take_set_of_le (Nat.le_refl _)]
 have e2:(xs.set i z).drop (i+1)=xs.drop (i+1):=by rw[List.drop_set_of_lt jA]
 rw[flat_split xs hx,flat_split (xs.set i z) h2,e1,e2];generalize(xs.take i).flatMap vals=pre at hl;unfold splice;have e3:pre++vals xs[i]++(xs.drop (i+1)).flatMap vals++sp=pre++(vals xs[i]++((xs.drop (i+1)).flatMap vals++sp)):=by simp
 rw[e3,←hl,List.take_left,hv z,←hv xs[i],←List.drop_drop,List.drop_left,List.drop_left];simp
variable {x y:Operand} {t:TypeId}
section
variable {P:Program} {base:World} {n:Nat} {L:Env} {f:Frag} {A:List HP} {q:Post} {l rest:List Oper} {ty:TypeId} {pos:String} {af:Array Edge} {gd:Option (Nat × Bool)}
theorem H.storeE{vals:α→List Value}{n0:Nat}{xs:List α}{i:Nat}{z:α}[hs:Siz P t sz](hv:∀x,(vals x).length=sz)(h0:0<sz)(hone:∀v∈vals z,one v=true)(hw:want? l L gd=true)
  (hx:ev? L x=some (.pointer (some ⟨b,i*sz,none⟩))) (hy:ev? L y=some (.agg (vals z).toArray)) (hi:i<xs.length)
  (hA:At A (slc (some ⟨b,0,none⟩) n0 c T sz (xs.flatMap vals)) A' (slc (some ⟨b,0,none⟩) n0 c T sz ((xs.set i z).flatMap vals)))
  (k:H P base n L f A' (.ops l rest q)):H P base n L f A (.ops l (⟨none,.store t x y,ty,pos,af,gd⟩::rest) q):=
 H.opS hw (fun a w hfr s=>by
  obtain⟨hl,hc,h3⟩:=s.slc_at hA
  have hn:xs.length=n0:=by
   rw[zbn hv]at hl
   exact Nat.eq_of_mul_eq_mul_right h0 hl
  rcases h3 with⟨e,_⟩|⟨b',sp,e,hnc,hcs,hb⟩
  ·omega
  ·cases e
   have hle:i*sz+(vals z).length≤(xs.flatMap vals++sp).length:=by
    rw[List.length_append,zbn hv,hv]
    have:(i+1)*sz≤xs.length*sz:=Nat.mul_le_mul_right _ hi
    rw[Nat.add_mul]at this
    omega
   have h1:=run_storeCells (P:=P) (off:=i*sz) (vals z) (xs.flatMap vals++sp) 0 w hb hone hle
   have hne:vals z≠ []:=by intro h;have:=hv z;rw[h]at this;simp at this;omega
   rw[if_neg hne,Nat.add_zero,flat_splice hv z hi]at h1
   refine⟨World.putRow' w b T ((xs.set i z).flatMap vals++sp),?_,s.turnRow hA (b:=b) (o':=.cells ((xs.set i z).flatMap vals++sp).toArray T (0,0)) ?_ rfl rfl rfl ?_ ?_⟩
   ·simp only[execOp,hfr.eval hx,hfr.eval hy,Instr.storeAt,Instr.sureAddr,storeVar,Value.cells,Sem.run_bind,Sem.run_pure,Result.andThen_ok,hs.run,List.size_toArray,hv]
    simp[h1]
   ·rintro m1 ⟨_,_,h⟩
    rcases h with⟨h,_⟩|⟨b',sp',h,_,hcs',rfl⟩
    ·omega
    ·cases h;exact⟨_,rfl⟩
   ·rfl
   ·have e4:((xs.set i z).flatMap vals).length=(xs.flatMap vals).length:=by rw[zbn hv,zbn hv,List.length_set]
    refine⟨by rw[e4];exact hl,hc,.inr ⟨b,sp,rfl,hnc,?_,rfl⟩⟩
    rw[List.length_append,e4,←List.length_append]
    exact hcs) k
end
variable {z:Int}
section
variable {P:Program} {base:World} {n:Nat} {L:Env} {f:Frag} {A:List HP} {q:Post} {l:List Oper} {d:Nat} {ty:TypeId} {pos:String} {af:Array Edge} {gd:Option (Nat × Bool)} {listed:Array Bool} {fuel:Nat}
theorem HN.pure{i:Nat}{op:Op}(hc:pureB l listed i=true)(ho:getO l i=some ⟨some d,op,ty,pos,af,gd⟩)(hw:want? l L gd=true)(hd:Nat.ble (d+1) n=true)
  (hx:∀a w,Fr n a L→(execOp a.eval ⟨some d,op,ty,pos,af,gd⟩).run P w= .ok (.value v) w)
  (k:HN (listed.setIfInBounds i true) fuel P base n ((d,v)::L) f A (.ops l [] q)):HN listed (fuel+1) P base n L f A (.ops l [] q):=.mk fun l' q' hK hs hb a w hf s=>by
 simp only[Kont.ops.injEq]at hK
 obtain⟨rfl,_,rfl⟩:=hK
 simp only[pureB,Bool.and_eq_true]at hc
 obtain⟨⟨⟨⟨⟨h1,h2⟩,h3⟩,h4⟩,h5⟩,h6⟩:=hc
 have h5':listed.size=l.toArray.size:=by simpa using Nat.eq_of_beq_eq_true h5
 have h6':l.toArray.size≠0:=by
  have:=Nat.le_of_ble_eq_true h6;simp only[List.size_toArray];omega
 have hk:=k.out l q rfl hs hb (a.put (some d) v) w (hf.put (Nat.le_of_ble_eq_true hd) v) s
 have hk2:=wpAnyC_true h6' _ _ _ _ (by simpa using h5') hk
 exact wpAnyC.any _ _ _ _ (wpAnyC_take (C:=fun _=>True) (cut:=#[]) (oi:=⟨some d,op,ty,pos,af,gd⟩) (v:=v) kG hs h2 h3 h4 h1 (fun c a w h=>hb c a _ _ w h) (.inl ⟨hf.want hw,fun w' _=>hx _ _ hf⟩) hk2)
theorem HN.ar{i:Nat}{op:BinOp}{xt yt:TypeId}{k:IntKind}{p p2 r:Int}(hc:pureB l listed i=true)(ho:getO l i=some ⟨some d,.binOp op xt x y yt,ty,pos,af,gd⟩)(hw:want? l L gd=true)(hx:ev? L x=some (.int k p))(hy:ev? L y=some (.int k p2))(ha:arP op k p p2=some r)(hz:r=z)(hd:Nat.ble (d+1) n=true)
  (kk:HN (listed.setIfInBounds i true) fuel P base n ((d,.int k z)::L) f A (.ops l [] q)):HN listed (fuel+1) P base n L f A (.ops l [] q):=
 HN.pure hc ho hw hd (fun a w hf=>by
  cases op<;>simp only[arP,Option.some.injEq,reduceCtorEq]at ha<;>subst ha<;>subst hz<;>
   simp[execOp,eqGuard,binOp,Op.intArith,hf.eval hx,hf.eval hy]) kk
theorem H.indexS{rest:List Oper}{i:Nat}{s:ByteArray}{ik:IntKind}{b:UInt8}[hu:Und P t .string](hw:want? l L gd=true)
  (hx:ev? L x=some (.string s)) (hy:ev? L y=some (.int ik z)) (hq:z=(i:Nat)) (hb:s[i]? =some b) (hd:Nat.ble (d+1) n=true)
  (k:H P base n ((d,.int .u8 (b.toNat:Nat))::L) f A (.ops l rest q)):H P base n L f A (.ops l (⟨some d,.index t x y,ty,pos,af,gd⟩::rest) q):=
 H.opV hw hd (fun a w hf _=>by
  subst hq
  have h1:=hu.run w
  have hi2:(0:Int)≤(i:Int):=jA
  simp only[execOp,hf.eval hx,hf.eval hy,Instr.index,asIntOf,Sem.run_bind,Sem.run_pure,Result.andThen_ok,h1,hi2,if_true,Int.toNat_natCast,hb]) k
end
structure PM where
 g:Int
 init:List (Int×Int)
 lv:Int
 ln:Int
variable {s:PM} {B long:Int}
namespace PM
def all(s:PM):List (Int×Int):=s.init++ [(s.lv,s.ln)]
def new:PM:=⟨0,[],0,0⟩
def isOpen(s:PM)(v:Int):Bool:=decide (v=s.g∧v=s.lv)
def changeOk(s:PM)(v:Int):Bool:=decide (s.g<v∧v<1073741824)
def change(s:PM)(v:Int):PM:=if changeOk s v then {s with g:=v}else s
def enterOk(s:PM)(v long:Int):Bool:=decide (s.lv<v∧s.g≤v∧v<1073741824∧0≤long)
def enter(s:PM)(v long:Int):PM:=if enterOk s v long then⟨v,s.all,v,long⟩else s
def prepare(s:PM)(v:Int):PM:=if isOpen s v then {s with ln:=s.ln+1}else s
def commitOk(s:PM)(v k most:Int):Bool:=decide ((v=s.g∧v=s.lv)∧0≤most∧k≤most∧k=s.ln+1)
def commit(s:PM)(v k most:Int):PM:=if commitOk s v k most then {s with ln:=s.ln+1}else s
def voted:List (Int×Int)→Int→Option Int
 | [],_=>none
 |(w,n)::r,v=>if v=w then some n else voted r v
structure WF(s:PM)(B:Int):Prop where
 rise:(s.all.map (·.1)).Pairwise (· < ·)
 low:∀p∈s.all,0≤p.1∧p.1<1073741824∧0≤p.2∧p.2≤B
 top:s.lv≤s.g
 g0:0≤s.g
theorem new_wf:WF new 0:=⟨by simp[new,all],by simp[new,all],by simp[new],by simp[new]⟩
theorem WF.last(h:WF s B):0≤s.lv∧s.lv<1073741824∧0≤s.ln∧s.ln≤B:=h.low (s.lv,s.ln) (by simp[all])
theorem WF.below(h:WF s B):∀p∈s.init,p.1<s.lv:=by
 have:=h.rise;simp only[all,List.map_append,List.map_cons,List.map_nil,List.pairwise_append]at this
 intro p hp;exact this.2.2 p.1 (List.mem_map.2 ⟨p,hp,rfl⟩) s.lv jL
theorem WF.mono{B':Int}(h:WF s B)(hB:B≤B'):WF s B':=⟨h.rise,fun p hp=>by have:=h.low p hp;omega,h.top,h.g0⟩
theorem WF.bump(h:WF s B):WF {s with ln:=s.ln+1} (B+1):=by
 refine⟨?_,?_,h.top,h.g0⟩
 ·have:=h.rise;simpa [all]using this
 ·intro p hp;simp only[all,List.mem_append,List.mem_singleton]at hp;rcases hp with hp|rfl
  ·have:=h.low p (by simp[all,hp]);omega
  ·have:=h.last;simp only;omega
theorem WF.change{s:PM}{B:Int}(h:WF s B)(v:Int):WF (s.change v) B:=by
 unfold PM.change;split
 ·rename_i hc
  simp only[changeOk,decide_eq_true_eq]at hc;refine⟨h.rise,h.low,?_,?_⟩
  ·have:=h.top;simp only;omega
  ·have:=h.g0;simp only;omega
 ·exact h
theorem WF.enter{s:PM}{B:Int}(h:WF s B)(v long:Int)(hl:long≤B):WF (s.enter v long) B:=by
 unfold PM.enter;split
 ·rename_i hc
  simp only[enterOk,decide_eq_true_eq]at hc;refine⟨?_,?_,Int.le_refl _,?_⟩
  ·show((s.all++ [(v,long)]).map (·.1)).Pairwise (· < ·);rw[List.map_append,List.pairwise_append];refine⟨h.rise,by simp,?_⟩;intro a ha b hb;simp at hb;subst hb;obtain⟨p,hp,rfl⟩:=List.mem_map.1 ha;simp only[all,List.mem_append,List.mem_singleton]at hp;rcases hp with hp|rfl
   ·have:=h.below p hp;omega
   ·exact hc.1
  ·intro p hp;simp only[all,List.mem_append,List.mem_singleton]at hp;rcases hp with(hp|rfl)|rfl
   ·exact h.low p (by simp[all,hp])
   ·exact h.last
   ·have:=h.last;simp only;omega
  ·have:=h.last;simp only;omega
 ·exact h
theorem WF.prepare{s:PM}{B:Int}(h:WF s B)(v:Int):WF (s.prepare v) (B+1):=by
 unfold PM.prepare;split
 ·exact h.bump
 ·exact h.mono jA
theorem WF.commit{s:PM}{B:Int}(h:WF s B)(v k most:Int):WF (s.commit v k most) (B+1):=by
 unfold PM.commit;split
 ·exact h.bump
 ·exact h.mono jA
def kv(l:List (Int×Int)):List (Int×Value):=l.map fun p=>(p.1,.int .i64 p.2)
theorem kv_keys(l:List (Int×Int)):(kv l).map (·.1)=l.map (·.1):=by simp[kv,Function.comp_def]
theorem getKV_kv(l:List (Int×Int))(v:Int):getKV (kv l) v=(voted l v).map (Value.int .i64):=by
 induction l with
 |nil=>rfl
 | cons p r ih =>
  obtain⟨w,n⟩:=p;simp only[kv,List.map_cons,getKV,voted];split
  ·rfl
  ·exact ih
theorem put_absent{κ:Type}[DecidableEq κ]:∀(m:List (κ×Value)) (k:κ) (v:Value),k∉m.map (·.1)→putKV m k v=m++ [(k,v)]
 | [],_,_,_=>rfl
 | (j, u) :: r, k, v, h => by
  have e:¬k=j:=fun e=>h (by simp[e])
  have:=put_absent r k v (fun e=>h jn)
  simp[putKV,e,this]
theorem put_last{κ:Type}[DecidableEq κ]:∀(m:List (κ×Value)) (k:κ) (u v:Value),k∉m.map (·.1)→putKV (m++ [(k,u)]) k v=m++ [(k,v)]
 | [],k,u,v,_=>by simp[putKV]
 | (j, w) :: r, k, u, v, h => by
  have e:¬k=j:=fun e=>h (by simp[e])
  have:=put_last r k u v (fun e=>h jn)
  simp[putKV,e,this]
theorem WF.not_init(h:WF s B):s.lv∉s.init.map (·.1):=by
 intro hm;obtain⟨p,hp,e⟩:=List.mem_map.1 hm
 have:=h.below p hp;omega
theorem WF.kv_bump(h:WF s B):putKV (kv s.all) s.lv (.int .i64 (s.ln+1))=kv ({s with ln:=s.ln+1}:PM).all:=by
 have:=put_last (kv s.init) s.lv (.int .i64 s.ln) (.int .i64 (s.ln+1)) (by rw[kv_keys];exact h.not_init);simpa [kv,all]using this
theorem WF.not_all{v:Int}(h:WF s B)(hv:s.lv<v):v∉s.all.map (·.1):=by
 intro hm;obtain⟨p,hp,e⟩:=List.mem_map.1 hm;simp only[all,List.mem_append,List.mem_singleton]at hp;rcases hp with hp|rfl
 ·have:=h.below p hp;omega
 ·simp only at e;omega
theorem WF.kv_enter{v:Int}(h:WF s B)(hv:s.lv<v):putKV (kv s.all) v (.int .i64 long)=kv (s.all++ [(v,long)]):=by
 rw[put_absent _ _ _ jy];simp[kv]
theorem WF.kv_enter2{v:Int}(h:WF s B)(hv:s.lv<v)(z:Value):putKV (putKV (kv s.all) v z) v (.int .i64 long)=kv (s.all++ [(v,long)]):=by
 rw[put_absent (kv s.all) _ _ jy,put_last _ _ _ _ jy];simp[kv]
theorem voted_last(h:WF s B):voted s.all s.lv=some s.ln:=by
 have:∀l:List (Int×Int),s.lv∉l.map (·.1)→voted (l++ [(s.lv,s.ln)]) s.lv=some s.ln:=by
  intro l
  induction l with
  |nil=>intro _;simp[voted]
  | cons p r ih =>
   intro hn;obtain⟨w,n⟩:=p;have e:¬s.lv=w:=fun e=>hn (by simp[e]);simp only[List.cons_append,voted,e,if_false]
   exact ih (fun e=>hn jn)
 exact this _ h.not_init
end PM
end Go.Proofs.YtkaknokcbhiigaaGreatDoor
