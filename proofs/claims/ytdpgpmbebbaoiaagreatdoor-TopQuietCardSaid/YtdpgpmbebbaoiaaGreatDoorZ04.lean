/- Parts of the proof. No conditions. -/
import Derived.Test.YtdpgpmbebbaoiaaGreatDoorZ03
import Derived.WalkKit
import Derived.Orders
import Derived.StillTail
import Derived.IntWalk
import Derived.ChangeKeysEq
import Derived.Laws.StructEq
import Derived.Laws.IdiomStrings
import Derived.Laws.IdiomCopy
set_option linter.unusedSectionVars false
set_option linter.unusedSimpArgs false
set_option linter.unusedVariables false
namespace Go.Proofs.YtdpgpmbebbaoiaaGreatDoor
open Go
class Und (P:Program) (t:TypeId) (d:outParam TypeDesc):Prop where
 eq:P.underlying t=some d
class Siz (P:Program) (t:TypeId) (n:outParam Nat):Prop where
 eq:(P.info? t).map (·.size)=some n
class Zer (P:Program) (t:TypeId) (v:outParam Value):Prop where
 eq:(P.info? t).map (·.zero)=some (some v)
class Fun (P:Program) (f:FuncId):Prop where
 eq : ∃ fn, P.funcs[f]? = some fn ∧ (fn.name == "runtime.NumGoroutine") = false ∧ fn.body.isNone = false
variable {P:Program} {t:TypeId} {d:TypeDesc}
theorem Und.run(h:Und P t d)(w:World):(underlying t).run P w= .ok d w:=by
 unfold underlying;simp[h.eq]
variable {n:Nat}
theorem Siz.run(h:Siz P t n)(w:World):(sizeOf t).run P w= .ok n w:=by
 have:=h.eq;unfold sizeOf typeInfo
 cases hi:P.info? t with
 |none=>rw[hi]at this;cases this
 |some i=>rw[hi]at this;simp at this;simp[hi,this]
variable {v:Value}
theorem Zer.run(h:Zer P t v)(w:World):(zeroValue t).run P w= .ok v w:=by
 have:=h.eq;unfold zeroValue typeInfo
 cases hi:P.info? t with
 |none=>rw[hi]at this;cases this
 |some i=>rw[hi]at this;simp at this;simp[hi,this]
def aggD:TypeDesc→Bool
 | .struct _| .array _ _=>true
 |_=>false
theorem run_isAgg(h:Und P t d)(w:World):(isAgg t).run P w= .ok (aggD d) w:=by
 unfold isAgg;simp only[Sem.run_bind,h.run,Result.andThen_ok];cases d<;>rfl
variable {e:TypeId}
theorem run_equal_pn(hu:Und P t (.pointer e))(p:Option Addr)(w:World):(Op.equal t (.pointer p) (.pointer none)).run P w= .ok p.isNone w:=by
 have h:∀d,(Op.equalIn (d+1) t (.pointer p) (.pointer none)).run P w= .ok p.isNone w:=fun d=>by
  cases p<;>simp[Op.equalIn,hu.run]
 exact h 9999
variable {op:BinOp} {xt yt ty:TypeId} {x y:Operand} {pos:String} {af:Array Edge} {gd:Option (Nat × Bool)} {w:World}
theorem run_bin(ρ:Operand→Value){dd:Option Tmp}
  (h1:(eqGuard op xt x y (ρ x) (ρ y)).run P w= .ok () w) (h2:(binOp op xt (ρ x) (ρ y)).run P w= .ok v w) :
  (execOp ρ ⟨dd,.binOp op xt x y yt,ty,pos,af,gd⟩).run P w= .ok (.value v) w:=by
 show Sem.run P ((do eqGuard op xt x y (ρ x) (ρ y);binOp op xt (ρ x) (ρ y)) >>= fun a=>pure (Next.value a)) w=_;simp only[Sem.run_bind,h1,h2,Result.andThen_ok,Sem.run_pure]
theorem run_guard_ptr(op:BinOp)(t:TypeId)(x y:Operand)(p q:Option Addr)(w:World):(eqGuard op t x y (.pointer p) (.pointer q)).run P w= .ok () w:=by
 cases op<;>rfl
variable {fid:FuncId} {vs:List Value} {ats:Array TypeId}
theorem run_enter[hfun:Fun P fid](a:Act){dd:Option Tmp}{xs:List Operand}(hargs:xs.map a.eval=vs):(execOp a.eval ⟨dd,.call ⟨.value (.func fid),xs.toArray,ats⟩,ty,pos,af,gd⟩).run P w= .ok (.enter fid vs.toArray) w:=by
 obtain⟨fn,h1,h2,h3⟩:=hfun.eq;have e1:(#[]++Array.map a.eval xs.toArray:Array Value)++ #[]=vs.toArray:=by simp[hargs]
 show Sem.run P (callFunc fid ((#[]++Array.map a.eval xs.toArray)++ #[])) w=_;rw[e1];exact qcd
variable {A':List HP} {p:Option Addr} {p2 r:Int} {j m:Nat} {ds:TypeDesc} {o:Oper} {p1:Op} {q1:String} {a1:Array Edge} {g1:Option (Nat × Bool)} {R:Value→Frag→List HP→Prop} {fn:Func} {args:List Value} {L:Env}
section rules
variable {P:Program} {base:World} {n:Nat} {L:Env} {f:Frag} {A:List HP} {q:Post}
variable {l rest:List Oper} {d:Nat} {ty:TypeId} {pos:String} {af:Array Edge} {gd:Option (Nat × Bool)}
theorem AK{op:Op}(hw:want? l L gd=true)(hd:Nat.ble (d+1) n=true)
  (hx:∀a w,Fr n a L→Sat base w f A→(execOp a.eval ⟨some d,op,ty,pos,af,gd⟩).run P w= .ok (.value v) w)
  (k:H P base n ((d,v)::L) f A (.ops l rest q)):H P base n L f A (.ops l (⟨some d,op,ty,pos,af,gd⟩::rest) q):=.mk fun a w hf s=>by
 show wpList P l.toArray (q.den P) _ a w
 unfold wpList
 rw[if_pos (hf.want (o:=⟨some d,op,ty,pos,af,gd⟩) hw)]
 refine .inl ?_
 simp only[Oper.wp,hx a w hf s,Oper.upon]
 exact k.out _ _ (hf.put (Nat.le_of_ble_eq_true hd) v) s
theorem H.pass{op:Op}(hw:skip? l L gd=true)(hd:Nat.ble (d+1) n=true)
  (k:H P base n ((d,.tuple #[])::L) f A (.ops l rest q)):H P base n L f A (.ops l (⟨some d,op,ty,pos,af,gd⟩::rest) q):=.mk fun a w hf s=>by
 show wpList P l.toArray (q.den P) _ a w
 unfold wpList
 rw[if_neg (by rw[hf.skip (o:=⟨some d,op,ty,pos,af,gd⟩) hw];simp)]
 exact k.out _ _ (hf.put (Nat.le_of_ble_eq_true hd) _) s
theorem Dr{op:Op}(hw:skip? l L gd=true)
  (k:H P base n L f A (.ops l rest q)):H P base n L f A (.ops l (⟨none,op,ty,pos,af,gd⟩::rest) q):=.mk fun a w hf s=>by
 show wpList P l.toArray (q.den P) _ a w
 unfold wpList
 rw[if_neg (by rw[hf.skip (o:=⟨none,op,ty,pos,af,gd⟩) hw];simp)]
 exact k.out _ _ hf s
theorem C0{op:Op}{ι:Sort _}(V:ι→Value)(F:ι→Frag)(AA:ι→List HP)(Φ:ι→Prop)(hw:want? l L gd=true)(hd:Nat.ble (d+1) n=true)
  (hx:∀a w,Fr n a L→Sat base w f A→∃i w',Φ i∧(execOp a.eval ⟨some d,op,ty,pos,af,gd⟩).run P w= .ok (.value (V i)) w'∧Sat base w' (F i) (AA i))
  (k:∀i,Φ i→H P base n ((d,V i)::L) (F i) (AA i) (.ops l rest q)):H P base n L f A (.ops l (⟨some d,op,ty,pos,af,gd⟩::rest) q):=.mk fun a w hf s=>by
 show wpList P l.toArray (q.den P) _ a w
 unfold wpList
 rw[if_pos (hf.want (o:=⟨some d,op,ty,pos,af,gd⟩) hw)]
 refine .inl ?_
 obtain⟨i,w',hφ,hr,s'⟩:=hx a w hf s
 simp only[Oper.wp,hr,Oper.upon]
 exact(k i hφ).out _ _ (hf.put (Nat.le_of_ble_eq_true hd) _) s'
theorem Cm{op:Op}(hw:want? l L gd=true)
  (hx:∀a w,Fr n a L→Sat base w f A→∃w',(execOp a.eval ⟨none,op,ty,pos,af,gd⟩).run P w= .ok .skip w'∧Sat base w' f A')
  (k:H P base n L f A' (.ops l rest q)):H P base n L f A (.ops l (⟨none,op,ty,pos,af,gd⟩::rest) q):=.mk fun a w hf s=>by
 show wpList P l.toArray (q.den P) _ a w
 unfold wpList
 rw[if_pos (hf.want (o:=⟨none,op,ty,pos,af,gd⟩) hw)]
 refine .inl ?_
 obtain⟨w',hr,s'⟩:=hx a w hf s
 simp only[Oper.wp,hr,Oper.upon]
 exact k.out _ _ hf s'
theorem B3(hw:want? l L gd=true)(hx:ev? L x=some v)(hd:Nat.ble (d+1) n=true)
  (k:H P base n ((d,v)::L) f A (.ops l rest q)):H P base n L f A (.ops l (⟨some d,.move x,ty,pos,af,gd⟩::rest) q):=
 AK hw hd (fun a w hf _=>by simp[execOp,hf.eval hx]) k
theorem BE(hw:want? l L gd=true)(hx:ev? L x=some v)(hd:Nat.ble (d+1) n=true)
  (k:H P base n ((d,v)::L) f A (.ops l rest q)):H P base n L f A (.ops l (⟨some d,.assign x,ty,pos,af,gd⟩::rest) q):=
 AK hw hd (fun a w hf _=>by simp[execOp,hf.eval hx]) k
theorem CZ{c:Operand}(hw:want? l L gd=true)(hc:ev? L c=some (.bool true))(hx:ev? L x=some v)(hd:Nat.ble (d+1) n=true)
  (k:H P base n ((d,v)::L) f A (.ops l rest q)):H P base n L f A (.ops l (⟨some d,.pick c x y,ty,pos,af,gd⟩::rest) q):=
 AK hw hd (fun a w hf _=>by simp[execOp,hf.eval hx,hf.eval hc,asBool]) k
theorem CJ{c:Operand}(hw:want? l L gd=true)(hc:ev? L c=some (.bool false))(hx:ev? L y=some v)(hd:Nat.ble (d+1) n=true)
  (k:H P base n ((d,v)::L) f A (.ops l rest q)):H P base n L f A (.ops l (⟨some d,.pick c x y,ty,pos,af,gd⟩::rest) q):=
 AK hw hd (fun a w hf _=>by simp[execOp,hf.eval hx,hf.eval hc,asBool]) k
theorem B8{p:Addr}(hw:want? l L gd=true)(hx:ev? L x=some (.pointer (some p)))(hd:Nat.ble (d+1) n=true)
  (k:H P base n ((d,.pointer (some p))::L) f A (.ops l rest q)):H P base n L f A (.ops l (⟨some d,.nilCheck x,ty,pos,af,gd⟩::rest) q):=
 AK hw hd (fun a w hf _=>by simp[execOp,hf.eval hx]) k
def cmpP:BinOp→Int→Int→Option Bool
 | .eql,x,y=>some (decide (x=y))
 | .neq,x,y=>some (decide (¬x=y))
 | .lss,x,y=>some (decide (x<y))
 | .leq,x,y=>some (decide (x≤y))
 | .gtr,x,y=>some (decide (y<x))
 | .geq,x,y=>some (decide (y≤x))
 |_,_,_=>none
theorem BU{k:IntKind}{p:Int}{b:Bool}(hw:want? l L gd=true)(hx:ev? L x=some (.int k p))(hy:ev? L y=some (.int k p2))(hc:cmpP op p p2=some b)(hd:Nat.ble (d+1) n=true)
  (kk:H P base n ((d,.bool b)::L) f A (.ops l rest q)):H P base n L f A (.ops l (⟨some d,.binOp op xt x y yt,ty,pos,af,gd⟩::rest) q):=
 AK hw hd (fun a w hf _=>by
  cases op<;>simp only[cmpP,Option.some.injEq,reduceCtorEq]at hc<;>subst hc<;>
   simp[execOp,eqGuard,binOp,Op.intCmp,hf.eval hx,hf.eval hy]<;>by_cases e:p=p2<;>simp[e]) kk
def arP:BinOp→IntKind→Int→Int→Option Int
 | .add,k,x,y=>some (k.wrap (x+y))
 | .sub,k,x,y=>some (k.wrap (x-y))
 | .mul,k,x,y=>some (k.wrap (x*y))
 |_,_,_,_=>none
theorem BC{k:IntKind}{p z:Int}(hw:want? l L gd=true)(hx:ev? L x=some (.int k p))(hy:ev? L y=some (.int k p2))(hc:arP op k p p2=some r)(hz:r=z)(hd:Nat.ble (d+1) n=true)
  (kk:H P base n ((d,.int k z)::L) f A (.ops l rest q)):H P base n L f A (.ops l (⟨some d,.binOp op xt x y yt,ty,pos,af,gd⟩::rest) q):=
 AK hw hd (fun a w hf _=>by
  cases op<;>simp only[arP,Option.some.injEq,reduceCtorEq]at hc<;>subst hc<;>subst hz<;>
   simp[execOp,eqGuard,binOp,Op.intArith,hf.eval hx,hf.eval hy]) kk
theorem H.quo{k:IntKind}{p z:Int}(hw:want? l L gd=true)(hx:ev? L x=some (.int k p))(hy:ev? L y=some (.int k p2))(h0:p2≠0)(hz:k.wrap (p.tdiv p2)=z)(hd:Nat.ble (d+1) n=true)
  (kk:H P base n ((d,.int k z)::L) f A (.ops l rest q)):H P base n L f A (.ops l (⟨some d,.binOp .quo xt x y yt,ty,pos,af,gd⟩::rest) q):=
 AK hw hd (fun a w hf _=>by subst hz;simp[execOp,eqGuard,binOp,Op.intDiv,hf.eval hx,hf.eval hy,h0]) kk
theorem H.rem{k:IntKind}{p z:Int}(hw:want? l L gd=true)(hx:ev? L x=some (.int k p))(hy:ev? L y=some (.int k p2))(h0:p2≠0)(hz:p.tmod p2=z)(hd:Nat.ble (d+1) n=true)
  (kk:H P base n ((d,.int k z)::L) f A (.ops l rest q)):H P base n L f A (.ops l (⟨some d,.binOp .rem xt x y yt,ty,pos,af,gd⟩::rest) q):=
 AK hw hd (fun a w hf _=>by subst hz;simp[execOp,eqGuard,binOp,Op.intDiv,hf.eval hx,hf.eval hy,h0]) kk
def nilP:BinOp→Option Addr→Option Bool
 | .eql,none=>some true
 | .eql,some _=>some false
 | .neq,none=>some false
 | .neq,some _=>some true
 |_,_=>none
theorem CK{b:Bool}[hu:Und P xt (.pointer e)](hw:want? l L gd=true)(hx:ev? L x=some (.pointer p))(hy:ev? L y=some (.pointer none))(hb:nilP op p=some b)(hd:Nat.ble (d+1) n=true)
  (kk:H P base n ((d,.bool b)::L) f A (.ops l rest q)):H P base n L f A (.ops l (⟨some d,.binOp op xt x y yt,ty,pos,af,gd⟩::rest) q):=
 AK hw hd (fun a w hf _=>by
  refine run_bin _ ?_ ?_
  ·rw[hf.eval hx,hf.eval hy];exact run_guard_ptr _ _ _ _ _ _ _
  ·rw[hf.eval hx,hf.eval hy]
   have e1:Sem.run P (do pure (Value.bool (←Op.equal xt (.pointer p) (.pointer none)))) w= .ok (.bool p.isNone) w:=by simp[run_equal_pn hu]
   have e2:Sem.run P (do pure (Value.bool (!(←Op.equal xt (.pointer p) (.pointer none))))) w= .ok (.bool (!p.isNone)) w:=by simp[run_equal_pn hu]
   cases op<;>cases p<;>simp only[nilP,Option.some.injEq,reduceCtorEq]at hb<;>subst hb<;>first|exact e1|exact e2) kk
theorem H.not{b c:Bool}(hw:want? l L gd=true)(hx:ev? L x=some (.bool b))(hb:(!b)=c)(hd:Nat.ble (d+1) n=true)
  (k:H P base n ((d,.bool c)::L) f A (.ops l rest q)):H P base n L f A (.ops l (⟨some d,.unOp .not xt x,ty,pos,af,gd⟩::rest) q):=
 AK hw hd (fun a w hf _=>by subst hb;simp[execOp,Op.unary,hf.eval hx]) k
theorem BL{s:TypeId}{i j:IntKind}{p z:Int}[hs:Und P s ds][ht:Und P t (.int j)](hw:want? l L gd=true)(hx:ev? L x=some (.int i p))(hz:j.wrap p=z)(hd:Nat.ble (d+1) n=true)
  (k:H P base n ((d,.int j z)::L) f A (.ops l rest q)):H P base n L f A (.ops l (⟨some d,.convert s t x,ty,pos,af,gd⟩::rest) q):=
 AK hw hd (fun a w hf _=>by
  subst hz
  have h1:=hs.run w
  have h2:=ht.run w
  simp only[execOp,convert,hf.eval hx,Sem.run_bind,h1,h2,Result.andThen_ok]
  cases ds<;>simp[Conv.intToInt]) k
def nthV:List Value→Nat→Option Value
 | [],_=>none
 |v::_,0=>some v
 |_::r,i+1=>nthV r i
theorem nthV_eq:∀(l:List Value) (i:Nat),nthV l i=l[i]?
 | [],i=>by simp[nthV]
 |o::r,0=>by simp[nthV]
 |o::r,i+1=>by simp[nthV,nthV_eq r i]
theorem CQ{i:Nat}(hw:want? l L gd=true)(hx:ev? L x=some (.tuple vs.toArray))(hv:nthV vs i=some v)(hd:Nat.ble (d+1) n=true)
  (k:H P base n ((d,v)::L) f A (.ops l rest q)):H P base n L f A (.ops l (⟨some d,.extract x i,ty,pos,af,gd⟩::rest) q):=
 AK hw hd (fun a w hf _=>by
  rw[nthV_eq]at hv
  simp[execOp,Instr.extract,hf.eval hx,hv]) k
theorem Ds{b:Bool}{c:Bool}{e:Nat}{t1:TypeId}(hg:o.guard=some (j,b))(hj:getO l j=some ⟨some e,p1,t1,q1,a1,g1⟩)(hv:look? L e=some (.bool c))(ht:c=true→H P base n ((e,.bool true)::L) f A (.ops l (o::rest) q))
  (hf:c=false→H P base n ((e,.bool false)::L) f A (.ops l (o::rest) q)):H P base n L f A (.ops l (o::rest) q):=by
 have _:=hg;have _:=hj
 cases c with
 |true=>exact H.know hv rfl (ht rfl)
 |false=>exact H.know hv rfl (hf rfl)
theorem EJ{b:Bool}{e:Nat}{t1:TypeId}{p:Prop}{_:Decidable p}(hg:o.guard=some (j,b))(hj:getO l j=some ⟨some e,p1,t1,q1,a1,g1⟩)(hv:look? L e=some (.bool (decide p)))
  (ht:p→H P base n ((e,.bool true)::L) f A (.ops l (o::rest) q)) (hf:¬p→H P base n ((e,.bool false)::L) f A (.ops l (o::rest) q)):H P base n L f A (.ops l (o::rest) q):=
 Ds hg hj hv (fun h=>ht (of_decide_eq_true h)) (fun h=>hf (of_decide_eq_false h))
theorem Cy{b:Bool}{e:Nat}{t1:TypeId}{p:Prop}{_:Decidable p}(hg:o.guard=some (j,b))(hj:getO l j=some ⟨some e,p1,t1,q1,a1,g1⟩)(hv:look? L e=some (.bool (decide p)))
  (hp:p) (ht:H P base n ((e,.bool true)::L) f A (.ops l (o::rest) q)):H P base n L f A (.ops l (o::rest) q):=
 EJ hg hj hv (fun _=>ht) (fun h=>absurd hp h)
theorem DC{b:Bool}{e:Nat}{t1:TypeId}{p:Prop}{_:Decidable p}(hg:o.guard=some (j,b))(hj:getO l j=some ⟨some e,p1,t1,q1,a1,g1⟩)(hv:look? L e=some (.bool (decide p)))
  (hp:¬p) (hf:H P base n ((e,.bool false)::L) f A (.ops l (o::rest) q)):H P base n L f A (.ops l (o::rest) q):=
 EJ hg hj hv (fun h=>absurd h hp) (fun _=>hf)
theorem DR{b:Bool}{c:Bool}{e:Nat}{t1:TypeId}(hg:o.guard=some (j,b))(hj:getO l j=some ⟨some e,p1,t1,q1,a1,g1⟩)(hv:look? L e=some (.bool c))
  (hp:c=true) (ht:H P base n ((e,.bool true)::L) f A (.ops l (o::rest) q)):H P base n L f A (.ops l (o::rest) q):=
 Ds hg hj hv (fun _=>ht) (fun h=>by rw[hp]at h;cases h)
theorem DS{b:Bool}{c:Bool}{e:Nat}{t1:TypeId}(hg:o.guard=some (j,b))(hj:getO l j=some ⟨some e,p1,t1,q1,a1,g1⟩)(hv:look? L e=some (.bool c))
  (hp:c=false) (ht:H P base n ((e,.bool false)::L) f A (.ops l (o::rest) q)):H P base n L f A (.ops l (o::rest) q):=
 Ds hg hj hv (fun h=>by rw[hp]at h;cases h) (fun _=>ht)
theorem CT{c:Operand}{x y:Code}{p:Prop}{_:Decidable p}(hc:ev? L c=some (.bool (decide p)))(hp:p)(ht:H P base n L f A (.code x q)):H P base n L f A (.code (.cond c x y) q):=
 EH hc (fun _=>ht) (fun h=>absurd hp h)
theorem CU{c:Operand}{x y:Code}{p:Prop}{_:Decidable p}(hc:ev? L c=some (.bool (decide p)))(hp:¬p)(ht:H P base n L f A (.code y q)):H P base n L f A (.code (.cond c x y) q):=
 EH hc (fun h=>absurd h hp) (fun _=>ht)
theorem Dt{c:Operand}{x y:Code}{b:Bool}(hc:ev? L c=some (.bool b))(hp:b=true)(ht:H P base n L f A (.code x q)):H P base n L f A (.code (.cond c x y) q):=
 H.cond hc (fun _=>ht) (fun h=>by rw[hp]at h;cases h)
theorem Du{c:Operand}{x y:Code}{b:Bool}(hc:ev? L c=some (.bool b))(hp:b=false)(ht:H P base n L f A (.code y q)):H P base n L f A (.code (.cond c x y) q):=
 H.cond hc (fun h=>by rw[hp]at h;cases h) (fun _=>ht)
/-! A call, by its contract. -/
def Fn(P:Program)(fid:FuncId)(args:List Value)(f:Frag)(A:List HP)(R:Value→Frag→List HP→Prop):Prop:=
 ∀base w,Sat base w f A→Calls P fid args.toArray w fun e w'=>∃v f' A',e= .returned v∧R v f' A'∧Sat base w' f' A'
theorem Fn.mono{fid:FuncId}{args:List Value}{R R':Value→Frag→List HP→Prop}(h:Fn P fid args f A R)(hr:∀v f' A',R v f' A'→R' v f' A'):Fn P fid args f A R':=
 fun base w s=>(h base w s).mono fun _ _ ⟨v,f',A',e,r,s'⟩=>⟨v,f',A',e,hr _ _ _ r,s'⟩
theorem AV{xs:List Operand}[hfun:Fun P fid](hw:want? l L gd=true)(hd:Nat.ble (d+1) n=true)
  (hx:evs? L xs=some vs) (hc:Fn P fid vs f A R)
  (k:∀v f' A',R v f' A'→H P base n ((d,v)::L) f' A' (.ops l rest q)) :
  H P base n L f A (.ops l (⟨some d,.call ⟨.value (.func fid),xs.toArray,ats⟩,ty,pos,af,gd⟩::rest) q):=.mk fun a w hf s=>by
 show wpList P l.toArray (q.den P) _ a w
 unfold wpList
 rw[if_pos (hf.want (o:=⟨some d,_,ty,pos,af,gd⟩) hw)]
 refine .inl ?_
 have hrun:=run_enter (P:=P) (dd:=some d) (ats:=ats) (ty:=ty) (pos:=pos) (af:=af) (gd:=gd) (w:=w) a (fid:=fid) (hf.evals hx)
 simp only[Oper.wp,hrun,Oper.upon]
 refine(hc base w s).mono ?_
 rintro e w' ⟨v,f',A',rfl,hr,s'⟩
 exact(k v f' A' hr).out _ _ (hf.put (Nat.le_of_ble_eq_true hd) v) s'
/-! A body. -/
def FnPost(P:Program)(fn:Func)(base:World)(R:Value→Frag→List HP→Prop):Exit→Act→World→Prop:=
 bodyPost P fn fun e w'=>∃v f' A',e= .returned v∧R v f' A'∧Sat base w' f' A'
def envOf:Nat→List Value→Env
 |_,[]=>[]
 |i,v::r=>(i,v)::envOf (i+1) r
theorem look?_envOf:∀(vs:List Value) (k i:Nat) (v:Value),look? (envOf k vs) i=some v→k≤i∧vs[i-k]?=some v
 | [],k,i,v,h=>by rw[look?_eq (look?_lt h)]at h;simp[envOf,lk]at h
 | u :: r, k, i, v, h => by
  simp only[envOf]at h
  rw[look?_cons (look?_lt h)]at h
  by_cases e:k=i
  ·subst e;simp at h;subst h;simp
  ·simp[e]at h
   obtain⟨h1,h2⟩:=look?_envOf r (k+1) i v h
   refine⟨by omega,?_⟩
   have:i-k=(i-(k+1))+1:=jB
   rw[this];simpa using h2
theorem lk_envOf:∀(vs:List Value) (k i:Nat),k+vs.length≤i→lk (envOf k vs) i=none
 | [],k,i,h=>rfl
 | u :: r, k, i, h => by
  simp only[List.length_cons]at h
  simp only[envOf]
  rw[lk_cons,if_neg jB]
  exact lk_envOf r (k+1) i jB
theorem Fn.enter{c:Code}(hf:P.funcs[fid]?=some fn)(hb:fn.body=some c)(hn:fn.ntmps=m)(hl:Nat.ble args.length m=true)(hL:SubE (envOf 0 args) L)
  (h:∀base,H P base m L f A (.code c (.fn (FnPost P fn base R)))) (hsm:Nat.ble m 1000003=true:=by exact rfl):Fn P fid args f A R:=fun base w s=>by
 have hl':=Nat.le_of_ble_eq_true hl
 have hsm':=Nat.le_of_ble_eq_true hsm
 refine calls_of_wp hf hb ?_
 have hmk:dmOf L=[]:=qcs
 refine(h base).out _ w ⟨by simp[hn];omega,hsm',hmk.symm,fun i v hi=>?_⟩ s
 obtain⟨_,h2⟩:=look?_envOf args 0 i v (hL.get i v hi)
 simp only[Nat.sub_zero]at h2
 have hlt:i<args.length:=by
  rcases Nat.lt_or_ge i args.length with h|h
  ·exact h
  ·simp[List.getElem?_eq_none h]at h2
 rw[Array.getElem?_append_left (by simpa using hlt)]
 simpa using h2
theorem AE{t:Nat}(hr:fn.results= #[.tmp t])(hv:look? L t=some v)(hA:∀x,stars A x→stars A' x)(h:R v f A')(hmk:mk? L=none:=by exact rfl):H P base n L f A (.out .ret (.fn (FnPost P fn base R))):=.mk fun a w hf s=>by
 show bodyPost P fn (fun e w'=>∃v f' A',e= .returned v∧R v f' A'∧Sat base w' f' A') .ret a w
 exact bodyPost_ret (by rw[results_tmp hr]) (hf.bare hmk) ⟨v,f,A',by simp[hf.get t v hv],h,s.imp hA⟩
theorem BN{t u:Nat}{x:Value}(hr:fn.results= #[.tmp t,.tmp u])(hv:look? L t=some v)(hx:look? L u=some x)(hA:∀x,stars A x→stars A' x)(h:R (.tuple #[v,x]) f A')(hmk:mk? L=none:=by exact rfl):H P base n L f A (.out .ret (.fn (FnPost P fn base R))):=.mk fun a w hf s=>by
 show bodyPost P fn (fun e w'=>∃v f' A',e= .returned v∧R v f' A'∧Sat base w' f' A') .ret a w
 exact bodyPost_ret (by rw[results_tmp2 hr]) (hf.bare hmk) ⟨_,f,A',by simp[hf.get t v hv,hf.get u x hx],h,s.imp hA⟩
theorem Cq(hr:fn.results= #[])(hA:∀x,stars A x→stars A' x)(h:R (.tuple #[]) f A')(hmk:mk? L=none:=by exact rfl):H P base n L f A (.out .ret (.fn (FnPost P fn base R))):=.mk fun a w hf s=>by
 show bodyPost P fn (fun e w'=>∃v f' A',e= .returned v∧R v f' A'∧Sat base w' f' A') .ret a w
 exact bodyPost_ret (by rw[results_none hr]) (hf.bare hmk) ⟨_,f,A',rfl,h,s.imp hA⟩
theorem BA(hr:fn.results= #[])(hA:∀x,stars A x→stars A' x)(h:R (.tuple #[]) f A')(hmk:mk? L=none:=by exact rfl):H P base n L f A (.out .normal (.fn (FnPost P fn base R))):=.mk fun a w hf s=>by
 show bodyPost P fn (fun e w'=>∃v f' A',e= .returned v∧R v f' A'∧Sat base w' f' A') .normal a w
 exact bodyPost_end (by rw[results_none hr]) (hf.bare hmk) ⟨_,f,A',rfl,h,s.imp hA⟩
end rules
theorem Fun.i {i : FuncId} (h : P.funcs[i]? = some fn) (a : (fn.name == "runtime.NumGoroutine") = false := by kernel_rfl) (b : fn.body.isNone = false := by kernel_rfl) : Fun P i := ⟨fn, h, a, b⟩
variable {base:World} {f:Frag} {A:List HP} {K:Kont}
theorem A3(x:HP)(hp:Pull A x A':=by repeat constructor):H P base n L f (x::A') K→H P base n L f A K:=CE hp
theorem H.pd{x:HP}(h:H P base n L f A' K)(hp:Pull A x A':=by repeat constructor):H P base n L f A K:=B4 hp h
theorem A4(x:HP)(hp:Pull A x A':=by repeat constructor):H P base n L f A' K→H P base n L f A K:=B4 hp
theorem DK{t:Nat}(h:R v f A)(hr:fn.results= #[.tmp t]:=by exact rfl)(hv:look? L t=some v:=by exact rfl)(hmk:mk? L=none:=by exact rfl):H P base m L f A (.out .ret (.fn (FnPost P fn base R))):=AE hr hv iD h hmk
variable {q:Post} {ι:Type}
theorem AI{St:ι→Env}{Sf:ι→Frag}{SA:ι→List HP}{Φ:ι→Prop}{μ:ι→Nat}{i:ι}(j:ι)(hΦ:Φ j)(hμ:μ j<μ i)(hs:SubE L (St j):=by(repeat(first|exact trivial|refine⟨rfl,?_⟩)))(hf:f=Sf j:=by exact rfl)(hA:A=SA j:=by exact rfl):H P base n L f A (.out .normal (.loop (Again base n St Sf SA Φ μ i) q)):=AX j hΦ hμ hs hf hA
theorem AF{c:Code}(St:ι→Env)(Sf:ι→Frag)(SA:ι→List HP)(Φ:ι→Prop)(μ:ι→Nat)(j:ι)(hΦ:Φ j)(round:∀i,Φ i→H P base n (St i) (Sf i) (SA i) (.code c (.loop (Again base n St Sf SA Φ μ i) q)))(hs:SubE L (St j):=by(repeat(first|exact trivial|refine⟨rfl,?_⟩)))(hf:f=Sf j:=by exact rfl)(hA:A=SA j:=by exact rfl):H P base n L f A (.code (.loop c) q):=H.loop St Sf SA Φ μ j hΦ hs hf hA round
theorem H.sb(M:Env)(h:H P base n M f A K)(hs:SubE L M:=by(repeat(first|exact trivial|refine⟨rfl,?_⟩))):H P base n L f A K:=H.sub hs h
theorem AU{t:Nat}(h:R v f A)(hr:fn.results= #[.tmp t]:=by exact rfl)(hv:look? L t=some v:=by exact rfl)(hmk:mk? L=none:=by exact rfl):H P base m L f A (.out .ret (.fn (FnPost P fn base R))):=AE hr hv iD h hmk
variable {rest:List Oper}
theorem H.cl{l:List Oper}{d:Nat}{xs:List Operand}[hfun:Fun P fid](hc:Fn P fid vs f A R)(k:∀v g B,R v g B→H P base n ((d,v)::L) g B (.ops l rest q))(hw:want? l L gd=true:=by exact rfl)(hd:Nat.ble (d+1) n=true:=by exact rfl)(hx:evs? L xs=some vs:=by exact rfl):H P base n L f A (.ops l (⟨some d,.call ⟨.value (.func fid),xs.toArray,ats⟩,ty,pos,af,gd⟩::rest) q):=AV hw hd hx hc k
theorem BX{c:Code}(hf:P.funcs[fid]?=some fn)(hn:fn.ntmps=m)(h:∀base,H P base m [] f A (.code c (.fn (FnPost P fn base R))))(hb:fn.body=some c:=by exact rfl)(hl:Nat.ble 0 m=true:=by exact rfl)(hsm:Nat.ble m 1000003=true:=by exact rfl):Fn P fid [] f A R:=Fn.enter hf hb hn hl (L:=[]) trivial h hsm
variable {a0:Value}
theorem AB{c:Code}(hf:P.funcs[fid]?=some fn)(hn:fn.ntmps=m)(h:∀base,H P base m [(0,a0)] f A (.code c (.fn (FnPost P fn base R))))(hb:fn.body=some c:=by exact rfl)(hl:Nat.ble 1 m=true:=by exact rfl)(hsm:Nat.ble m 1000003=true:=by exact rfl):Fn P fid [a0] f A R:=Fn.enter hf hb hn hl (L:=[(0,a0)]) ⟨rfl,trivial⟩ h hsm
theorem A9{c:Code}{a1:Value}(hf:P.funcs[fid]?=some fn)(hn:fn.ntmps=m)(h:∀base,H P base m [(0,a0),(1,a1)] f A (.code c (.fn (FnPost P fn base R))))(hb:fn.body=some c:=by exact rfl)(hl:Nat.ble 2 m=true:=by exact rfl)(hsm:Nat.ble m 1000003=true:=by exact rfl):Fn P fid [a0,a1] f A R:=Fn.enter hf hb hn hl (L:=[(0,a0),(1,a1)]) ⟨rfl,rfl,trivial⟩ h hsm
variable {a2:Value}
theorem AP{c:Code}{a1:Value}(hf:P.funcs[fid]?=some fn)(hn:fn.ntmps=m)(h:∀base,H P base m [(0,a0),(1,a1),(2,a2)] f A (.code c (.fn (FnPost P fn base R))))(hb:fn.body=some c:=by exact rfl)(hl:Nat.ble 3 m=true:=by exact rfl)(hsm:Nat.ble m 1000003=true:=by exact rfl):Fn P fid [a0,a1,a2] f A R:=Fn.enter hf hb hn hl (L:=[(0,a0),(1,a1),(2,a2)]) ⟨rfl,rfl,rfl,trivial⟩ h hsm
variable {a3:Value}
theorem BK{c:Code}{a1:Value}(hf:P.funcs[fid]?=some fn)(hn:fn.ntmps=m)(h:∀base,H P base m [(0,a0),(1,a1),(2,a2),(3,a3)] f A (.code c (.fn (FnPost P fn base R))))(hb:fn.body=some c:=by exact rfl)(hl:Nat.ble 4 m=true:=by exact rfl)(hsm:Nat.ble m 1000003=true:=by exact rfl):Fn P fid [a0,a1,a2,a3] f A R:=Fn.enter hf hb hn hl (L:=[(0,a0),(1,a1),(2,a2),(3,a3)]) ⟨rfl,rfl,rfl,rfl,trivial⟩ h hsm
variable {a4:Value}
theorem DD{c:Code}{a1:Value}(hf:P.funcs[fid]?=some fn)(hn:fn.ntmps=m)(h:∀base,H P base m [(0,a0),(1,a1),(2,a2),(3,a3),(4,a4)] f A (.code c (.fn (FnPost P fn base R))))(hb:fn.body=some c:=by exact rfl)(hl:Nat.ble 5 m=true:=by exact rfl)(hsm:Nat.ble m 1000003=true:=by exact rfl):Fn P fid [a0,a1,a2,a3,a4] f A R:=Fn.enter hf hb hn hl (L:=[(0,a0),(1,a1),(2,a2),(3,a3),(4,a4)]) ⟨rfl,rfl,rfl,rfl,rfl,trivial⟩ h hsm
theorem DT{c:Code}{a1 a5:Value}(hf:P.funcs[fid]?=some fn)(hn:fn.ntmps=m)(h:∀base,H P base m [(0,a0),(1,a1),(2,a2),(3,a3),(4,a4),(5,a5)] f A (.code c (.fn (FnPost P fn base R))))(hb:fn.body=some c:=by exact rfl)(hl:Nat.ble 6 m=true:=by exact rfl)(hsm:Nat.ble m 1000003=true:=by exact rfl):Fn P fid [a0,a1,a2,a3,a4,a5] f A R:=Fn.enter hf hb hn hl (L:=[(0,a0),(1,a1),(2,a2),(3,a3),(4,a4),(5,a5)]) ⟨rfl,rfl,rfl,rfl,rfl,rfl,trivial⟩ h hsm
def row(b:Nat)(T:TypeId)(l:List Value):HP:=pts b (.cells l.toArray T (0,0))
def World.putRow'(w:World)(b:Nat)(T:TypeId)(l:List Value):World:={w with heap:=w.heap.setIfInBounds b (.cells l.toArray T (0,0))}
theorem zas(b o k:Nat):(⟨b,o,none⟩:Addr).add k=⟨b,o+k,none⟩:=by
 unfold Addr.add;split
 ·rename_i h;subst h;rfl
 ·rfl
def RowAt(w:World)(b off:Nat)(l:List Value):Prop:=∃cs t fr,w.heap[b]?=some (.cells cs t fr)∧∀i,i<l.length→cs[off+i]?=l[i]?
theorem RowAt.cell{w:World}{b off:Nat}{l:List Value}(h:RowAt w b off l){i:Nat}{v:Value}(hv:l[i]?=some v):w.cell? ⟨b,off+i,none⟩=some v:=by
 obtain⟨cs,t,fr,h1,h2⟩:=h
 have hi:i<l.length:=by
  rcases Nat.lt_or_ge i l.length with h|h
  ·exact h
  ·simp[List.getElem?_eq_none h]at hv
 simp[World.cell?,h1,h2 i hi,hv]
def Rd(f:Frag)(A:List HP)(b off:Nat)(l:List Value):Prop:=∀base w,Sat base w f A→RowAt w b off l
def Rd1(f:Frag)(A:List HP)(b off:Nat)(v:Value):Prop:=∀base w,Sat base w f A→w.cell? ⟨b,off,none⟩=some v
variable {b off:Nat} {l:List Value} {T:TypeId}
theorem Rd1.ofRow(h:At A (row b T l) A' (row b T l))(hv:nthV l off=some v):Rd1 f A b off v:=fun base w s=>by
 have:=s.got h
 rw[nthV_eq]at hv
 simp[World.cell?,this,hv]
theorem Rd1.imm{f:Frag}{A:List HP}{b off:Nat}{T:TypeId}{cs:Array Value}{fr:Nat×Nat}{v:Value}(h:f b=some (.cells cs T fr))(hv:cs[off]?=some v):Rd1 f A b off v:=fun base w s=>by
 have:=s.imm _ _ h
 simp[World.cell?,this,hv]
theorem Rd1.of{i:Nat}(h:Rd f A b off l)(hv:l[i]?=some v):Rd1 f A b (off+i) v:=fun base w s=>(h base w s).cell hv
theorem Rd1.at0{i:Nat}(h:Rd f A b 0 l)(hv:l[i]?=some v):Rd1 f A b i v:=fun base w s=>by
 have:=(h base w s).cell hv
 rwa [Nat.zero_add]at this
theorem Rd.ofRow(h:At A (row b T l) A' (row b T l)):Rd f A b 0 l:=fun _ _ s=>
 ⟨_,_,_,s.got h,fun i _=>by simp⟩
theorem Rd.sub{k:Nat}{pre post:List Value}(h:Rd f A b off (pre++l++post))(hk:pre.length=k):Rd f A b (off+k) l:=fun base w s=>by
 obtain⟨cs,t,fr,h1,h2⟩:=h base w s
 refine⟨cs,t,fr,h1,fun i hi=>?_⟩
 subst hk
 have:=h2 (pre.length+i) jT
 rw[Nat.add_assoc,this,List.getElem?_append_left jT,List.getElem?_append_right jB]
 simp
theorem Rd.imm{f:Frag}{A:List HP}{b off:Nat}{T:TypeId}{cs:Array Value}{fr:Nat×Nat}{l:List Value}(h:f b=some (.cells cs T fr))(hv:∀i,i<l.length→cs[off+i]?=l[i]?):Rd f A b off l:=fun _ _ s=>
 ⟨_,_,_,s.imm _ _ h,hv⟩
theorem zaz(hu:Und P t d)(hd:aggD d=false)(h:w.cell? ⟨b,off,none⟩=some v):(Instr.loadAt t (.pointer (some ⟨b,off,none⟩))).run P w= .ok v w:=by
 unfold Instr.loadAt Instr.sureAddr loadVar;simp[run_isAgg hu,hd,h]
theorem zbs(hu:Und P t d)(hd:aggD d=true)(hs:Siz P t m)(h:RowAt w b off l)(hm:l.length=m):(Instr.loadAt t (.pointer (some ⟨b,off,none⟩))).run P w= .ok (.agg l.toArray) w:=by
 unfold Instr.loadAt Instr.sureAddr loadVar;have h2:=run_loadCells_list (P:=P) (w:=w) ⟨b,off,none⟩ l (fun j v hj=>by rw[zas];exact h.cell hj);rw[hm]at h2
 simp[run_isAgg hu,hd,hs.run,h2]
def one:Value→Bool
 | .agg _| .tuple _=>false
 |_=>true
theorem run_store_row{i:Nat}(hb:w.heap[b]?=some (.cells l.toArray T (0,0)))(hi:i<l.length)(hv:one v=true):(store ⟨b,i,none⟩ v).run P w= .ok () (World.putRow' w b T (l.set i v)):=by
 have hc:w.cell? ⟨b,i,none⟩=some l[i]:=by simp[World.cell?,hb,hi]
 have hf:w.frozen? ⟨b,i,none⟩=false:=by simp[World.frozen?,hb]
 have hw:w.setCell ⟨b,i,none⟩ v=World.putRow' w b T (l.set i v):=by
  unfold World.setCell World.putRow';congr 1;apply Array.ext_getElem?;intro k;rw[Array.getElem?_modify];by_cases e:b=k
  ·subst e
   have hlt:b<w.heap.size:=qbz
   rw[hb];simp[hlt]
  ·simp[e,Array.getElem?_setIfInBounds_ne e]
 unfold store;cases v<;>simp only[one,Bool.false_eq_true]at hv<;>simp only[Sem.run,hc,hf,hw,Bool.false_eq_true,if_false]
theorem putRow'_heap(w:World)(b:Nat)(T:TypeId)(l:List Value){o:Obj}(hb:w.heap[b]?=some o):(World.putRow' w b T l).heap[b]?=some (.cells l.toArray T (0,0)):=by
 have hlt:b<w.heap.size:=qbz
 simp[World.putRow',hlt]
theorem putRow'_putRow'(w:World)(b:Nat)(T:TypeId)(l l':List Value):World.putRow' (World.putRow' w b T l) b T l'=World.putRow' w b T l':=by
 simp[World.putRow']
def splice(l:List Value)(off:Nat)(vs:List Value):List Value:=l.take off++vs++l.drop (off+vs.length)
theorem splice_nil(l:List Value)(off:Nat):splice l off []=l:=by simp[splice]
theorem splice_cons(l:List Value)(off:Nat)(v:Value)(vs:List Value)(h:off<l.length):splice (l.set off v) (off+1) vs=splice l off (v::vs):=by
 unfold splice;apply List.ext_getElem?;intro i;simp only[List.getElem?_append,List.length_take,List.length_set,List.getElem?_take,List.getElem?_set,List.length_append,List.length_cons,List.getElem?_drop];have e1:min (off+1) l.length=off+1:=jB
 have e2:min off l.length=off:=jB
 rw[e1,e2];by_cases c1:i<off
 ·simp[show i<off+1+vs.length by omega,show i<off+(vs.length+1) by omega,show i<off+1 by omega,c1,show off≠i by omega]
 ·by_cases c2 : i = off
  ·subst c2;simp[h];intro;omega
  ·by_cases c3:i<off+1+vs.length
   ·have e3:i-off=(i-(off+1))+1:=jB
    simp[c3,show i<off+(vs.length+1) by omega,show¬i<off+1 by omega,c1,e3]
   ·have e4:off+1+vs.length+(i-(off+1+vs.length))=off+(vs.length+1)+(i-(off+(vs.length+1))):=jB
    have e5:off+1+vs.length+(i-(off+1+vs.length))≠off:=jB
    rw[if_neg c3,if_neg (show¬i<off+(vs.length+1) by omega),if_neg (fun h=>e5 h.symm),e4]
theorem splice_length(l:List Value)(off:Nat)(vs:List Value)(h:off+vs.length≤l.length):(splice l off vs).length=l.length:=by
 simp[splice];omega
theorem run_storeCells{P:Program}{b off:Nat}{T:TypeId}:∀(vs:List Value) (l:List Value) (i:Nat) (w:World),w.heap[b]?=some (.cells l.toArray T (0,0))→
  (∀v∈vs,one v=true)→off+i+vs.length≤l.length→(storeCells ⟨b,off,none⟩ vs i).run P w= .ok () (if vs=[]then w else World.putRow' w b T (splice l (off+i) vs))
 | [],l,i,w,hb,hv,hl=>by simp[storeCells]
 | v :: vs, l, i, w, hb, hv, hl => by
  simp only[List.length_cons]at hl
  have h1:=run_store_row (P:=P) hb (i:=off+i) jB (hv v jI)
  have h2:=run_storeCells (P:=P) (off:=off) (T:=T) vs (l.set (off+i) v) (i+1) (World.putRow' w b T (l.set (off+i) v)) (putRow'_heap _ _ _ _ hb) (fun u hu=>hv u (by simp[hu])) jT
  unfold storeCells
  rw[zas,Sem.run_bind,h1,Result.andThen_ok,h2]
  have e0:(if v::vs=[]then w else World.putRow' w b T (splice l (off+i) (v::vs)))=World.putRow' w b T (splice l (off+i) (v::vs)):=if_neg jI
  rw[e0]
  by_cases e:vs=[]
  ·subst e
   rw[if_pos rfl,←splice_cons _ _ _ _ jB,splice_nil]
  ·rw[if_neg e,putRow'_putRow',←Nat.add_assoc,splice_cons _ _ _ _ jB]
variable {dd:TypeDesc} {c fo bo sz:Nat} {z:Value} {s:ByteArray} {l' ls ls':List Value} {st ft:TypeId} {fs:List Field} {nm tg pk:String} {em:Bool} {ik:IntKind}
section rules
variable {P:Program} {base:World} {n:Nat} {L:Env} {f:Frag} {A:List HP} {q:Post}
variable {l rest:List Oper} {d:Nat} {ty:TypeId} {pos:String} {af:Array Edge} {gd:Option (Nat × Bool)}
theorem Sat.putRow{l:List Value}(s:Sat base w f A)(h:At A (row b T l) A' (row b T l')):Sat base (World.putRow' w b T l') f A':=
 s.set h rfl rfl rfl rfl
def nthF:List Field→Nat→Option Field
 | [],_=>none
 |v::_,0=>some v
 |_::r,i+1=>nthF r i
theorem nthF_eq:∀(l:List Field) (i:Nat),nthF l i=l[i]?
 | [],i=>by simp[nthF]
 |o::r,0=>by simp[nthF]
 |o::r,i+1=>by simp[nthF,nthF_eq r i]
theorem BH{i:Nat}[hu:Und P st (.struct fs.toArray)](hw:want? l L gd=true)
  (hx:ev? L x=some (.pointer (some ⟨b,off,none⟩))) (hf:nthF fs i=some ⟨nm,ft,fo,em,tg,pk,bo⟩) (hs:Siz P ft (m+1)) (hd:Nat.ble (d+1) n=true)
  (k:H P base n ((d,.pointer (some ⟨b,off+fo,none⟩))::L) f A (.ops l rest q)):H P base n L f A (.ops l (⟨some d,.fieldAddr st x i,ty,pos,af,gd⟩::rest) q):=
 AK hw hd (fun a w hfr _=>by
  rw[nthF_eq]at hf
  simp[execOp,Instr.fieldAt,hfr.eval hx,hu.run,hf,Instr.sureAddr,fieldPlace,hs.run,zas]) k
theorem AL[hu:Und P t dd](hw:want? l L gd=true)(hx:ev? L x=some (.pointer (some ⟨b,off,none⟩)))(ha:aggD dd=false)
  (hr:Rd1 f A b off v) (hd:Nat.ble (d+1) n=true)
  (k:H P base n ((d,v)::L) f A (.ops l rest q)):H P base n L f A (.ops l (⟨some d,.load t x,ty,pos,af,gd⟩::rest) q):=
 AK hw hd (fun a w hfr s=>by simp[execOp,hfr.eval hx,zaz hu ha (hr base w s)]) k
theorem AD[hu:Und P t dd][hs:Siz P t m](hw:want? l L gd=true)(hx:ev? L x=some (.pointer (some ⟨b,off,none⟩)))(ha:aggD dd=true)
  (hr:Rd f A b off ls) (hm:ls.length=m) (hd:Nat.ble (d+1) n=true)
  (k:H P base n ((d,.agg ls.toArray)::L) f A (.ops l rest q)):H P base n L f A (.ops l (⟨some d,.load t x,ty,pos,af,gd⟩::rest) q):=
 AK hw hd (fun a w hfr s=>by simp[execOp,hfr.eval hx,zbs hu ha hs (hr base w s) hm]) k
inductive SetV:List Value→Nat→Value→List Value→Prop where
 |here (x v:Value) (t:List Value):SetV (x::t) 0 v (v::t)
 |there (x:Value) {t t':List Value} {i:Nat} {v:Value} (h:SetV t i v t'):SetV (x::t) (i+1) v (x::t')
theorem SetV.eq{l:List Value}{i:Nat}(h:SetV l i v l'):l'=l.set i v∧i<l.length:=by
 induction h with
 |here=>simp
 |there x h ih=>simp[ih.1];exact ih.2
theorem SetV.mk{l:List Value}{i:Nat}(v:Value)(h:i<l.length):SetV l i v (l.set i v):=by
 induction l generalizing i with
 |nil=>simp at h
 | cons x t ih =>
  cases i with
  |zero=>exact .here _ _ _
  |succ i=>exact .there _ (ih jc)
theorem AZ[hs:Siz P t 1](hw:want? l L gd=true)(hx:ev? L x=some (.pointer (some ⟨b,off,none⟩)))(hy:ev? L y=some v)(hv:one v=true)
  (hA:At A (row b T ls) A' (row b T ls')) (hset:SetV ls off v ls')
  (k:H P base n L f A' (.ops l rest q)):H P base n L f A (.ops l (⟨none,.store t x y,ty,pos,af,gd⟩::rest) q):=
 Cm hw (fun a w hfr s=>by
  obtain⟨e1,e2⟩:=hset.eq
  subst e1
  refine⟨_,?_,s.putRow hA⟩
  have hb:=s.got hA
  have hc:v.cells= #[v]:=by cases v<;>simp_all [one,Value.cells]
  have h1:=run_store_row (P:=P) hb e2 hv
  simp only[execOp,hfr.eval hx,hfr.eval hy,Instr.storeAt,Instr.sureAddr,storeVar,storeCells,hc,Sem.run_bind,Sem.run_pure,Result.andThen_ok,hs.run]
  simp[zas,h1]) k
theorem AC[hs:Siz P t m](hw:want? l L gd=true)(hx:ev? L x=some (.pointer (some ⟨b,off,none⟩)))(hy:ev? L y=some (.agg vs.toArray))(hv:∀v∈vs,one v=true)(hm:vs.length=m)
  (hset:splice ls off vs=ls') (hle:off+vs.length≤ls.length) (hA:At A (row b T ls) A' (row b T ls'))
  (k:H P base n L f A' (.ops l rest q)):H P base n L f A (.ops l (⟨none,.store t x y,ty,pos,af,gd⟩::rest) q):=
 Cm hw (fun a w hfr s=>by
  subst hset
  have hb:=s.got hA
  have h1:=run_storeCells (P:=P) (off:=off) vs ls 0 w hb hv hle
  have hr:(execOp a.eval ⟨none,.store t x y,ty,pos,af,gd⟩).run P w= .ok .skip (if vs=[]then w else World.putRow' w b T (splice ls (off+0) vs)):=by
   simp only[execOp,hfr.eval hx,hfr.eval hy,Instr.storeAt,Instr.sureAddr,storeVar,Value.cells,Sem.run_bind,Sem.run_pure,Result.andThen_ok,hs.run,List.size_toArray,hm]
   simp[h1]
  rw[hr]
  by_cases e:vs=[]
  ·subst e
   rw[splice_nil]at hA
   refine⟨w,by simp,s.conv ?_⟩
   obtain⟨R,a1,a2⟩:=hA.split
   rw[a1,a2]
  ·rw[if_neg e]
   exact⟨_,rfl,s.putRow hA⟩) k
theorem H.box{t:TypeId}{x:Operand}{v:Value}{ls:List Value}(hw:want? l L gd=true)(hx:ev? L x=some v)(hv:v.cells=ls.toArray)(hd:Nat.ble (d+1) n=true)
  (k:∀b,H P base n ((d,.pointer (some ⟨b,0,none⟩))::L) f (row b t ls::A) (.ops l rest q)):H P base n L f A (.ops l (⟨some d,.box t x,ty,pos,af,gd⟩::rest) q):=
 C0 (fun b=>.pointer (some ⟨b,0,none⟩)) (fun _=>f) (fun b=>row b t ls::A) (fun _=>True) hw hd (fun a w hfr s=>by
  refine⟨w.heap.size,w.alloc (.cells ls.toArray t (0,0)),trivial,?_,s.alloc rfl rfl rfl rfl⟩
  simp[execOp,Instr.box,newVar,newRow,hfr.eval hx,hv]) (fun b _=>k b)
theorem AJ[hz:Zer P t z](hw:want? l L gd=true)(hv:z.cells=ls.toArray)(hd:Nat.ble (d+1) n=true)
  (k:∀b,H P base n ((d,.pointer (some ⟨b,0,none⟩))::L) f (row b t ls::A) (.ops l rest q)):H P base n L f A (.ops l (⟨some d,.alloc t,ty,pos,af,gd⟩::rest) q):=
 C0 (fun b=>.pointer (some ⟨b,0,none⟩)) (fun _=>f) (fun b=>row b t ls::A) (fun _=>True) hw hd (fun a w hfr s=>by
  refine⟨w.heap.size,w.alloc (.cells ls.toArray t (0,0)),trivial,?_,s.alloc rfl rfl rfl rfl⟩
  simp[execOp,Instr.alloc,newVar,newRow,hz.run,hv]) (fun b _=>k b)
theorem BG[hu:Und P t (.slice e)](hw:want? l L gd=true)(hx:ev? L x=some (.slice p m c))(hd:Nat.ble (d+1) n=true)
  (k:H P base n ((d,.int .i64 (m:Nat))::L) f A (.ops l rest q)):H P base n L f A (.ops l (⟨some d,.call ⟨.builtin .len,#[x],#[t]⟩,ty,pos,af,gd⟩::rest) q):=
 AK hw hd (fun a w hfr _=>by
  simp[execOp,resolve,invoke,builtin,Builtin.len_,hfr.eval hx,hu.run,goInt]) k
theorem BV[hu:Und P t .string](hw:want? l L gd=true)(hx:ev? L x=some (.string s))(hd:Nat.ble (d+1) n=true)
  (k:H P base n ((d,.int .i64 (s.size:Nat))::L) f A (.ops l rest q)):H P base n L f A (.ops l (⟨some d,.call ⟨.builtin .len,#[x],#[t]⟩,ty,pos,af,gd⟩::rest) q):=
 AK hw hd (fun a w hfr _=>by
  simp[execOp,resolve,invoke,builtin,Builtin.len_,hfr.eval hx,hu.run,goInt]) k
theorem B7{i:Nat}{z:Int}[hu:Und P t (.slice e)][hs:Siz P e sz](hw:want? l L gd=true)
  (hx:ev? L x=some (.slice (some ⟨b,off,none⟩) m c)) (hy:ev? L y=some (.int ik z)) (hq:z=(i:Nat)) (hi:i<m) (hd:Nat.ble (d+1) n=true)
  (k:H P base n ((d,.pointer (some ⟨b,off+i*sz,none⟩))::L) f A (.ops l rest q)):H P base n L f A (.ops l (⟨some d,.indexAddr t x y,ty,pos,af,gd⟩::rest) q):=
 AK hw hd (fun a w hfr _=>by
  subst hq
  simp only[execOp,Instr.indexAt,hfr.eval hx,hfr.eval hy,Sem.run_bind,asIntOf,Sem.run_pure,Result.andThen_ok,hu.run]
  simp[hi,hs.run,zas]) k
theorem CI{i:Nat}{z:Int}[hu:Und P t (.array m e)][hs:Siz P e sz](hw:want? l L gd=true)
  (hx:ev? L x=some (.pointer (some ⟨b,off,none⟩))) (hy:ev? L y=some (.int ik z)) (hq:z=(i:Nat)) (hi:i<m) (hd:Nat.ble (d+1) n=true)
  (k:H P base n ((d,.pointer (some ⟨b,off+i*sz,none⟩))::L) f A (.ops l rest q)):H P base n L f A (.ops l (⟨some d,.indexAddr t x y,ty,pos,af,gd⟩::rest) q):=
 AK hw hd (fun a w hfr _=>by
  subst hq
  simp only[execOp,Instr.indexAt,hfr.eval hx,hfr.eval hy,Sem.run_bind,asIntOf,Sem.run_pure,Result.andThen_ok,hu.run,Instr.sureAddr]
  simp[hi,hs.run,zas]) k
end rules
class Byt (P:Program) (t:TypeId) (n:outParam Nat):Prop where
 eq:(P.info? t).map (·.bytes)=some n
def slc(p:Option Addr)(n c:Nat)(T:TypeId)(sz:Nat)(xs:List Value):HP:=fun h=>
 xs.length=n*sz∧c≤9223372036854775807∧((n=0∧c=0∧h=nil0)∨∃b sp,p=some ⟨b,0,none⟩∧n≤c∧(xs++sp).length=c*sz∧h=sing b (.cells (xs++sp).toArray T (0,0)))
theorem slc_nil(p:Option Addr)(T:TypeId)(sz:Nat):slc p 0 0 T sz [] nil0:=⟨by simp,by omega,.inl ⟨rfl,rfl,rfl⟩⟩
theorem row_slc(hl:l.length=n*sz)(hn:n≤9223372036854775807){h:Frag}(hr:row b T l h):slc (some ⟨b,0,none⟩) n n T sz l h:=
 ⟨hl,hn,.inr ⟨b,[],rfl,Nat.le_refl _,by simpa using hl,by rw[List.append_nil];exact hr⟩⟩
variable {xs:List Value}
theorem Sat.slc_at{y:HP}(s:Sat base w f A)(h:At A (slc p n c T sz xs) A' y):xs.length=n*sz∧c≤9223372036854775807∧((n=0∧c=0)∨∃b sp,p=some ⟨b,0,none⟩∧n≤c∧(xs++sp).length=c*sz∧w.heap[b]?=some (.cells (xs++sp).toArray T (0,0))):=by
 obtain⟨R,h1,_⟩:=h.split;obtain⟨m,hm,_,hw⟩:=s.mem;rw[h1]at hm;obtain⟨m1,m2,_,rfl,⟨a1,a2,a3⟩,_⟩:=hm;refine⟨a1,a2,?_⟩;rcases a3 with⟨e2,e3,_⟩|⟨b,sp,e1,e2,e3,rfl⟩
 ·exact .inl ⟨e2,e3⟩
 ·exact .inr ⟨b,sp,e1,e2,e3,hw b _ ji⟩
theorem Rd.ofSlc(h:At A (slc (some ⟨b,0,none⟩) n c T sz xs) A' (slc (some ⟨b,0,none⟩) n c T sz xs))(h0:0<n):Rd f A b 0 xs:=fun base w s=>by
 obtain⟨_,_,h3⟩:=s.slc_at h
 rcases h3 with⟨e,_⟩|⟨b',sp,e,_,_,hw⟩
 ·omega
 ·cases e
  exact⟨_,_,_,hw,fun i hi=>by simp only[Nat.zero_add,List.getElem?_toArray];exact List.getElem?_append_left hi⟩
variable {w':World}
theorem Sat.fresh{x y:HP}{o:Obj}(s:Sat base w f A)(h:At A x A' y)
  (hos:w'.os=w.os) (ht:w'.tape=w.tape) (ho:w'.output=w.output) (hh:w'.heap=w.heap.push o) (hy:y (sing w.heap.size o)):Sat base w' f A':=by
 obtain⟨R,h1,h2⟩:=h.split;have s1:=s.alloc hos ht ho hh;have s2:Sat base w' f [pts w.heap.size o,x,R]:=s1.conv (by simp only[stars,h1,star_emp])
 have s3:=s2.drop (.there _ (.here _ _));refine s3.imp fun m hm=>?_
 rw[h2];simp only[stars,star_emp]at hm;obtain⟨m1,m2,d,rfl,rfl,hr⟩:=hm;exact⟨_,m2,d,rfl,hy,hr⟩
theorem Sat.turnRow{x y:HP}{o':Obj}(s:Sat base w f A)(h:At A x A' y)
  (hx:∀m,x m→∃o,m=sing b o) (hos:w'.os=w.os) (ht:w'.tape=w.tape) (ho:w'.output=w.output) (hh:w'.heap=w.heap.setIfInBounds b o') (hy:y (sing b o')):Sat base w' f A':=by
 obtain⟨R,h1,h2⟩:=h.split
 obtain⟨o,s1⟩:∃o,Sat base w f [pts b o,R]:=by
  obtain⟨a1,a2,a3,a4,a5,m,hm,hd,hw⟩:=s;rw[h1]at hm;obtain⟨m1,m2,d,e,a,r⟩:=hm;obtain⟨o,ho⟩:=hx m1 a;refine⟨o,a1,a2,a3,a4,a5,m,?_,hd,hw⟩;simp only[stars,star_emp];exact⟨m1,m2,d,e,ho,r⟩
 have s2:=s1.set (.here _ _ (pts b o')) hos ht ho hh;refine s2.imp fun m hm=>?_
 rw[h2];simp only[stars,star_emp]at hm;obtain⟨m1,m2,d,e,a,r⟩:=hm;exact⟨m1,m2,d,e,by rw[a];exact hy,r⟩
structure Src(P:Program)(f:Frag)(A:List HP)(x:Value)(sz m:Nat)(news:List Value):Prop where
 len:∀w,(Builtin.lenOf x).run P w= .ok m w
 cells:∀base w,Sat base w f A→(Builtin.firstCells sz m x).run P w= .ok news.toArray w
 size:news.length=m*sz
variable {news:List Value}
theorem Src.slice(h:Rd f A b off news)(hl:news.length=m*sz):Src P f A (.slice (some ⟨b,off,none⟩) m c) sz m news:=
 ⟨fun w=>rfl,fun base w s=>run_firstCells_some w sz m ⟨b,off,none⟩ m c news hl (fun j v hj=>by rw[zas];exact(h base w s).cell hj),hl⟩
theorem Src.nil:Src P f A (.slice none 0 0) sz 0 []:=
 ⟨fun w=>rfl,fun base w s=>run_firstCells_none w sz 0 0 0,by simp⟩
def bytesV(l:List UInt8):List Value:=l.map fun b=>.int .u8 (b.toNat:Nat)
theorem Src.string:Src P f A (.string s) 1 s.size (bytesV s.data.toList):=
 ⟨fun w => rfl, fun base w _ => by
  have:(s.extract 0 s.size)=s:=by
   have:=ByteArray.extract_zero_size (b:=s)
   exact this
  show Result.ok _ w=_
  rw[this]
  congr 1
  unfold bytesV
  rw[←List.map_toArray,Array.toArray_toList]
  ,by unfold bytesV;rw[List.length_map,Array.length_toList,Nat.mul_one];rfl⟩
theorem Src.slcS(h:At A (slc p n c T sz xs) A' (slc p n c T sz xs))(hl:xs.length=n*sz):Src P f A (.slice p n c) sz n xs:=
 ⟨fun w => rfl, fun base w s => by
  obtain⟨_,_,h3⟩:=s.slc_at h
  by_cases h0:0<n
  ·rcases h3 with⟨e,_⟩|⟨b,sp,rfl,_,_,_⟩
   ·omega
   ·exact(Src.slice (P:=P) (c:=c) (Rd.ofSlc h h0) hl).cells base w s
  ·have h1:n=0:=jB
   subst h1
   have:xs=[]:=List.eq_nil_of_length_eq_zero kP
   subst this
   cases p with
   |none=>exact run_firstCells_none w sz 0 0 c
   |some a=>exact run_firstCells_some w sz 0 a 0 c [] jI jI,hl⟩
def allOne:List Value→Bool
 | []=>true
 |v::r=>one v&&allOne r
theorem zaa:∀ {l:List Value},allOne l=true→∀v∈l,one v=true
 | [],_,v,h=>by simp at h
 | u :: r, h, v, hv => by
  simp only[allOne,Bool.and_eq_true]at h
  simp only[List.mem_cons]at hv
  rcases hv with rfl|hv
  ·exact h.1
  ·exact zaa h.2 v hv
theorem one_eq(v:Value):v.oneCell'=one v:=by cases v<;>rfl
def srcD:TypeDesc→Bool
 | .slice _| .string=>true
 |_=>false
theorem srcD_cases(h:srcD d=true):(∃e,d= .slice e)∨d= .string:=by cases d<;>simp[srcD]at h<;>simp
variable {cur:Array Value} {u:TypeId} {du:TypeDesc} {olds:List Value} {a:Act} {n0:Nat} {xv:Value}
section rules
variable {P:Program} {base:World} {n:Nat} {L:Env} {f:Frag} {A:List HP} {q:Post}
variable {l rest:List Oper} {d:Nat} {ty:TypeId} {pos:String} {af:Array Edge} {gd:Option (Nat × Bool)}
theorem info_of{bytes:Nat}(hs:Siz P t sz)(hb:Byt P t bytes)(hz:Zer P t z):∃i,P.info? t=some i∧i.size=sz∧i.bytes=bytes∧i.zero=some z:=by
 have h1:=hs.eq;have h2:=hb.eq;have h3:=hz.eq
 cases hi:P.info? t with
 |none=>rw[hi]at h1;cases h1
 | some i =>
  rw[hi]at h1 h2 h3;simp at h1 h2 h3;exact⟨i,rfl,h1,h2,h3⟩
theorem zeroCells_toList(z:Array Value)(k:Nat):(Builtin.zeroCells z k).size=k*z.size:=by simp[Builtin.zeroCells]
theorem setRow_is{cs:Array Value}(hg:w.heap[b]?=some (.cells cur T (0,0))):(w.setRow b cs).heap=w.heap.setIfInBounds b (.cells cs T (0,0)):=by
 unfold World.setRow;apply Array.ext_getElem?;intro k;rw[Array.getElem?_modify]
 have hlt:b<w.heap.size:=by
  rcases Nat.lt_or_ge b w.heap.size with h|h
  ·exact h
  ·simp[Array.getElem?_eq_none h]at hg
 by_cases e:b=k
 ·subst e;rw[hg];simp[hlt]
 ·simp[e,Array.getElem?_setIfInBounds_ne e]
theorem run_append_in{x:Value}{i:TypeInfo}
  (hu:Und P t (.slice e)) (hu2:Und P u du) (hdu:srcD du=true) (hi:P.info? e=some i) (hg:w.heap[b]?=some (.cells cur e (0,0)))
  (hlen:(Builtin.lenOf x).run P w= .ok m w) (hcells:(Builtin.firstCells i.size m x).run P w= .ok news.toArray w) (hroom:n+m≤c) (hfit:n*i.size+news.length≤cur.size) (h1:∀v∈news,v.oneCell'=true) :
  (Builtin.append_ #[t, u] ty #[.slice (some ⟨b, 0, none⟩) n c, x]).run P w =
   .ok (.slice (some ⟨b,0,none⟩) (n+m) c) (w.setRow b (cur.toList.take (n*i.size)++news++cur.toList.drop (n*i.size+news.length)).toArray):=by
 have hst:=run_storeCells_at P b (n*i.size) e news 0 cur w hg ju h1;simp only[Nat.add_zero]at hst
 rcases srcD_cases hdu with⟨e',rfl⟩|rfl<;>
  simp[Builtin.append_,run_underlying hu.eq,run_underlying hu2.eq,sizeOf,typeInfo,hi,hlen,hcells,hroom,Addr.add_lit,hst]
theorem run_append_out{x:Value}{i:TypeInfo}
  (hu:Und P t (.slice e)) (hu2:Und P u du) (hdu:srcD du=true) (hi:P.info? e=some i) (hz:i.zero=some z)
  (hlen:(Builtin.lenOf x).run P w= .ok m w) (hold:(Builtin.firstCells i.size n (.slice p n c)).run P w.drew= .ok olds.toArray w.drew) (hcells:(Builtin.firstCells i.size m x).run P w.drew= .ok news.toArray w.drew)
  (hg:c<n+m) (h63:n+m≤9223372036854775807) (hfit:Builtin.nextslicecap (n+m) c*i.bytes≤281474976710656) :
  (Builtin.append_ #[t, u] ty #[.slice p n c, x]).run P w =
   .ok (.slice (some ⟨w.heap.size,0,none⟩) (n+m) (grownCap w (n+m) c e)) (w.drew.alloc (.cells (olds.toArray++news.toArray++Builtin.zeroCells z.cells (grownCap w (n+m) c e-(n+m))) e)):=by
 have hn:¬(n+m≤c):=jB
 have h63':¬(9223372036854775807<((n:Int)+(m:Int))):=jB
 have h48':¬(281474976710656<Builtin.nextslicecap (n+m) c*i.bytes):=jB
 rcases srcD_cases hdu with⟨e',rfl⟩|rfl<;>
  simp[Builtin.append_,run_underlying hu.eq,run_underlying hu2.eq,sizeOf,typeInfo,zeroValue,hi,hz,hlen,hold,hcells,hn,h63',h48',Question.forced,newRow,grownCap]<;>
  rw[←Array.append_assoc,List.append_toArray olds news]
theorem run_append_slc{A':Option Addr→Nat→List HP}{bytes:Nat}{x:Value}
  (hu:Und P t (.slice e)) (hu2:Und P u du) (hs:Siz P e sz) (hb:Byt P e bytes) (hz:Zer P e z) (hdu:srcD du=true)
  (s:Sat base w f A) (hA:∀p' c',At A (slc p n c e sz xs) (A' p' c') (slc p' (n+m) c' e sz (xs++news)))
  (hsrc:Src P f A x sz m news) (h1:∀v∈news,one v=true) (hzs:z.cells.size=sz) (h63:n+m≤9223372036854775807) (hby:(n+m)*bytes≤140737488355328) :
  ∃p' c' w',(Builtin.append_ #[t,u] ty #[.slice p n c,x]).run P w= .ok (.slice p' (n+m) c') w'∧Sat base w' f (A' p' c'):=by
 obtain⟨i,hi,rfl,rfl,hiz⟩:=info_of hs hb hz;obtain⟨hl,hc,h3⟩:=s.slc_at (hA none 0);have hlen:(xs++news).length=(n+m)*i.size:=by rw[List.length_append,hl,hsrc.size,Nat.add_mul]
 have h1':∀v∈news,v.oneCell'=true:=fun v hv=>by rw[one_eq];exact h1 v hv
 have hlx:(Builtin.lenOf x).run P w= .ok m w:=hsrc.len w
 have grown:∀olds:List Value,olds=xs→(Builtin.firstCells i.size n (.slice p n c)).run P w.drew= .ok olds.toArray w.drew→c<n+m→
   ∃p' c' w',(Builtin.append_ #[t,u] ty #[.slice p n c,x]).run P w= .ok (.slice p' (n+m) c') w'∧Sat base w' f (A' p' c'):=by
  intro olds ho hold hg
  subst ho
  have hcells:=hsrc.cells base w.drew (s.same rfl rfl rfl rfl)
  have hr:=run_append_out (ty:=ty) hu hu2 hdu hi hiz hlx hold hcells hg h63 (growslice_fits hg hby)
  refine⟨_,_,_,hr,s.fresh (hA _ _) rfl rfl rfl rfl ⟨hlen,?_,.inr ⟨_,(Builtin.zeroCells z.cells (grownCap w (n+m) c e-(n+m))).toList,rfl,grownCap_ge _ _ _ _,?_,?_⟩⟩⟩
  ·have:=grownCap_le_maxLen w (n+m) c e (by unfold maxLen;omega)
   unfold maxLen at this;omega
  ·have hge:=grownCap_ge w (n+m) c e
   rw[List.length_append,hlen,Array.length_toList,size_zeroCells,hzs,←Nat.add_mul];congr 1;omega
  ·congr 2
   rw[←List.append_toArray,←List.append_toArray,Array.toArray_toList]
 by_cases h00:n=0∧c=0
 ·obtain⟨rfl,rfl⟩:=h00;clear h3;have hx:xs=[]:=List.eq_nil_of_length_eq_zero kP;subst hx
  by_cases hm:m=0
  ·subst hm;have hn:news=[]:=List.eq_nil_of_length_eq_zero (by simpa using hsrc.size);subst hn
   refine⟨p,0,w,?_,?_⟩
   ·have hf:=hsrc.cells base w s
    rcases srcD_cases hdu with⟨e',rfl⟩|rfl<;>cases p<;>
     simp[storeCells,Builtin.append_,run_underlying hu.eq,run_underlying hu2.eq,sizeOf,typeInfo,hi,hlx,hf]
   ·obtain⟨R,e1,e2⟩:=(hA p 0).split;exact s.conv (by rw[e1,e2];simp)
  ·refine grown [] rfl ?_ jB
   cases p with
   |none=>exact run_firstCells_none w.drew i.size 0 0 0
   |some a=>exact run_firstCells_some w.drew i.size 0 a 0 0 [] jI jI
 ·obtain⟨b,sp,rfl,hnc,hcs,hw⟩:=h3.resolve_left h00;by_cases hroom:n+m≤c
  ·have hfit:n*i.size+news.length≤(xs++sp).toArray.size:=by rw[List.size_toArray,hsrc.size,hcs,←Nat.add_mul];exact Nat.mul_le_mul_right _ hroom
   have hr:=run_append_in (ty:=ty) hu hu2 hdu hi hw hlx (hsrc.cells base w s) hroom hfit h1';have hsz:news.length≤sp.length:=by simp[hl]at hfit;exact hfit
   have e1:(xs++sp).toArray.toList.take (n*i.size)++news++(xs++sp).toArray.toList.drop (n*i.size+news.length)=xs++news++sp.drop news.length:=by
    simp only[←hl];rw[List.take_left,List.drop_append,List.drop_eq_nil_of_le jB,List.nil_append];congr 2;omega
   rw[e1]at hr;refine⟨some ⟨b,0,none⟩,c,_,hr,s.turnRow (hA (some ⟨b,0,none⟩) c) (b:=b) (o':=.cells (xs++news++(sp.drop news.length)).toArray e (0,0)) ?_ rfl rfl rfl ?_ ?_⟩
   ·rintro m1 ⟨_,_,h⟩;rcases h with⟨h,h',_⟩|⟨b',sp',h,_,hcs',rfl⟩
    ·exact absurd ⟨h,h'⟩ h00
    ·cases h;exact⟨_,rfl⟩
   ·exact setRow_is hw
   ·refine⟨hlen,hc,.inr ⟨b,sp.drop news.length,rfl,hroom,?_,rfl⟩⟩;simp only[List.length_append,List.length_drop]at hcs⊢;omega
  ·have hf:=run_firstCells_some (P:=P) w.drew i.size n ⟨b,0,none⟩ n c xs hl (fun j v hj=>by
    rw[zas]
    have:j<xs.length:=qcw
    simp[World.cell?,show w.drew.heap=w.heap from rfl,hw,List.getElem?_append_left this,hj])
   exact grown xs rfl hf jB
theorem zcc{dd:Option Tmp}(h:(Builtin.append_ #[t,u] ty #[a.eval x,a.eval y]).run P w= .ok v w'):(execOp a.eval ⟨dd,.call ⟨.builtin .append,#[x,y],#[t,u]⟩,ty,pos,af,gd⟩).run P w= .ok (.value v) w':=by
 exact qbW
theorem AQ{A':Option Addr→Nat→List HP}{bytes:Nat}
  [hu:Und P t (.slice e)] [hu2:Und P u du] [hs:Siz P e sz] [hb:Byt P e bytes] [hz:Zer P e z] (hw:want? l L gd=true) (hd:Nat.ble (d+1) n=true) (hx:ev? L x=some (.slice p n0 c)) (hy:ev? L y=some xv) (hdu:srcD du=true)
  (hA:∀p' c',At A (slc p n0 c e sz xs) (A' p' c') (slc p' (n0+m) c' e sz (xs++news)))
  (hsrc:Src P f A xv sz m news) (h1:∀v∈news,one v=true) (hzs:z.cells.size=sz) (h63:n0+m≤9223372036854775807) (hby:(n0+m)*bytes≤140737488355328)
  (k:∀p' c',H P base n ((d,.slice p' (n0+m) c')::L) f (A' p' c') (.ops l rest q)) :
  H P base n L f A (.ops l (⟨some d,.call ⟨.builtin .append,#[x,y],#[t,u]⟩,ty,pos,af,gd⟩::rest) q):=
 C0 (ι:=Option Addr×Nat) (fun i=>.slice i.1 (n0+m) i.2) (fun _=>f) (fun i=>A' i.1 i.2) (fun _=>True) hw hd (fun a w hfr s=>by
  obtain⟨p',c',w',hr,s'⟩:=run_append_slc (ty:=ty) hu hu2 hs hb hz hdu s hA hsrc h1 hzs h63 hby
  exact⟨(p',c'),w',trivial,zcc jQ,s'⟩) (fun i _=>k i.1 i.2)
theorem AO(h:At A (slc p n0 c T sz xs) A' (slc p n0 c T sz xs))(h0:0<n0)
  (k:∀b,p=some ⟨b,0,none⟩→H P base n L f A K):H P base n L f A K:=.mk fun a w hf s=>by
 obtain⟨_,_,h3⟩:=s.slc_at h
 rcases h3 with⟨e,_⟩|⟨b,sp,e,_⟩
 ·omega
 ·exact(k b e).out a w hf s
theorem CD{i:Nat}{z:Int}[hu:Und P t (.slice e)][hs:Siz P e 1](hw:want? l L gd=true)
  (hx:ev? L x=some (.slice (some ⟨b,off,none⟩) m c)) (hy:ev? L y=some (.int ik z)) (hq:z=(i:Nat)) (hi:i<m) (hd:Nat.ble (d+1) n=true)
  (k:H P base n ((d,.pointer (some ⟨b,off+i,none⟩))::L) f A (.ops l rest q)):H P base n L f A (.ops l (⟨some d,.indexAddr t x y,ty,pos,af,gd⟩::rest) q):=
 AK hw hd (fun a w hfr _=>by
  subst hq
  simp only[execOp,Instr.indexAt,hfr.eval hx,hfr.eval hy,Sem.run_bind,asIntOf,Sem.run_pure,Result.andThen_ok,hu.run]
  simp[hi,hs.run,zas]) k
theorem Dv{i:Nat}{z:Int}[hu:Und P t (.slice e)][hs:Siz P e sz](hw:want? l L gd=true)
  (hx:ev? L x=some (.slice (some ⟨b,0,none⟩) m c)) (hy:ev? L y=some (.int ik z)) (hq:z=(i:Nat)) (hi:i<m) (hd:Nat.ble (d+1) n=true)
  (k:H P base n ((d,.pointer (some ⟨b,i*sz,none⟩))::L) f A (.ops l rest q)):H P base n L f A (.ops l (⟨some d,.indexAddr t x y,ty,pos,af,gd⟩::rest) q):=
 AK hw hd (fun a w hfr _=>by
  subst hq
  simp only[execOp,Instr.indexAt,hfr.eval hx,hfr.eval hy,Sem.run_bind,asIntOf,Sem.run_pure,Result.andThen_ok,hu.run]
  simp[hi,hs.run,zas]) k
theorem Cz{xs':List Value}[hs:Siz P t 1](hw:want? l L gd=true)(hx:ev? L x=some (.pointer (some ⟨b,off,none⟩)))(hy:ev? L y=some v)(hv:one v=true)
  (hA:At A (slc (some ⟨b,0,none⟩) n0 c T sz xs) A' (slc (some ⟨b,0,none⟩) n0 c T sz xs')) (hset:SetV xs off v xs')
  (k:H P base n L f A' (.ops l rest q)):H P base n L f A (.ops l (⟨none,.store t x y,ty,pos,af,gd⟩::rest) q):=
 Cm hw (fun a w hfr s=>by
  obtain⟨e1,e2⟩:=hset.eq
  subst e1
  obtain⟨hl,hc,h3⟩:=s.slc_at hA
  rcases h3 with⟨e,_⟩|⟨b',sp,e,hn,hcs,hb⟩
  ·subst e;simp at hl;subst hl;simp at e2
  ·cases e
   have hcv:v.cells= #[v]:=by cases v<;>simp_all [one,Value.cells]
   have h1:=run_store_row (P:=P) (i:=off) hb jT hv
   refine⟨World.putRow' w b T ((xs++sp).set off v),?_,s.turnRow hA (b:=b) (o':=.cells (xs.set off v++sp).toArray T (0,0)) ?_ rfl rfl rfl ?_ ?_⟩
   ·simp only[execOp,hfr.eval hx,hfr.eval hy,Instr.storeAt,Instr.sureAddr,storeVar,storeCells,hcv,Sem.run_bind,Sem.run_pure,Result.andThen_ok,hs.run]
    simp[zas,h1]
   ·rintro m1 ⟨_,_,h⟩
    rcases h with⟨h,_⟩|⟨b',sp',h,_,hcs',rfl⟩
    ·subst h;simp at hl;subst hl;simp at e2
    ·cases h;exact⟨_,rfl⟩
   ·show(World.putRow' w b T ((xs++sp).set off v)).heap=_
    rw[List.set_append_left _ _ e2];rfl
   ·exact⟨by simpa using hl,hc,.inr ⟨b,sp,rfl,hn,by simpa using hcs,rfl⟩⟩) k
end rules
class KeyT (P:Program) (kt:TypeId) {κ:Type} [DecidableEq κ] (enc:κ→Value):Prop where
 chk:∀(k:κ) (e:Bool) (w:World),(Instr.checkKey e 10000 kt (enc k)).run P w= .ok () w
 fnd:∀(k:κ) (es:List MapEntry) (ks:List κ) (w:World),es.map (·.key)=ks.map enc→(Instr.findKey kt (enc k) es).run P w= .ok ((ks.findIdx? (k= ·)).bind fun i=>(es[i]?).map fun e=>(i,e.val)) w
 same:∀k:κ,Instr.sameBits 10000 (enc k) (enc k)=true
def getKV{κ:Type}[DecidableEq κ]:List (κ×Value)→κ→Option Value
 | [],_=>none
 |(k',v)::r,k=>if k=k' then some v else getKV r k
def putKV{κ:Type}[DecidableEq κ]:List (κ×Value)→κ→Value→List (κ×Value)
 | [],k,v=>[(k,v)]
 |(k',u)::r,k,v=>if k=k' then(k,v)::r else(k',u)::putKV r k v
variable {α:Type} {clock:Nat}
section
variable {κ:Type} [DecidableEq κ]
theorem getKV_idx(m:List (κ×Value))(k:κ):getKV m k=((m.map (·.1)).findIdx? (k= ·)).bind fun i=>(m[i]?).map (·.2):=by
 induction m with
 |nil=>simp[getKV]
 | cons x r ih =>
  obtain⟨k',v⟩:=x;simp only[getKV,List.map_cons,List.findIdx?_cons];by_cases e:k=k'
  ·simp[e]
  ·simp only[e,if_false,decide_false,Bool.false_eq_true];rw[ih];cases(r.map (·.1)).findIdx? (k= ·)<;>simp
theorem zbp(m:List (κ×Value))(k:κ)(v:Value):getKV (putKV m k v) k=some v:=by
 induction m with
 |nil=>simp[putKV,getKV]
 | cons x r ih =>
  obtain⟨k',u⟩:=x;simp only[putKV];by_cases e:k=k'
  ·simp[e,getKV]
  ·simp[e,getKV,ih]
theorem getKV_put_ne(m:List (κ×Value))(k j:κ)(v:Value)(h:j≠k):getKV (putKV m k v) j=getKV m j:=by
 induction m with
 |nil=>simp[putKV,getKV,h]
 | cons x r ih =>
  obtain⟨k',u⟩:=x;simp only[putKV];by_cases e:k=k'
  ·subst e;simp[getKV,h]
  ·simp only[e,if_false,getKV,ih]
theorem getKV_none(m:List (κ×Value))(k:κ):getKV m k=none↔k∉m.map (·.1):=by
 induction m with
 |nil=>simp[getKV]
 | cons x r ih =>
  obtain⟨k',u⟩:=x;simp only[getKV];by_cases e:k=k'
  ·simp[e]
  ·simp[e,ih]
def entOf(enc:κ→Value)(e:κ×Value×Nat):MapEntry:=⟨enc e.1,e.2.1,e.2.2⟩
def kvOf(e:κ×Value×Nat):κ×Value:=(e.1,e.2.1)
def mp(b:Nat)(enc:κ→Value)(m:List (κ×Value)):HP:=fun h=>
 ∃(es:List (κ×Value×Nat)) (clock:Nat),es.map kvOf=m∧(es.map (·.1)).Nodup∧(es.map (·.2.2)).Nodup∧(∀e∈es,e.2.2<clock)∧h=sing b (.map (es.map (entOf enc)).toArray clock)
def mpAt(b:Nat)(enc:κ→Value)(m:List (κ×Value))(k:κ)(s:Nat):HP:=fun h=>
 ∃(es:List (κ×Value×Nat)) (clock:Nat),es.map kvOf=m∧(es.map (·.1)).Nodup∧(es.map (·.2.2)).Nodup∧(∀e∈es,e.2.2<clock)∧(∃v,(k,v,s)∈es)∧h=sing b (.map (es.map (entOf enc)).toArray clock)
def putE(k:κ)(v:Value)(clock:Nat):List (κ×Value×Nat)→List (κ×Value×Nat)
 | []=>[(k,v,clock)]
 |e::r=>if k=e.1 then(k,v,e.2.2)::r else e::putE k v clock r
theorem putE_kv(k:κ)(v:Value)(clock:Nat)(es:List (κ×Value×Nat)):(putE k v clock es).map kvOf=putKV (es.map kvOf) k v:=by
 induction es with
 |nil=>rfl
 | cons e r ih =>
  obtain⟨k',u,s⟩:=e;simp only[putE,List.map_cons,kvOf,putKV];by_cases c:k=k'
  ·simp[c,kvOf]
  ·simp only[c,if_false,List.map_cons,kvOf];rw[←ih]
theorem putE_keys(k:κ)(v:Value)(clock:Nat)(es:List (κ×Value×Nat)):(putE k v clock es).map (·.1)=if k∈es.map (·.1)then es.map (·.1)else es.map (·.1)++[k]:=by
 induction es with
 |nil=>simp[putE]
 | cons e r ih =>
  obtain⟨k',u,s⟩:=e;simp only[putE];exact qcg
theorem putE_borns(k:κ)(v:Value)(clock:Nat)(es:List (κ×Value×Nat)):(putE k v clock es).map (·.2.2)=if k∈es.map (·.1)then es.map (·.2.2)else es.map (·.2.2)++[clock]:=by
 induction es with
 |nil=>simp[putE]
 | cons e r ih =>
  obtain⟨k',u,s⟩:=e;simp only[putE];exact qcg
theorem nodup_snoc{l:List α}{x:α}(h:l.Nodup)(hx:x∉l):(l++[x]).Nodup:=by
 rw[List.nodup_append];exact⟨h,by simp,fun a ha b hb=>by simp at hb;subst hb;rintro rfl;exact hx ha⟩
theorem mem_keys_iff(es:List (κ×Value×Nat))(k:κ):(es.map (·.1)).findIdx? (k= ·)=none↔k∉es.map (·.1):=by
 rw[List.findIdx?_eq_none_iff];constructor
 ·intro h hk;have:=h k hk;simp at this
 ·intro h x hx;simp;rintro rfl;exact h hx
theorem putE_found(enc:κ→Value){k:κ}{v:Value}{clock i:Nat}:∀ {es:List (κ×Value×Nat)},(es.map (·.1)).findIdx? (k= ·)=some i→
  (∃u s,es[i]?=some (k,u,s))∧(putE k v clock es).map (entOf enc)=(es.map (entOf enc)).modify i fun e=>{e with key:=enc k,val:=v}
 | [],h=>by simp at h
 | (k', u, s) :: r, h => by
  simp only[List.map_cons,List.findIdx?_cons]at h
  by_cases c:k=k'
  ·subst c
   simp at h;subst h
   simp[putE,entOf]
  ·simp only[c,decide_false,Bool.false_eq_true,if_false,Option.map_eq_some_iff]at h
   obtain⟨j,hj,rfl⟩:=h
   obtain⟨h1,h2⟩:=putE_found enc (v:=v) (clock:=clock) hj
   refine⟨by simpa using h1,?_⟩
   simp only[putE,c,if_false,List.map_cons,h2,List.modify_succ_cons]
theorem putE_absent(enc:κ→Value){k:κ}{v:Value}{clock:Nat}:∀ {es:List (κ×Value×Nat)},k∉es.map (·.1)→
  putE k v clock es=es++[(k,v,clock)]
 | [],_=>rfl
 | (k', u, s) :: r, h => by
  have c:¬k=k':=fun e=>h (by simp[e])
  have:=putE_absent enc (v:=v) (clock:=clock) (es:=r) (fun e=>h (by simp at e⊢;exact .inr e))
  simp[putE,c,this]
theorem mp_putE{enc:κ→Value}{b:Nat}{k:κ}{es:List (κ×Value×Nat)}(h1:(es.map (·.1)).Nodup)(h2:(es.map (·.2.2)).Nodup)(h3:∀e∈es,e.2.2<clock):((putE k v clock es).map (·.1)).Nodup∧((putE k v clock es).map (·.2.2)).Nodup∧∀e∈putE k v clock es,e.2.2<clock+1:=by
 have _:=b;have _:=enc
 rw[putE_keys,putE_borns];by_cases c:k∈es.map (·.1)
 ·rw[if_pos c,if_pos c];refine⟨h1,h2,fun e he=>?_⟩
  have:=List.mem_map_of_mem (f:=fun e:κ×Value×Nat=>e.2.2) he;rw[putE_borns,if_pos c]at this
  obtain⟨e',he',e2⟩:=List.mem_map.1 this
  have:=h3 e' he';exact qdd
 ·rw[if_neg c,if_neg c];refine⟨nodup_snoc h1 c,nodup_snoc h2 fun hx=>?_,fun e he=>?_⟩
  ·obtain⟨e',he',e2⟩:=List.mem_map.1 hx
   have:=h3 e' he';omega
  ·rw[putE_absent enc c]at he;simp at he;rcases he with he|rfl
   ·have:=h3 e he;omega
   ·simp
end
variable {es:Array MapEntry} {kt et:TypeId} {kv:Value} {zz:Operand}
section rules
variable {P:Program} {base:World} {n:Nat} {L:Env} {f:Frag} {A:List HP} {q:Post}
variable {l rest:List Oper} {d:Nat} {ty:TypeId} {pos:String} {af:Array Edge} {gd:Option (Nat × Bool)}
variable {κ:Type} [DecidableEq κ] {enc:κ→Value}
theorem Sat.mp_at{m:List (κ×Value)}{y:HP}(s:Sat base w f A)(h:At A (mp b enc m) A' y):∃(es:List (κ×Value×Nat)) (clock:Nat),es.map kvOf=m∧(es.map (·.1)).Nodup∧(es.map (·.2.2)).Nodup∧(∀e∈es,e.2.2<clock)∧w.heap[b]?=some (.map (es.map (entOf enc)).toArray clock):=by
 obtain⟨R,h1,_⟩:=h.split;obtain⟨x,hm,_,hw⟩:=s.mem;rw[h1]at hm;obtain⟨m1,m2,_,rfl,⟨es,clock,a1,a2,a3,a4,rfl⟩,_⟩:=hm;exact⟨es,clock,a1,a2,a3,a4,hw b _ ji⟩
theorem Sat.mpAt_at{m:List (κ×Value)}{k:κ}{st:Nat}{y:HP}(s:Sat base w f A)(h:At A (mpAt b enc m k st) A' y):∃(es:List (κ×Value×Nat)) (clock:Nat),es.map kvOf=m∧(es.map (·.1)).Nodup∧(es.map (·.2.2)).Nodup∧(∀e∈es,e.2.2<clock)∧(∃v,(k,v,st)∈es)∧w.heap[b]?=some (.map (es.map (entOf enc)).toArray clock):=by
 obtain⟨R,h1,_⟩:=h.split;obtain⟨x,hm,_,hw⟩:=s.mem;rw[h1]at hm;obtain⟨m1,m2,_,rfl,⟨es,clock,a1,a2,a3,a4,a5,rfl⟩,_⟩:=hm;exact⟨es,clock,a1,a2,a3,a4,a5,hw b _ ji⟩
theorem zbv(h:w.heap[b]?=some (.map es clock)):(getObj b).run P w= .ok (.map es clock) w:=by
 simp[getObj,Sem.run,h]
theorem run_setMap{o:Obj}(h:w.heap[b]?=some (.map es clock)):(setObj b o).run P w= .ok () {w with heap:=w.heap.setIfInBounds b o}:=by
 simp[setObj,Sem.run,h]
theorem keys_entOf(es:List (κ×Value×Nat)):(es.map (entOf enc)).map (·.key)=(es.map (·.1)).map enc:=by
 simp[entOf,Function.comp_def]
theorem found_get(m:List (κ×Value))(es:List (κ×Value×Nat))(hm:es.map kvOf=m)(k:κ):getKV m k=((es.map (·.1)).findIdx? (k= ·)).bind fun i=>((es.map (entOf enc))[i]?).map (·.val):=by
 rw[getKV_idx,←hm];have e1:(es.map kvOf).map (·.1)=es.map (·.1):=by simp[kvOf,Function.comp_def]
 rw[e1];congr 1;funext i;simp[kvOf,entOf,Function.comp_def]
theorem zbo{m:List (κ×Value)}{k:κ}{c:Bool}(hu:Und P t (.map kt et))(hk:KeyT P kt enc)(hz:Zer P et z)
  (s:Sat base w f A) (hA:At A (mp b enc m) A' (mp b enc m)) :
  (Instr.lookup t (.map (some b)) (enc k) c).run P w= .ok (if c then .tuple #[(getKV m k).getD z,.bool (getKV m k).isSome]else(getKV m k).getD z) w:=by
 obtain⟨es,clock,hm,_,_,_,hb⟩:=s.mp_at hA;have hf:=hk.fnd k (es.map (entOf enc)) (es.map (·.1)) w (keys_entOf es);have hg:=found_get (enc:=enc) m es hm k
 unfold Instr.lookup;simp only[Sem.run_bind,hu.run,Result.andThen_ok,zbv hb,Sem.run_pure,hk.chk,List.toList_toArray,hf];rw[hg]
 cases(es.map (·.1)).findIdx? (k= ·)with
 |none=>simp[hz.run]
 | some i =>
  cases hi:(es.map (entOf enc))[i]? with
  | none =>
   simp only[Option.bind_some,hi,Option.map_none,Sem.run_bind,hz.run,Result.andThen_ok,Sem.run_pure,Option.getD_none,Option.isSome_none]
  |some e=>simp only[Option.bind_some,hi,Option.map_some,Sem.run_pure,Result.andThen_ok,Option.getD_some,Option.isSome_some];rfl
theorem Cp{m:List (κ×Value)}{k:κ}[hu:Und P t (.map kt et)][hk:KeyT P kt enc][hz:Zer P et z](hw:want? l L gd=true)
  (hx:ev? L x=some (.map (some b))) (hy:ev? L y=some kv) (hA:At A (mp b enc m) A' (mp b enc m)) (hkv:kv=enc k) (hv:(getKV m k).getD z=v) (hd:Nat.ble (d+1) n=true)
  (kk:H P base n ((d,v)::L) f A (.ops l rest q)):H P base n L f A (.ops l (⟨some d,.lookup t x y false,ty,pos,af,gd⟩::rest) q):=
 AK hw hd (fun a w hfr s=>by
  subst hv;subst hkv
  have h:=zbo (c:=false) (k:=k) hu hk hz s hA
  simp only[execOp,hfr.eval hx,hfr.eval hy,Sem.run_bind,h,Result.andThen_ok,Sem.run_pure]
  rfl) kk
theorem Dw{m:List (κ×Value)}{k:κ}{i:Bool}[hu:Und P t (.map kt et)][hk:KeyT P kt enc][hz:Zer P et z](hw:want? l L gd=true)
  (hx:ev? L x=some (.map (some b))) (hy:ev? L y=some kv) (hA:At A (mp b enc m) A' (mp b enc m)) (hkv:kv=enc k) (hv:(getKV m k).getD z=v) (hi:(getKV m k).isSome=i) (hd:Nat.ble (d+1) n=true)
  (kk:H P base n ((d,.tuple #[v,.bool i])::L) f A (.ops l rest q)):H P base n L f A (.ops l (⟨some d,.lookup t x y true,ty,pos,af,gd⟩::rest) q):=
 AK hw hd (fun a w hfr s=>by
  subst hv;subst hkv;subst hi
  have h:=zbo (c:=true) (k:=k) hu hk hz s hA
  simp only[execOp,hfr.eval hx,hfr.eval hy,Sem.run_bind,h,Result.andThen_ok,Sem.run_pure]
  rfl) kk
theorem H.makeMap{t:TypeId}(enc:κ→Value)(hw:want? l L gd=true)(hd:Nat.ble (d+1) n=true)
  (k:∀b,H P base n ((d,.map (some b))::L) f (mp b enc []::A) (.ops l rest q)):H P base n L f A (.ops l (⟨some d,.makeMap t none,ty,pos,af,gd⟩::rest) q):=
 C0 (fun b=>.map (some b)) (fun _=>f) (fun b=>mp b enc []::A) (fun _=>True) hw hd (fun a w hfr s=>by
  have s':Sat base (w.alloc (.map #[] 0)) f (pts w.heap.size (.map #[] 0)::A):=s.alloc rfl rfl rfl rfl
  refine⟨w.heap.size,w.alloc (.map #[] 0),trivial,?_,s'.imp ?_⟩
  ·simp[execOp,Instr.makeMap]
  ·rintro m ⟨m1,m2,dj,e,a,r⟩
   exact⟨m1,m2,dj,e,⟨[],0,rfl,by simp,by simp,by simp,a⟩,r⟩) (fun b _=>k b)
theorem run_update_mp{m:List (κ×Value)}{k:κ}(hu:Und P t (.map kt et))(hk:KeyT P kt enc)
  (s:Sat base w f A) (hA:At A (mp b enc m) A' (mp b enc (putKV m k v))) :
  ∃w',(Instr.mapUpdate t (.map (some b)) (enc k) v).run P w= .ok () w'∧Sat base w' f A':=by
 obtain⟨es,clock,hm,h1,h2,h3,hb⟩:=s.mp_at hA;have hf:=hk.fnd k (es.map (entOf enc)) (es.map (·.1)) w (keys_entOf es);obtain⟨g1,g2,g3⟩:=mp_putE (enc:=enc) (b:=b) (k:=k) (v:=v) h1 h2 h3
 have hx:∀x,mp b enc m x→∃o,x=sing b o:=by rintro x ⟨_,_,_,_,_,_,rfl⟩;exact⟨_,rfl⟩
 cases hi:(es.map (·.1)).findIdx? (k= ·)with
 | none =>
  have hno:=(mem_keys_iff es k).1 hi;refine⟨{w with heap:=w.heap.setIfInBounds b (.map ((es.map (entOf enc)).toArray.push ⟨enc k,v,clock⟩) (clock+1))},?_,s.turnRow hA hx rfl rfl rfl rfl ?_⟩
  ·unfold Instr.mapUpdate;simp only[Sem.run_bind,hu.run,Result.andThen_ok,zbv hb,hk.chk,List.toList_toArray,hf,hi,Option.bind_none,run_setMap hb]
  ·refine⟨putE k v clock es,clock+1,by rw[putE_kv,hm],g1,g2,g3,?_⟩;exact qdv
 | some i =>
  obtain⟨⟨u,st,hes⟩,hmod⟩:=putE_found enc (v:=v) (clock:=clock) hi;have hei:(es.map (entOf enc))[i]?=some (entOf enc (k,u,st)):=by simp[hes]
  have g3':∀e∈putE k v clock es,e.2.2<clock:=fun e he=>by
   have hin:k∈es.map (·.1):=by
    have:=List.mem_of_getElem? hes;exact List.mem_map.2 ⟨_,this,rfl⟩
   have:=List.mem_map_of_mem (f:=fun e:κ×Value×Nat=>e.2.2) he;rw[putE_borns,if_pos hin]at this
   obtain⟨e',he',e2⟩:=List.mem_map.1 this
   have:=h3 e' he';exact qdd
  refine⟨{w with heap:=w.heap.setIfInBounds b (.map ((es.map (entOf enc)).toArray.modify i fun e=>{e with key:=enc k,val:=v}) clock)},?_,s.turnRow hA hx rfl rfl rfl rfl ?_⟩
  ·unfold Instr.mapUpdate;simp only[Sem.run_bind,hu.run,Result.andThen_ok,zbv hb,hk.chk,List.toList_toArray,hf,hi,Option.bind_some,hei,Option.map_some]
   have hks:(Instr.keyThatStays (((es.map (entOf enc)).toArray[i]?).map (·.key) |>.getD (enc k)) (enc k)).run P w= .ok (enc k) w:=qbP
   simp only[hks,Result.andThen_ok,run_setMap hb]
  ·refine⟨putE k v clock es,clock,by rw[putE_kv,hm],g1,g2,g3',?_⟩;rw[hmod];congr 2;simp
theorem CN{m:List (κ×Value)}{k:κ}[hu:Und P t (.map kt et)][hk:KeyT P kt enc](hw:want? l L gd=true)
  (hx:ev? L x=some (.map (some b))) (hy:ev? L y=some kv) (hz:ev? L zz=some v) (hA:At A (mp b enc m) A' (mp b enc (putKV m k v))) (hkv:kv=enc k)
  (kk:H P base n L f A' (.ops l rest q)):H P base n L f A (.ops l (⟨none,.mapUpdate t x y zz,ty,pos,af,gd⟩::rest) q):=
 Cm hw (fun a w hfr s=>by
  subst hkv
  obtain⟨w',h1,h2⟩:=run_update_mp hu hk s hA
  exact⟨w',by simp only[execOp,hfr.eval hx,hfr.eval hy,hfr.eval hz,Sem.run_bind,h1,Result.andThen_ok,Sem.run_pure],h2⟩) kk
theorem Dx{m:List (κ×Value)}{k:κ}[hu:Und P t (.map kt et)][hk:KeyT P kt enc](hw:want? l L gd=true)
  (hx:ev? L x=some (.map (some b))) (hy:ev? L y=some kv) (hz:ev? L zz=some v) (hA:At A (mp b enc m) A' (mp b enc (putKV m k v))) (hkv:kv=enc k)
  (kk:H P base n L f A' (.ops l rest q)):H P base n L f A (.ops l (⟨none,.insert t x y zz,ty,pos,af,gd⟩::rest) q):=
 Cm hw (fun a w hfr s=>by
  subst hkv
  obtain⟨w',h1,h2⟩:=run_update_mp hu hk s hA
  exact⟨w',by simp only[execOp,hfr.eval hx,hfr.eval hy,hfr.eval hz,Sem.run_bind,h1,Result.andThen_ok,Sem.run_pure],h2⟩) kk
theorem Ex{m:List (κ×Value)}[hu:Und P t (.map kt et)](hw:want? l L gd=true)
  (hx:ev? L x=some (.map (some b))) (hA:At A (mp b enc m) A' (mp b enc m)) (hd:Nat.ble (d+1) n=true)
  (kk:H P base n ((d,.int .i64 (m.length:Nat))::L) f A (.ops l rest q)):H P base n L f A (.ops l (⟨some d,.call ⟨.builtin .len,#[x],#[t]⟩,ty,pos,af,gd⟩::rest) q):=
 AK hw hd (fun a w hfr s=>by
  obtain⟨es,clock,hm,_,_,_,hb⟩:=s.mp_at hA
  subst hm
  simp[execOp,resolve,invoke,builtin,Builtin.len_,hfr.eval hx,hu.run,goInt,zbv hb]) kk
theorem run_entry_mp{A':Nat→List HP}{m:List (κ×Value)}{k:κ}(hu:Und P t (.map kt et))(hk:KeyT P kt enc)(hz:Zer P et z)
  (s:Sat base w f A) (hA:∀st,At A (mp b enc m) (A' st) (mpAt b enc (putKV m k ((getKV m k).getD z)) k st)) :
  ∃st w',(Instr.mapEntry t (.map (some b)) (enc k)).run P w= .ok (.tuple #[(getKV m k).getD z,.int .i64 (st:Nat)]) w'∧Sat base w' f (A' st):=by
 obtain⟨es,clock,hm,h1,h2,h3,hb⟩:=s.mp_at (hA 0);have hf:=hk.fnd k (es.map (entOf enc)) (es.map (·.1)) w (keys_entOf es);have hg:=found_get (enc:=enc) m es hm k
 obtain⟨g1,g2,g3⟩:=mp_putE (enc:=enc) (b:=b) (k:=k) (v:=(getKV m k).getD z) h1 h2 h3;have hx:∀x,mp b enc m x→∃o,x=sing b o:=by rintro x ⟨_,_,_,_,_,_,rfl⟩;exact⟨_,rfl⟩
 cases hi:(es.map (·.1)).findIdx? (k= ·)with
 | none =>
  have hno:=(mem_keys_iff es k).1 hi;rw[hi]at hg
  simp only[Option.bind_none]at hg;rw[hg]at g1 g2 g3⊢;rw[hg]at hA;refine⟨clock,{w with heap:=w.heap.setIfInBounds b (.map ((es.map (entOf enc)).toArray.push ⟨enc k,z,clock⟩) (clock+1))},?_,s.turnRow (hA clock) hx rfl rfl rfl rfl ?_⟩
  ·unfold Instr.mapEntry;simp only[Sem.run_bind,hu.run,Result.andThen_ok,zbv hb,hk.chk,List.toList_toArray,hf,hi,Option.bind_none,hz.run,run_setMap hb,Sem.run_pure,goInt,Option.getD_none]
  ·refine⟨putE k z clock es,clock+1,by rw[putE_kv,hm];rfl,g1,g2,g3,⟨z,?_⟩,?_⟩
   ·rw[putE_absent enc hno];simp
   ·exact qdv
 | some i =>
  obtain⟨⟨u,st,hes⟩,_⟩:=putE_found enc (v:=z) (clock:=clock) hi;have hei:(es.map (entOf enc))[i]?=some (entOf enc (k,u,st)):=by simp[hes]
  have hgu:(getKV m k).getD z=u:=by rw[hg,hi];simp[hes,entOf]
  obtain⟨_,hmod⟩:=putE_found enc (v:=u) (clock:=clock) hi;rw[hgu]at g1 g2 g3⊢;rw[hgu]at hA;have hin:k∈es.map (·.1):=List.mem_map.2 ⟨_,List.mem_of_getElem? hes,rfl⟩
  have g3':∀e∈putE k u clock es,e.2.2<clock:=fun e he=>by
   have:=List.mem_map_of_mem (f:=fun e:κ×Value×Nat=>e.2.2) he;rw[putE_borns,if_pos hin]at this
   obtain⟨e',he',e2⟩:=List.mem_map.1 this
   have:=h3 e' he';exact qdd
  have hmem:∀(es:List (κ×Value×Nat)) (i:Nat),es[i]?=some (k,u,st)→(es.map (·.1)).findIdx? (k= ·)=some i→(k,u,st)∈putE k u clock es:=by
   intro es
   induction es with
   |nil=>intro i h;simp at h
   | cons e r ih =>
    intro i h hi;obtain⟨k',u',s'⟩:=e;simp only[List.map_cons,List.findIdx?_cons]at hi;by_cases c:k=k'
    ·subst c;simp at hi;subst hi;simp at h;simp[putE,h.2]
    ·simp only[c,decide_false,Bool.false_eq_true,if_false,Option.map_eq_some_iff]at hi;obtain⟨j,hj,rfl⟩:=hi
     have:=ih j jc hj;simp[putE,c,this]
  refine⟨st,{w with heap:=w.heap.setIfInBounds b (.map ((es.map (entOf enc)).toArray.modify i fun e=>{e with key:=enc k}) clock)},?_,s.turnRow (hA st) hx rfl rfl rfl rfl ?_⟩
  ·unfold Instr.mapEntry;simp only[Sem.run_bind,hu.run,Result.andThen_ok,zbv hb,hk.chk,List.toList_toArray,hf,hi,Option.bind_some,hei,Option.map_some]
   have hks:(Instr.keyThatStays (((es.map (entOf enc)).toArray[i]?).map (·.key) |>.getD (enc k)) (enc k)).run P w= .ok (enc k) w:=qbP
   have hks2:(Instr.keyThatStays (enc k) (enc k)).run P w= .ok (enc k) w:=by
    unfold Instr.keyThatStays;simp only[hk.same,if_true,Sem.run_pure]
   have _:=hks;simp only[Result.andThen_ok,Sem.run_pure,goInt,List.getElem?_toArray,hei,Option.map_some,Option.getD_some,entOf,hks2]
   rw[run_setMap hb];rfl
  ·refine⟨putE k u clock es,clock,by rw[putE_kv,hm],g1,g2,g3',⟨u,hmem es i hes hi⟩,?_⟩;rw[hmod];congr 2;rw[List.modify_toArray];congr 1;apply List.ext_getElem?;intro j;simp only[List.getElem?_modify];by_cases c:i=j
   ·subst c;simp[hei,entOf]
   ·simp[c]
theorem H.mapEntry{m:List (κ×Value)}{k:κ}{A':Nat→List HP}[hu:Und P t (.map kt et)][hk:KeyT P kt enc][hz:Zer P et z](hw:want? l L gd=true)
  (hx:ev? L x=some (.map (some b))) (hy:ev? L y=some kv) (hA:∀st,At A (mp b enc m) (A' st) (mpAt b enc (putKV m k ((getKV m k).getD z)) k st)) (hkv:kv=enc k) (hd:Nat.ble (d+1) n=true)
  (kk:∀st:Nat,H P base n ((d,.tuple #[(getKV m k).getD z,.int .i64 st])::L) f (A' st) (.ops l rest q)):H P base n L f A (.ops l (⟨some d,.mapEntry t x y,ty,pos,af,gd⟩::rest) q):=
 C0 (fun st=>.tuple #[(getKV m k).getD z,.int .i64 (st:Nat)]) (fun _=>f) A' (fun _=>True) hw hd (fun a w hfr s=>by
  subst hkv
  obtain⟨st,w',h1,h2⟩:=run_entry_mp hu hk hz s hA
  exact⟨st,w',trivial,by simp only[execOp,hfr.eval hx,hfr.eval hy,Sem.run_bind,h1,Result.andThen_ok,Sem.run_pure],h2⟩) (fun st _=>kk st)
theorem findIdx_born(enc:κ→Value)(st:Nat)(k:κ):∀(es:List (κ×Value×Nat)),(es.map (·.1)).Nodup→(es.map (·.2.2)).Nodup→(∃v,(k,v,st)∈es)→
  (es.map (entOf enc)).findIdx? (fun e=>(e.born:Int) == (st:Int))=(es.map (·.1)).findIdx? (k= ·)
 | [],_,_,h=>by obtain⟨v,h⟩:=h;simp at h
 | (k', u, s') :: r, h1, h2, h => by
  obtain⟨v,h⟩:=h
  simp only[List.map_cons,List.nodup_cons]at h1 h2
  simp only[List.map_cons,List.findIdx?_cons,entOf]
  by_cases c:k=k'
  ·subst c
   have:s'=st:=by
    simp only[List.mem_cons,Prod.mk.injEq,true_and]at h;rcases h with h|h
    ·exact h.2.symm
    ·exact absurd (List.mem_map.2 ⟨_,h,rfl⟩) h1.1
   subst this
   simp
  ·have h':(k,v,st)∈r:=by
    simp only[List.mem_cons,Prod.mk.injEq]at h
    rcases h with h|h
    ·exact absurd h.1 c
    ·exact h
   have c2:¬s'=st:=by
    rintro rfl
    exact h2.1 (List.mem_map.2 ⟨_,h',rfl⟩)
   have c3:((s':Int) == (st:Int))=false:=by
    rw[beq_eq_false_iff_ne];omega
   rw[findIdx_born enc st k r h1.2 h2.2 ⟨v,h'⟩]
   simp[c,c3]
theorem H.entryStore{t:TypeId}{x y zz:Operand}{b st:Nat}{m:List (κ×Value)}{k:κ}{v:Value}{A':List HP}(hw:want? l L gd=true)
  (hx:ev? L x=some (.map (some b))) (hy:ev? L y=some (.int .i64 (st:Nat))) (hz:ev? L zz=some v) (hA:At A (mpAt b enc m k st) A' (mp b enc (putKV m k v)))
  (kk:H P base n L f A' (.ops l rest q)):H P base n L f A (.ops l (⟨none,.entryStore t x y zz,ty,pos,af,gd⟩::rest) q):=
 Cm hw (fun a w hfr s=>by
  obtain⟨es,clock,hm,h1,h2,h3,h4,hb⟩:=s.mpAt_at hA
  have hfi:=findIdx_born enc st k es h1 h2 h4
  have hxx:∀x,mpAt b enc m k st x→∃o,x=sing b o:=by rintro x ⟨_,_,_,_,_,_,_,rfl⟩;exact⟨_,rfl⟩
  cases hi:(es.map (·.1)).findIdx? (k= ·)with
  | none =>
   obtain⟨u,hu⟩:=h4
   exact absurd (List.mem_map.2 ⟨_,hu,rfl⟩) ((mem_keys_iff es k).1 hi)
  | some i =>
   obtain⟨⟨u,st',hes⟩,hmod⟩:=putE_found enc (v:=v) (clock:=clock) hi
   have hei:(es.map (entOf enc))[i]?=some (entOf enc (k,u,st')):=by simp[hes]
   have hin:k∈es.map (·.1):=List.mem_map.2 ⟨_,List.mem_of_getElem? hes,rfl⟩
   obtain⟨g1,g2,_⟩:=mp_putE (enc:=enc) (b:=b) (k:=k) (v:=v) h1 h2 h3
   have g3':∀e∈putE k v clock es,e.2.2<clock:=fun e he=>by
    have:=List.mem_map_of_mem (f:=fun e:κ×Value×Nat=>e.2.2) he
    rw[putE_borns,if_pos hin]at this
    obtain⟨e',he',e2⟩:=List.mem_map.1 this
    have:=h3 e' he'
    have e2:e'.2.2=e.2.2:=e2
    omega
   refine⟨{w with heap:=w.heap.setIfInBounds b (.map ((es.map (entOf enc)).toArray.modify i fun e=>{e with val:=v}) clock)},?_,s.turnRow hA hxx rfl rfl rfl rfl ?_⟩
   ·rw[hi]at hfi
    have hfi':Array.findIdx? (fun e:MapEntry=>(e.born:Int) == (st:Int)) (es.map (entOf enc)).toArray=some i:=by simpa using hfi
    simp only[execOp,hfr.eval hx,hfr.eval hy,hfr.eval hz,Instr.entryStore,Sem.run_bind,zbv hb,asInt,asIntOf,Result.andThen_ok,Sem.run_pure,hfi',run_setMap hb]
   ·refine⟨putE k v clock es,clock,by rw[putE_kv,hm],g1,g2,g3',?_⟩
    rw[hmod]
    congr 2
    rw[List.modify_toArray]
    congr 1
    apply List.ext_getElem?
    intro j
    simp only[List.getElem?_modify]
    by_cases c:i=j
    ·subst c;simp[hei,entOf]
    ·simp[c]) kk
theorem keyT_int(hu:Und P kt (.int ik)):KeyT P kt (fun k:Int=>Value.int ik k) where
 chk:=fun k e w=>by
  have h:∀m,(Instr.checkKey e (m+1) kt (.int ik k)).run P w= .ok () w:=fun m=>by
   simp[Instr.checkKey,hu.run]
  exact h 9999
 same:=fun k=>by
  have:∀m,Instr.sameBits m (.int ik k) (.int ik k)=true:=fun m=>by cases m<;>simp[Instr.sameBits]
  exact this 10000
 fnd:=fun k es ks w h=>by
  have key:∀(es:List MapEntry) (ks:List Int) (j:Nat),es.map (·.key)=ks.map (fun k:Int=>Value.int ik k)→
    Instr.findNow (.int ik) (.int ik k) es j=some ((ks.findIdx? (k= ·)).bind fun i=>(es[i]?).map fun e=>(j+i,e.val)):=by
   intro es
   induction es with
   |nil=>intro ks j h;cases ks<;>simp at h;simp[Instr.findNow]
   | cons e r ih =>
    intro ks j h
    cases ks with
    |nil=>simp at h
    | cons k' ks =>
     simp only[List.map_cons,List.cons.injEq]at h;simp only[Instr.findNow,h.1,Instr.sameNow,if_true,List.findIdx?_cons];by_cases c:k=k'
     ·simp[c]
     ·have:(k == k')=false:=by simpa using c
      simp only[this,ih ks (j+1) h.2,c,decide_false,Bool.false_eq_true,if_false]
      cases ks.findIdx? (k= ·)with
      |none=>simp
      |some i=>simp[Nat.add_assoc,Nat.add_comm 1]
  unfold Instr.findKey
  have:=key es ks 0 h
  simp only[Nat.zero_add]at this
  simp only[Sem.run_bind,hu.run,Result.andThen_ok,this,Sem.run_pure]
end rules
variable {oi:Oper} {ops:Array Oper} {listed:Array Bool} {fuel:Nat}
section
variable {P:Program} {ops:Array Oper} {Q:Exit→Act→World→Prop} {C:World→Prop}
def wpAnyC(P:Program)(C:World→Prop)(ops:Array Oper)(Q:Exit→Act→World→Prop)(cut:Array Bool):Nat→Array Bool→Act→World→Prop
 |0,listed,a,w=>C w∧Region.ready .any ops listed=[]∧Q .normal a w
 | fuel + 1, listed, a, w => C w ∧ if listed = cut then wpAny P .any ops Q (fuel + 1) listed a w else ((Region.ready .any ops listed = [] → Q .normal a w) ∧
  ∀i∈Region.ready .any ops listed,wpOp P ops Q i (wpAnyC P C ops Q cut fuel (listed.setIfInBounds i true)) a w)
theorem wpAnyC.any{cut:Array Bool}:∀(fuel:Nat) (listed:Array Bool) (a:Act) (w:World),wpAnyC P C ops Q cut fuel listed a w→wpAny P .any ops Q fuel listed a w
 |0,_,_,_,h=>h.2
 | fuel + 1, listed, _, _, h => by
  have h2:=h.2
  split at h2
  ·exact h2
  ·exact⟨h2.1,fun i hi=>wpOp_mono (fun a w=>wpAnyC.any fuel _ a w) (h2.2 i hi)⟩
def YieldsC(P:Program)(C:World→Prop)(ops:Array Oper)(o:Oper)(v:Value)(a:Act):Prop:=
 (Region.wanted o (yielded ops a.tmps)=true∧∀w,C w→(execOp a.eval o).run P w= .ok (.value v) w)∨
 (Region.wanted o (yielded ops a.tmps)=false∧v=undef)
theorem YieldsC.wpOp{i:Nat}{o:Oper}{v:Value}{a:Act}(hi:ops[i]?=some o)(hy:YieldsC P C ops o v a)
  {K:Act→World→Prop} {w:World} (hc:C w) (h:K (a.put o.dst v) w):wpOp P ops Q i K a w:=by
 unfold Go.wpOp;simp only[hi];rcases hy with⟨hw,hv⟩|⟨hw,rfl⟩
 ·simp only[hw,if_true,Oper.wp,hv w hc,Oper.upon];exact .inl h
 ·simp only[hw,Bool.false_eq_true,if_false];exact h
theorem YieldsC.of_same{a':Act}(hy:YieldsC P C ops o v a)(he:execOp a'.eval o=execOp a.eval o)
  (hw:Region.wanted o (yielded ops a'.tmps)=Region.wanted o (yielded ops a.tmps)):YieldsC P C ops o v a':=by
 unfold YieldsC at *;rw[he,hw];exact hy
theorem wpOp_putC{oj:Oper}(hj:ops[j]?=some oj)(hap:oi.apart ops oj=true)
  (hsi:∀cs b,oi.op≠ .select cs b) (hsj:∀cs b,oj.op≠ .select cs b)
  (hQ:∀c a w,Q (.panic c) (a.put oi.dst v) w→Q (.panic c) a w) {K:Act→World→Prop}
  (hy:YieldsC P C ops oi v a) (h:wpOp P ops Q j K (a.put oi.dst v) w) :
  wpOp P ops Q j (fun a' w'=>YieldsC P C ops oi v a'∧K (a'.put oi.dst v) w') a w:=by
 obtain⟨h1,h2,h3⟩:=Oper.apart_spec hap
 have keep:∀(a:Act),YieldsC P C ops oi v a→∀u,YieldsC P C ops oi v (a.put oj.dst u):=fun a hy u=>
  hy.of_same (execOp_put oi hsi a oj.dst u h3) (wanted_put oi a oj.dst u h3)
 have keepD:∀d,YieldsC P C ops oi v {a with defers:=d::a.defers}:=fun d=>hy.of_same rfl rfl;unfold wpOp at *
 simp only[hj]at *;rw[wanted_put oj a oi.dst v h1]at h;split
 ·rename_i hw
  simp only[hw,if_true]at h;rcases h with h|⟨hasks,hlets⟩;case inr=>exact .inr ⟨by unfold Oper.asks at *;rw[execOp_put oj hsj a oi.dst v h1]at hasks;exact hasks,hlets⟩
  refine .inl ?_;unfold Oper.wp at *;rw[execOp_put oj hsj a oi.dst v h1]at h;generalize(execOp a.eval oj).run P w=r at *
  cases r with
  | ok n w' =>
   cases n<;>simp only[Oper.upon]at h⊢
   case value u=>exact⟨keep a hy u,by rw[←Act.put_comm a v u h2];exact h⟩
   case skip=>exact⟨keep a hy _,by rw[←Act.put_comm a v undef h2];exact h⟩
   case defer d=>
    refine⟨keep _ (keepD d) _,?_⟩;rw[←Act.put_comm _ v undef h2,←Act.put_defers];exact h
   case enter f args=>
    refine Calls.mono h fun e w'' he=>?_
    cases e with
    |returned u=>exact⟨keep a hy u,by rw[←Act.put_comm a v u h2];exact he⟩
    |panicked c=>exact hQ _ _ _ he
    |outgrown=>exact he
   case row row args=>exact Rows.mono h fun u w'' he=>⟨keep a hy u,by rw[←Act.put_comm a v u h2];exact he⟩
  | halt x w' =>
   cases x<;>simp only[Oper.upon]at h⊢
   case panic u=>exact hQ _ _ _ h
 ·rename_i hw
  simp only[hw]at h;exact⟨keep a hy _,by rw[←Act.put_comm a v undef h2];exact h⟩
def closedB(ops:Array Oper)(listed:Array Bool):Bool:=(List.range ops.size).all fun k=>!listed.getD k false||match ops[k]? with
 |some o=>o.after.all fun e=>!Region.binds .any e||listed.getD e.on false
 |none=>true
def Closed(ops:Array Oper)(listed:Array Bool):Prop:=∀(k:Nat) (o:Oper),ops[k]?=some o→listed.getD k false=true→∀e∈o.after,Region.binds .any e=true→listed.getD e.on false=true
theorem closed_of(h:closedB ops listed=true):Closed ops listed:=fun k o ho hk e he hb=>by
 have hlt:k<ops.size:=(Array.getElem?_eq_some_iff.1 ho).1
 have:=List.all_eq_true.1 h k (List.mem_range.2 hlt)
 rw[ho,hk]at this
 simp only[Bool.not_true,Bool.false_or,Array.all_eq_true_iff_forall_mem]at this
 have h2:=this e he
 rw[hb]at h2
 simpa using h2
theorem Closed.put(h:Closed ops listed)(hj:j∈Region.ready .any ops listed):Closed ops (listed.setIfInBounds j true):=fun k o ho hk e he hb=>by
 obtain⟨hjun,oj,hoj,hall⟩:=mem_ready.1 hj
 have key:∀m,listed.getD m false=true→(listed.setIfInBounds j true).getD m false=true:=fun m hm=>by
  by_cases c:j=m
  ·subst c
   have:j<listed.size:=by
    rcases Nat.lt_or_ge j listed.size with h'|h'
    ·exact h'
    ·simp[Array.getElem?_eq_none h']at hm
   simp[this]
  ·rw[getD_set_ne false c];exact hm
 by_cases c:j=k
 ·subst c
  rw[hoj]at ho
  cases ho
  exact key _ (hall e he hb)
 ·rw[getD_set_ne false c]at hk
  exact key _ (h k o ho hk e he hb)
def barB(ops:Array Oper)(cut:Array Bool)(i:Nat):Bool:=
 cut.size == 0||(cut.getD i false&&(((List.range ops.size).any fun k=>!(k == i)&&cut.getD k false&&match ops[k]? with
  |some o=>o.after.any fun e=>Region.binds .any e&&e.on == i
  |none=>false)||(Region.ready .any ops (cut.setIfInBounds i false)).all fun j=>j == i||cut.getD j false))
theorem ready_false{i:Nat}(hi:i∈Region.ready .any ops listed):listed.getD i true=false:=(mem_ready.1 hi).1
theorem getD_both{l:Array Bool}{i:Nat}(h:l.getD i true=false):i<l.size∧l.getD i false=false:=by
 rcases Nat.lt_or_ge i l.size with h'|h'
 ·exact⟨h',by simpa [h']using h⟩
 ·simp[Array.getElem?_eq_none h']at h
theorem barB_ne{cut:Array Bool}{i:Nat}(h:barB ops cut i=true)(hi:i∈Region.ready .any ops listed):listed≠cut:=by
 rintro rfl;have h1:=getD_both (ready_false hi);unfold barB at h
 rw[h1.2]at h;simp at h
 have:=h1.1;rw[h]at this
 simp at this
theorem barB_two{cut:Array Bool}{i:Nat}(h:barB ops cut i=true)(hcl:Closed ops listed)(hi:i∈Region.ready .any ops listed)(hj:j∈Region.ready .any ops listed)(hji:j≠i):listed.setIfInBounds i true≠cut:=by
 intro e;have h1:=getD_both (ready_false hi);have h2:=getD_both (ready_false hj)
 have e2:cut.setIfInBounds i false=listed:=by
  rw[←e];apply Array.ext_getElem?;intro k;by_cases hk:i=k
  ·subst hk
   have:=h1.1;have h3:=h1.2
   simp[this]at h3;simp[this,h3]
  ·rw[Array.getElem?_setIfInBounds_ne hk,Array.getElem?_setIfInBounds_ne hk]
 unfold barB at h;rw[e2]at h;have hs:cut.size=listed.size:=by rw[←e];simp
 have h4:(cut.size == 0)=false:=by
  have:=h1.1;rw[beq_eq_false_iff_ne];omega
 rw[h4,Bool.false_or,Bool.and_eq_true,Bool.or_eq_true]at h;rcases h.2 with hdep|h7
 ·obtain⟨k,hk,hk2⟩:=List.any_eq_true.1 hdep;simp only[Bool.and_eq_true,Bool.not_eq_true',beq_eq_false_iff_ne]at hk2;obtain⟨⟨hki,hck⟩,hm⟩:=hk2
  have hlk:listed.getD k false=true:=by
   rw[←e,getD_set_ne false (Ne.symm hki)]at hck;exact hck
  cases ho:ops[k]? with
  |none=>rw[ho]at hm;cases hm
  | some o =>
   rw[ho]at hm;obtain⟨x,hx,hx2⟩:=Array.any_eq_true'.1 hm;simp only[Bool.and_eq_true,beq_iff_eq]at hx2
   have:=hcl k o ho hlk x hx hx2.1;rw[hx2.2,h1.2]at this
   cases this
 have h5:=List.all_eq_true.1 h7 j hj
 have h6:cut.getD j false=false:=by
  rw[←e,getD_set_ne false (Ne.symm hji)];exact h2.2
 rw[h6]at h5;simp at h5;exact hji h5
theorem wpAnyC_first{cut:Array Bool}{i:Nat}(hi:ops[i]?=some oi)(hsel:∀(j:Nat) (o:Oper) cs b,ops[j]?=some o→o.op≠ .select cs b)
  (hQ:∀c a w,Q (.panic c) (a.put oi.dst v) w→Q (.panic c) a w) (hbar:barB ops cut i=true) :
  ∀(fuel:Nat) (listed:Array Bool) (a:Act) (w:World),
   (∀j oj,ops[j]?=some oj→j≠i→listed.getD j true=false→(∀e∈oj.after,Region.binds .any e=true→e.on≠i)→oi.apart ops oj=true)→
   i∈Region.ready .any ops listed→Closed ops listed→YieldsC P C ops oi v a→
   wpAnyC P C ops Q cut fuel (listed.setIfInBounds i true) (a.put oi.dst v) w→wpAnyC P C ops Q cut (fuel+1) listed a w:=by
 intro fuel
 induction fuel with
 | zero =>
  intro listed a w _ hr hcl hy H;refine⟨H.1,?_⟩;rw[if_neg (barB_ne hbar hr)];refine⟨fun h=>(by rw[h]at hr;cases hr),fun j hj=>?_⟩;by_cases hji:j=i
  ·subst hji;exact hy.wpOp hi H.1 H
  ·have:=ready_mono hj hji;rw[H.2.1]at this
   cases this
 | succ fuel ih =>
  intro listed a w hfree hr hcl hy H;refine⟨H.1,?_⟩;rw[if_neg (barB_ne hbar hr)];refine⟨fun h=>(by rw[h]at hr;cases hr),fun j hj=>?_⟩;by_cases hji:j=i
  ·subst hji;exact hy.wpOp hi H.1 H
  ·have H2:=H.2;rw[if_neg (barB_two hbar hcl hr hj hji)]at H2
   have h1:=H2.2 j (ready_mono hj hji);obtain⟨hjun,oj,hoj,hall⟩:=mem_ready.1 hj
   have hnot:∀e∈oj.after,Region.binds .any e=true→e.on≠i:=fun e he hb heq=>by
    have h1:=hall e he hb;have h0:=(mem_ready.1 hr).1
    rw[heq]at h1;rcases Nat.lt_or_ge i listed.size with h'|h'
    ·simp[h']at h0 h1;rw[h0]at h1;cases h1
    ·simp[Array.getElem?_eq_none h']at h1
   have h2:=wpOp_putC hoj (hfree j oj hoj hji hjun hnot) (fun cs b=>hsel i oi cs b hi) (fun cs b=>hsel j oj cs b hoj) hQ hy h1
   have hfree':∀k ok,ops[k]?=some ok→k≠i→(listed.setIfInBounds j true).getD k true=false→
     (∀e∈ok.after,Region.binds .any e=true→e.on≠i)→oi.apart ops ok=true:=fun k ok hk hki hun hno=>by
    refine hfree k ok hk hki ?_ hno
    by_cases hjk:j=k
    ·subst hjk;exact hjun
    ·rw[getD_set_ne true hjk]at hun;exact hun
   refine wpOp_mono (fun a' w' h3=>ih (listed.setIfInBounds j true) a' w' hfree' (ready_mono hr (Ne.symm hji)) (hcl.put hj) h3.1 ?_) h2;rw[Array.setIfInBounds_comm _ _ hji];exact h3.2
theorem wpAnyC_take{cut:Array Bool}{i:Nat}(hi:ops[i]?=some oi)
  (hs:Region.noSelect ops=true) (hf:Region.free .any ops listed i=true) (hbar:barB ops cut i=true) (hcl:closedB ops listed=true) (hr:(Region.ready .any ops listed).contains i=true)
  (hQ:∀c a w,Q (.panic c) (a.put oi.dst v) w→Q (.panic c) a w) (hy:YieldsC P C ops oi v a)
  (h:wpAnyC P C ops Q cut fuel (listed.setIfInBounds i true) (a.put oi.dst v) w):wpAnyC P C ops Q cut (fuel+1) listed a w:=
 wpAnyC_first hi (Region.noSelect_spec hs) hQ hbar fuel listed a w (Region.free_spec hi hf) (by simpa using hr) (closed_of hcl) hy h
theorem wpAnyC_one{cut:Array Bool}{i:Nat}(hr:Region.ready .any ops listed=[i])(hne:listed≠cut)(hc:C w)
  (h:wpOp P ops Q i (wpAnyC P C ops Q cut fuel (listed.setIfInBounds i true)) a w):wpAnyC P C ops Q cut (fuel+1) listed a w:=by
 refine⟨hc,?_⟩;rw[if_neg hne];exact⟨(fun h0=>by rw[hr]at h0;simp at h0),(fun j hj=>by rw[hr]at hj;simp at hj;subst hj;exact h)⟩
end
structure Lst where
 a:Array Bool
 cut:Array Bool
 left:Nat
 /-- The rest is gone through otherwise. -/
 opn:Bool
def Lst.setIfInBounds(l:Lst)(i:Nat)(b:Bool):Lst:=⟨l.a.setIfInBounds i b,l.cut,l.left,l.opn⟩
def ordOK(ops:Array Oper):Lst→List (Nat×Bool)→Bool
 | listed, [] => match listed.opn with
  |true=>true
  | false => match listed.left with
   |0=>Region.ready .any ops listed.a == []
   |_+1=>listed.a == listed.cut
 |listed,(i,true)::r=>Region.ready .any ops listed.a == [i]&&(listed.a !=listed.cut)&&ordOK ops (listed.setIfInBounds i true) r
 |listed,(i,false)::r=>(Region.ready .any ops listed.a).contains i&&Region.free .any ops listed.a i&&barB ops listed.cut i&&closedB ops listed.a&&ordOK ops (listed.setIfInBounds i true) r
def pickOps(l:List Oper):List (Nat×Bool)→List Oper
 | []=>[]
 | (i, _) :: r => match getO l i with
  |some o=>o::pickOps l r
  |none=>[]
def Post.blind(P:Program)(q:Post):Prop:=∀(c:List PanicEntry) (a:Act) (dst:Option Tmp) (v:Value) (w:World),q.den P (.panic c) (a.put dst v) w→q.den P (.panic c) a w
structure Ext where
 listed:Lst
 todo:List (Nat×Bool)
structure HQ(V:List HP)(ξ:Ext)(P:Program)(base:World)(n:Nat)(L:Env)(f:Frag)(S:List HP)(K:Kont):Prop where
 out:∀l q,K= .ops l (pickOps l ξ.todo) q→Region.noSelect l.toArray=true→q.blind P→ordOK l.toArray ξ.listed ξ.todo=true→(∀t∈ξ.todo,(getO l t.1).isSome)→
  ∀a w,Fr n a L→Sat base w f (S++V)→wpAnyC P (fun w=>∃V,Sat base w f (S++V)) l.toArray (q.den P) ξ.listed.cut (ξ.todo.length+ξ.listed.left) ξ.listed.a a w
variable {B S V:List HP} {ti id:Nat} {tt:List (Nat × Bool)} {lst:Lst}
section rules
variable {P:Program} {base:World} {n:Nat} {L:Env} {f:Frag} {A V:List HP} {q:Post} {ξ:Ext}
variable {l rest:List Oper} {d:Nat} {ty:TypeId} {pos:String} {af:Array Edge} {gd:Option (Nat × Bool)}
theorem sat_left(s:Sat base w f (A++B)):Sat base w f A:=by
 obtain⟨a1,a2,a3,a4,a5,m,hm,hd,hw⟩:=s;rw[zbz]at hm;obtain⟨m1,m2,dj,rfl,h1,_⟩:=hm;exact⟨a1,a2,a3,a4,a5,m1,h1,(Dj.un_right.1 hd).1,fun k o hk=>hw k o (by simp[un,hk])⟩
theorem As{op:Op}(hw:want? l L gd=true)(hd:Nat.ble (d+1) n=true)
  (hx:∀a w,Fr n a L→Sat base w f A→(execOp a.eval ⟨some d,op,ty,pos,af,gd⟩).run P w= .ok (.value v) w)
  {ls:Lst}
  (k:HQ V ⟨ls.setIfInBounds ti true,tt⟩ P base n ((d,v)::L) f A (.ops l rest q)):HQ V ⟨ls,(ti,false)::tt⟩ P base n L f A (.ops l (⟨some d,op,ty,pos,af,gd⟩::rest) q):=.mk fun l' q' hK hs hb ho hg a w hf s=>by
 simp only[Kont.ops.injEq]at hK
 obtain⟨rfl,hp,rfl⟩:=hK
 have hgi:=hg (ti,false) jI
 cases hgo:getO l ti with
 |none=>simp[hgo]at hgi
 | some o =>
  simp only[pickOps,hgo,List.cons.injEq]at hp
  obtain⟨ho1,hp2⟩:=hp
  simp only[ordOK,Bool.and_eq_true]at ho
  have hk:=k.out l q (by rw[hp2]) hs hb ho.2 (fun t' ht=>hg t' kD) _ w (hf.put (Nat.le_of_ble_eq_true hd) v) s
  subst ho1
  rw[show((ti,false)::tt).length+ls.left=(tt.length+ls.left)+1 by simp only[List.length_cons];omega]
  exact wpAnyC_take (oi:=⟨some d,op,ty,pos,af,gd⟩) (v:=v) jp hs ho.1.1.1.2 ho.1.1.2 ho.1.2 ho.1.1.1.1 (fun c a w h=>hb c a _ _ w h) (.inl ⟨hf.want hw,fun w' ⟨V',s'⟩=>hx a w' hf (sat_left s')⟩) hk
theorem HQ.pass{op:Op}(hw:skip? l L gd=true)(hd:Nat.ble (d+1) n=true){ls:Lst}
  (k:HQ V ⟨ls.setIfInBounds ti true,tt⟩ P base n ((d,.tuple #[])::L) f A (.ops l rest q)):HQ V ⟨ls,(ti,false)::tt⟩ P base n L f A (.ops l (⟨some d,op,ty,pos,af,gd⟩::rest) q):=.mk fun l' q' hK hs hb ho hg a w hf s=>by
 simp only[Kont.ops.injEq]at hK
 obtain⟨rfl,hp,rfl⟩:=hK
 have hgi:=hg (ti,false) jI
 cases hgo:getO l ti with
 |none=>simp[hgo]at hgi
 | some o =>
  simp only[pickOps,hgo,List.cons.injEq]at hp
  obtain⟨ho1,hp2⟩:=hp
  simp only[ordOK,Bool.and_eq_true]at ho
  have hk:=k.out l q (by rw[hp2]) hs hb ho.2 (fun t' ht=>hg t' kD) _ w (hf.put (Nat.le_of_ble_eq_true hd) _) s
  subst ho1
  rw[show((ti,false)::tt).length+ls.left=(tt.length+ls.left)+1 by simp only[List.length_cons];omega]
  exact wpAnyC_take (oi:=⟨some d,op,ty,pos,af,gd⟩) (v:=undef) jp hs ho.1.1.1.2 ho.1.1.2 ho.1.2 ho.1.1.1.1 (fun c a w h=>hb c a _ _ w h) (.inr ⟨hf.skip hw,rfl⟩) hk
def backPost(P:Program)(base:World)(f:Frag)(S:List HP)(ξ:Ext)(l:List Oper)(q:Post):Exit→Act→World→Prop
 | .normal,a,w=>wpAnyC P (fun w=>∃V,Sat base w f (S++V)) l.toArray (q.den P) ξ.listed.cut (ξ.todo.length+ξ.listed.left) ξ.listed.a a w
 |e,a,w=>q.den P e a w
theorem upon_mono{K K':Act→World→Prop}{Q Q':Exit→Act→World→Prop}(h:∀a w,K a w→K' a w)(hq:∀c a w,Q (.panic c) a w→Q' (.panic c) a w)(ho:∀a w,Q .outgrown a w→Q' .outgrown a w)
  (hh:o.wp P a w K Q):o.wp P a w K' Q':=by
 unfold Oper.wp at *;generalize(execOp a.eval o).run P w=r at *
 cases r with
 | ok n w' =>
  cases n<;>simp only[Oper.upon]at hh⊢
  case value=>exact h _ _ hh
  case skip=>exact h _ _ hh
  case defer=>exact h _ _ hh
  case enter=>
   refine Calls.mono hh fun e w'' he=>?_
   cases e with
   |returned v=>exact h _ _ he
   |panicked c=>exact hq _ _ _ he
   |outgrown=>obtain⟨x,y,z⟩:=he;exact⟨x,y,ho _ _ z⟩
  case row=>exact Rows.mono hh fun _ _ he=>h _ _ he
 | halt x w' =>
  cases x<;>simp only[Oper.upon]at hh⊢
  exact hq _ _ _ hh
def evPost(P:Program)(base:World)(f:Frag)(S:List HP)(ξ:Ext)(l rest:List Oper)(q:Post)(e:Exit)(a:Act)(w:World):Prop:=
 Region.noSelect l.toArray=true→q.blind P→ordOK l.toArray ξ.listed ξ.todo=true→(∀t∈ξ.todo,(getO l t.1).isSome)→rest=pickOps l ξ.todo→backPost P base f S ξ l q e a w
theorem EK{ls:Lst}{i:Nat}{t:List (Nat×Bool)}
  (k:H P base n L f (A++V) (.ops l [o] (.fn (evPost P base f A ⟨ls.setIfInBounds i true,t⟩ l rest q)))) :
  HQ V ⟨ls,(i,true)::t⟩ P base n L f A (.ops l (o::rest) q):=.mk fun l' q' hK hs hb ho hg a w hf s=>by
 simp only[Kont.ops.injEq]at hK
 obtain⟨rfl,hp,rfl⟩:=hK
 have hgi:=hg (i,true) jI
 cases hgo:getO l i with
 |none=>simp[hgo]at hgi
 | some o' =>
  simp only[pickOps,hgo,List.cons.injEq]at hp
  obtain⟨rfl,hp2⟩:=hp
  simp only[ordOK,Bool.and_eq_true]at ho
  have hk:=k.out a w hf s
  have hr:Region.ready .any l.toArray ls.a=[i]:=by simpa using ho.1.1
  have hne:ls.a≠ls.cut:=by simpa using ho.1.2
  rw[show((i,true)::t).length+ls.left=(t.length+ls.left)+1 by simp only[List.length_cons];omega]
  refine wpAnyC_one hr hne ⟨V,s⟩ ?_
  have h2:∀t'∈t,(getO l t'.1).isSome:=fun t' ht=>hg t' kD
  unfold wpOp
  rw[List.getElem?_toArray,←getO_eq,hgo]
  show if Region.wanted o (yielded l.toArray a.tmps)=true then _ else _
  have hk':wpList P l.toArray (evPost P base f A ⟨ls.setIfInBounds i true,t⟩ l rest q) [o] a w:=hk
  simp only[wpList]at hk'
  have e1:∀a w,evPost P base f A ⟨ls.setIfInBounds i true,t⟩ l rest q .normal a w→
    wpAnyC P (fun w=>∃V,Sat base w f (A++V)) l.toArray (q.den P) ls.cut (t.length+ls.left) (ls.a.setIfInBounds i true) a w:=fun a w h=>h hs hb ho.2 h2 hp2
  by_cases hw:Region.wanted o (yielded l.toArray a.tmps)=true
  ·rw[if_pos hw]at hk'⊢
   rcases hk' with h|⟨hasks,x,y,z⟩
   ·exact .inl (upon_mono e1 (fun c a w h=>h hs hb ho.2 h2 hp2) (fun a w h=>h hs hb ho.2 h2 hp2) h)
   ·exact .inr ⟨hasks,x,y,z hs hb ho.2 h2 hp2⟩
  ·rw[if_neg hw]at hk'⊢
   exact e1 _ _ hk'
theorem H.back{V':List HP}(hB:B=A++V')(k:HQ V' ξ P base n L f A (.ops l rest q)):H P base n L f B (.out .normal (.fn (evPost P base f A ξ l rest q))):=.mk fun a w hf s hs hb h1 h2 h3=>by
 subst hB;subst h3
 exact k.out l q rfl hs hb h1 h2 a w hf s
theorem HQ.nil{a cut:Array Bool}(k:H P base n L f (A++V) (.out .normal q)):HQ V ⟨⟨a,cut,0,false⟩,[]⟩ P base n L f A (.ops l [] q):=.mk fun l' q' hK hs hb ho hg a w hf s=>by
 simp only[Kont.ops.injEq]at hK
 obtain⟨rfl,hp,rfl⟩:=hK
 exact⟨⟨V,s⟩,by simpa [ordOK]using ho,k.out a w hf s⟩
theorem HQ.done{ls:Lst}(h0:(ls.left,ls.opn)=(0,false))(k:H P base n L f (A++V) (.out .normal q)):HQ V ⟨ls,[]⟩ P base n L f A (.ops l [] q):=by
 obtain⟨a,cut,left,opn⟩:=ls;simp only[Prod.mk.injEq]at h0;obtain⟨rfl,rfl⟩:=h0;exact HQ.nil k
def lstAfter(a:Array Bool)(t:List (Nat×Bool)):Array Bool:=t.foldl (fun a x=>a.setIfInBounds x.1 true) a
def cutOf(a:Array Bool)(t:List (Nat×Bool)):Nat→Array Bool
 |0=>#[]
 |_+1=>lstAfter a t
def qt:Nat→Nat→List (Nat×Bool)
 |0,_=>[]
 |n+1,k=>(k,false)::qt n (k+1)
theorem Ey(todo:List (Nat×Bool))(left:Nat)(hm:P.follows .mixedOrders=true)(hn:(Region.noSelect l.toArray&&ordOK l.toArray ⟨Array.replicate l.length false,cutOf (Array.replicate l.length false) todo left,left,false⟩ todo&&todo.all (fun t=>(getO l t.1).isSome)&&(todo.length+left == l.length))=true)(hb:q.blind P)(hB:B=S++V)(k:HQ V ⟨⟨Array.replicate l.length false,cutOf (Array.replicate l.length false) todo left,left,false⟩,todo⟩ P base n L f S (.ops l (pickOps l todo) q)):H P base n L f B (.code (.region id l.toArray true) q):=.mk fun a w hf s=>by
 simp only[Bool.and_eq_true,List.all_eq_true,beq_iff_eq]at hn
 obtain⟨⟨⟨h1,h2⟩,h3⟩,h4⟩:=hn
 refine wp_region_any hm ?_
 subst hB
 have s':Sat base {w with drawn:=w.drawn+1} f (S++V):=s.same rfl rfl rfl rfl
 have:=k.out l q rfl h1 hb h2 h3 a _ hf s'
 simp only[h4]at this
 simpa using wpAnyC.any _ _ _ _ this
theorem EL(todo:List (Nat×Bool))(hm:P.follows .mixedOrders=true)(hn:(Region.noSelect l.toArray&&ordOK l.toArray ⟨Array.replicate l.length false,#[],0,false⟩ todo&&todo.all (fun t=>(getO l t.1).isSome)&&(todo.length == l.length))=true)(hb:q.blind P)(hB:B=S++V)(k:HQ V ⟨⟨Array.replicate l.length false,#[],0,false⟩,todo⟩ P base n L f S (.ops l (pickOps l todo) q)):H P base n L f B (.code (.region id l.toArray true) q):=
 Ey todo 0 hm hn hb hB k
theorem Ez(hm:P.follows .mixedOrders=true)(hn:(Region.noSelect l.toArray&&ordOK l.toArray ⟨Array.replicate l.length false,#[],0,false⟩ (qt l.length 0)&&(qt l.length 0).all (fun t=>(getO l t.1).isSome)&&((qt l.length 0).length == l.length))=true)(hb:q.blind P)
  (k:HQ [] ⟨⟨Array.replicate l.length false,#[],0,false⟩,qt l.length 0⟩ P base n L f A (.ops l (pickOps l (qt l.length 0)) q)):H P base n L f A (.code (.region id l.toArray true) q):=
 EL _ hm hn hb (List.append_nil A).symm k
theorem Dn{ls:Lst}(h0:(ls.left,ls.opn)=(0,false))(k:H P base n L f A (.out .normal q)):HQ [] ⟨ls,[]⟩ P base n L f A (.ops l [] q):=HQ.done h0 (by rw[List.append_nil];exact k)
theorem zaw:(Post.fn (FnPost P fn base R)).blind P:=fun c a dst v w h=>by
 obtain⟨h1,h2⟩:=h
 exact⟨by cases dst<;>simpa [Act.put]using h1,h2⟩
theorem zaq{y:Code}(h:q.blind P):(Post.seq y q).blind P:=fun c a dst v w h'=>h c a dst v w h'
theorem zat(h:q.blind P):(Post.block id q).blind P:=fun c a dst v w h'=>h c a dst v w h'
theorem zbh{I:Act→World→Prop}(h:q.blind P):(Post.loop I q).blind P:=fun c a dst v w h'=>h c a dst v w h'
structure HS(tl:List Oper)(P:Program)(base:World)(n:Nat)(L:Env)(f:Frag)(A:List HP)(K:Kont):Prop where
 out:∀l rest q,K= .ops l rest q→∀a w,Fr n a L→Sat base w f A→wpStill P l.toArray w (fun a'=>wpList P l.toArray (q.den P) tl a' w) rest a
variable {tl:List Oper}
theorem CL{op:Op}(hw:want? l L gd=true)(hd:Nat.ble (d+1) n=true)
  (hx:∀a w,Fr n a L→Sat base w f A→(execOp a.eval ⟨some d,op,ty,pos,af,gd⟩).run P w= .ok (.value v) w)
  (k:HS tl P base n ((d,v)::L) f A (.ops l rest q)):HS tl P base n L f A (.ops l (⟨some d,op,ty,pos,af,gd⟩::rest) q):=.mk fun l' r' q' hK a w hf s=>by
 simp only[Kont.ops.injEq]at hK
 obtain⟨rfl,rfl,rfl⟩:=hK
 unfold wpStill
 rw[if_pos (hf.want (o:=⟨some d,op,ty,pos,af,gd⟩) hw)]
 unfold Oper.still
 rw[hx a w hf s]
 exact⟨rfl,k.out l rest q rfl _ _ (hf.put (Nat.le_of_ble_eq_true hd) v) s⟩
theorem HS.done(k:H P base n L f A (.ops l tl q)):HS tl P base n L f A (.ops l [] q):=.mk fun l' r' q' hK a w hf s=>by
 simp only[Kont.ops.injEq]at hK
 obtain⟨rfl,rfl,rfl⟩:=hK
 exact k.out a w hf s
def tk:Nat→List Oper→List Oper
 |0,_=>[]
 |_,[]=>[]
 |n+1,o::r=>o::tk n r
def dr:Nat→List Oper→List Oper
 |0,l=>l
 |_+1,[]=>[]
 |n+1,_::r=>dr n r
theorem tk_eq:∀(k:Nat) (l:List Oper),tk k l=l.take k
 |0,l=>by simp[tk]
 |k+1,[]=>by simp[tk]
 |k+1,o::r=>by simp[tk,tk_eq k r]
theorem dr_eq:∀(k:Nat) (l:List Oper),dr k l=l.drop k
 |0,l=>by simp[dr]
 |k+1,[]=>by simp[dr]
 |k+1,o::r=>by simp[dr,dr_eq k r]
theorem BY(m:Nat)(hm:P.follows .mixedOrders=true)(hB:Region.lexTailB .any l.toArray m=true)
  (k:HS (dr m l) P base n L f A (.ops l (tk m l) q)):H P base n L f A (.code (.region id l.toArray true) q):=.mk fun a w hf s=>
 wp_region_still_tail m hm hB (by
  have:=k.out l (tk m l) q rfl a {w with drawn:=w.drawn+1} hf (s.same rfl rfl rfl rfl)
  rw[tk_eq,dr_eq]at this
  exact this)
variable {κ:Type} [DecidableEq κ] {enc:κ→Value}
theorem HQ.know{e:Nat}{v u:Value}{K:Kont}(hv:look? L e=some v)(he:v=u)(h:HQ V ξ P base n ((e,u)::L) f A K):HQ V ξ P base n L f A K:=.mk fun l q hK hs hb ho hg a w hf s=>by
 exact h.out l q hK hs hb ho hg a w (hf.know hv he) s
theorem F0{b:Bool}{c:Bool}{e:Nat}{t1:TypeId}(hg:o.guard=some (j,b))(hj:getO l j=some ⟨some e,p1,t1,q1,a1,g1⟩)(hv:look? L e=some (.bool c))(ht:c=true→HQ V ξ P base n ((e,.bool true)::L) f A (.ops l (o::rest) q))
  (hf:c=false→HQ V ξ P base n ((e,.bool false)::L) f A (.ops l (o::rest) q)):HQ V ξ P base n L f A (.ops l (o::rest) q):=by
 have _:=hg;have _:=hj
 cases c with
 |true=>exact HQ.know hv rfl (ht rfl)
 |false=>exact HQ.know hv rfl (hf rfl)
theorem Cu(hw:want? l L gd=true)(hx:ev? L x=some v)(hd:Nat.ble (d+1) n=true)
  (k:HQ V ⟨lst.setIfInBounds ti true,tt⟩ P base n ((d,v)::L) f A (.ops l rest q)):HQ V ⟨lst,(ti,false)::tt⟩ P base n L f A (.ops l (⟨some d,.move x,ty,pos,af,gd⟩::rest) q):=
 As hw hd (fun a w hf _=>by simp[execOp,hf.eval hx]) k
theorem Cv(hw:want? l L gd=true)(hx:ev? L x=some v)(hd:Nat.ble (d+1) n=true)
  (k:HQ V ⟨lst.setIfInBounds ti true,tt⟩ P base n ((d,v)::L) f A (.ops l rest q)):HQ V ⟨lst,(ti,false)::tt⟩ P base n L f A (.ops l (⟨some d,.assign x,ty,pos,af,gd⟩::rest) q):=
 As hw hd (fun a w hf _=>by simp[execOp,hf.eval hx]) k
theorem Dq{c:Operand}(hw:want? l L gd=true)(hc:ev? L c=some (.bool true))(hx:ev? L x=some v)(hd:Nat.ble (d+1) n=true)
  (k:HQ V ⟨lst.setIfInBounds ti true,tt⟩ P base n ((d,v)::L) f A (.ops l rest q)):HQ V ⟨lst,(ti,false)::tt⟩ P base n L f A (.ops l (⟨some d,.pick c x y,ty,pos,af,gd⟩::rest) q):=
 As hw hd (fun a w hf _=>by simp[execOp,hf.eval hx,hf.eval hc,asBool]) k
theorem Dl{c:Operand}(hw:want? l L gd=true)(hc:ev? L c=some (.bool false))(hx:ev? L y=some v)(hd:Nat.ble (d+1) n=true)
  (k:HQ V ⟨lst.setIfInBounds ti true,tt⟩ P base n ((d,v)::L) f A (.ops l rest q)):HQ V ⟨lst,(ti,false)::tt⟩ P base n L f A (.ops l (⟨some d,.pick c x y,ty,pos,af,gd⟩::rest) q):=
 As hw hd (fun a w hf _=>by simp[execOp,hf.eval hx,hf.eval hc,asBool]) k
theorem Cw{p:Addr}(hw:want? l L gd=true)(hx:ev? L x=some (.pointer (some p)))(hd:Nat.ble (d+1) n=true)
  (k:HQ V ⟨lst.setIfInBounds ti true,tt⟩ P base n ((d,.pointer (some p))::L) f A (.ops l rest q)):HQ V ⟨lst,(ti,false)::tt⟩ P base n L f A (.ops l (⟨some d,.nilCheck x,ty,pos,af,gd⟩::rest) q):=
 As hw hd (fun a w hf _=>by simp[execOp,hf.eval hx]) k
theorem Do{k:IntKind}{p:Int}{b:Bool}(hw:want? l L gd=true)(hx:ev? L x=some (.int k p))(hy:ev? L y=some (.int k p2))(hc:cmpP op p p2=some b)(hd:Nat.ble (d+1) n=true)
  (kk:HQ V ⟨lst.setIfInBounds ti true,tt⟩ P base n ((d,.bool b)::L) f A (.ops l rest q)):HQ V ⟨lst,(ti,false)::tt⟩ P base n L f A (.ops l (⟨some d,.binOp op xt x y yt,ty,pos,af,gd⟩::rest) q):=
 As hw hd (fun a w hf _=>by
  cases op<;>simp only[cmpP,Option.some.injEq,reduceCtorEq]at hc<;>subst hc<;>
   simp[execOp,eqGuard,binOp,Op.intCmp,hf.eval hx,hf.eval hy]<;>by_cases e:p=p2<;>simp[e]) kk
theorem DQ{k:IntKind}{p z:Int}(hw:want? l L gd=true)(hx:ev? L x=some (.int k p))(hy:ev? L y=some (.int k p2))(hc:arP op k p p2=some r)(hz:r=z)(hd:Nat.ble (d+1) n=true)
  (kk:HQ V ⟨lst.setIfInBounds ti true,tt⟩ P base n ((d,.int k z)::L) f A (.ops l rest q)):HQ V ⟨lst,(ti,false)::tt⟩ P base n L f A (.ops l (⟨some d,.binOp op xt x y yt,ty,pos,af,gd⟩::rest) q):=
 As hw hd (fun a w hf _=>by
  cases op<;>simp only[arP,Option.some.injEq,reduceCtorEq]at hc<;>subst hc<;>subst hz<;>
   simp[execOp,eqGuard,binOp,Op.intArith,hf.eval hx,hf.eval hy]) kk
theorem HQ.quo{k:IntKind}{p z:Int}(hw:want? l L gd=true)(hx:ev? L x=some (.int k p))(hy:ev? L y=some (.int k p2))(h0:p2≠0)(hz:k.wrap (p.tdiv p2)=z)(hd:Nat.ble (d+1) n=true)
  (kk:HQ V ⟨lst.setIfInBounds ti true,tt⟩ P base n ((d,.int k z)::L) f A (.ops l rest q)):HQ V ⟨lst,(ti,false)::tt⟩ P base n L f A (.ops l (⟨some d,.binOp .quo xt x y yt,ty,pos,af,gd⟩::rest) q):=
 As hw hd (fun a w hf _=>by subst hz;simp[execOp,eqGuard,binOp,Op.intDiv,hf.eval hx,hf.eval hy,h0]) kk
theorem HQ.rem{k:IntKind}{p z:Int}(hw:want? l L gd=true)(hx:ev? L x=some (.int k p))(hy:ev? L y=some (.int k p2))(h0:p2≠0)(hz:p.tmod p2=z)(hd:Nat.ble (d+1) n=true)
  (kk:HQ V ⟨lst.setIfInBounds ti true,tt⟩ P base n ((d,.int k z)::L) f A (.ops l rest q)):HQ V ⟨lst,(ti,false)::tt⟩ P base n L f A (.ops l (⟨some d,.binOp .rem xt x y yt,ty,pos,af,gd⟩::rest) q):=
 As hw hd (fun a w hf _=>by subst hz;simp[execOp,eqGuard,binOp,Op.intDiv,hf.eval hx,hf.eval hy,h0]) kk
theorem EE{b:Bool}[hu:Und P xt (.pointer e)](hw:want? l L gd=true)(hx:ev? L x=some (.pointer p))(hy:ev? L y=some (.pointer none))(hb:nilP op p=some b)(hd:Nat.ble (d+1) n=true)
  (kk:HQ V ⟨lst.setIfInBounds ti true,tt⟩ P base n ((d,.bool b)::L) f A (.ops l rest q)):HQ V ⟨lst,(ti,false)::tt⟩ P base n L f A (.ops l (⟨some d,.binOp op xt x y yt,ty,pos,af,gd⟩::rest) q):=
 As hw hd (fun a w hf _=>by
  refine run_bin _ ?_ ?_
  ·rw[hf.eval hx,hf.eval hy];exact run_guard_ptr _ _ _ _ _ _ _
  ·rw[hf.eval hx,hf.eval hy]
   have e1:Sem.run P (do pure (Value.bool (←Op.equal xt (.pointer p) (.pointer none)))) w= .ok (.bool p.isNone) w:=by simp[run_equal_pn hu]
   have e2:Sem.run P (do pure (Value.bool (!(←Op.equal xt (.pointer p) (.pointer none))))) w= .ok (.bool (!p.isNone)) w:=by simp[run_equal_pn hu]
   cases op<;>cases p<;>simp only[nilP,Option.some.injEq,reduceCtorEq]at hb<;>subst hb<;>first|exact e1|exact e2) kk
theorem HQ.not{b c:Bool}(hw:want? l L gd=true)(hx:ev? L x=some (.bool b))(hb:(!b)=c)(hd:Nat.ble (d+1) n=true)
  (k:HQ V ⟨lst.setIfInBounds ti true,tt⟩ P base n ((d,.bool c)::L) f A (.ops l rest q)):HQ V ⟨lst,(ti,false)::tt⟩ P base n L f A (.ops l (⟨some d,.unOp .not xt x,ty,pos,af,gd⟩::rest) q):=
 As hw hd (fun a w hf _=>by subst hb;simp[execOp,Op.unary,hf.eval hx]) k
theorem Dp{s:TypeId}{i j:IntKind}{p z:Int}[hs:Und P s ds][ht:Und P t (.int j)](hw:want? l L gd=true)(hx:ev? L x=some (.int i p))(hz:j.wrap p=z)(hd:Nat.ble (d+1) n=true)
  (k:HQ V ⟨lst.setIfInBounds ti true,tt⟩ P base n ((d,.int j z)::L) f A (.ops l rest q)):HQ V ⟨lst,(ti,false)::tt⟩ P base n L f A (.ops l (⟨some d,.convert s t x,ty,pos,af,gd⟩::rest) q):=
 As hw hd (fun a w hf _=>by
  subst hz
  have h1:=hs.run w
  have h2:=ht.run w
  simp only[execOp,convert,hf.eval hx,Sem.run_bind,h1,h2,Result.andThen_ok]
  cases ds<;>simp[Conv.intToInt]) k
theorem Dm{i:Nat}(hw:want? l L gd=true)(hx:ev? L x=some (.tuple vs.toArray))(hv:nthV vs i=some v)(hd:Nat.ble (d+1) n=true)
  (k:HQ V ⟨lst.setIfInBounds ti true,tt⟩ P base n ((d,v)::L) f A (.ops l rest q)):HQ V ⟨lst,(ti,false)::tt⟩ P base n L f A (.ops l (⟨some d,.extract x i,ty,pos,af,gd⟩::rest) q):=
 As hw hd (fun a w hf _=>by
  rw[nthV_eq]at hv
  simp[execOp,Instr.extract,hf.eval hx,hv]) k
theorem EM{b:Bool}{e:Nat}{t1:TypeId}{p:Prop}{_:Decidable p}(hg:o.guard=some (j,b))(hj:getO l j=some ⟨some e,p1,t1,q1,a1,g1⟩)(hv:look? L e=some (.bool (decide p)))
  (ht:p→HQ V ξ P base n ((e,.bool true)::L) f A (.ops l (o::rest) q)) (hf:¬p→HQ V ξ P base n ((e,.bool false)::L) f A (.ops l (o::rest) q)):HQ V ξ P base n L f A (.ops l (o::rest) q):=
 F0 hg hj hv (fun h=>ht (of_decide_eq_true h)) (fun h=>hf (of_decide_eq_false h))
theorem EF{b:Bool}{e:Nat}{t1:TypeId}{p:Prop}{_:Decidable p}(hg:o.guard=some (j,b))(hj:getO l j=some ⟨some e,p1,t1,q1,a1,g1⟩)(hv:look? L e=some (.bool (decide p)))
  (hp:p) (ht:HQ V ξ P base n ((e,.bool true)::L) f A (.ops l (o::rest) q)):HQ V ξ P base n L f A (.ops l (o::rest) q):=
 EM hg hj hv (fun _=>ht) (fun h=>absurd hp h)
theorem EG{b:Bool}{e:Nat}{t1:TypeId}{p:Prop}{_:Decidable p}(hg:o.guard=some (j,b))(hj:getO l j=some ⟨some e,p1,t1,q1,a1,g1⟩)(hv:look? L e=some (.bool (decide p)))
  (hp:¬p) (hf:HQ V ξ P base n ((e,.bool false)::L) f A (.ops l (o::rest) q)):HQ V ξ P base n L f A (.ops l (o::rest) q):=
 EM hg hj hv (fun h=>absurd h hp) (fun _=>hf)
theorem DP{i:Nat}[hu:Und P st (.struct fs.toArray)](hw:want? l L gd=true)
  (hx:ev? L x=some (.pointer (some ⟨b,off,none⟩))) (hf:nthF fs i=some ⟨nm,ft,fo,em,tg,pk,bo⟩) (hs:Siz P ft (m+1)) (hd:Nat.ble (d+1) n=true)
  (k:HQ V ⟨lst.setIfInBounds ti true,tt⟩ P base n ((d,.pointer (some ⟨b,off+fo,none⟩))::L) f A (.ops l rest q)):HQ V ⟨lst,(ti,false)::tt⟩ P base n L f A (.ops l (⟨some d,.fieldAddr st x i,ty,pos,af,gd⟩::rest) q):=
 As hw hd (fun a w hfr _=>by
  rw[nthF_eq]at hf
  simp[execOp,Instr.fieldAt,hfr.eval hx,hu.run,hf,Instr.sureAddr,fieldPlace,hs.run,zas]) k
theorem B6[hu:Und P t dd](hw:want? l L gd=true)(hx:ev? L x=some (.pointer (some ⟨b,off,none⟩)))(ha:aggD dd=false)
  (hr:Rd1 f A b off v) (hd:Nat.ble (d+1) n=true)
  (k:HQ V ⟨lst.setIfInBounds ti true,tt⟩ P base n ((d,v)::L) f A (.ops l rest q)):HQ V ⟨lst,(ti,false)::tt⟩ P base n L f A (.ops l (⟨some d,.load t x,ty,pos,af,gd⟩::rest) q):=
 As hw hd (fun a w hfr s=>by simp[execOp,hfr.eval hx,zaz hu ha (hr base w s)]) k
theorem AH[hu:Und P t dd][hs:Siz P t m](hw:want? l L gd=true)(hx:ev? L x=some (.pointer (some ⟨b,off,none⟩)))(ha:aggD dd=true)
  (hr:Rd f A b off ls) (hm:ls.length=m) (hd:Nat.ble (d+1) n=true)
  (k:HQ V ⟨lst.setIfInBounds ti true,tt⟩ P base n ((d,.agg ls.toArray)::L) f A (.ops l rest q)):HQ V ⟨lst,(ti,false)::tt⟩ P base n L f A (.ops l (⟨some d,.load t x,ty,pos,af,gd⟩::rest) q):=
 As hw hd (fun a w hfr s=>by simp[execOp,hfr.eval hx,zbs hu ha hs (hr base w s) hm]) k
theorem Cx[hu:Und P t (.slice e)](hw:want? l L gd=true)(hx:ev? L x=some (.slice p m c))(hd:Nat.ble (d+1) n=true)
  (k:HQ V ⟨lst.setIfInBounds ti true,tt⟩ P base n ((d,.int .i64 (m:Nat))::L) f A (.ops l rest q)):HQ V ⟨lst,(ti,false)::tt⟩ P base n L f A (.ops l (⟨some d,.call ⟨.builtin .len,#[x],#[t]⟩,ty,pos,af,gd⟩::rest) q):=
 As hw hd (fun a w hfr _=>by
  simp[execOp,resolve,invoke,builtin,Builtin.len_,hfr.eval hx,hu.run,goInt]) k
theorem Cn{i:Nat}{z:Int}[hu:Und P t (.slice e)][hs:Siz P e sz](hw:want? l L gd=true)
  (hx:ev? L x=some (.slice (some ⟨b,off,none⟩) m c)) (hy:ev? L y=some (.int ik z)) (hq:z=(i:Nat)) (hi:i<m) (hd:Nat.ble (d+1) n=true)
  (k:HQ V ⟨lst.setIfInBounds ti true,tt⟩ P base n ((d,.pointer (some ⟨b,off+i*sz,none⟩))::L) f A (.ops l rest q)):HQ V ⟨lst,(ti,false)::tt⟩ P base n L f A (.ops l (⟨some d,.indexAddr t x y,ty,pos,af,gd⟩::rest) q):=
 As hw hd (fun a w hfr _=>by
  subst hq
  simp only[execOp,Instr.indexAt,hfr.eval hx,hfr.eval hy,Sem.run_bind,asIntOf,Sem.run_pure,Result.andThen_ok,hu.run]
  simp[hi,hs.run,zas]) k
theorem BO{i:Nat}{z:Int}[hu:Und P t (.array m e)][hs:Siz P e sz](hw:want? l L gd=true)
  (hx:ev? L x=some (.pointer (some ⟨b,off,none⟩))) (hy:ev? L y=some (.int ik z)) (hq:z=(i:Nat)) (hi:i<m) (hd:Nat.ble (d+1) n=true)
  (k:HQ V ⟨lst.setIfInBounds ti true,tt⟩ P base n ((d,.pointer (some ⟨b,off+i*sz,none⟩))::L) f A (.ops l rest q)):HQ V ⟨lst,(ti,false)::tt⟩ P base n L f A (.ops l (⟨some d,.indexAddr t x y,ty,pos,af,gd⟩::rest) q):=
 As hw hd (fun a w hfr _=>by
  subst hq
  simp only[execOp,Instr.indexAt,hfr.eval hx,hfr.eval hy,Sem.run_bind,asIntOf,Sem.run_pure,Result.andThen_ok,hu.run,Instr.sureAddr]
  simp[hi,hs.run,zas]) k
theorem CC{i:Nat}{z:Int}[hu:Und P t (.slice e)][hs:Siz P e sz](hw:want? l L gd=true)
  (hx:ev? L x=some (.slice (some ⟨b,0,none⟩) m c)) (hy:ev? L y=some (.int ik z)) (hq:z=(i:Nat)) (hi:i<m) (hd:Nat.ble (d+1) n=true)
  (k:HQ V ⟨lst.setIfInBounds ti true,tt⟩ P base n ((d,.pointer (some ⟨b,i*sz,none⟩))::L) f A (.ops l rest q)):HQ V ⟨lst,(ti,false)::tt⟩ P base n L f A (.ops l (⟨some d,.indexAddr t x y,ty,pos,af,gd⟩::rest) q):=
 As hw hd (fun a w hfr _=>by
  subst hq
  simp only[execOp,Instr.indexAt,hfr.eval hx,hfr.eval hy,Sem.run_bind,asIntOf,Sem.run_pure,Result.andThen_ok,hu.run]
  simp[hi,hs.run,zas]) k
theorem D4{m:List (κ×Value)}{k:κ}[hu:Und P t (.map kt et)][hk:KeyT P kt enc][hz:Zer P et z](hw:want? l L gd=true)
  (hx:ev? L x=some (.map (some b))) (hy:ev? L y=some kv) (hA:At A (mp b enc m) A' (mp b enc m)) (hkv:kv=enc k) (hv:(getKV m k).getD z=v) (hd:Nat.ble (d+1) n=true)
  (kk:HQ V ⟨lst.setIfInBounds ti true,tt⟩ P base n ((d,v)::L) f A (.ops l rest q)):HQ V ⟨lst,(ti,false)::tt⟩ P base n L f A (.ops l (⟨some d,.lookup t x y false,ty,pos,af,gd⟩::rest) q):=
 As hw hd (fun a w hfr s=>by
  subst hv;subst hkv
  have h:=zbo (c:=false) (k:=k) hu hk hz s hA
  simp only[execOp,hfr.eval hx,hfr.eval hy,Sem.run_bind,h,Result.andThen_ok,Sem.run_pure]
  rfl) kk
theorem D7{m:List (κ×Value)}{k:κ}{i:Bool}[hu:Und P t (.map kt et)][hk:KeyT P kt enc][hz:Zer P et z](hw:want? l L gd=true)
  (hx:ev? L x=some (.map (some b))) (hy:ev? L y=some kv) (hA:At A (mp b enc m) A' (mp b enc m)) (hkv:kv=enc k) (hv:(getKV m k).getD z=v) (hi:(getKV m k).isSome=i) (hd:Nat.ble (d+1) n=true)
  (kk:HQ V ⟨lst.setIfInBounds ti true,tt⟩ P base n ((d,.tuple #[v,.bool i])::L) f A (.ops l rest q)):HQ V ⟨lst,(ti,false)::tt⟩ P base n L f A (.ops l (⟨some d,.lookup t x y true,ty,pos,af,gd⟩::rest) q):=
 As hw hd (fun a w hfr s=>by
  subst hv;subst hkv;subst hi
  have h:=zbo (c:=true) (k:=k) hu hk hz s hA
  simp only[execOp,hfr.eval hx,hfr.eval hy,Sem.run_bind,h,Result.andThen_ok,Sem.run_pure]
  rfl) kk
theorem Et(hw:want? l L gd=true)(hx:ev? L x=some v)(hd:Nat.ble (d+1) n=true)
  (k:HS tl P base n ((d,v)::L) f A (.ops l rest q)):HS tl P base n L f A (.ops l (⟨some d,.move x,ty,pos,af,gd⟩::rest) q):=
 CL hw hd (fun a w hf _=>by simp[execOp,hf.eval hx]) k
theorem Eu{p:Addr}(hw:want? l L gd=true)(hx:ev? L x=some (.pointer (some p)))(hd:Nat.ble (d+1) n=true)
  (k:HS tl P base n ((d,.pointer (some p))::L) f A (.ops l rest q)):HS tl P base n L f A (.ops l (⟨some d,.nilCheck x,ty,pos,af,gd⟩::rest) q):=
 CL hw hd (fun a w hf _=>by simp[execOp,hf.eval hx]) k
theorem Ew{k:IntKind}{p z:Int}(hw:want? l L gd=true)(hx:ev? L x=some (.int k p))(hy:ev? L y=some (.int k p2))(hc:arP op k p p2=some r)(hz:r=z)(hd:Nat.ble (d+1) n=true)
  (kk:HS tl P base n ((d,.int k z)::L) f A (.ops l rest q)):HS tl P base n L f A (.ops l (⟨some d,.binOp op xt x y yt,ty,pos,af,gd⟩::rest) q):=
 CL hw hd (fun a w hf _=>by
  cases op<;>simp only[arP,Option.some.injEq,reduceCtorEq]at hc<;>subst hc<;>subst hz<;>
   simp[execOp,eqGuard,binOp,Op.intArith,hf.eval hx,hf.eval hy]) kk
theorem Ev{i:Nat}[hu:Und P st (.struct fs.toArray)](hw:want? l L gd=true)
  (hx:ev? L x=some (.pointer (some ⟨b,off,none⟩))) (hf:nthF fs i=some ⟨nm,ft,fo,em,tg,pk,bo⟩) (hs:Siz P ft (m+1)) (hd:Nat.ble (d+1) n=true)
  (k:HS tl P base n ((d,.pointer (some ⟨b,off+fo,none⟩))::L) f A (.ops l rest q)):HS tl P base n L f A (.ops l (⟨some d,.fieldAddr st x i,ty,pos,af,gd⟩::rest) q):=
 CL hw hd (fun a w hfr _=>by
  rw[nthF_eq]at hf
  simp[execOp,Instr.fieldAt,hfr.eval hx,hu.run,hf,Instr.sureAddr,fieldPlace,hs.run,zas]) k
theorem Dk[hu:Und P t dd](hw:want? l L gd=true)(hx:ev? L x=some (.pointer (some ⟨b,off,none⟩)))(ha:aggD dd=false)
  (hr:Rd1 f A b off v) (hd:Nat.ble (d+1) n=true)
  (k:HS tl P base n ((d,v)::L) f A (.ops l rest q)):HS tl P base n L f A (.ops l (⟨some d,.load t x,ty,pos,af,gd⟩::rest) q):=
 CL hw hd (fun a w hfr s=>by simp[execOp,hfr.eval hx,zaz hu ha (hr base w s)]) k
theorem C1[hu:Und P t dd][hs:Siz P t m](hw:want? l L gd=true)(hx:ev? L x=some (.pointer (some ⟨b,off,none⟩)))(ha:aggD dd=true)
  (hr:Rd f A b off ls) (hm:ls.length=m) (hd:Nat.ble (d+1) n=true)
  (k:HS tl P base n ((d,.agg ls.toArray)::L) f A (.ops l rest q)):HS tl P base n L f A (.ops l (⟨some d,.load t x,ty,pos,af,gd⟩::rest) q):=
 CL hw hd (fun a w hfr s=>by simp[execOp,hfr.eval hx,zbs hu ha hs (hr base w s) hm]) k
theorem Df{i:Nat}{z:Int}[hu:Und P t (.array m e)][hs:Siz P e sz](hw:want? l L gd=true)
  (hx:ev? L x=some (.pointer (some ⟨b,off,none⟩))) (hy:ev? L y=some (.int ik z)) (hq:z=(i:Nat)) (hi:i<m) (hd:Nat.ble (d+1) n=true)
  (k:HS tl P base n ((d,.pointer (some ⟨b,off+i*sz,none⟩))::L) f A (.ops l rest q)):HS tl P base n L f A (.ops l (⟨some d,.indexAddr t x y,ty,pos,af,gd⟩::rest) q):=
 CL hw hd (fun a w hfr _=>by
  subst hq
  simp only[execOp,Instr.indexAt,hfr.eval hx,hfr.eval hy,Sem.run_bind,asIntOf,Sem.run_pure,Result.andThen_ok,hu.run,Instr.sureAddr]
  simp[hi,hs.run,zas]) k
theorem F1{m:List (κ×Value)}{k:κ}[hu:Und P t (.map kt et)][hk:KeyT P kt enc][hz:Zer P et z](hw:want? l L gd=true)
  (hx:ev? L x=some (.map (some b))) (hy:ev? L y=some kv) (hA:At A (mp b enc m) A' (mp b enc m)) (hkv:kv=enc k) (hv:(getKV m k).getD z=v) (hd:Nat.ble (d+1) n=true)
  (kk:HS tl P base n ((d,v)::L) f A (.ops l rest q)):HS tl P base n L f A (.ops l (⟨some d,.lookup t x y false,ty,pos,af,gd⟩::rest) q):=
 CL hw hd (fun a w hfr s=>by
  subst hv;subst hkv
  have h:=zbo (c:=false) (k:=k) hu hk hz s hA
  simp only[execOp,hfr.eval hx,hfr.eval hy,Sem.run_bind,h,Result.andThen_ok,Sem.run_pure]
  rfl) kk
end rules
theorem BB{l:List Oper}(k:HQ [] ⟨⟨Array.replicate l.length false,#[],0,false⟩,qt l.length 0⟩ P base n L f A (.ops l (pickOps l (qt l.length 0)) q))(hm:P.follows .mixedOrders=true:=by kernel_rfl)(hn:(Region.noSelect l.toArray&&ordOK l.toArray ⟨Array.replicate l.length false,#[],0,false⟩ (qt l.length 0)&&(qt l.length 0).all (fun t=>(getO l t.1).isSome)&&((qt l.length 0).length == l.length))=true:=by decide+kernel)(hb:q.blind P:=by with_reducible (repeat(first|exact zaw|refine zaq ?_|refine zat ?_|refine zbh ?_))):H P base n L f A (.code (.region id l.toArray true) q):=Ez hm hn hb k
def cellsL:Value→List Value
 | .agg cs=>cs.toList
 |v=>[v]
def spl:List Value→Nat→List Value→List Value
 |cs,0,[]=>cs
 |_::cs,0,v::vs=>v::spl cs 0 vs
 |c::cs,n+1,vs=>c::spl cs n vs
 | [],_,_=>[]
def fillL(place:Nat→Option (Nat×Nat)):List Value→List (Nat×Value)→Option (List Value)
 |cs,[]=>some cs
 | cs, (i, v) :: r => match place i with
  |none=>none
  | some (off, size) => match Nat.beq (cellsL v).length size && Nat.ble (off + size) cs.length with
   |true=>fillL place (spl cs off (cellsL v)) r
   |false=>none
theorem cellsL_eq(v:Value):v.cells.toList=cellsL v:=by cases v<;>rfl
theorem spl_get:∀(cs:List Value) (off:Nat) (vs:List Value),off+vs.length≤cs.length→∀i,(spl cs off vs)[i]?=if off≤i∧i<off+vs.length then vs[i-off]? else cs[i]?
 | [], off, vs, h, i => by
  have h':off+vs.length≤0:=h
  have h1:off=0:=jB
  have h2:vs=[]:=List.eq_nil_of_length_eq_zero jB
  subst h1;subst h2;simp[spl]
 |c::cs,0,[],_,i=>by simp[spl]
 | c :: cs, 0, v :: vs, h, i => by
  simp only[List.length_cons]at h
  cases i with
  |zero=>simp[spl]
  | succ i =>
   simp only[spl,List.getElem?_cons_succ]
   rw[spl_get cs 0 vs jB i]
   simp
 | c :: cs, off + 1, vs, h, i => by
  simp only[List.length_cons]at h
  cases i with
  |zero=>simp[spl]
  | succ i =>
   simp only[spl,List.getElem?_cons_succ]
   rw[spl_get cs off vs jB i]
   have e1:(off+1≤i+1∧i+1<off+1+vs.length)↔(off≤i∧i<off+vs.length):=jB
   simp only[e1,Nat.reduceSubDiff]
theorem spl_splice(cs:List Value)(off:Nat)(vs:List Value)(h:off+vs.length≤cs.length):spl cs off vs=splice cs off vs:=by
 apply List.ext_getElem?;intro i;rw[spl_get cs off vs h];unfold splice;simp only[List.getElem?_append,List.length_append,List.length_take,List.getElem?_take,List.getElem?_drop];have e:min off cs.length=off:=jB
 rw[e];by_cases c1:i<off
 ·simp[c1,show¬off≤i by omega,show i<off+vs.length by omega]
 ·by_cases c2:i<off+vs.length
  ·simp[c1,c2,show off≤i by omega]
  ·have:off+vs.length+(i-(off+vs.length))=i:=jB
   simp[c2,this]
theorem fold_spl(off:Nat):∀(vs:List Value) (k:Nat) (cs:List Value),off+k+vs.length≤cs.length→
  (vs.zipIdx k).foldl (fun(cs:Array Value) (x:Value×Nat)=>cs.setIfInBounds (off+x.2) x.1) cs.toArray=(splice cs (off+k) vs).toArray
 | [],k,cs,_=>by simp[splice_nil]
 | v :: vs, k, cs, h => by
  simp only[List.length_cons]at h
  simp only[List.zipIdx_cons,List.foldl_cons]
  have e:(cs.toArray.setIfInBounds (off+k) v)=(cs.set (off+k) v).toArray:=by simp
  rw[e,fold_spl off vs (k+1) _ jT,←splice_cons cs (off+k) v vs jB]
  rfl
theorem fill_eq(place:Nat→Option (Nat×Nat)):∀(parts:List (Nat×Value)) (cs out:List Value),fillL place cs parts=some out→
  Instr.fill place cs.toArray parts=some out.toArray
 | [],cs,out,h=>by simp[fillL]at h;simp[Instr.fill,h]
 | (i, v) :: r, cs, out, h => by
  simp only[fillL]at h
  unfold Instr.fill
  cases hp:place i with
  |none=>rw[hp]at h;cases h
  | some os =>
   obtain⟨off,size⟩:=os
   rw[hp]at h
   simp only at h⊢
   split at h
   ·rename_i hb
    simp only[Bool.and_eq_true]at hb
    have h1:(cellsL v).length=size:=Nat.eq_of_beq_eq_true hb.1
    have h2:off+size≤cs.length:=Nat.le_of_ble_eq_true hb.2
    have h3:v.cells.size=size:=by rw[←h1,←cellsL_eq];simp
    have hc:¬(v.cells.size≠size∨off+v.cells.size>cs.toArray.size):=by rw[h3];simp;omega
    simp only[Bool.or_eq_true,decide_eq_true_eq,ne_eq,hc,if_false]
    have hf:v.cells.zipIdx.foldl (fun(cs:Array Value) (x:Value×Nat)=>cs.setIfInBounds (off+x.2) x.1) cs.toArray=(spl cs off (cellsL v)).toArray:=by
     rw[spl_splice _ _ _ jB,←cellsL_eq];have e:=fold_spl off v.cells.toList 0 cs (by simp[h3];omega);rw[Nat.add_zero]at e
     rw[←e,←Array.foldl_toList];congr 1;rw[Array.toList_zipIdx]
    have e2:∀(a:Array Value),(v.cells.zipIdx.foldl (fun cs (x:Value×Nat)=>match x with|(c,j)=>cs.setIfInBounds (off+j) c) a)=v.cells.zipIdx.foldl (fun(cs:Array Value) (x:Value×Nat)=>cs.setIfInBounds (off+x.2) x.1) a:=fun a=>rfl
    rw[e2,hf]
    exact fill_eq place r _ _ h
   ·cases h
class Plc (P:Program) (t:TypeId) (pl:outParam (List (Nat×Nat))):Prop where
 eq:∀(fs:Array Field) (w:World),P.underlying t=some (.struct fs)→(fs.mapM fun(f:Field)=>do pure (f.offset,←sizeOf f.type)).run P w= .ok pl.toArray w
def nthP:List (Nat×Nat)→Nat→Option (Nat×Nat)
 | [],_=>none
 |v::_,0=>some v
 |_::r,i+1=>nthP r i
theorem nthP_eq:∀(l:List (Nat×Nat)) (i:Nat),nthP l i=l[i]?
 | [],i=>by simp[nthP]
 |o::r,0=>by simp[nthP]
 |o::r,i+1=>by simp[nthP,nthP_eq r i]
def evP(L:Env):List (Nat×Operand)→Option (List (Nat×Value))
 | []=>some []
 |(i,x)::r=>(ev? L x).bind fun v=>(evP L r).bind fun vs=>some ((i,v)::vs)
theorem Fr.evP{n:Nat}{a:Act}{L:Env}(h:Fr n a L):∀ {xs:List (Nat×Operand)} {vs:List (Nat×Value)},evP L xs=some vs→xs.map (fun p=>(p.1,a.eval p.2))=vs
 | [],vs,hx=>by simp[Proofs.YtdpgpmbebbaoiaaGreatDoor.evP]at hx;simp[hx]
 | (i, x) :: xs, vs, hx => by
  simp only[Proofs.YtdpgpmbebbaoiaaGreatDoor.evP,Option.bind_eq_some_iff,Option.some.injEq]at hx
  obtain⟨v,hv,us,hus,rfl⟩:=hx
  simp[h.eval hv,h.evP hus]
def zeros(z:List Value):Nat→List Value
 |0=>[]
 |n+1=>z++zeros z n
theorem zeros_length(z:List Value)(n:Nat):(zeros z n).length=n*z.length:=by
 induction n with
 |zero=>simp[zeros]
 |succ n ih=>simp[zeros,ih,Nat.add_mul,Nat.add_comm]
theorem zeros_get(z:List Value):∀(n i:Nat),i<n*z.length→(zeros z n)[i]?=z[i % z.length]?
 |0,i,h=>by simp at h
 | n + 1, i, h => by
  simp only[zeros]
  by_cases c:i<z.length
  ·rw[List.getElem?_append_left c,Nat.mod_eq_of_lt c]
  ·rw[List.getElem?_append_right jB,zeros_get z n _ (by rw[Nat.add_mul,Nat.one_mul]at h;omega),Nat.mod_eq_sub_mod (a:=i) jB]
theorem zeros_array(z:List Value)(n:Nat)(hz:0<z.length):((Array.range (n*z.length)).map (z.toArray[· % z.toArray.size]!))=(zeros z n).toArray:=by
 apply Array.ext_getElem?;intro i;by_cases h:i<n*z.length
 ·have:=Nat.mod_lt i hz;simp[h,zeros_get z n i h,this]
 ·simp[h,List.getElem?_eq_none (show(zeros z n).length≤i by rw[zeros_length];omega)]
variable {ps:List (Nat × Operand)} {pl:List (Nat × Nat)} {zs:List Value} {hi mx:Option Operand} {lv hv mv cap:Nat}
section rules
variable {P:Program} {base:World} {n:Nat} {L:Env} {f:Frag} {A:List HP} {q:Post}
variable {l rest:List Oper} {d:Nat} {ty:TypeId} {pos:String} {af:Array Edge} {gd:Option (Nat × Bool)}
theorem AT{vs:List (Nat×Value)}{out:List Value}[hu:Und P t (.struct fs.toArray)][hpl:Plc P t pl][hz:Zer P t z](hw:want? l L gd=true)
  (hx:evP L ps=some vs) (hzs:cellsL z=zs) (ho:fillL (nthP pl) zs vs=some out) (hd:Nat.ble (d+1) n=true)
  (k:H P base n ((d,.agg out.toArray)::L) f A (.ops l rest q)):H P base n L f A (.ops l (⟨some d,.build t ps.toArray,ty,pos,af,gd⟩::rest) q):=
 AK hw hd (fun a w hfr _=>by
  subst hzs
  have h1:=hpl.eq fs.toArray w hu.eq
  have h2:=fill_eq _ _ _ _ ho
  have h3:(fun i=>pl.toArray[i]?)=nthP pl:=by funext i;rw[nthP_eq];simp
  have h4:z.cells=(cellsL z).toArray:=by rw[←cellsL_eq]
  have h5:(ps.toArray.map fun x:Nat×Operand=>(x.1,a.eval x.2)).toList=vs:=by rw[List.map_toArray];exact hfr.evP hx
  show Sem.run P (Instr.build t (ps.toArray.map fun x=>(x.1,a.eval x.2)) >>= fun v=>pure (Next.value v)) w=_
  unfold Instr.build
  simp only[Sem.run_bind,hz.run,Result.andThen_ok,hu.run,h1,h3,h4,h5,h2,Sem.run_pure]) k
theorem DE{len:Nat}{vs:List (Nat×Value)}{out:List Value}[hu:Und P t (.array len e)][hsz:Siz P e sz][hz:Zer P t z](hw:want? l L gd=true)
  (hx:evP L ps=some vs) (hzs:cellsL z=zs) (ho:fillL (fun i=>some (i*sz,sz)) zs vs=some out) (hd:Nat.ble (d+1) n=true)
  (k:H P base n ((d,.agg out.toArray)::L) f A (.ops l rest q)):H P base n L f A (.ops l (⟨some d,.build t ps.toArray,ty,pos,af,gd⟩::rest) q):=
 AK hw hd (fun a w hfr _=>by
  subst hzs
  have h2:=fill_eq _ _ _ _ ho
  have h4:z.cells=(cellsL z).toArray:=by rw[←cellsL_eq]
  have h5:(ps.toArray.map fun x:Nat×Operand=>(x.1,a.eval x.2)).toList=vs:=by rw[List.map_toArray];exact hfr.evP hx
  show Sem.run P (Instr.build t (ps.toArray.map fun x=>(x.1,a.eval x.2)) >>= fun v=>pure (Next.value v)) w=_
  unfold Instr.build
  simp only[Sem.run_bind,hz.run,Result.andThen_ok,hu.run,hsz.run,h4,h5,h2,Sem.run_pure]) k
theorem AS{len:Nat}{vs:List (Nat×Value)}{out:List Value}[hu:Und P t (.slice e)][hsz:Siz P e sz][hz:Zer P e z](hw:want? l L gd=true)
  (hx:evP L ps=some vs) (hzs:cellsL z=zs) (h0:zs.length=sz) (h1:0<sz) (hlen:len*sz≤16777216) (ho:fillL (fun i=>some (i*sz,sz)) (zeros zs len) vs=some out) (hd:Nat.ble (d+1) n=true)
  (k:∀b,H P base n ((d,.slice (some ⟨b,0,none⟩) len len)::L) f (row b e out::A) (.ops l rest q)):H P base n L f A (.ops l (⟨some d,.buildSlice t len ps.toArray,ty,pos,af,gd⟩::rest) q):=
 C0 (fun b=>.slice (some ⟨b,0,none⟩) len len) (fun _=>f) (fun b=>row b e out::A) (fun _=>True) hw hd (fun a w hfr s=>by
  subst hzs;subst h0
  have h2:=fill_eq _ _ _ _ ho
  have h4:z.cells=(cellsL z).toArray:=by rw[←cellsL_eq]
  have h5:(ps.toArray.map fun x:Nat×Operand=>(x.1,a.eval x.2)).toList=vs:=by rw[List.map_toArray];exact hfr.evP hx
  have h6:¬(len*(cellsL z).length>2 ^ 24):=jB
  refine⟨w.heap.size,w.alloc (.cells out.toArray e (0,0)),trivial,?_,s.alloc rfl rfl rfl rfl⟩
  show Sem.run P (Instr.buildSlice t len (ps.toArray.map fun x=>(x.1,a.eval x.2)) >>= fun v=>pure (Next.value v)) w=_
  unfold Instr.buildSlice newRow
  by_cases c:len*(cellsL z).length=0
  ·have c0:len=0:=by
    rcases Nat.mul_eq_zero.1 c with h|h
    ·exact h
    ·omega
   subst c0
   have e0:(Array.range (0*(cellsL z).length)).map ((#[]:Array Value)[· % (#[]:Array Value).size]!)=(zeros (cellsL z) 0).toArray:=by simp[zeros]
   simp only[Sem.run_bind,hu.run,hsz.run,Result.andThen_ok,if_neg h6,if_pos c,Sem.run_pure,e0,h5,h2,run_newObj]
   rfl
  ·have e1:=zeros_array (cellsL z) len h1
   simp only[Sem.run_bind,hu.run,hsz.run,hz.run,Result.andThen_ok,if_neg h6,if_neg c,Sem.run_pure,h4,e1,h5,h2,run_newObj]
   rfl) (fun b _=>k b)
def slP(p:Option Addr)(l m sz:Nat):Option Addr:=if m=l then p else p.map (·.add (l*sz))
def bnd(L:Env)(o:Option Operand)(i dflt:Nat):Prop:=match o with
 |none=>i=dflt
 |some x=>∃k z,ev? L x=some (.int k z)∧z=(i:Nat)
theorem zcb{k:IntKind}{i y:Nat}{c:BoundsCode}(h:i≤y):(Instr.sliceBound (.int k (i:Nat)) y c).run P w= .ok i w:=by
 unfold Instr.sliceBound;have:(0:Int)≤i∧(i:Int)≤y:=jB
 simp[asIntOf,h]
theorem run_bounds(hfr:Fr n a L){lo:Option Operand}{len:Nat}{isS:Bool}(h1:bnd L lo lv 0)(h2:bnd L hi hv len)(h3:bnd L mx mv cap)(hmx:mx.isSome→hi.isSome)
  (a1:lv≤hv) (a2:hv≤mv) (a3:mv≤cap):(Instr.sliceBounds isS len cap (lo.map a.eval) (hi.map a.eval) (mx.map a.eval)).run P w= .ok (lv,hv,mv) w:=by
 unfold Instr.sliceBounds
 cases lo with
 | none =>
  cases hi with
  | none =>
   cases mx with
   |none=>simp only[bnd]at h1 h2 h3;subst h1;subst h2;subst h3;simp
   |some m=>simp at hmx
  | some hh =>
   obtain⟨kh,zh,eh,rfl⟩:=h2;simp only[bnd]at h1;subst h1
   cases mx with
   |none=>simp only[bnd]at h3;subst h3;simp[hfr.eval eh,zcb a2]
   | some m =>
    obtain⟨km,zm,em,rfl⟩:=h3;simp[hfr.eval eh,hfr.eval em,zcb a2,zcb a3]
 | some ll =>
  obtain⟨kl,zl,el,rfl⟩:=h1
  cases hi with
  | none =>
   cases mx with
   |none=>simp only[bnd]at h2 h3;subst h2;subst h3;simp[hfr.eval el,zcb a1]
   |some m=>simp at hmx
  | some hh =>
   obtain⟨kh,zh,eh,rfl⟩:=h2
   cases mx with
   |none=>simp only[bnd]at h3;subst h3;simp[hfr.eval eh,hfr.eval el,zcb a2,zcb a1]
   | some m =>
    obtain⟨km,zm,em,rfl⟩:=h3;simp[hfr.eval eh,hfr.eval em,hfr.eval el,zcb a2,zcb a3,zcb a1]
theorem H.slice{t e:TypeId}{x:Operand}{lo hi mx:Option Operand}{p:Option Addr}{len cap lv hv mv sz:Nat}[hu:Und P t (.slice e)][hs:Siz P e sz](hw:want? l L gd=true)
  (hx:ev? L x=some (.slice p len cap)) (h1:bnd L lo lv 0) (h2:bnd L hi hv len) (h3:bnd L mx mv cap) (hmx:mx.isSome→hi.isSome) (a1:lv≤hv) (a2:hv≤mv) (a3:mv≤cap) (hd:Nat.ble (d+1) n=true)
  (k:H P base n ((d,.slice (slP p lv mv sz) (hv-lv) (mv-lv))::L) f A (.ops l rest q)):H P base n L f A (.ops l (⟨some d,.slice t x lo hi mx,ty,pos,af,gd⟩::rest) q):=
 AK hw hd (fun a w hfr _=>by
  have hb:=run_bounds (P:=P) (w:=w) (isS:=true) hfr h1 h2 h3 hmx a1 a2 a3
  show Sem.run P (Instr.sliceAt t (a.eval x) (lo.map a.eval) (hi.map a.eval) (mx.map a.eval) >>= fun v=>pure (Next.value v)) w=_
  unfold Instr.sliceAt Instr.slice
  simp only[Sem.run_bind,hu.run,Result.andThen_ok,hfr.eval hx,hb,hs.run,Sem.run_pure,slP]) k
theorem C4{lo:Option Operand}{len:Nat}[hu:Und P t (.array len e)][hs:Siz P e sz](hw:want? l L gd=true)
  (hx:ev? L x=some (.pointer (some ⟨b,off,none⟩))) (h1:bnd L lo lv 0) (h2:bnd L hi hv len) (h3:bnd L mx mv len) (hmx:mx.isSome→hi.isSome) (a1:lv≤hv) (a2:hv≤mv) (a3:mv≤len) (hd:Nat.ble (d+1) n=true)
  (k:H P base n ((d,.slice (slP (some ⟨b,off,none⟩) lv mv sz) (hv-lv) (mv-lv))::L) f A (.ops l rest q)):H P base n L f A (.ops l (⟨some d,.slice t x lo hi mx,ty,pos,af,gd⟩::rest) q):=
 AK hw hd (fun a w hfr _=>by
  have hb:=run_bounds (P:=P) (w:=w) (isS:=false) hfr h1 h2 h3 hmx a1 a2 a3
  show Sem.run P (Instr.sliceAt t (a.eval x) (lo.map a.eval) (hi.map a.eval) (mx.map a.eval) >>= fun v=>pure (Next.value v)) w=_
  unfold Instr.sliceAt
  simp only[Sem.run_bind,hu.run,Result.andThen_ok,hfr.eval hx,hb,hs.run,Sem.run_pure,slP,Instr.sureAddr]
  split<;>rfl) k
theorem run_equal_sn(hu:Und P t (.slice e))(p:Option Addr)(m c:Nat)(w:World):(Op.equal t (.slice p m c) (.slice none 0 0)).run P w= .ok p.isNone w:=by
 have h:∀d,(Op.equalIn (d+1) t (.slice p m c) (.slice none 0 0)).run P w= .ok p.isNone w:=fun d=>by
  cases p<;>simp[Op.equalIn,hu.run]
 exact h 9999
theorem run_guard_slice(op:BinOp)(t:TypeId)(x y:Operand)(p:Option Addr)(m c:Nat)(w:World):(eqGuard op t x y (.slice p m c) (.slice none 0 0)).run P w= .ok () w:=by
 cases op<;>rfl
theorem CG{b:Bool}[hu:Und P xt (.slice e)](hw:want? l L gd=true)(hx:ev? L x=some (.slice p m c))(hy:ev? L y=some (.slice none 0 0))(hb:nilP op p=some b)(hd:Nat.ble (d+1) n=true)
  (kk:H P base n ((d,.bool b)::L) f A (.ops l rest q)):H P base n L f A (.ops l (⟨some d,.binOp op xt x y yt,ty,pos,af,gd⟩::rest) q):=
 AK hw hd (fun a w hf _=>by
  refine run_bin _ ?_ ?_
  ·rw[hf.eval hx,hf.eval hy];exact run_guard_slice _ _ _ _ _ _ _ _
  ·rw[hf.eval hx,hf.eval hy]
   have e1:Sem.run P (do pure (Value.bool (←Op.equal xt (.slice p m c) (.slice none 0 0)))) w= .ok (.bool p.isNone) w:=by simp[run_equal_sn hu]
   have e2:Sem.run P (do pure (Value.bool (!(←Op.equal xt (.slice p m c) (.slice none 0 0))))) w= .ok (.bool (!p.isNone)) w:=by simp[run_equal_sn hu]
   cases op<;>cases p<;>simp only[nilP,Option.some.injEq,reduceCtorEq]at hb<;>subst hb<;>first|exact e1|exact e2) kk
end rules
theorem wr_i64{z:Int}(h:-9223372036854775808≤z∧z≤9223372036854775807):IntKind.i64.wrap z=z:=IntWalk.i64_in z h
theorem wr_u64{z:Int}(h:0≤z∧z≤18446744073709551615):IntKind.u64.wrap z=z:=IntWalk.u64_in z h
theorem wr_u8{z:Int}(h:0≤z∧z≤255):IntKind.u8.wrap z=z:=IntWalk.u8_in z h
theorem wr_u16{z:Int}(h:0≤z∧z≤65535):IntKind.u16.wrap z=z:=IntWalk.u16_in z h
theorem zbk{a:Nat}(h:a+b≤9223372036854775807):IntKind.i64.wrap ((a:Int)+(b:Int))=((a+b:Nat):Int):=by
 rw[wr_i64 jB];omega
theorem zay{a:Nat}(h:a+1≤9223372036854775807):IntKind.i64.wrap ((a:Int)+1)=((a+1:Nat):Int):=by
 rw[wr_i64 jB];omega
theorem zbm{a:Nat}(h:a≤9223372036854775807):IntKind.i64.wrap (((a+1:Nat):Int)-1)=(a:Int):=by
 rw[wr_i64 jB];omega
theorem fold_stars{p:HP}(h:∀x,stars B x→p x):∀x,stars (B++A) x→stars (p::A) x:=by
 intro x hx;rw[zbz]at hx;obtain⟨m1,m2,d,e,a,b⟩:=hx;exact⟨m1,m2,d,e,h m1 a,b⟩
theorem keep_stars{p:HP}(h:∀x,stars B x→stars A x):∀x,stars (p::B) x→stars (p::A) x:=by
 rintro x ⟨m1,m2,d,e,a,b⟩;exact⟨m1,m2,d,e,a,h m2 b⟩
theorem EN{p:HP}{ι:Sort _}{B:ι→List HP}(hp:∀h,p h→∃i,stars (B i) h)
  (k:∀i,Fn P fid args f (B i++A) R):Fn P fid args f (p::A) R:=fun base w s=>by
 obtain⟨a1,a2,a3,a4,a5,m,⟨m1,m2,d,e,a,b⟩,hd,hw⟩:=s
 obtain⟨i,hi⟩:=hp m1 a
 exact k i base w ⟨a1,a2,a3,a4,a5,m,by rw[zbz];exact⟨m1,m2,d,e,hi,b⟩,hd,hw⟩
theorem EO{p:HP}{ι:Sort _}{B:ι→List HP}(hp:∀h,p h→∃i,stars (B i) h)
  (k:∀i,H P base n L f (B i++A) K):H P base n L f (p::A) K:=.mk fun a w hf s=>by
 obtain⟨a1,a2,a3,a4,a5,m,⟨m1,m2,d,e,aa,b⟩,hd,hw⟩:=s
 obtain⟨i,hi⟩:=hp m1 aa
 exact(k i).out a w hf ⟨a1,a2,a3,a4,a5,m,by rw[zbz];exact⟨m1,m2,d,e,hi,b⟩,hd,hw⟩
theorem Fn.imp{P:Program}{fid:FuncId}{args:List Value}{f:Frag}{A A':List HP}{R:Value→Frag→List HP→Prop}(hx:∀x,stars A x→stars A' x)(k:Fn P fid args f A' R):Fn P fid args f A R:=fun base w s=>k base w (s.imp hx)
theorem Fn.front{P:Program}{fid:FuncId}{args:List Value}{f:Frag}{A A':List HP}{x:HP}{R:Value→Frag→List HP→Prop}(hp:Pull A x A')(k:Fn P fid args f (x::A') R):Fn P fid args f A R:=fun base w s=>k base w (s.front hp)
section rules
variable {P:Program} {base:World} {n:Nat} {L:Env} {f:Frag} {A V:List HP} {q:Post} {ξ:Ext} {tl:List Oper}
variable {l rest:List Oper} {d:Nat} {ty:TypeId} {pos:String} {af:Array Edge} {gd:Option (Nat × Bool)}
theorem Ct{vs:List (Nat×Value)}{out:List Value}[hu:Und P t (.struct fs.toArray)][hpl:Plc P t pl][hz:Zer P t z](hw:want? l L gd=true)
  (hx:evP L ps=some vs) (hzs:cellsL z=zs) (ho:fillL (nthP pl) zs vs=some out) (hd:Nat.ble (d+1) n=true)
  (k:HQ V ⟨lst.setIfInBounds ti true,tt⟩ P base n ((d,.agg out.toArray)::L) f A (.ops l rest q)):HQ V ⟨lst,(ti,false)::tt⟩ P base n L f A (.ops l (⟨some d,.build t ps.toArray,ty,pos,af,gd⟩::rest) q):=
 As hw hd (fun a w hfr _=>by
  subst hzs
  have h1:=hpl.eq fs.toArray w hu.eq
  have h2:=fill_eq _ _ _ _ ho
  have h3:(fun i=>pl.toArray[i]?)=nthP pl:=by funext i;rw[nthP_eq];simp
  have h4:z.cells=(cellsL z).toArray:=by rw[←cellsL_eq]
  have h5:(ps.toArray.map fun x:Nat×Operand=>(x.1,a.eval x.2)).toList=vs:=by rw[List.map_toArray];exact hfr.evP hx
  show Sem.run P (Instr.build t (ps.toArray.map fun x=>(x.1,a.eval x.2)) >>= fun v=>pure (Next.value v)) w=_
  unfold Instr.build
  simp only[Sem.run_bind,hz.run,Result.andThen_ok,hu.run,h1,h3,h4,h5,h2,Sem.run_pure]) k
theorem HQ.slice{t e:TypeId}{x:Operand}{lo hi mx:Option Operand}{p:Option Addr}{len cap lv hv mv sz:Nat}[hu:Und P t (.slice e)][hs:Siz P e sz](hw:want? l L gd=true)
  (hx:ev? L x=some (.slice p len cap)) (h1:bnd L lo lv 0) (h2:bnd L hi hv len) (h3:bnd L mx mv cap) (hmx:mx.isSome→hi.isSome) (a1:lv≤hv) (a2:hv≤mv) (a3:mv≤cap) (hd:Nat.ble (d+1) n=true) {lst:Lst} {ti:Nat} {tt:List (Nat×Bool)}
  (k:HQ V ⟨lst.setIfInBounds ti true,tt⟩ P base n ((d,.slice (slP p lv mv sz) (hv-lv) (mv-lv))::L) f A (.ops l rest q)):HQ V ⟨lst,(ti,false)::tt⟩ P base n L f A (.ops l (⟨some d,.slice t x lo hi mx,ty,pos,af,gd⟩::rest) q):=
 As hw hd (fun a w hfr _=>by
  have hb:=run_bounds (P:=P) (w:=w) (isS:=true) hfr h1 h2 h3 hmx a1 a2 a3
  show Sem.run P (Instr.sliceAt t (a.eval x) (lo.map a.eval) (hi.map a.eval) (mx.map a.eval) >>= fun v=>pure (Next.value v)) w=_
  unfold Instr.sliceAt Instr.slice
  simp only[Sem.run_bind,hu.run,Result.andThen_ok,hfr.eval hx,hb,hs.run,Sem.run_pure,slP]) k
theorem EB{lo:Option Operand}{len:Nat}[hu:Und P t (.array len e)][hs:Siz P e sz](hw:want? l L gd=true)
  (hx:ev? L x=some (.pointer (some ⟨b,off,none⟩))) (h1:bnd L lo lv 0) (h2:bnd L hi hv len) (h3:bnd L mx mv len) (hmx:mx.isSome→hi.isSome) (a1:lv≤hv) (a2:hv≤mv) (a3:mv≤len) (hd:Nat.ble (d+1) n=true)
  (k:HQ V ⟨lst.setIfInBounds ti true,tt⟩ P base n ((d,.slice (slP (some ⟨b,off,none⟩) lv mv sz) (hv-lv) (mv-lv))::L) f A (.ops l rest q)):HQ V ⟨lst,(ti,false)::tt⟩ P base n L f A (.ops l (⟨some d,.slice t x lo hi mx,ty,pos,af,gd⟩::rest) q):=
 As hw hd (fun a w hfr _=>by
  have hb:=run_bounds (P:=P) (w:=w) (isS:=false) hfr h1 h2 h3 hmx a1 a2 a3
  show Sem.run P (Instr.sliceAt t (a.eval x) (lo.map a.eval) (hi.map a.eval) (mx.map a.eval) >>= fun v=>pure (Next.value v)) w=_
  unfold Instr.sliceAt
  simp only[Sem.run_bind,hu.run,Result.andThen_ok,hfr.eval hx,hb,hs.run,Sem.run_pure,slP,Instr.sureAddr]
  split<;>rfl) k
theorem ED{vs:List (Nat×Value)}{out:List Value}[hu:Und P t (.struct fs.toArray)][hpl:Plc P t pl][hz:Zer P t z](hw:want? l L gd=true)
  (hx:evP L ps=some vs) (hzs:cellsL z=zs) (ho:fillL (nthP pl) zs vs=some out) (hd:Nat.ble (d+1) n=true)
  (k:HS tl P base n ((d,.agg out.toArray)::L) f A (.ops l rest q)):HS tl P base n L f A (.ops l (⟨some d,.build t ps.toArray,ty,pos,af,gd⟩::rest) q):=
 CL hw hd (fun a w hfr _=>by
  subst hzs
  have h1:=hpl.eq fs.toArray w hu.eq
  have h2:=fill_eq _ _ _ _ ho
  have h3:(fun i=>pl.toArray[i]?)=nthP pl:=by funext i;rw[nthP_eq];simp
  have h4:z.cells=(cellsL z).toArray:=by rw[←cellsL_eq]
  have h5:(ps.toArray.map fun x:Nat×Operand=>(x.1,a.eval x.2)).toList=vs:=by rw[List.map_toArray];exact hfr.evP hx
  show Sem.run P (Instr.build t (ps.toArray.map fun x=>(x.1,a.eval x.2)) >>= fun v=>pure (Next.value v)) w=_
  unfold Instr.build
  simp only[Sem.run_bind,hz.run,Result.andThen_ok,hu.run,h1,h3,h4,h5,h2,Sem.run_pure]) k
end rules
def Ret(v:Value)(f:Frag)(A:List HP):Value→Frag→List HP→Prop:=fun u f' A'=>u=v∧f'=f∧A'=A
section
variable {P:Program} {base:World} {n:Nat} {L:Env} {f f':Frag} {A A':List HP} {q:Post}
variable {l rest:List Oper} {d:Nat} {ty:TypeId} {pos:String} {af:Array Edge} {gd:Option (Nat × Bool)}
theorem A8{xs:List Operand}[hfun:Fun P fid](hw:want? l L gd=true)(hd:Nat.ble (d+1) n=true)
  (hx:evs? L xs=some vs) (hc:Fn P fid vs f A (Ret v f' A')) (k:H P base n ((d,v)::L) f' A' (.ops l rest q)) :
  H P base n L f A (.ops l (⟨some d,.call ⟨.value (.func fid),xs.toArray,ats⟩,ty,pos,af,gd⟩::rest) q):=
 AV hw hd hx hc fun _ _ _ h=>by obtain⟨rfl,rfl,rfl⟩:=h;exact k
def RetE{α:Type}(v:α→Value)(f:Frag)(A:α→List HP):Value→Frag→List HP→Prop:=fun u f' A'=>∃i,u=v i∧f'=f∧A'=A i
theorem AW{xs:List Operand}{v:α→Value}{Ai:α→List HP}[hfun:Fun P fid](hw:want? l L gd=true)(hd:Nat.ble (d+1) n=true)
  (hx:evs? L xs=some vs) (hc:Fn P fid vs f A (RetE v f' Ai)) (k:∀i,H P base n ((d,v i)::L) f' (Ai i) (.ops l rest q)) :
  H P base n L f A (.ops l (⟨some d,.call ⟨.value (.func fid),xs.toArray,ats⟩,ty,pos,af,gd⟩::rest) q):=
 AV hw hd hx hc fun _ _ _ h=>by obtain⟨i,rfl,rfl,rfl⟩:=h;exact k i
theorem AG{β:Type}{xs:List Operand}{v:α→β→Value}{Ai:α→β→List HP}[hfun:Fun P fid](hw:want? l L gd=true)(hd:Nat.ble (d+1) n=true)
  (hx:evs? L xs=some vs) (hc:Fn P fid vs f A (fun u g B=>∃i j,u=v i j∧g=f'∧B=Ai i j)) (k:∀i j,H P base n ((d,v i j)::L) f' (Ai i j) (.ops l rest q)) :
  H P base n L f A (.ops l (⟨some d,.call ⟨.value (.func fid),xs.toArray,ats⟩,ty,pos,af,gd⟩::rest) q):=
 AV hw hd hx hc fun _ _ _ h=>by obtain⟨i,j,rfl,rfl,rfl⟩:=h;exact k i j
end
theorem AY(T:TypeId)(sz:Nat)(k:H P base n L f (slc none 0 0 T sz []::A) K):H P base n L f A K:=
 H.imp (A':=slc none 0 0 T sz []::A) (fun h hh=>⟨nil0,h,(Dj.nil h).symm,(nil_un h).symm,slc_nil none T sz,hh⟩) k
variable {f1:Frag}
theorem A5{A1:List HP}{l:List Oper}{d:Nat}{xs:List Operand}[hfun:Fun P fid](hc:Fn P fid vs f A (Ret v f1 A1))(hw:want? l L gd=true:=by exact rfl)(hd:Nat.ble (d+1) n=true:=by exact rfl)(hx:evs? L xs=some vs:=by exact rfl):H P base n ((d,v)::L) f1 A1 (.ops l rest q)→H P base n L f A (.ops l (⟨some d,.call ⟨.value (.func fid),xs.toArray,ats⟩,ty,pos,af,gd⟩::rest) q):=A8 hw hd hx hc
theorem C3{l:List Oper}{d:Nat}{xs:List Operand}{v:α→Value}{Ai:α→List HP}[hfun:Fun P fid](hc:Fn P fid vs f A (RetE v f1 Ai))(k:∀i,H P base n ((d,v i)::L) f1 (Ai i) (.ops l rest q))(hw:want? l L gd=true:=by exact rfl)(hd:Nat.ble (d+1) n=true:=by exact rfl)(hx:evs? L xs=some vs:=by exact rfl):H P base n L f A (.ops l (⟨some d,.call ⟨.value (.func fid),xs.toArray,ats⟩,ty,pos,af,gd⟩::rest) q):=AW hw hd hx hc k
/-! ### Equality of structs and arrays -/
variable {ys cs:List Value} {D:Nat}
section
variable {P:Program}
def chunk(xs:List Value)(off c:Nat):List Value:=(xs.drop off).take c
def shp(P:Program):Nat→TypeId→List Value→Bool
 |0,_,_=>false
 | d + 1, t, cs => match P.underlying t with
  | some .bool => match cs with
   | [.bool _]=>true
   |_=>false
  | some (.int q) => match cs with
   | [.int q' _]=>decide (q'=q)
   |_=>false
  | some .string => match cs with
   | [.string _]=>true
   |_=>false
  |some (.array n e)=>(P.info? e).isSome&&Nat.beq cs.length (n*P.cellsOf e)&&(List.range' 0 n).all fun i=>shp P d e (chunk cs (i*P.cellsOf e) (P.cellsOf e))
  |some (.struct fs)=>!P.stoodInHeld t&&Nat.beq cs.length (P.cellsOf t)&&offs P fs.toList 0 cs.length&&fs.toList.all fun f=>shp P d f.type (chunk cs f.offset (P.cellsOf f.type))
  |_=>false
where offs (P:Program):List Field→Nat→Nat→Bool
 | [],o,n=>Nat.beq o n
 | f :: fs, o, n => (f.name != "_") && Nat.beq f.offset o && offs P fs (o + P.cellsOf f.type) n
def mkV(P:Program)(t:TypeId)(xs:List Value):Value:=match P.underlying t with
 |some (.array _ _)|some (.struct _)=>.agg xs.toArray
 |_=>xs.headD undef
def eqv:Value→Value→Bool
 | .bool a,.bool b=>a == b
 | .int _ a,.int _ b=>a == b
 | .string a,.string b=>a == b
 |_,_=>false
def eqC:List Value→List Value→Bool
 | [],[]=>true
 |x::xs,y::ys=>eqv x y&&eqC xs ys
 |_,_=>false
theorem eqC_append:∀ {a c:List Value} (b d:List Value),a.length=c.length→eqC (a++b) (c++d)=(eqC a c&&eqC b d)
 | [],[],b,d,_=>by simp[eqC]
 | x :: a, y :: c, b, d, h => by
  simp only[List.cons_append,eqC]
  rw[eqC_append b d jc,Bool.and_assoc]
theorem eqC_drop(h:xs.length=ys.length)(o c:Nat):eqC (xs.drop o) (ys.drop o)=(eqC (chunk xs o c) (chunk ys o c)&&eqC (xs.drop (o+c)) (ys.drop (o+c))):=by
 have e:∀l:List Value,l.drop o=chunk l o c++l.drop (o+c):=fun l=>by
  unfold chunk;rw[←List.drop_drop,List.take_append_drop]
 rw[e xs,e ys,eqC_append];unfold chunk;simp[h]
theorem shp_plain(h:shp P D t cs=true)(hp:∀n e,P.underlying t≠some (.array n e))(hs:∀fs,P.underlying t≠some (.struct fs)):P.plainKey t=true∧∃v,cs=[v]∧mkV P t cs=v∧∀D' ys,shp P D' t ys=true→∃u,ys=[u]∧mkV P t ys=u∧∀w d,(Op.equalIn (d+1) t v u).run P w= .ok (eqC cs ys) w:=by
 cases D with
 |zero=>simp[shp]at h
 | succ D =>
  unfold shp at h
  cases hu:P.underlying t with
  |none=>simp[hu]at h
  | some k =>
   cases k
   case bool=>
    rw[hu]at h;simp only at h;split at h
    ·rename_i a
     refine⟨by simp[Program.plainKey,hu],_,rfl,by simp[mkV,hu],fun D' ys h'=>?_⟩
     cases D' with
     |zero=>simp[shp]at h'
     | succ D' =>
      unfold shp at h';rw[hu]at h';simp only at h';split at h'
      ·rename_i b
       refine⟨_,rfl,by simp[mkV,hu],fun w d=>?_⟩;rw[run_equalIn_bool w d t a b hu];simp[eqC,eqv]
      ·cases h'
    ·cases h
   case int q=>
    rw[hu]at h;simp only at h;split at h
    ·rename_i q1 a
     refine⟨by simp[Program.plainKey,hu],_,rfl,by simp[mkV,hu],fun D' ys h'=>?_⟩
     cases D' with
     |zero=>simp[shp]at h'
     | succ D' =>
      unfold shp at h';rw[hu]at h';simp only at h';split at h'
      ·rename_i q2 b
       refine⟨_,rfl,by simp[mkV,hu],fun w d=>?_⟩;simp only[decide_eq_true_eq]at h h';subst h;subst h';rw[run_equalIn_int w d t _ _ _ _ hu];simp[eqC,eqv]
      ·cases h'
    ·cases h
   case string=>
    rw[hu]at h;simp only at h;split at h
    ·rename_i a
     refine⟨by simp[Program.plainKey,hu],_,rfl,by simp[mkV,hu],fun D' ys h'=>?_⟩
     cases D' with
     |zero=>simp[shp]at h'
     | succ D' =>
      unfold shp at h';rw[hu]at h';simp only at h';split at h'
      ·rename_i b
       refine⟨_,rfl,by simp[mkV,hu],fun w d=>?_⟩;rw[run_equalIn_string w d t a b hu];simp[eqC,eqv,beq_toListBytes]
      ·cases h'
    ·cases h
   case array n e=>exact absurd hu (hp n e)
   case struct fs=>exact absurd hu (hs fs)
   all_goals (simp[hu]at h;done)
theorem shp_len(hu:P.underlying t=some (.array n e))(h:shp P D t cs=true):(∃i,P.info? e=some i)∧cs.length=n*P.cellsOf e∧∃D',D=D'+1∧∀i,i<n→shp P D' e (chunk cs (i*P.cellsOf e) (P.cellsOf e))=true:=by
 cases D with
 |zero=>simp[shp]at h
 | succ D =>
  unfold shp at h;rw[hu]at h;simp only[Bool.and_eq_true,List.all_eq_true]at h;exact⟨Option.isSome_iff_exists.1 h.1.1,Nat.eq_of_beq_eq_true h.1.2,D,rfl,fun i hi=>h.2 i (by simp[List.mem_range'_1,hi])⟩
theorem shp_str{fs:Array Field}(hu:P.underlying t=some (.struct fs))(h:shp P D t cs=true):P.stoodInHeld t=false∧cs.length=P.cellsOf t∧shp.offs P fs.toList 0 cs.length=true∧∃D',D=D'+1∧∀f∈fs.toList,shp P D' f.type (chunk cs f.offset (P.cellsOf f.type))=true:=by
 cases D with
 |zero=>simp[shp]at h
 | succ D =>
  unfold shp at h;rw[hu]at h;simp only[Bool.and_eq_true,List.all_eq_true,Bool.not_eq_true']at h;exact⟨h.1.1.1,Nat.eq_of_beq_eq_true h.1.1.2,h.1.2,D,rfl,h.2⟩
theorem zca(w:World)(h:shp P D e (chunk xs off (P.cellsOf e))=true)(hle:off+P.cellsOf e≤xs.length):(part e xs.toArray off).run P w= .ok (mkV P e (chunk xs off (P.cellsOf e))) w:=by
 have agg:(∃n e',P.underlying e=some (.array n e'))∨(∃fs,P.underlying e=some (.struct fs))→(part e xs.toArray off).run P w= .ok (mkV P e (chunk xs off (P.cellsOf e))) w:=by
  intro hk
  have hl:(xs.toArray.extract off (off+P.cellsOf e))=(chunk xs off (P.cellsOf e)).toArray:=by
   apply Array.ext';rw[Array.toList_extract];simp[List.extract,chunk]
  rcases hk with⟨n,e',hu⟩|⟨fs,hu⟩
  ·obtain⟨i,hi⟩:=info_of_underlying hu;simp[part,isAgg,run_underlying hu,run_sizeOf w hi,mkV,hu,hl];rfl
  ·obtain⟨i,hi⟩:=info_of_underlying hu;simp[part,isAgg,run_underlying hu,run_sizeOf w hi,mkV,hu,hl];rfl
 by_cases h1:∃n e',P.underlying e=some (.array n e')
 ·exact agg (.inl h1)
 ·by_cases h2:∃fs,P.underlying e=some (.struct fs)
  ·exact agg (.inr h2)
  ·obtain⟨hpk,v,hv,hmk,_⟩:=shp_plain h (fun n e' hu=>h1 ⟨n,e',hu⟩) (fun fs hu=>h2 ⟨fs,hu⟩);rw[hmk];have:xs.toArray[off]?=some v:=getElem?_of_chunk (c:=P.cellsOf e) (by simpa [chunk]using hv);exact run_part_plain w hpk this
theorem run_eqItems_shp(w:World){d D D':Nat}{e:TypeId}{xs ys:List Value}(hl:xs.length=ys.length)
  (IH:∀w D D' xs ys,shp P D e xs=true→shp P D' e ys=true→D≤d→(Op.equalIn d e (mkV P e xs) (mkV P e ys)).run P w= .ok (eqC xs ys) w) (hD:D≤d) :
  ∀(m k:Nat),(k+m)*P.cellsOf e=xs.length→(∀i,k≤i→i<k+m→shp P D e (chunk xs (i*P.cellsOf e) (P.cellsOf e))=true∧shp P D' e (chunk ys (i*P.cellsOf e) (P.cellsOf e))=true)→
  (Op.eqItems d e (P.cellsOf e) xs.toArray ys.toArray (List.range' k m)).run P w= .ok (eqC (xs.drop (k*P.cellsOf e)) (ys.drop (k*P.cellsOf e))) w
 | 0, k, hk, _ => by
  have h1:xs.drop (k*P.cellsOf e)=[]:=List.drop_eq_nil_of_le (by rw[←hk];simp)
  have h2:ys.drop (k*P.cellsOf e)=[]:=List.drop_eq_nil_of_le (by rw[←hl,←hk];simp)
  rw[h1,h2]
  simp[Op.eqItems,eqC]
 | m + 1, k, hk, hs => by
  obtain⟨a1,a2⟩:=hs k (Nat.le_refl _) jB
  have hle:k*P.cellsOf e+P.cellsOf e≤xs.length:=by
   rw[←hk]
   calc k*P.cellsOf e+P.cellsOf e=(k+1)*P.cellsOf e:=by rw[Nat.add_mul];omega
    _≤(k+(m+1))*P.cellsOf e:=Nat.mul_le_mul_right _ jB
  have p1:=zca w a1 hle
  have p2:=zca w a2 jB
  have p3:=IH w D D' _ _ a1 a2 hD
  have ih:=run_eqItems_shp w hl IH hD m (k+1) (by rw[←hk];congr 1;omega) (fun i h1 h2=>hs i jB jB)
  rw[eqC_drop hl (k*P.cellsOf e) (P.cellsOf e)]
  rw[show k*P.cellsOf e+P.cellsOf e=(k+1)*P.cellsOf e by rw[Nat.add_mul];omega]
  simp only[List.range'_succ,Op.eqItems,Sem.run_bind,p1,p2,p3,Result.andThen_ok]
  cases eqC (chunk xs (k*P.cellsOf e) (P.cellsOf e)) (chunk ys (k*P.cellsOf e) (P.cellsOf e))
  ·simp
  ·simpa using ih
theorem run_eqFields_shp(w:World){d D D':Nat}{xs ys:List Value}(hl:xs.length=ys.length)(hD:D≤d):∀(fs:List Field) (o:Nat),(∀f∈fs,∀w D D' xs ys,shp P D f.type xs=true→shp P D' f.type ys=true→D≤d→(Op.equalIn d f.type (mkV P f.type xs) (mkV P f.type ys)).run P w= .ok (eqC xs ys) w)→
  shp.offs P fs o xs.length=true→(∀f∈fs,shp P D f.type (chunk xs f.offset (P.cellsOf f.type))=true∧shp P D' f.type (chunk ys f.offset (P.cellsOf f.type))=true)→
  (Op.eqFields d xs.toArray ys.toArray fs).run P w= .ok (eqC (xs.drop o) (ys.drop o)) w∧o≤xs.length
 | [], o, _, ho, _ => by
  have e:o=xs.length:=Nat.eq_of_beq_eq_true ho
  have h1:xs.drop o=[]:=List.drop_eq_nil_of_le jB
  have h2:ys.drop o=[]:=List.drop_eq_nil_of_le jB
  rw[h1,h2]
  exact⟨by simp[Op.eqFields,eqC],by omega⟩
 | f :: fs, o, IH, ho, hs => by
  simp only[shp.offs,Bool.and_eq_true,bne_iff_ne,ne_eq]at ho
  obtain⟨⟨hn,he⟩,hr⟩:=ho
  have he':f.offset=o:=Nat.eq_of_beq_eq_true he
  subst he'
  obtain⟨ih,hle⟩:=run_eqFields_shp w hl hD fs (f.offset+P.cellsOf f.type) (fun g hg=>IH g (by simp[hg])) hr (fun g hg=>hs g (by simp[hg]))
  obtain⟨a1,a2⟩:=hs f jI
  have p1:=zca w a1 hle
  have p2:=zca w a2 jB
  have p3:=IH f jI w D D' _ _ a1 a2 hD
  refine⟨?_,by omega⟩
  rw[eqC_drop hl f.offset (P.cellsOf f.type)]
  simp only[Op.eqFields,hn,ne_eq,not_false_eq_true,if_true,Sem.run_bind,p1,p2,p3,Result.andThen_ok]
  cases eqC (chunk xs f.offset (P.cellsOf f.type)) (chunk ys f.offset (P.cellsOf f.type))
  ·simp
  ·simpa using ih
theorem zbf:∀(d:Nat) (t:TypeId) (w:World) (D D':Nat) (xs ys:List Value),shp P D t xs=true→shp P D' t ys=true→D≤d→(Op.equalIn d t (mkV P t xs) (mkV P t ys)).run P w= .ok (eqC xs ys) w
 | 0, t, w, D, D', xs, ys, hx, _, hd => by
  have:D=0:=jB
  subst this
  simp[shp]at hx
 | d + 1, t, w, D, D', xs, ys, hx, hy, hd => by
  by_cases h1:∃n e',P.underlying t=some (.array n e')
  ·obtain⟨n,e,hu⟩:=h1
   obtain⟨⟨i,hi⟩,l1,D1,rfl,s1⟩:=shp_len hu hx
   obtain⟨_,l2,D2,rfl,s2⟩:=shp_len hu hy
   have hm:mkV P t xs= .agg xs.toArray∧mkV P t ys= .agg ys.toArray:=by simp[mkV,hu]
   rw[hm.1,hm.2,run_equalIn_array w d xs.toArray ys.toArray hu hi]
   have:=run_eqItems_shp (P:=P) w (d:=d) (D:=D1) (D':=D2) (e:=e) (xs:=xs) (ys:=ys) jB (fun w D D' xs ys=>zbf d e w D D' xs ys) jB n 0 (by rw[Nat.zero_add,l1]) (fun i _ h2=>⟨s1 i jB,s2 i jB⟩)
   rw[List.range_eq_range']
   simpa using this
  ·by_cases h2:∃fs,P.underlying t=some (.struct fs)
   ·obtain⟨fs,hu⟩:=h2
    obtain⟨n1,l1,o1,D1,rfl,s1⟩:=shp_str hu hx
    obtain⟨n2,l2,o2,D2,rfl,s2⟩:=shp_str hu hy
    have hm:mkV P t xs= .agg xs.toArray∧mkV P t ys= .agg ys.toArray:=by simp[mkV,hu]
    have hfs:P.fieldsOf t=fs:=by simp[Program.fieldsOf,hu]
    rw[hm.1,hm.2,run_equalIn_struct w d t xs.toArray ys.toArray (by rw[hfs];exact hu) n1,hfs]
    have:=(run_eqFields_shp (P:=P) w (d:=d) (D:=D1) (D':=D2) (xs:=xs) (ys:=ys) jB jB fs.toList 0 (fun f _ w D D' xs ys=>zbf d f.type w D D' xs ys) o1 (fun f hf=>⟨s1 f hf,s2 f hf⟩)).1
    simpa using this
   ·obtain⟨_,v,rfl,hmk,hall⟩:=shp_plain hx (fun n e hu=>h1 ⟨n,e,hu⟩) (fun fs hu=>h2 ⟨fs,hu⟩)
    obtain⟨u,rfl,hmk',hr⟩:=hall D' ys hy
    rw[hmk,hmk']
    exact hr w d
end
/-! ### Rules -/
def bitsI(op:BinOp)(k:IntKind)(x y:Int):Option Int:=match op with
 | .and=>some (k.wrap (BitVec.ofInt k.bits x &&& BitVec.ofInt k.bits y).toNat)
 | .or=>some (k.wrap (BitVec.ofInt k.bits x ||| BitVec.ofInt k.bits y).toNat)
 | .xor=>some (k.wrap (BitVec.ofInt k.bits x ^^^ BitVec.ofInt k.bits y).toNat)
 | .andNot=>some (k.wrap (BitVec.ofInt k.bits x &&& ~~~ BitVec.ofInt k.bits y).toNat)
 |_=>none
def shiftI(op:BinOp)(k:IntKind)(x y:Int):Option Int:=match op with
 | .shl=>some (k.wrap (x*2 ^ (min y.toNat k.bits)))
 | .shr=>some (x.fdiv (2 ^ (min y.toNat k.bits)))
 |_=>none
def strP(op:BinOp)(s t:ByteArray):Option Bool:=match op with
 | .eql=>some (s.toList == t.toList)
 | .neq=>some (!(s.toList == t.toList))
 |_=>none
section rules
variable {P:Program} {base:World} {n:Nat} {L:Env} {f:Frag} {A:List HP} {q:Post}
variable {l rest:List Oper} {d:Nat} {ty:TypeId} {pos:String} {af:Array Edge} {gd:Option (Nat × Bool)}
theorem H.bits{k:IntKind}{p z:Int}(hw:want? l L gd=true)(hx:ev? L x=some (.int k p))(hy:ev? L y=some (.int k p2))(hc:bitsI op k p p2=some r)(hz:r=z)(hd:Nat.ble (d+1) n=true)
  (kk:H P base n ((d,.int k z)::L) f A (.ops l rest q)):H P base n L f A (.ops l (⟨some d,.binOp op xt x y yt,ty,pos,af,gd⟩::rest) q):=
 AK hw hd (fun a w hf _=>by
  cases op<;>simp only[bitsI,Option.some.injEq,reduceCtorEq]at hc<;>subst hc<;>subst hz<;>
   simp[execOp,eqGuard,binOp,Op.intBits,hf.eval hx,hf.eval hy]) kk
theorem H.shift{op:BinOp}{xt yt:TypeId}{x y:Operand}{k k2:IntKind}{p p2 r z:Int}(hw:want? l L gd=true)(hx:ev? L x=some (.int k p))(hy:ev? L y=some (.int k2 p2))(hc:shiftI op k p p2=some r)(h0:0≤p2)(hz:r=z)(hd:Nat.ble (d+1) n=true)
  (kk:H P base n ((d,.int k z)::L) f A (.ops l rest q)):H P base n L f A (.ops l (⟨some d,.binOp op xt x y yt,ty,pos,af,gd⟩::rest) q):=
 AK hw hd (fun a w hf _=>by
  have h1:¬p2<0:=jB
  cases op<;>simp only[shiftI,Option.some.injEq,reduceCtorEq]at hc<;>subst hc<;>subst hz<;>
   simp[execOp,eqGuard,binOp,Op.shift,hf.eval hx,hf.eval hy,h1]) kk
theorem H.neg{k:IntKind}{p z:Int}(hw:want? l L gd=true)(hx:ev? L x=some (.int k p))(hz:k.wrap (0-p)=z)(hd:Nat.ble (d+1) n=true)
  (kk:H P base n ((d,.int k z)::L) f A (.ops l rest q)):H P base n L f A (.ops l (⟨some d,.unOp .neg xt x,ty,pos,af,gd⟩::rest) q):=
 AK hw hd (fun a w hf _=>by
  subst hz
  simp[execOp,Op.unary,Op.intArith,hf.eval hx]) kk
theorem EP{t:ByteArray}{b c:Bool}(hw:want? l L gd=true)(hx:ev? L x=some (.string s))(hy:ev? L y=some (.string t))(hb:strP op s t=some b)(hc:b=c)(hd:Nat.ble (d+1) n=true)
  (kk:H P base n ((d,.bool c)::L) f A (.ops l rest q)):H P base n L f A (.ops l (⟨some d,.binOp op xt x y yt,ty,pos,af,gd⟩::rest) q):=
 AK hw hd (fun a w hf _=>by
  cases op<;>simp only[strP,Option.some.injEq,reduceCtorEq]at hb<;>subst hb<;>subst hc<;>
   simp[execOp,eqGuard,binOp,Op.stringOp,hf.eval hx,hf.eval hy]) kk
theorem H.min2{x y:Operand}{ats:Array TypeId}{k:IntKind}{p p2 z:Int}(hw:want? l L gd=true)(hx:ev? L x=some (.int k p))(hy:ev? L y=some (.int k p2))(hz:(if p2<p then p2 else p)=z)(hd:Nat.ble (d+1) n=true)
  (kk:H P base n ((d,.int k z)::L) f A (.ops l rest q)):H P base n L f A (.ops l (⟨some d,.call ⟨.builtin .min,#[x,y],ats⟩,ty,pos,af,gd⟩::rest) q):=
 AK hw hd (fun a w hf _=>by
  subst hz
  simp[execOp,resolve,invoke,builtin,Builtin.min_,Builtin.min2,hf.eval hx,hf.eval hy]) kk
theorem H.max2{x y:Operand}{ats:Array TypeId}{k:IntKind}{p p2 z:Int}(hw:want? l L gd=true)(hx:ev? L x=some (.int k p))(hy:ev? L y=some (.int k p2))(hz:(if p<p2 then p2 else p)=z)(hd:Nat.ble (d+1) n=true)
  (kk:H P base n ((d,.int k z)::L) f A (.ops l rest q)):H P base n L f A (.ops l (⟨some d,.call ⟨.builtin .max,#[x,y],ats⟩,ty,pos,af,gd⟩::rest) q):=
 AK hw hd (fun a w hf _=>by
  subst hz
  simp[execOp,resolve,invoke,builtin,Builtin.max_,Builtin.max2,hf.eval hx,hf.eval hy]) kk
theorem CR{fn:Go.Fn}{xs cs:List Operand}{us:List Value}(hw:want? l L gd=true)(hx:evs? L xs=some vs)(hc:evs? L cs=some us)(hd:Nat.ble (d+1) n=true)
  (k:H P base n ((d,.func fn vs.toArray us.toArray)::L) f A (.ops l rest q)):H P base n L f A (.ops l (⟨some d,.makeFunc fn xs.toArray cs.toArray,ty,pos,af,gd⟩::rest) q):=
 AK hw hd (fun a w hf _=>by
  simp[execOp,Instr.makeFunc,hf.evals hx,hf.evals hc]) k
theorem Cr{b:Bool}(hw:want? l L gd=true)(hx:ev? L x=some (.agg xs.toArray))(hy:ev? L y=some (.agg ys.toArray))(ho:op= .eql)
  (hg:P.eqGuardType P.depth xt=false) (h1:shp P D xt xs=true) (h2:shp P D xt ys=true) (hm:(match P.underlying xt with|some (.array _ _)|some (.struct _)=>true|_=>false)=true) (hD:D≤10000) (hb:eqC xs ys=b) (hd:Nat.ble (d+1) n=true)
  (kk:H P base n ((d,.bool b)::L) f A (.ops l rest q)):H P base n L f A (.ops l (⟨some d,.binOp op xt x y yt,ty,pos,af,gd⟩::rest) q):=
 AK hw hd (fun a w hf _=>by
  subst ho;subst hb
  have hmk:∀zs:List Value,mkV P xt zs= .agg zs.toArray:=fun zs=>by
   unfold mkV
   split at hm<;>simp_all
  have h3:=zbf 10000 xt w D D xs ys h1 h2 hD
  rw[hmk,hmk]at h3
  refine run_bin _ ?_ ?_
  ·rw[hf.eval hx,hf.eval hy]
   simp[eqGuard,hg]
  ·rw[hf.eval hx,hf.eval hy]
   show Sem.run P (do pure (Value.bool (←Op.equal xt (.agg xs.toArray) (.agg ys.toArray)))) w=_
   have h4:Sem.run P (Op.equal xt (.agg xs.toArray) (.agg ys.toArray)) w= .ok (eqC xs ys) w:=h3
   simp[h4]) kk
theorem F2{b:Bool}(hw:want? l L gd=true)(hx:ev? L x=some (.agg xs.toArray))(hy:ev? L y=some (.agg ys.toArray))(ho:op= .neq)
  (hg:P.eqGuardType P.depth xt=false) (h1:shp P D xt xs=true) (h2:shp P D xt ys=true) (hm:(match P.underlying xt with|some (.array _ _)|some (.struct _)=>true|_=>false)=true) (hD:D≤10000) (hb:(!eqC xs ys)=b) (hd:Nat.ble (d+1) n=true)
  (kk:H P base n ((d,.bool b)::L) f A (.ops l rest q)):H P base n L f A (.ops l (⟨some d,.binOp op xt x y yt,ty,pos,af,gd⟩::rest) q):=
 AK hw hd (fun a w hf _=>by
  subst ho;subst hb
  have hmk:∀zs:List Value,mkV P xt zs= .agg zs.toArray:=fun zs=>by
   unfold mkV
   split at hm<;>simp_all
  have h3:=zbf 10000 xt w D D xs ys h1 h2 hD
  rw[hmk,hmk]at h3
  refine run_bin _ ?_ ?_
  ·rw[hf.eval hx,hf.eval hy]
   simp[eqGuard,hg]
  ·rw[hf.eval hx,hf.eval hy]
   show Sem.run P (do pure (Value.bool (!(←Op.equal xt (.agg xs.toArray) (.agg ys.toArray))))) w=_
   have h4:Sem.run P (Op.equal xt (.agg xs.toArray) (.agg ys.toArray)) w= .ok (eqC xs ys) w:=h3
   simp[h4]) kk
end rules
/-! A call of a function value. -/
theorem run_enterV[hfun:Fun P fid](a:Act){dd:Option Tmp}{xs:List Operand}{fs:List Value}(hx:a.eval x= .func (.func fid) fs.toArray cs.toArray)(hargs:xs.map a.eval=vs):(execOp a.eval ⟨dd,.call ⟨.value x,xs.toArray,ats⟩,ty,pos,af,gd⟩).run P w= .ok (.enter fid (fs++vs++cs).toArray) w:=by
 obtain⟨fn,h1,h2,h3⟩:=hfun.eq;have e1:(fs.toArray++Array.map a.eval xs.toArray:Array Value)++cs.toArray=(fs++vs++cs).toArray:=by simp[hargs]
 have e2:(execOp a.eval ⟨dd,.call ⟨.value x,xs.toArray,ats⟩,ty,pos,af,gd⟩).run P w=Sem.run P (callFunc fid ((fs.toArray++Array.map a.eval xs.toArray)++cs.toArray)) w:=by
  simp only[execOp,resolve,hx,Deferred.ofValue,Sem.run_bind,Sem.run_pure,Result.andThen_ok,invoke]
 rw[e2,e1];exact qcd
section
variable {P:Program} {base:World} {n:Nat} {L:Env} {f f':Frag} {A A':List HP} {q:Post}
variable {l rest:List Oper} {d:Nat} {ty:TypeId} {pos:String} {af:Array Edge} {gd:Option (Nat × Bool)}
theorem BQ{xs:List Operand}{fs:List Value}(hx:ev? L x=some (.func (.func fid) fs.toArray cs.toArray))[hfun:Fun P fid](hw:want? l L gd=true)(hd:Nat.ble (d+1) n=true)
  (hxs:evs? L xs=some vs) (hc:Fn P fid (fs++vs++cs) f A R)
  (k:∀v f' A',R v f' A'→H P base n ((d,v)::L) f' A' (.ops l rest q)) :
  H P base n L f A (.ops l (⟨some d,.call ⟨.value x,xs.toArray,ats⟩,ty,pos,af,gd⟩::rest) q):=.mk fun a w hf s=>by
 show wpList P l.toArray (q.den P) _ a w
 unfold wpList
 rw[if_pos (hf.want (o:=⟨some d,_,ty,pos,af,gd⟩) hw)]
 refine .inl ?_
 have hrun:=run_enterV (P:=P) (dd:=some d) (ats:=ats) (ty:=ty) (pos:=pos) (af:=af) (gd:=gd) (w:=w) a (fid:=fid) (hf.eval hx) (hf.evals hxs)
 simp only[Oper.wp,hrun,Oper.upon]
 refine(hc base w s).mono ?_
 rintro e w' ⟨v,f',A',rfl,hr,s'⟩
 exact(k v f' A' hr).out _ _ (hf.put (Nat.le_of_ble_eq_true hd) v) s'
theorem BM{xs:List Operand}{fs:List Value}(hx:ev? L x=some (.func (.func fid) fs.toArray cs.toArray))[hfun:Fun P fid](hw:want? l L gd=true)(hd:Nat.ble (d+1) n=true)
  (hxs:evs? L xs=some vs) (hc:Fn P fid (fs++vs++cs) f A (Ret v f' A')) (k:H P base n ((d,v)::L) f' A' (.ops l rest q)) :
  H P base n L f A (.ops l (⟨some d,.call ⟨.value x,xs.toArray,ats⟩,ty,pos,af,gd⟩::rest) q):=
 BQ hx hw hd hxs hc fun _ _ _ h=>by obtain⟨rfl,rfl,rfl⟩:=h;exact k
end
section rules
variable {P:Program} {base:World} {n:Nat} {L:Env} {f:Frag} {A:List HP} {q:Post}
variable {l rest:List Oper} {d:Nat} {ty:TypeId} {pos:String} {af:Array Edge} {gd:Option (Nat × Bool)}
theorem BW[hu:Und P t (.slice e)](hw:want? l L gd=true)(hx:ev? L x=some (.slice p m c))(hd:Nat.ble (d+1) n=true)
  (k:H P base n ((d,.int .i64 (c:Nat))::L) f A (.ops l rest q)):H P base n L f A (.ops l (⟨some d,.call ⟨.builtin .cap,#[x],#[t]⟩,ty,pos,af,gd⟩::rest) q):=
 AK hw hd (fun a w hfr _=>by
  simp[execOp,resolve,invoke,builtin,Builtin.cap_,hfr.eval hx,hu.run,goInt]) k
theorem DA(h:At A (slc p m c T sz xs) A' (slc p m c T sz xs))
  (k:m≤c→c≤9223372036854775807→xs.length=m*sz→H P base n L f A K):H P base n L f A K:=.mk fun a w hf s=>by
 obtain⟨h1,h2,h3⟩:=s.slc_at h
 rcases h3 with⟨rfl,rfl⟩|⟨b,sp,rfl,h4,_⟩
 ·exact(k (Nat.le_refl _) h2 h1).out a w hf s
 ·exact(k h4 h2 h1).out a w hf s
theorem slP0(p:Option Addr)(mv sz:Nat):slP p 0 mv sz=p:=by
 unfold slP;split
 ·rfl
 ·cases p<;>simp[Addr.add]
theorem CV{len:Nat}{kk:IntKind}{z:Int}[hu:Und P t (.slice e)][hs:Siz P e sz](hw:want? l L gd=true)
  (hx:ev? L x=some (.slice p len cap)) (hy:ev? L y=some (.int kk z)) (hz:z=(hv:Nat)) (a2:hv≤cap) (hd:Nat.ble (d+1) n=true)
  (k:H P base n ((d,.slice p hv cap)::L) f A (.ops l rest q)):H P base n L f A (.ops l (⟨some d,.slice t x none (some y) none,ty,pos,af,gd⟩::rest) q):=
 H.slice (hu:=hu) (hs:=hs) (lv:=0) (hv:=hv) (mv:=cap) hw hx rfl ⟨kk,z,hy,hz⟩ rfl (fun h=>by cases h) (Nat.zero_le _) a2 (Nat.le_refl _) hd (by rw[slP0];exact k)
theorem EQ
  (k:∀sp:List Value,(xs++sp).length=c*sz→m≤c→H P base n L f (slc p c c T sz (xs++sp)::B) K):H P base n L f (slc p m c T sz xs::B) K:=.mk fun a w hf s=>by
 obtain⟨mm,⟨m1,m2,dj,e,⟨h1,h2,h3⟩,r⟩,hd,hw⟩:=s.mem
 rcases h3 with⟨rfl,rfl,hn⟩|⟨b,sp,rfl,h4,h5,hn⟩
 ·have:xs=[]:=List.eq_nil_of_length_eq_zero kQ
  subst this
  exact(k [] jI (Nat.le_refl _)).out a w hf ⟨s.os,s.tape,s.output,s.size,s.imm,mm,⟨m1,m2,dj,e,⟨by simp,h2,.inl ⟨rfl,rfl,hn⟩⟩,r⟩,hd,hw⟩
 ·exact(k sp h5 h4).out a w hf ⟨s.os,s.tape,s.output,s.size,s.imm,mm,⟨m1,m2,dj,e,⟨h5,h2,.inr ⟨b,[],rfl,Nat.le_refl _,by rw[List.append_nil];exact h5,by rw[List.append_nil];exact hn⟩⟩,r⟩,hd,hw⟩
theorem DV{m':Nat}(hm:m'≤m)(hc:m≤c)(hy:ys=xs.take (m'*sz))
  (k:H P base n L f (slc p m' c T sz ys::B) K):H P base n L f (slc p m c T sz xs::B) K:=.mk fun a w hf s=>by
 subst hy
 obtain⟨mm,⟨m1,m2,dj,e,⟨h1,h2,h3⟩,r⟩,hd,hw⟩:=s.mem
 have hlen:(xs.take (m'*sz)).length=m'*sz:=by
  rw[List.length_take,h1];exact Nat.min_eq_left (Nat.mul_le_mul_right _ hm)
 refine k.out a w hf ⟨s.os,s.tape,s.output,s.size,s.imm,mm,⟨m1,m2,dj,e,⟨hlen,h2,?_⟩,r⟩,hd,hw⟩
 rcases h3 with⟨rfl,rfl,hn⟩|⟨b,sp,rfl,h4,h5,hn⟩
 ·exact .inl ⟨by omega,rfl,hn⟩
 ·refine .inr ⟨b,xs.drop (m'*sz)++sp,rfl,by omega,?_,?_⟩
  ·rw[←List.append_assoc,List.take_append_drop];exact h5
  ·rw[←List.append_assoc,List.take_append_drop];exact hn
theorem run_append_zero_out{i:TypeInfo}
  (hu:Und P t (.slice e)) (hu2:Und P u (.int .i64)) (hi:P.info? e=some i) (hz:i.zero=some z) (hpos:0<m*i.size)
  (hold:(Builtin.firstCells i.size n (.slice p n c)).run P w.drew= .ok olds.toArray w.drew)
  (hg:c<n+m) (h63:n+m≤9223372036854775807) (hby:(n+m)*i.bytes≤140737488355328) (hfit:Builtin.nextslicecap (n+m) c*i.bytes≤281474976710656) :
  (Builtin.append_ #[t, u] ty #[.slice p n c, .int .i64 (m : Nat)]).run P w =
   .ok (.slice (some ⟨w.heap.size,0,none⟩) (n+m) (grownCap w (n+m) c e)) (w.drew.alloc (.cells (olds.toArray++Builtin.zeroCells z.cells m++Builtin.zeroCells z.cells (grownCap w (n+m) c e-(n+m))) e)):=by
 have hn:¬(n+m≤c):=jB
 have h63':¬(9223372036854775807<((n:Int)+(m:Int))):=jB
 have h48':¬(281474976710656<Builtin.nextslicecap (n+m) c*i.bytes):=jB
 have hwr:IntKind.i64.wrap (m:Int)=(m:Int):=wr_i64 jB;have hm0:¬((m:Int)<0):=jB
 have hmb:m*i.bytes≤281474976710656:=by
  have:m*i.bytes≤(n+m)*i.bytes:=Nat.mul_le_mul_right _ jB;omega
 have hmb':¬(281474976710656<(m:Int)*(i.bytes:Int)):=qdy
 have hp:¬(m*i.size=0):=jB
 have hp2:¬(m=0∨i.size=0):=by
  rintro(h|h)<;>simp[h]at hpos
 simp[Builtin.append_,run_underlying hu.eq,run_underlying hu2.eq,sizeOf,typeInfo,zeroValue,hi,hz,hold,hn,h63',h48',hwr,hm0,hmb',hp,asInt,asIntOf,Question.forced,newRow,grownCap]
theorem run_append_zero{A':Option Addr→Nat→List HP}{bytes:Nat}
  (hu:Und P t (.slice e)) (hu2:Und P u (.int .i64)) (hs:Siz P e sz) (hb:Byt P e bytes) (hz:Zer P e z)
  (s:Sat base w f A) (hA:∀p' c',At A (slc p n c e sz xs) (A' p' c') (slc p' (n+m) c' e sz (xs++(Builtin.zeroCells z.cells m).toList)))
  (hzs:z.cells.size=sz) (hpos:0<m*sz) (hg:c<n+m) (h63:n+m≤9223372036854775807) (hby:(n+m)*bytes≤140737488355328) :
  ∃p' c' w',(Builtin.append_ #[t,u] ty #[.slice p n c,.int .i64 (m:Nat)]).run P w= .ok (.slice p' (n+m) c') w'∧Sat base w' f (A' p' c'):=by
 obtain⟨i,hi,rfl,rfl,hiz⟩:=info_of hs hb hz;obtain⟨hl,hc,h3⟩:=s.slc_at (hA none 0)
 have hold:(Builtin.firstCells i.size n (.slice p n c)).run P w.drew= .ok xs.toArray w.drew:=by
  rcases h3 with⟨rfl,rfl⟩|⟨b,sp,rfl,hnc,hcs,hw⟩
  ·have hx:xs=[]:=List.eq_nil_of_length_eq_zero kP;subst hx
   cases p with
   |none=>exact run_firstCells_none w.drew i.size 0 0 0
   |some a=>exact run_firstCells_some w.drew i.size 0 a 0 0 [] jI jI
  ·exact run_firstCells_some (P:=P) w.drew i.size n ⟨b,0,none⟩ n c xs hl (fun j v hj=>by
    rw[zas]
    have:j<xs.length:=qcw
    simp[World.cell?,show w.drew.heap=w.heap from rfl,hw,List.getElem?_append_left this,hj])
 have hr:=run_append_zero_out (ty:=ty) hu hu2 hi hiz hpos hold hg h63 hby (growslice_fits hg hby)
 have hlen:(xs++(Builtin.zeroCells z.cells m).toList).length=(n+m)*i.size:=by
  rw[List.length_append,hl,Array.length_toList,size_zeroCells,hzs,Nat.add_mul]
 refine⟨_,_,_,hr,s.fresh (hA _ _) rfl rfl rfl rfl ⟨hlen,?_,.inr ⟨_,(Builtin.zeroCells z.cells (grownCap w (n+m) c e-(n+m))).toList,rfl,grownCap_ge _ _ _ _,?_,?_⟩⟩⟩
 ·have:=grownCap_le_maxLen w (n+m) c e (by unfold maxLen;omega);unfold maxLen at this;omega
 ·have hge:=grownCap_ge w (n+m) c e;rw[List.length_append,hlen,Array.length_toList,size_zeroCells,hzs,←Nat.add_mul];congr 1;omega
 ·congr 2;rw[←List.append_toArray,←List.append_toArray,Array.toArray_toList,Array.toArray_toList]
theorem ER{A':Option Addr→Nat→List HP}{bytes:Nat}{zi:Int}
  [hu:Und P t (.slice e)] [hu2:Und P u (.int .i64)] [hs:Siz P e sz] [hb:Byt P e bytes] [hz:Zer P e z] (hw:want? l L gd=true) (hd:Nat.ble (d+1) n=true) (hx:ev? L x=some (.slice p n0 c)) (hy:ev? L y=some (.int .i64 zi)) (hzi:zi=(m:Nat))
  (hA:∀p' c',At A (slc p n0 c e sz xs) (A' p' c') (slc p' (n0+m) c' e sz (xs++(Builtin.zeroCells z.cells m).toList)))
  (hzs:z.cells.size=sz) (hpos:0<m*sz) (hg:c<n0+m) (h63:n0+m≤9223372036854775807) (hby:(n0+m)*bytes≤140737488355328)
  (k:∀p' c',H P base n ((d,.slice p' (n0+m) c')::L) f (A' p' c') (.ops l rest q)) :
  H P base n L f A (.ops l (⟨some d,.call ⟨.builtin .append,#[x,y],#[t,u]⟩,ty,pos,af,gd⟩::rest) q):=
 C0 (ι:=Option Addr×Nat) (fun i=>.slice i.1 (n0+m) i.2) (fun _=>f) (fun i=>A' i.1 i.2) (fun _=>True) hw hd (fun a w hfr s=>by
  subst hzi
  obtain⟨p',c',w',hr,s'⟩:=run_append_zero (ty:=ty) hu hu2 hs hb hz s hA hzs hpos hg h63 hby
  exact⟨(p',c'),w',trivial,zcc jQ,s'⟩) (fun i _=>k i.1 i.2)
theorem Src.cons{y:HP}{x:Value}(h:Src P f A x sz m news):Src P f (y::A) x sz m news:=
 ⟨h.len,fun base w s=>h.cells base w (s.drop (.here _ _)),h.size⟩
theorem Src.append{x:Value}(h:Src P f A x sz m news):Src P f (B++A) x sz m news:=by
 induction B with
 |nil=>exact h
 |cons b B ih=>exact ih.cons
theorem results_cell{p:Tmp}{tmps:Array Value}(h:fn.results= #[.cell p ty])(hp:tmps.getD p undef= .pointer (some ⟨b,off,none⟩))
  (hl:(loadVar ty ⟨b,off,none⟩).run P w= .ok v w):(results fn tmps).run P w= .ok v w:=by
 have hp':tmps[p]?.getD undef= .pointer (some ⟨b,off,none⟩):=by simpa using hp
 simp only[results,h];simp[Sem.run_bind,asAddr,hp',hl]
end rules
variable {dT sT:TypeId} {dl k0:Nat}
section rules
variable {P:Program} {base:World} {n:Nat} {L:Env} {f:Frag} {A:List HP} {q:Post}
variable {l rest:List Oper} {d:Nat} {ty:TypeId} {pos:String} {af:Array Edge} {gd:Option (Nat × Bool)}
theorem D9{s:TypeId}{bs:List UInt8}[hs:Und P s (.slice e)][he:Und P e (.int .u8)][ht:Und P t .string](hw:want? l L gd=true)(hx:ev? L x=some (.slice p bs.length c))
  (hsrc:Src P f A (.slice p bs.length c) 1 bs.length (bytesV bs)) (hn:p=none→bs=[]) (hd:Nat.ble (d+1) n=true)
  (k:H P base n ((d,.string ⟨bs.toArray⟩)::L) f A (.ops l rest q)):H P base n L f A (.ops l (⟨some d,.convert s t x,ty,pos,af,gd⟩::rest) q):=
 AK hw hd (fun a w hf s'=>by
  have h1:=hsrc.cells base w s'
  have h2:(convert s t (.slice p bs.length c)).run P w= .ok (.string ⟨bs.toArray⟩) w:=by
   rw[run_convert_bytes_string w s t e p bs.length c hs.eq he.eq ht.eq]
   cases p with
   | none =>
    have:=hn rfl
    subst this
    simp[Conv.bytesToString]
    rfl
   | some a =>
    have h3:(loadCells a bs.length).run P w= .ok ((bs.map (fun b=>(b.toNat:Int))).map (Value.int .u8)).toArray w:=by
     have h4:(Builtin.firstCells 1 bs.length (.slice (some a) bs.length c)).run P w=(loadCells a (bs.length*1)).run P w:=rfl
     rw[Nat.mul_one]at h4
     rw[←h4,h1]
     unfold bytesV
     rw[List.map_map]
     rfl
    rw[run_bytesToString w a bs.length c _ h3,foldl_push_byteCells]
    have he0:ByteArray.empty.data= #[]:=rfl
    rw[he0]
    simp
  simp only[execOp,hf.eval hx,Sem.run_bind,h2,Result.andThen_ok,Sem.run_pure]) k
def strRow(b:Nat)(s:ByteArray)(c:Nat)(e:TypeId):HP:=pts b (.cells (bytesRow s c) e ((bytesRow s c).size,(bytesRow s c).size+1))
theorem bytesRow_get(s:ByteArray)(c:Nat){i:Nat}(h:i<s.size):(bytesRow s c)[i]?=(bytesV s.data.toList)[i]?:=by
 unfold bytesRow bytesV;have h':i<s.data.size:=h;rw[Array.getElem?_append_left (by simpa using h')]
 rw[List.getElem?_map,Array.getElem?_map,Array.getElem?_toList]
theorem run_copy_own{elem:TypeId}{o dc:Nat}(hu:Und P dT (.slice elem))(hs:Siz P elem 1)
  (hg:w.heap[b]?=some (.cells cur T (0,0))) (hlen:(Builtin.lenOf xv).run P w= .ok m w) (hcs:(Builtin.firstCells 1 (Nat.min m dl) xv).run P w= .ok cs.toArray w) (hfit:o+cs.length≤cur.size) (h1:∀v∈cs,v.oneCell'=true) :
  (Builtin.copy_ #[dT,sT] ty #[.slice (some ⟨b,o,none⟩) dl dc,xv]).run P w= .ok (goInt (Nat.min m dl)) (w.setRow b (cur.toList.take o++cs++cur.toList.drop (o+cs.length)).toArray):=by
 have hst:=run_storeCells_at P b o T cs 0 cur w hg ju h1;simp only[Nat.add_zero]at hst
 exact qdj
theorem run_builtin_copy{dd:Option Tmp}(h:(Builtin.copy_ #[t,u] ty #[a.eval x,a.eval y]).run P w= .ok v w'):(execOp a.eval ⟨dd,.call ⟨.builtin .copy,#[x,y],#[t,u]⟩,ty,pos,af,gd⟩).run P w= .ok (.value v) w':=by
 exact qbW
theorem H.copy{o dc:Nat}[hu:Und P dT (.slice e)][hs:Siz P e 1](hw:want? l L gd=true)(hd:Nat.ble (d+1) n=true)
  (hx:ev? L x=some (.slice (some ⟨b,o,none⟩) dl dc)) (hy:ev? L y=some xv) (hlen:∀w,(Builtin.lenOf xv).run P w= .ok m w) (hk:Nat.min m dl=k0) (hcs:∀base w,Sat base w f A→(Builtin.firstCells 1 k0 xv).run P w= .ok cs.toArray w)
  (hset:splice ls o cs=ls') (hfit:o+cs.length≤ls.length) (h1:∀v∈cs,one v=true) (hA:At A (row b T ls) A' (row b T ls'))
  (k:H P base n ((d,.int .i64 (k0:Nat))::L) f A' (.ops l rest q)):H P base n L f A (.ops l (⟨some d,.call ⟨.builtin .copy,#[x,y],#[dT,sT]⟩,ty,pos,af,gd⟩::rest) q):=
 C0 (ι:=Unit) (fun _=>.int .i64 (k0:Nat)) (fun _=>f) (fun _=>A') (fun _=>True) hw hd (fun a w hfr s'=>by
  subst hset;subst hk
  have hb:=s'.got hA
  have hr:=run_copy_own (P:=P) (ty:=ty) (sT:=sT) (dc:=dc) hu hs hb (hlen w) (hcs base w s') ju (fun v hv=>by rw[one_eq];exact h1 v hv)
  refine⟨(),_,trivial,run_builtin_copy jQ,?_⟩
  exact s'.set hA rfl rfl rfl (setRow_is hb)) (fun _ _=>k)
theorem Src.copy(h:Src P f A xv 1 m cs):∀base w,Sat base w f A→(Builtin.firstCells 1 m xv).run P w= .ok cs.toArray w:=h.cells
theorem firstCells_part(h:Rd f A b off news)(hk:k0≤news.length):∀base w,Sat base w f A→(Builtin.firstCells 1 k0 (.slice (some ⟨b,off,none⟩) m c)).run P w= .ok (news.take k0).toArray w:=fun base w s=>by
 refine run_firstCells_some w 1 k0 ⟨b,off,none⟩ m c (news.take k0) jT (fun j v hj=>?_)
 rw[zas]
 rw[List.getElem?_take]at hj
 split at hj
 ·exact(h base w s).cell hj
 ·cases hj
end rules
end Go.Proofs.YtdpgpmbebbaoiaaGreatDoor
