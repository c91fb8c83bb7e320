/- Parts of the proof. No conditions. -/
import Derived.Test.YtkaknokcbhiigaaGreatDoorZ06
import Derived.RangeFuncLeaves
import Derived.RangeFuncRecord
import Derived.RangeFuncIn
set_option linter.unusedSectionVars false
set_option linter.unusedSimpArgs false
set_option linter.unusedVariables false
set_option maxHeartbeats 3200000
set_option maxRecDepth 20000
namespace Go.Proofs.YtkaknokcbhiigaaGreatDoor
open Go Go.Proofs.Tryz
def FnPostM(P:Program)(fn:Func)(base:World)(R:Value→Frag→List HP→Prop):Exit→Act→World→Prop
 | .normal,a,w=>bodyPostM Fence.wide 3 P fn (fun e w'=>∃v f' A',e= .returned v∧R v f' A'∧Sat base w' f' A') .normal a w
 | .ret,a,w=>bodyPostM Fence.wide 3 P fn (fun e w'=>∃v f' A',e= .returned v∧R v f' A'∧Sat base w' f' A') .ret a w
 |_,_,_=>False
def codeR(P:Program)(lp:Nat)(c:Code)(q:Post):Kont:=.out .normal (.fn fun _ a w=>c.wpIn (Fence.wide.inRound lp) 2 P (q.den P) a w)
def seqR(P:Program)(lp:Nat)(y:Code)(q:Post):Post:=.fn (Exit.then (y.wpIn (Fence.wide.inRound lp) 2 P (q.den P)) (q.den P))
def opsIn(P:Program)(l rest:List Oper)(q:Post):Kont:=.out .normal (.fn fun _ a w=>wpListIn Fence.wide 3 P l.toArray (q.den P) rest a w)
def inList(P:Program)(l rest:List Oper)(q:Post):Post:=.fn (Exit.then (wpListIn Fence.wide 3 P l.toArray (q.den P) rest) (q.den P))
def beginP(P:Program)(lp:Nat)(body:Code)(q:Post):Post:=
 .fn (Exit.then (fun a₁ w₁=>∃w₂,(Instr.beginRound lp).run P w₁= .ok () w₂∧body.wpIn (Fence.wide.inRound lp) 2 P (q.den P) a₁ w₂) (fun _ _ _=>False))
def RW(base:World)(R:Value→Frag→List HP→Prop):Ending→World→Prop:=fun e w'=>∃v f' A',e= .returned v∧R v f' A'∧Sat base w' f' A'
def roundP(P:Program)(lp:Nat)(base:World)(R:Value→Frag→List HP→Prop):Post:=.fn (roundPost P lp (RW base R))
def Post.shut(P:Program)(q:Post):Prop:=∀a w,¬q.den P .outgrown a w
def YieldFn(P:Program)(lp:Nat)(args:List Value)(f:Frag)(A:List HP)(R:Value→Frag→List HP→Prop):Prop:=
 ∀base w,Sat base w f A→∃fn tmps assign body,(Instr.yield lp args.toArray).run P w= .ok (.round lp fn tmps assign body) w∧RoundIn Fence.wide 2 P lp fn tmps assign body w (RW base R)
def loopH(n:Nat)(L:Env)(lp:Nat)(ps:List Tmp)(assign body:Code)(D:Nat)(st:LoopState):HP:=fun h=>
 ∃fn tmps,tmps.size=n∧(∀i v,look? L i=some v→tmps[i]?=some v)∧pts lp (.loop {state:=st,pending:=none,fn,tmps,params:=ps.toArray,assign,body,defers:=D}) h
def setsE:List Tmp→List Value→Env→Env
 |p::ps,v::vs,L=>setsE ps vs ((p,v)::L)
 |_,_,L=>L
variable {w:World} {L0:Env} {lp D t id n0:Nat} {assign body y x:Code} {st:LoopState} {fid gf:FuncId} {fn:Func} {args fs:List Value} {R R1:Value→Frag→List HP→Prop} {A' A1:List HP} {rest:List Oper} {o:Oper} {xs:List Operand} {ats:Array TypeId} {ty:TypeId} {pos:String} {af:Array Edge} {gd:Option (Nat × Bool)} {g:Operand}
section
variable {P:Program} {base:World} {n:Nat} {L:Env} {f f':Frag} {A A':List HP} {q:Post}
theorem Sat.loop{ps:List Tmp}(s:Sat base w f (loopH n L0 lp ps assign body D st::A)):∃fn tmps,tmps.size=n∧(∀i v,look? L0 i=some v→tmps[i]?=some v)∧Sat base w f (pts lp (.loop {state:=st,pending:=none,fn,tmps,params:=ps.toArray,assign,body,defers:=D})::A):=by
 obtain⟨a,b,c,d,e,m,hm,hd,hw⟩:=s;obtain⟨m1,m2,dj,rfl,⟨fn,tmps,h1,h2,h3⟩,h4⟩:=hm;exact⟨fn,tmps,h1,h2,a,b,c,d,e,_,⟨m1,m2,dj,rfl,h3,h4⟩,hd,hw⟩
theorem Sat.ofLoop{ps:List Tmp}{fn:FuncId}{tmps:Array Value}(h1:tmps.size=n)(h2:∀i v,look? L0 i=some v→tmps[i]?=some v)
  (s:Sat base w f (pts lp (.loop {state:=st,pending:=none,fn,tmps,params:=ps.toArray,assign,body,defers:=D})::A)):Sat base w f (loopH n L0 lp ps assign body D st::A):=by
 obtain⟨a,b,c,d,e,m,hm,hd,hw⟩:=s;obtain⟨m1,m2,dj,rfl,h3,h4⟩:=hm;exact⟨a,b,c,d,e,_,⟨m1,m2,dj,rfl,⟨fn,tmps,h1,h2,h3⟩,h4⟩,hd,hw⟩
theorem Fn.enterM{c:Code}{m:Nat}(hf:P.funcs[fid]?=some fn)(hb:fn.body=some c)(hn:fn.ntmps=m)(hl:Nat.ble args.length m=true)(hL:SubE (envOf 0 args) L)
  (h:∀base,H P base m L f A (.code c (.fn (FnPostM P fn base R)))) (hsm:Nat.ble m 1000003=true:=by exact rfl):Fn P fid args f A R:=fun base w s=>by
 have hl':=Nat.le_of_ble_eq_true hl
 have hsm':=Nat.le_of_ble_eq_true hsm
 refine callsIn_wide.1 (callsIn_of_wp_marks (n:=3) hf hb trivial (wpIn_mono (Q:=FnPostM P fn base R) (wpIn_wide.2 ?_) ?_))
 ·have hmk:dmOf L=[]:=by
   exact qcF
  refine(h base).out _ w ⟨by simp[hn];omega,hsm',hmk.symm,fun i v hi=>?_⟩ s
  obtain⟨_,h2⟩:=look?_envOf args 0 i v (hL.get i v hi)
  simp only[Nat.sub_zero]at h2
  have hlt:i<args.length:=by
   rcases Nat.lt_or_ge i args.length with h|h
   ·exact h
   ·simp[List.getElem?_eq_none h]at h2
  rw[Array.getElem?_append_left (by simpa using hlt)]
  simpa using h2
 ·intro e a w' h
  cases e with
  |normal=>exact h
  |ret=>exact h
  |exit id=>exact h.elim
  |goto l=>exact h.elim
  |panic c=>exact h.elim
  |outgrown=>exact h.elim
theorem bodyPostM_ret{R:Ending→World→Prop}{a:Act}{v:Value}(hr:(results fn a.tmps).run P w= .ok v w)(hd:a.defers=[])(hR:R (.returned v) w):bodyPostM Fence.wide 3 P fn R .ret a w:=by
 show LeavesInM Fence.wide 3 P fn a.tmps R a.defers .returning w;rw[hd];exact⟨v,hr,hR⟩
theorem bodyPostM_mark{R:Ending→World→Prop}{a:Act}{v:Value}(hr:∀w',(results fn a.tmps).run P w'= .ok v w')(hd:a.defers=[{target:=.collected D,args:=#[]}])(hD:w.heap[D]?=some (.deferred (some [])))(hR:R (.returned v) (w.putObj D (.deferred none))):bodyPostM Fence.wide 3 P fn R .ret a w:=by
 show LeavesInM Fence.wide 3 P fn a.tmps R a.defers .returning w;rw[hd];exact⟨by simp,.inl ⟨D,_,rfl,run_takeDeferred hD,⟨v,hr _,hR⟩⟩⟩
theorem H.retM{v:Value}(hr:fn.results= #[.tmp t])(hv:look? L t=some v)(hA:∀x,stars A x→stars A' x)(h:R v f A')(hmk:mk? L=none:=by exact rfl):H P base n L f A (.out .ret (.fn (FnPostM P fn base R))):=.mk fun a w hf s=>by
 show bodyPostM Fence.wide 3 P fn (fun e w'=>∃v f' A',e= .returned v∧R v f' A'∧Sat base w' f' A') .ret a w
 exact bodyPostM_ret (by rw[results_tmp hr]) (hf.bare hmk) ⟨v,f,A',by simp[hf.get t v hv],h,s.imp hA⟩
theorem Fr.marked{a:Act}(h:Fr n a L)(hm:mk? L=some (.pointer (some ⟨D,0,none⟩))):a.defers=[{target:=.collected D,args:=#[]}]:=h.defers.trans (by unfold dmOf;rw[hm])
theorem H.retMk{v:Value}{A'':List HP}(hr:fn.results= #[.tmp t])(hv:look? L t=some v)(hm:mk? L=some (.pointer (some ⟨D,0,none⟩)))(hD:Pull A (pts D (.deferred (some []))) A')(hA:∀x,stars A' x→stars A'' x)(h:R v f A''):H P base n L f A (.out .ret (.fn (FnPostM P fn base R))):=.mk fun a w hf s=>by
 show bodyPostM Fence.wide 3 P fn (fun e w'=>∃v f' A',e= .returned v∧R v f' A'∧Sat base w' f' A') .ret a w
 have s1:=s.front hD
 have hg:=s1.got (.here _ _ (pts D (.deferred (some []))))
 refine bodyPostM_mark (v:=v) (D:=D) (fun w'=>by rw[results_tmp hr];simp[hf.get t v hv]) (hf.marked hm) hg ⟨v,f,A'',rfl,h,?_⟩
 exact((s1.set (w':=w.putObj D (.deferred none)) aP0 rfl rfl rfl rfl).drop (.here _ _)).imp hA
theorem blind_fnM:(Post.fn (FnPostM P fn base R)).blind P:=fun _ _ _ _ _ h=>h.elim
/-! ### Shut -/
theorem zaw:(Post.fn (FnPostM P fn base R)).shut P:=fun _ _ h=>h.elim
theorem zbi:(Post.fn (FnPost P fn base R)).shut P:=fun a w h=>by
 obtain⟨_,_,_,h,_⟩:=h
 cases h
theorem zao:(roundP P lp base R).shut P:=fun _ _ h=>h.elim
theorem zan{b:Code}:(beginP P lp b q).shut P:=fun _ _ h=>h.elim
theorem zav(h:q.shut P):(Post.seq y q).shut P:=h
theorem zap(h:q.shut P):(Post.block id q).shut P:=h
theorem zas{I:Act→World→Prop}(h:q.shut P):(Post.loop I q).shut P:=h
theorem zat(h:q.shut P):(seqR P lp y q).shut P:=h
theorem zbj{l:List Oper}(h:q.shut P):(inList P l rest q).shut P:=h
/-! ### From the plain walk into a fence -/
theorem uponIn_of_upon{F:Fence}{m:Nat}(hd:F.depth=none)(hc:∀m f args w R,Calls P f args w R→CallsIn F m P f args w R)(hr:∀m row args w R,Rows P row args w R→RowsIn F m P row args w R){a:Act}{next next':Act→World→Prop}{Q Q':Exit→Act→World→Prop}(hn:∀a w,next a w→next' a w)(hq:∀e a w,e≠ .normal→Q e a w→Q' e a w):∀r,o.upon P a next Q r→o.uponIn F m P a next' Q' r:=by
 intro r h;have hdd:F.depth.isSome=true→1≤m:=fun h=>by rw[hd]at h;cases h
 match r,h with
 | .ok (.value v) w',h=>exact hn _ _ h
 | .ok .skip w',h=>exact hn _ _ h
 | .ok (.defer d) w',h=>exact hn _ _ h
 | .ok (.enter f args) w', h =>
  refine⟨hdd,(hc _ _ _ _ _ h).mono fun e w'' he=>?_⟩
  cases e with
  |returned v=>exact hn _ _ he
  |panicked c=>exact hq _ _ _ jK he
  |outgrown=>obtain⟨a0,w0,h0⟩:=he;exact⟨a0,w0,hq _ _ _ jK h0⟩
 | .ok (.row row args) w',h=>exact⟨hdd,(hr _ _ _ _ _ h).mono fun v w'' he=>hn _ _ he⟩
 | .halt (.panic v) w',h=>exact hq _ _ _ jK h
theorem rowsIn_wide{m:Nat}{row:String}{args:Array Value}{R:Value→World→Prop}(h:Rows P row args w R):RowsIn Fence.wide m P row args w R:=
 fun c cs _=>let⟨v,w',r,s⟩:=h c cs;⟨v,w',r,stepsIn_wide.2 s⟩
theorem wpListIn_of{F:Fence}{m:Nat}(hfn:∀f,F.fn f)(hd:F.depth=none)(hc:∀m f args w R,Calls P f args w R→CallsIn F m P f args w R)(hr:∀m row args w R,Rows P row args w R→RowsIn F m P row args w R)
  {ops:Array Oper} {rest:List Oper} {Q Q':Exit→Act→World→Prop} (hn:∀a w,Q .normal a w→wpListIn F m P ops Q' rest a w) (hq:∀e a w,e≠ .normal→Q e a w→Q' e a w) (ho:∀a w,¬Q .outgrown a w) :
  ∀(l:List Oper),(∀o∈l,∀ρ,o.semAt F.round ρ=execOp ρ o)→∀a w,wpList P ops Q l a w→wpListIn F m P ops Q' (l++rest) a w
 | [],_,a,w,h=>hn a w h
 | o :: l, hs, a, w, h => by
  unfold wpList at h
  show wpListIn F m P ops Q' (o::(l++rest)) a w
  unfold wpListIn
  have ih:=wpListIn_of hfn hd hc hr hn hq ho l (fun o h=>hs o (List.mem_cons_of_mem _ h))
  by_cases hw:Region.wanted o (yielded ops a.tmps)=true
  ·rw[if_pos hw]at h⊢
   rcases h with h|⟨_,a0,w0,h⟩
   ·refine⟨fun f _=>hfn f,?_⟩
    rw[hs o (List.mem_cons_self ..)]
    exact uponIn_of_upon hd hc hr ih hq _ h
   ·exact(ho a0 w0 h).elim
  ·rw[if_neg hw]at h⊢
   exact⟨fun f _=>hfn f,ih _ _ h⟩
def plainOp(o:Oper):Bool:=match o.op with
 | .defer _=>false
 |_=>true
/-! ### Code in a round -/
theorem H.seqR(h:H P base n L f A (codeR P lp x (seqR P lp y q))):H P base n L f A (codeR P lp (.seq x y) q):=.mk fun a w hf s=>wpIn_seq (h.out a w hf s)
theorem H.thenR(h:H P base n L f A (codeR P lp y q)):H P base n L f A (.out .normal (Go.Proofs.YtkaknokcbhiigaaGreatDoor.seqR P lp y q)):=.mk h.out
theorem H.skipR(h:H P base n L f A (.out .normal q)):H P base n L f A (codeR P lp .skip q):=.mk fun a w hf s=>wpIn_skip (h.out a w hf s)
theorem H.blockR{c:Code}(h:H P base n L f A (codeR P lp c (.block id q))):H P base n L f A (codeR P lp (.block id c) q):=.mk fun a w hf s=>wpIn_block (h.out a w hf s)
theorem H.condR{c:Operand}{t:Bool}(hc:ev? L c=some (.bool t))(ht:t=true→H P base n L f A (codeR P lp x q))(hf':t=false→H P base n L f A (codeR P lp y q)):H P base n L f A (codeR P lp (.cond c x y) q):=.mk fun a w hf s=>wpIn_cond_split (hf.eval hc) (fun e=>(ht e).out a w hf s) (fun e=>(hf' e).out a w hf s)
theorem H.condR_true{c:Operand}(hc:ev? L c=some (.bool true))(ht:H P base n L f A (codeR P lp x q)):H P base n L f A (codeR P lp (.cond c x y) q):=H.condR hc (fun _=>ht) (fun e=>by cases e)
theorem H.condR_false{c:Operand}(hc:ev? L c=some (.bool false))(ht:H P base n L f A (codeR P lp y q)):H P base n L f A (codeR P lp (.cond c x y) q):=H.condR hc (fun e=>by cases e) (fun _=>ht)
theorem H.condR_yes{c:Operand}{p:Prop}{_:Decidable p}(hc:ev? L c=some (.bool (decide p)))(hp:p)(ht:H P base n L f A (codeR P lp x q)):H P base n L f A (codeR P lp (.cond c x y) q):=H.condR_true (by rw[hc,decide_eq_true hp]) ht
theorem H.condR_no{c:Operand}{p:Prop}{_:Decidable p}(hc:ev? L c=some (.bool (decide p)))(hp:¬p)(ht:H P base n L f A (codeR P lp y q)):H P base n L f A (codeR P lp (.cond c x y) q):=H.condR_false (by rw[hc,decide_eq_false hp]) ht
theorem H.regionR{l:List Oper}(hp:l.all plainOp=true)(hs:q.shut P)(h:H P base n L f A (.ops l l q)):H P base n L f A (codeR P lp (.region id l.toArray false) q):=.mk fun a w hf s=>by
 refine wpIn_region_lit ?_
 have:=wpListIn_of (P:=P) (F:=Fence.wide.inRound lp) (m:=2) (ops:=l.toArray) (rest:=[]) (Q:=q.den P) (Q':=q.den P) (fun _=>trivial) rfl (fun m f args w R h=>(callsIn_wide.2 h:CallsIn Fence.wide m P f args w R)) (fun m row args w R h=>rowsIn_wide h) (fun a w h=>h) (fun e a w _ h=>h) hs l (fun o ho ρ=>?_) a w (h.out a w hf s)
 ·rw[List.append_nil]at this
  exact this
 ·have:=List.all_eq_true.1 hp o ho
  exact Oper.semAt_eq _ _ _ fun c hc=>by simp[plainOp,hc]at this
/-! ### A region that calls yield -/
theorem H.regionY{l:List Oper}(h:H P base n L f A (opsIn P l l q)):H P base n L f A (.code (.region id l.toArray false) q):=.mk fun a w hf s=>wpIn_wide.1 (wpIn_region_lit (n:=3) (h.out a w hf s))
theorem H.inOp{l:List Oper}(hs:q.shut P)(h:H P base n L f A (.ops l [o] (inList P l rest q))):H P base n L f A (opsIn P l (o::rest) q):=.mk fun a w hf s=>
 wpListIn_of (P:=P) (F:=Fence.wide) (m:=3) (ops:=l.toArray) (rest:=rest) (Q:=(inList P l rest q).den P) (Q':=q.den P) (fun _=>trivial) rfl (fun m f args w R h=>callsIn_wide.2 h) (fun m row args w R h=>rowsIn_wide h) (fun a w h=>h) (fun e a w he h=>by cases e<;>first|exact(he rfl).elim|exact h) hs [o] (fun o _ ρ=>rfl) a w (h.out a w hf s)
theorem H.Bu{l:List Oper}(h:H P base n L f A (opsIn P l rest q)):H P base n L f A (.out .normal (inList P l rest q)):=.mk h.out
theorem H.inNil{l:List Oper}(h:H P base n L f A (.out .normal q)):H P base n L f A (opsIn P l [] q):=.mk h.out
theorem run_yieldV(a:Act){dd:Option Tmp}{x:Operand}{vs:List Value}(hx:a.eval x= .func (.yield lp) #[] #[])(hargs:xs.map a.eval=vs):(execOp a.eval ⟨dd,.call ⟨.value x,xs.toArray,ats⟩,ty,pos,af,gd⟩).run P w=(Instr.yield lp vs.toArray).run P w:=by
 have e1:(#[]++Array.map a.eval xs.toArray:Array Value)=vs.toArray:=by simp[hargs]
 simp only[execOp,resolve,hx,Deferred.ofValue,Sem.run_bind,Sem.run_pure,Result.andThen_ok,invoke,e1]
theorem H.yield{l:List Oper}{d:Nat}{x:Operand}{vs:List Value}(hx:ev? L x=some (.func (.yield lp) #[] #[]))(hw:want? l L gd=true)(hd:Nat.ble (d+1) n=true)
  (hxs:evs? L xs=some vs) (hc:YieldFn P lp vs f A R)
  (k:∀v f' A',R v f' A'→H P base n ((d,v)::L) f' A' (opsIn P l rest q)) :
  H P base n L f A (opsIn P l (⟨some d,.call ⟨.value x,xs.toArray,ats⟩,ty,pos,af,gd⟩::rest) q):=.mk fun a w hf s=>by
 show wpListIn Fence.wide 3 P l.toArray (q.den P) _ a w
 unfold wpListIn
 rw[if_pos (hf.want (o:=⟨some d,_,ty,pos,af,gd⟩) hw)]
 refine⟨fun _ _=>trivial,?_⟩
 obtain⟨fn,tmps,assign,body,h1,h2⟩:=hc base w s
 have hrun:=(run_yieldV (P:=P) (dd:=some d) (ats:=ats) (ty:=ty) (pos:=pos) (af:=af) (gd:=gd) (w:=w) a (hf.eval hx) (hf.evals hxs)).trans h1
 have hrun':Sem.run P (Oper.semAt Fence.wide.round a.eval ⟨some d,.call ⟨.value x,xs.toArray,ats⟩,ty,pos,af,gd⟩) w= .ok (.round lp fn tmps assign body) w:=hrun
 rw[hrun',Oper.uponIn_round]
 refine⟨(fun h=>by cases h),h2.mono ?_⟩
 rintro e w' ⟨v,f',A',rfl,hr,s'⟩
 exact(k v f' A' hr).out _ _ (hf.put (Nat.le_of_ble_eq_true hd) v) s'
/-! ### A round -/
theorem sets_fr:∀(ps:List Tmp) (vs:List Value) (tmps:Array Value) (L:Env),(ps.all fun p=>Nat.ble (p+1) n)=true→tmps.size=n→(∀i v,look? L i=some v→tmps[i]?=some v)→
  ((ps.zip vs).foldl (fun tmps (t,a)=>tmps.setIfInBounds t a) tmps).size=n∧∀i v,look? (setsE ps vs L) i=some v→((ps.zip vs).foldl (fun tmps (t,a)=>tmps.setIfInBounds t a) tmps)[i]?=some v
 | [],vs,tmps,L,_,h1,h2=>by simpa [setsE]using⟨h1,h2⟩
 |p::ps,[],tmps,L,_,h1,h2=>by simpa [setsE]using⟨h1,h2⟩
 | p :: ps, v :: vs, tmps, L, hp, h1, h2 => by
  simp only[List.all_cons,Bool.and_eq_true]at hp
  have hlt:=Nat.le_of_ble_eq_true hp.1
  refine sets_fr ps vs (tmps.setIfInBounds p v) ((p,v)::L) hp.2 (by simpa using h1) fun i u hi=>?_
  rw[look?_cons (look?_lt hi)]at hi
  by_cases e:p=i
  ·subst e
   rw[if_pos rfl]at hi
   injection hi with hi
   subst hi
   rw[Array.getElem?_setIfInBounds_self_of_lt jA]
  ·rw[if_neg e]at hi
   rw[Array.getElem?_setIfInBounds_ne e]
   exact h2 i u hi
theorem H.begin{ps:List Tmp}{b:Code}(h:H P base n L f (loopH n0 L0 lp ps assign b D .busy::A) (codeR P lp body q)):H P base n L f (loopH n0 L0 lp ps assign b D .ready::A) (.out .normal (beginP P lp body q)):=.mk fun a w hf s=>by
 obtain⟨fn,tmps,h1,h2,s1⟩:=s.loop
 have hg:=s1.got (.here _ _ emp)
 refine⟨_,run_beginRound hg rfl,h.out a _ hf (Sat.ofLoop (fn:=fn) (tmps:=tmps) h1 h2 ?_)⟩
 exact s1.set aP0 rfl rfl rfl rfl
theorem H.endRound{ps:List Tmp}{b:Code}(h:R (.bool true) f (loopH n0 L0 lp ps assign b D .ready::A)):H P base n L f (loopH n0 L0 lp ps assign b D .busy::A) (.out .normal (roundP P lp base R)):=.mk fun a w hf s=>by
 obtain⟨fn,tmps,h1,h2,s1⟩:=s.loop
 have hg:=s1.got (.here _ _ emp)
 refine⟨_,_,run_endRound none hg,_,f,_,rfl,h,Sat.ofLoop (fn:=fn) (tmps:=tmps) h1 h2 ?_⟩
 exact s1.set aP0 rfl rfl rfl rfl
theorem YieldFn.of{ps:List Tmp}(hp:(ps.all fun p=>Nat.ble (p+1) n)=true)(hz:(Nat.beq args.length ps.length)=true)(hsm:Nat.ble n 1000003=true)(hmk:mk? (setsE ps args L)=none)
  (h:∀base,H P base n (setsE ps args L) f (loopH n L lp ps assign body D .ready::A) (codeR P lp assign (beginP P lp body (roundP P lp base R)))) :
  YieldFn P lp args f (loopH n L lp ps assign body D .ready::A) R:=fun base w s=>by
 obtain⟨fn,tmps,h1,h2,s1⟩:=s.loop
 have hg:=s1.got (.here _ _ emp)
 have hz':args.toArray.size=ps.toArray.size:=by simpa using Nat.eq_of_beq_eq_true hz
 have hy:=run_yield (P:=P) (w:=w) (args:=args.toArray) hg hz'
 refine⟨_,_,_,_,hy,roundIn_of_wpIn (F:=Fence.wide) (n:=2) trivial ?_⟩
 obtain⟨h3,h4⟩:=sets_fr ps args tmps L hp h1 h2
 have e:(ps.toArray.zip args.toArray).foldl (fun tmps (t,a)=>tmps.setIfInBounds t a) tmps=(ps.zip args).foldl (fun tmps (t,a)=>tmps.setIfInBounds t a) tmps:=by simp
 have hfr:Fr n {tmps:=(ps.toArray.zip args.toArray).foldl (fun tmps (t,a)=>tmps.setIfInBounds t a) tmps,defers:=[]} (setsE ps args L):=by
  refine⟨?_,Nat.le_of_ble_eq_true hsm,by unfold dmOf;rw[hmk],fun i v hi=>?_⟩
  ·show Array.size (Array.foldl _ _ _)=n;rw[e];exact h3
  ·show(Array.foldl _ _ _)[i]?=some v;rw[e];exact h4 i v hi
 exact(h base).out _ w hfr s
theorem Fn.wrap(hA:∀h,stars A h→stars A1 h)(h:Fn P fid args f A1 R1)(hR:∀v g B,R1 v g B→∃B',R v g B'∧∀h,stars B h→stars B' h):Fn P fid args f A R:=fun base w s=>
 (h base w (s.imp hA)).mono fun _ _ ⟨v,f',B,e,r,s'⟩=>let⟨B',r',hi⟩:=hR _ _ _ r;⟨v,f',B',e,r',s'.imp hi⟩
theorem YieldFn.wrap(hA:∀h,stars A h→stars A1 h)(h:YieldFn P lp args f A1 R1)(hR:∀v g B,R1 v g B→∃B',R v g B'∧∀h,stars B h→stars B' h):YieldFn P lp args f A R:=fun base w s=>
 let⟨fn,tmps,assign,body,h1,h2⟩:=h base w (s.imp hA)
 ⟨fn,tmps,assign,body,h1,h2.mono fun _ _ ⟨v,f',B,e,r,s'⟩=>let⟨B',r',hi⟩:=hR _ _ _ r;⟨v,f',B',e,r',s'.imp hi⟩⟩
theorem pack_all(X A:List HP):∀h,stars (X++A) h→stars (stars X::A) h:=fun h hh=>by rw[zcg]at hh;exact hh
theorem open_all(X A:List HP):∀h,stars (stars X::A) h→stars (X++A) h:=fun h hh=>by rw[zcg];exact hh
/-! ### The statement -/
theorem H.rangeFunc{ι:Type}{ps:List Tmp}{cs:List Value}{A':ι→Nat→List HP}[hfun:Fun P gf](hg:ev? L g=some (.func (.func gf) fs.toArray cs.toArray))(hmk:mk? L=none)
  (hc:∀D lp,Fn P gf (fs++[.func (.yield lp) #[] #[]]++cs) f (loopH n L lp ps assign body D .ready::pts D (.deferred (some []))::A) (fun _ g B=>∃i,g=f'∧B=loopH n L lp ps assign body D .ready::A' i D))
  (k:∀i D,H P base n ((1000003,.pointer (some ⟨D,0,none⟩))::L) f' (A' i D) (.out .normal q)) :
  H P base n L f A (.code (.rangeFunc g ps.toArray assign body) q):=.mk fun a w hf s=>by
 refine wpIn_wide.1 (wpIn_rangeFunc (F:=Fence.wide) (n:=3) fun fn _=>?_)
 obtain⟨fnc,e1,e2,e3⟩:=hfun.eq
 have hev:a.eval g= .func (.func gf) fs.toArray cs.toArray:=hf.eval hg
 have hd0:a.defers=[]:=hf.bare hmk
 have sA:Sat base (w.alloc (.deferred (some []))) f (pts w.heap.size (.deferred (some []))::A):=s.alloc rfl rfl rfl rfl
 have sB:=sA.alloc (w':=(w.alloc (.deferred (some []))).alloc (.loop {state:=.ready,pending:=none,fn,tmps:=a.tmps,params:=ps.toArray,assign,body,defers:=w.heap.size})) rfl rfl rfl rfl
 rw[World.size_alloc]at sB
 have sC:Sat base _ f (loopH n L (w.heap.size+1) ps assign body w.heap.size .ready::pts w.heap.size (.deferred (some []))::A):=Sat.ofLoop (fn:=fn) (tmps:=a.tmps) hf.size hf.get sB
 have hrun:=run_enterLoop_outer (P:=P) (w:=w) fn a.tmps ps.toArray assign body
 generalize(w.alloc (.deferred (some []))).alloc (.loop {state:=.ready,pending:=none,fn,tmps:=a.tmps,params:=ps.toArray,assign,body,defers:=w.heap.size})=W at sC hrun
 have hcall:=hc w.heap.size (w.heap.size+1) base W sC
 refine⟨w.heap.size+1,_,W,{target:=.fn (.func gf) cs.toArray,args:=fs.toArray++ #[Value.func (.yield (w.heap.size+1)) #[] #[]]},W,gf,(fs++[Value.func (.yield (w.heap.size+1)) #[] #[]]++cs).toArray,W,hrun,?_,fun _ _=>trivial,?_,(fun h=>by cases h),callsIn_wide.2 (hcall.mono ?_)⟩
 ·have:Array.map a.eval #[Operand.const (Value.func (.yield (w.heap.size+1)) #[] #[])]= #[Value.func (.yield (w.heap.size+1)) #[] #[]]:=by simp[Act.eval]
  simp only[rangeCall,resolve,hev,Deferred.ofValue,Sem.run_pure,this]
 ·simp only[invoke,callFunc,Sem.run_bind,run_program,Result.andThen_ok,e1,e2,e3,Bool.false_eq_true,if_false,Sem.run_pure]
  simp
 ·rintro e w' ⟨v,f1,B,rfl,⟨i,rfl,rfl⟩,s'⟩
  obtain⟨fn',tmps',h1,h2,s1⟩:=s'.loop
  have hgl:=s1.got (.here _ _ emp)
  refine⟨none,_,run_endLoop hgl jK,?_⟩
  refine(k i w.heap.size).out _ _ ⟨hf.size,hf.small,?_,fun j u hj=>?_⟩ ((s1.set (w':=w'.putObj (w.heap.size+1) _) aP0 rfl rfl rfl rfl).drop (.here _ _))
  ·show _++a.defers=dmOf _
   rw[hd0]
   rfl
  ·have hl:=look?_lt hj
   rw[look?_cons hl,if_neg jA]at hj
   exact hf.get j u hj
theorem H.rangeFuncE{ps:List Tmp}{cs:List Value}[hfun:Fun P gf](hg:ev? L g=some (.func (.func gf) fs.toArray cs.toArray))(hmk:mk? L=none)
  (hb : ∀ LH : Nat → Nat → LoopState → HP, (LH = fun D lp st => loopH n L lp ps assign body D st) → ∃ (ι : Type) (A' : ι → Nat → List HP),
   (∀D lp,Fn P gf (fs++[.func (.yield lp) #[] #[]]++cs) f (LH D lp .ready::pts D (.deferred (some []))::A) (fun _ g B=>∃i,g=f'∧B=LH D lp .ready::A' i D))∧
   ∀i D,H P base n ((1000003,.pointer (some ⟨D,0,none⟩))::L) f' (A' i D) (.out .normal q)) :
  H P base n L f A (.code (.rangeFunc g ps.toArray assign body) q):=by
 obtain⟨ι,A',h1,h2⟩:=hb _ rfl;exact H.rangeFunc hg hmk h1 h2
end
theorem eqC_ch(x y:Int×Int):eqC (chV x) (chV y)=decide (x=y):=by
 obtain⟨a,b⟩:=x;obtain⟨c,d⟩:=y;by_cases h1:a=c<;>by_cases h2:b=d<;>simp[eqC,eqv,chV,h1,h2]
def qokB(l:Lgs)(m:Msg):Bool:=m.body.q.all fun q=>decide (q.2≤m.deps (q.1-1).toNat)&&chB l q m.body.view
variable {c lb T:Nat} {l:Lgs} {p:Option Addr} {ys:List (Int × Int)}
section
variable (f:Frag) (F:List HP)
theorem chidx_fn(hl:ys.length≤1000000)(y:Int×Int):Fn prog 215 [.slice p ys.length c,.agg (chV y).toArray] f (slc p ys.length c 228 2 (ys.flatMap chV)::F) (Ret (.int .i64 (idxI (fun x=>decide (x=y)) ys)) f (slc p ys.length c 228 2 (ys.flatMap chV)::F)):=by
 refine Fn.e2 func215 ntmps215 fun base=>?_;refine gA ?_;refine H.box (ls:=chV y) rfl rfl rfl rfl fun vb=>?_;refine gT ?_;refine H.lo (ι:=Nat) (fun i=>[(8,.int .i64 (i:Int)),(7,.int .i64 (ys.length:Nat)),(0,.slice p ys.length c),(3,.pointer (some ⟨vb,0,none⟩))]) (fun _=>f) (fun _=>row vb 228 (chV y)::slc p ys.length c 228 2 (ys.flatMap chV)::F) (fun i=>i≤ys.length∧∀j x,j<i→ys[j]?=some x→decide (x=y)=false) (fun i=>ys.length-i) 0 ⟨Nat.zero_le _,fun j x hj=>by omega⟩ fun i hi=>?_;obtain⟨hi,hb⟩:i≤ys.length∧∀j x,j<i→ys[j]?=some x→decide (x=y)=false:=hi;by_cases hlt:i<ys.length
 ·obtain⟨x,hx⟩:∃x,ys[i]?=some x:=⟨_,lgE hlt⟩;refine H.Au (p:=p) (n0:=ys.length) (c:=c) (T:=228) (sz:=2) (xs:=ys.flatMap chV) at1 jA fun sb hp=>?_;subst hp
  have rd:∀G:List HP,Rd f (row vb 228 (chV y)::slc (some ⟨sb,0,none⟩) ys.length c 228 2 (ys.flatMap chV)::G) sb (0+i*2) (chV x):=fun G=>by
   rw[Nat.zero_add];exact Rd.slcElem (vals:=chV) (xs:=ys) (n:=ys.length) (c:=c) (T:=228) chV_len jC at1 hx
  refine qks ?_;refine HQ.Ad (ls:=chV y) rfl rfl rfl (Rd.ofRow aP0) rfl rfl ?_;refine qip ?_;refine HQ.Ad (ls:=chV x) rfl rfl rfl (rd _) rfl rfl ?_;have he:eqC (chV y) (chV x)=decide (x=y):=by rw[eqC_ch];exact decide_eq_decide.2 ⟨fun h=>h.symm,fun h=>h.symm⟩
  refine HQ.aggEq (xs:=chV y) (ys:=chV x) (D:=4) (b:=decide (x=y)) rfl rfl rfl rfl jE jE jE jE jC he rfl ?_
  cases hxy:decide (x=y)with
  | true =>
   refine gK ?_;refine gD ?_;refine qeK ?_;refine H.Ae rfl rfl iD ⟨?_,rfl,rfl⟩;rw[idxI_at (pr:=fun x=>decide (x=y)) hx hxy hb]
  | false =>
   refine gK ?_;refine gW ?_;refine H.ag (i+1) ⟨by show i+1≤ys.length;omega,fun j z hj hz=>?_⟩ (by show ys.length-(i+1)<ys.length-i;omega);by_cases e:j=i
   ·subst e;rw[hx]at hz;cases hz;exact hxy
   ·exact hb j z jA hz
 ·have e:i=ys.length:=jA
  subst e;refine gc ?_;refine qeK ?_;refine H.Ae rfl rfl iD ⟨?_,rfl,rfl⟩;rw[idxI_none (pr:=fun x=>decide (x=y)) hb]
theorem chhas_fn(hl:ys.length≤1000000)(y:Int×Int):Fn prog 184 [.slice p ys.length c,.agg (chV y).toArray] f (slc p ys.length c 228 2 (ys.flatMap chV)::F) (Ret (.bool (ys.any fun x=>decide (x=y))) f (slc p ys.length c 228 2 (ys.flatMap chV)::F)):=by
 have h1:=idxI_any (fun x=>decide (x=y)) ys;have hc:=fun G=>chidx_fn f G (p:=p) (c:=c) hl y
 refine Fn.e2 func184 ntmps184 fun base=>?_;refine gA ?_;refine H.box (ls:=chV y) rfl rfl rfl rfl fun vb=>?_;refine gI ?_;refine H.Ad (ls:=chV y) rfl rfl rfl (Rd.ofRow aP0) rfl rfl ?_;refine qeK ?_;refine H.cr (hc _) ?_;exact qbZ
theorem chB_eq(l:Lgs)(q:Int×Int)(v:Int):((l.ch (q.1-1).toNat).any fun c=>decide (c=(v,q.2)))=chB l q v:=by
 unfold chB;congr 1;funext c;obtain⟨a,b⟩:=c;by_cases h1:a=v<;>by_cases h2:b=q.2<;>simp[h1,h2]
theorem plquorum_fn(hL:LI l T)(hT:T≤50000){x:MV}(hx:x.Good f)(hm:MIn l.n x.m){vb:Nat}{pp:Option Addr}{pc:Nat}{cp:Option Addr}{cc:Nat}{cs:Nat→Option Addr×Nat}:Fn prog 130 [.pointer (some ⟨lb,0,none⟩),.agg x.vals.toArray] f (row lb 124 (plC l.n l.known vb pp pc cp cc)::slc cp l.n cc 226 1 (chRow l cs)::fam (pcFam l cs) l.n::F)
   (Ret (.bool (qokB l x.m&&decide (x.m.body.q.length=l.n / 2+1))) f (row lb 124 (plC l.n l.known vb pp pc cp cc)::slc cp l.n cc 226 1 (chRow l cs)::fam (pcFam l cs) l.n::F)):=by
 have hn:=hL.n3;have hqat:ListAt f x.qp 2 pairV x.m.body.q:=hx.1
 have hql:x.m.body.q.length≤1000000:=by have:=hx.2.1;omega
 refine Fn.e2 func130 ntmps130 fun base=>?_;refine qem fun mb=>?_;refine gM ?_;refine qki fun cb hcb=>?_;subst hcb
 refine H.lo (ι:=Nat) (fun i=>[(11,.int .i64 (i:Int)),(10,.int .i64 (x.m.body.q.length:Nat)),(9,.slice x.qp x.m.body.q.length x.qc),(0,.pointer (some ⟨lb,0,none⟩)),(3,.pointer (some ⟨mb,0,none⟩))]) (fun _=>f)
  (fun _=>row mb 54 x.vals::row lb 124 (plC l.n l.known vb pp pc (some ⟨cb,0,none⟩) cc)::slc (some ⟨cb,0,none⟩) l.n cc 226 1 (chRow l cs)::fam (pcFam l cs) l.n::F)
  (fun i=>i≤x.m.body.q.length∧∀j p,j<i→x.m.body.q[j]?=some p→p.2≤x.m.deps (p.1-1).toNat∧chB l p x.m.body.view=true) (fun i=>x.m.body.q.length-i) 0 ⟨Nat.zero_le _,fun j p hj=>by omega⟩ fun i hi1=>?_
 obtain⟨hi1,hb⟩:i≤x.m.body.q.length∧∀j p,j<i→x.m.body.q[j]?=some p→p.2≤x.m.deps (p.1-1).toNat∧chB l p x.m.body.view=true:=hi1;by_cases hlt:i<x.m.body.q.length
 ·obtain⟨p,hp⟩:∃p,x.m.body.q[i]?=some p:=⟨_,lgE hlt⟩;have hpm:=List.mem_of_getElem? hp;have hpq:=hm.q p hpm
  obtain⟨r,hre⟩:∃r,r=(p.1-1).toNat:=⟨_,rfl⟩;have hr:r<l.n:=jA
  have hr11:r<11:=jA
  have hrz:p.1-1=(r:Nat):=jA
  obtain⟨qb,qoff,qcs,qT,qfr,hqp,hqfb,hqcs⟩:=hqat i p hp;have rd:∀A,Rd f A qb (qoff+i*2) (pairV p):=fun A=>Rd.imm hqfb hqcs;have hch:=fun G=>chhas_fn f G (p:=(cs r).1) (c:=(cs r).2) (ys:=l.ch r) (Nat.le_trans (hL.cl r) jA) (x.m.body.view,p.2)
  have hcbe:=chB_eq l p x.m.body.view;rw[←hre]at hcbe
  rw[hcbe]at hch;refine gG ?_;refine H.Ak (b:=qb) (off:=qoff) (i:=i) rfl kH rfl rfl hlt rfl ?_;refine qkP fun ab=>?_;refine qjS ?_;refine gA ?_;refine H.db (S:=[_,_,_,_]) rfl ?_;refine HB.qu [0,1,2,3,4,5,6,7,8,9,10,11,12,13,14,15,16,17,18,19,20,21,22,23,24] 3 ?_;refine qhe ?_;by_cases h1:p.2≤x.m.deps r
  ·skip;refine gZ ?_;refine qgS ?_;refine HB.ev 25 ?_;skip;refine H.pf (x:=fam (pcFam l cs) _) ?_;refine H.Bq hr ?_;refine H.cr (hch _) ?_;refine H.By (g:=pcFam l cs) hr ?_;refine qfp ?_;refine qeV ?_
   cases hcb:chB l p x.m.body.view with
   | true =>
    refine qeg ?_;refine HB.qu [26,27] 0 ?_;refine qfh ?_;refine gW ?_;refine qin ?_;exact qbg
   | false =>
    have hqo:qokB l x.m=false:=List.all_eq_false.2 ⟨p,hpm,by rw[hcb,Bool.and_false];decide⟩;refine gA ?_
    exact qbj
  ·have hqo:qokB l x.m=false:=List.all_eq_false.2 ⟨p,hpm,by rw[←hre,decide_eq_false h1,Bool.false_and];decide⟩;refine gZ ?_
   refine qeo ?_;refine HB.ev 25 ?_;refine gC ?_;exact qbj
 ·have hqo:qokB l x.m=true:=List.all_eq_true.2 fun p hp=>by
   exact qbN
  have hqz:decide (((x.m.body.q.length:Nat):Int)=((l.n / 2:Nat):Int)+1)=decide (x.m.body.q.length=l.n / 2+1):=decide_eq_decide.2 jA;clear hb
  rw[hqo,Bool.true_and,←hqz];refine gc ?_;refine H.dq ?_;refine gP ?_;refine HQ.quo (z:=((l.n / 2:Nat):Int)) rfl rfl rfl jC jj rfl ?_;refine gZ ?_;refine gT ?_;exact qbU
end
def bmax(a z:Int×Int):Int×Int:=if a.1<z.1∨(z.1=a.1∧a.2<z.2)then z else a
variable {bv:Int} {z:Int × Int}
theorem bestOf_yes{r:List (Int×Int)}{a:Int×Int}(h:z.1<bv):bestOf bv (z::r) a=bestOf bv r (bmax a z):=by
 rw[zbv];unfold bmax;by_cases h2:a.1<z.1∨(z.1=a.1∧a.2<z.2)
 ·rw[if_pos ⟨h,h2⟩,if_pos h2]
 ·rw[if_neg (fun h3=>h2 h3.2),if_neg h2]
theorem bestOf_no{r:List (Int×Int)}{a:Int×Int}(h:¬z.1<bv):bestOf bv (z::r) a=bestOf bv r a:=by
 rw[zbv,if_neg (fun h3=>h h3.1)]
theorem voted_at:∀ {l:List (Int×Int)},(l.map (·.1)).Pairwise (· < ·)→∀ {z:Int×Int},z∈l→PM.voted l z.1=some z.2
 | [],_,z,h=>by cases h
 | (w, n) :: r, hr, z, h => by
  rw[List.map_cons,List.pairwise_cons]at hr
  unfold PM.voted
  by_cases e:z.1=w
  ·rw[if_pos e]
   rcases List.mem_cons.1 h with h|h
   ·rw[h]
   ·have:=hr.1 z.1 (List.mem_map.2 ⟨z,h,rfl⟩)
    simp only at this
    omega
  ·rw[if_neg e]
   rcases List.mem_cons.1 h with h|h
   ·rw[h]at e;exact absurd rfl e
   ·exact voted_at hr.2 h
variable {b:Nat} {fl:Frag}
section
variable (f:Frag) (F:List HP)
theorem plvoted1_fn{s:PM}(hz:PM.voted s.all z.1=some z.2):Fn prog 76 [.pointer (some ⟨b,0,none⟩),.int .u64 z.1] f (pastH b s::F) (Ret (.tuple #[.int .i64 z.2,.bool true]) f (pastH b s::F)):=by
 have h:=voted_fn f F b s z.1;rw[hz]at h
 exact h
theorem votes_fn{m:Nat}:Fn prog 131 [.pointer (some ⟨lb,0,none⟩),.slice p m c,.int .u64 bv] f F
  (RetE (α := Nat × Nat × Nat) (fun b => .func (.func 185) #[] #[.pointer (some ⟨b.1, 0, none⟩), .pointer (some ⟨b.2.1, 0, none⟩), .pointer (some ⟨b.2.2, 0, none⟩)]) f
   (fun b=>row b.1 50 [.slice p m c]::row b.2.1 80 [.pointer (some ⟨lb,0,none⟩)]::row b.2.2 35 [.int .u64 bv]::F)):=by
 refine Fn.e3 func131 ntmps131 fun base=>?_;refine qgi fun b2=>?_;refine H.box (ls:=[.slice p m c]) rfl rfl rfl rfl fun b1=>?_;refine H.box (ls:=[.int .u64 bv]) rfl rfl rfl rfl fun b3=>?_;refine gY ?_;refine H.pf (x:=row b2 _ _) ?_;refine H.pf (x:=row b1 _ _) ?_;exact H.r1 ⟨(b1,b2,b3),rfl,rfl,rfl⟩
theorem votes1_fn(hfl:Le fl f)(hL:LI l T)(hT:T≤50000){i:PPt}(hi:plφ fl l i){qp:Option Addr}{qc:Nat}{q:List (Int×Int)}(hq:QAt f qp q)(hql:q.length≤1000000)(hm:∀p∈q,1≤p.1∧p.1≤(l.n:Int)){X:Int×Int→HP}
  (hY:∀(a z:Int×Int) (G:List HP),YieldFn prog lp [.int .u64 z.1,.int .i64 z.2] f (X a::G) (fun v g B=>v= .bool true∧g=f∧B=X (bmax a z)::G)) {b1 b2 b3:Nat} (a0:Int×Int) :
  Fn prog 185 ([]++[.func (.yield lp) #[] #[]]++[.pointer (some ⟨b1,0,none⟩),.pointer (some ⟨b2,0,none⟩),.pointer (some ⟨b3,0,none⟩)]) f
   (X a0::row b1 50 [.slice qp q.length qc]::row b2 80 [.pointer (some ⟨lb,0,none⟩)]::row b3 35 [.int .u64 bv]::row lb 124 (plC l.n l.known i.vb i.pp i.pc i.cp i.cc)::fam (fun r=>pastH (i.pb r) (l.past r)) l.n::F)
   (Ret (.tuple #[]) f (X (bestQ l.past bv q a0)::row b1 50 [.slice qp q.length qc]::row b2 80 [.pointer (some ⟨lb,0,none⟩)]::row b3 35 [.int .u64 bv]::row lb 124 (plC l.n l.known i.vb i.pp i.pc i.cp i.cc)::fam (fun r=>pastH (i.pb r) (l.past r)) l.n::F)):=by
 have hn:=hL.n3;have hqat:ListAt f qp 2 pairV q:=hq
 have hpa:=fun(o:Nat) (ho:o<l.n) (r:Int) (hr:r=((o+1:Nat):Int)) (G:List HP)=>plpast_fn f G hfl (lb:=lb) hi hn.2 ho hr;obtain⟨V,vb,pp,pc,cp,cc,pb,cs⟩:=i
 show Fn _ _ _ f (_::_::_::_::row lb 124 (plC l.n l.known vb pp pc cp cc)::fam (fun r=>pastH (pb r) (l.past r)) l.n::F) (Ret _ f (_::_::_::_::row lb 124 (plC l.n l.known vb pp pc cp cc)::fam (fun r=>pastH (pb r) (l.past r)) l.n::F));have hpa:∀(o:Nat),o<l.n→∀(r:Int),r=((o+1:Nat):Int)→∀(G:List HP),Fn prog 53 [.pointer (some ⟨lb,0,none⟩),.int .i64 r] f (row lb 124 (plC l.n l.known vb pp pc cp cc)::G) (Ret (.pointer (some ⟨pb o,0,none⟩)) f (row lb 124 (plC l.n l.known vb pp pc cp cc)::G)):=hpa;refine Fn.e4 func185 ntmps185 fun base=>?_
 refine gM ?_
 refine H.lo (ι:=Nat×Int×Int) (fun s=>[(14,.int .i64 (s.1:Int)),(13,.int .i64 (q.length:Nat)),(12,.slice qp q.length qc),(0,.func (.yield lp) #[] #[]),(2,.pointer (some ⟨b2,0,none⟩)),(3,.pointer (some ⟨b3,0,none⟩))]) (fun _=>f)
  (fun s=>X s.2::row b1 50 [.slice qp q.length qc]::row b2 80 [.pointer (some ⟨lb,0,none⟩)]::row b3 35 [.int .u64 bv]::row lb 124 (plC l.n l.known vb pp pc cp cc)::fam (fun r=>pastH (pb r) (l.past r)) l.n::F)
  (fun s=>s.1≤q.length∧bestQ l.past bv (q.drop s.1) s.2=bestQ l.past bv q a0) (fun s=>q.length-s.1) (0,a0) ⟨Nat.zero_le _,rfl⟩ fun s hs=>?_
 obtain⟨j,a⟩:=s;obtain⟨hj1,hbq⟩:j≤q.length∧bestQ l.past bv (q.drop j) a=bestQ l.past bv q a0:=hs;show H _ _ _ [(14,.int .i64 (j:Int)),_,_,_,_,_] f (X a::_::_::_::_::_::F) _;by_cases hlt:j<q.length
 ·obtain⟨p,hp⟩:∃p,q[j]?=some p:=⟨_,lgE hlt⟩;have hpm:=List.mem_of_getElem? hp;have hpq:=hm p hpm
  obtain⟨r,hre⟩:∃r,r=(p.1-1).toNat:=⟨_,rfl⟩;have hr:r<l.n:=jA
  obtain⟨qb,qoff,qcs,qT,qfr,hqp,hqfb,hqcs⟩:=hqat j p hp;have rd:∀A,Rd f A qb (qoff+j*2) (pairV p):=fun A=>Rd.imm hqfb hqcs;rw[show q.drop j=p::q.drop (j+1) by rw[List.drop_eq_getElem_cons hlt,(List.getElem?_eq_some_iff.1 hp).2]]at hbq
  rw[bestQ_cons]at hbq;rw[←hre]at hbq;have hwf:=hL.wf r hr;have hil:=hL.il r hr
  have halen:=all_len (l.past r);have hen:=fun G=>entered_fn f G (pb r) (l.past r) jA
  have hpar:=hpa r hr p.1 jA;clear hpa
  refine gG ?_;refine H.Ak (b:=qb) (off:=qoff) (i:=j) rfl kH rfl rfl hlt rfl ?_;refine qkP fun ab=>?_;refine qjS ?_;refine gF ?_;refine qew ?_;refine H.cr (hpar _) ?_;refine gI ?_;refine qkk ?_;refine H.cl (hen _) fun v f' A' hR=>?_;obtain⟨ep,ec,rfl,hff,rfl⟩:=hR;rw[hff];clear hen hff;refine gT ?_;refine H.pf (x:=row b3 _ _) ?_;refine H.pf (x:=X a) ?_
  refine H.lo (ι:=Nat×Int×Int) (fun s=>[(25,.int .i64 (s.1:Int)),(24,.int .i64 (((l.past r).init.length+1:Nat):Int)),(23,.slice ep ((l.past r).init.length+1) ec),(7,.pointer (some ⟨pb r,0,none⟩)),(14,.int .i64 (j:Int)),(13,.int .i64 (q.length:Nat)),(12,.slice qp q.length qc),(0,.func (.yield lp) #[] #[]),(2,.pointer (some ⟨b2,0,none⟩)),(3,.pointer (some ⟨b3,0,none⟩))]) (fun _=>f)
   (fun s=>X s.2::row b3 35 [.int .u64 bv]::slc ep ((l.past r).init.length+1) ec 35 1 (viewsV (l.past r).all)::pastH (pb r) (l.past r)::fam (updF (fun r=>pastH (pb r) (l.past r)) r emp) l.n::row lb 124 (plC l.n l.known vb pp pc cp cc)::row ab 127 (pairV p)::row b1 50 [.slice qp q.length qc]::row b2 80 [.pointer (some ⟨lb,0,none⟩)]::F)
   (fun s=>s.1≤(l.past r).all.length∧bestOf bv ((l.past r).all.drop s.1) s.2=bestOf bv (l.past r).all a) (fun s=>(l.past r).all.length-s.1) (0,a) ⟨Nat.zero_le _,rfl⟩ fun s hs=>?_
  obtain⟨k,a2⟩:=s;obtain⟨hk1,hbo⟩:k≤(l.past r).all.length∧bestOf bv ((l.past r).all.drop k) a2=bestOf bv (l.past r).all a:=hs;show H _ _ _ [(25,.int .i64 (k:Int)),_,_,_,_,_,_,_,_,_] f (X a2::_::_::_::_::_::_::_::_::F) _;by_cases hk:k<(l.past r).all.length
  ·obtain⟨z,hz⟩:∃z,(l.past r).all[k]?=some z:=⟨_,lgE hk⟩;rw[show(l.past r).all.drop k=z::(l.past r).all.drop (k+1) by rw[List.drop_eq_getElem_cons hk,(List.getElem?_eq_some_iff.1 hz).2]]at hbo;have hvo:=fun G=>plvoted1_fn f G (b:=pb r) (s:=l.past r) (z:=z) (voted_at hwf.rise (List.mem_of_getElem? hz));refine H.Au (p:=ep) (n0:=(l.past r).init.length+1) (c:=ec) (T:=35) (sz:=1) (xs:=viewsV (l.past r).all) at2 jA fun eb hep=>?_
   subst hep;refine gG ?_;refine qgK ?_;refine H.Ab rfl rfl rfl (by rw[Nat.zero_add,Nat.mul_one];exact Rd1.at0 (Rd.ofSlc at2 jA) (v:=.int .u64 z.1) (by rw[viewsV,List.getElem?_map,hz];rfl)) rfl ?_;refine gI ?_;refine H.pf (x:=pastH (pb r) _) ?_;refine H.cr (hvo _) ?_
   iterate 8 ( first
    |((first|apply H.Aw|apply H.Be|apply H.Bd|apply H.Bi|apply H.Bs|apply H.Br);(iterate 3 exact rfl))
    |(apply H.Bn;(iterate 3 exact rfl);exact inferInstance;exact rfl)
    |(apply H.Ab;(iterate 3 exact rfl);apply Rd1.ofRow;(repeat(first|exact .here _ _ _|apply At.there));(iterate 2 exact rfl))
    |(first|apply H.seq|apply H.Bg|apply H.nil|apply H.Bj)
    |((first|apply H.cmp|apply H.Ay);(iterate 5 exact rfl))
    |((first|(apply H.ar;(iterate 4 exact rfl))|(apply H.Bk;(iterate 2 exact rfl)));(first|(with_reducible apply zbe;omega)|(with_reducible apply zbf;omega)|(with_reducible apply zbd;omega)|(with_reducible apply wr_i64;omega)|(with_reducible apply wr_u64;omega)|(with_reducible apply wr_u8;omega)|(with_reducible apply wr_u16;omega)|rfl);exact rfl)
    |(apply H.pass;(iterate 2 exact rfl))
    |(apply H.pass0;exact rfl)
    |(apply H.pickT;(iterate 4 exact rfl))
    |((first|apply H.pickF|apply H.Cg|apply H.not|apply H.Cp);(iterate 4 exact rfl))
    |((first|apply H.ptrNil|apply H.sliceNil);(iterate 5 exact rfl))
    |(apply H.Ba;(iterate 4 exact rfl);(repeat(first|exact .here _ _ _|apply At.there));(repeat(first|exact .here _ _ _|apply SetV.there)))
    |(apply H.Co;exact rfl)
    |(apply H.Cn;exact rfl)
    |(first|apply H.skip|apply H.ret|apply H.Ce|apply H.Cf|apply H.exit|apply H.Bl|apply H.Bp|apply H.Ca|apply H.Cb|apply H.Cd|apply H.Cc)
    |(apply H.in_miss;exact rfl)
    |(apply H.gyes;(iterate 3 exact rfl);(first|assumption|omega))
    |(apply H.gno;(iterate 3 exact rfl);(first|assumption|omega))
    |(apply H.Ch;exact rfl;(first|assumption|omega))
    |(apply H.Cj;exact rfl;(first|assumption|omega))
    |((first|apply H.gtrue);(iterate 3 exact rfl);assumption)
    |(apply H.gfalse;(iterate 3 exact rfl);assumption)
    |(apply H.cond_t;exact rfl;assumption)
    |(apply H.cond_f;exact rfl;assumption) )
   refine H.regionY ?_;refine H.inOp jD ?_;refine gI ?_;refine H.Bu ?_;refine H.inOp jD ?_;refine gF ?_;refine H.Bu ?_;refine H.inOp jD ?_;refine gO ?_;refine H.Bu ?_;refine H.inOp jD ?_;refine gI ?_;refine H.Bu ?_;by_cases hzb:z.1<bv
   ·rw[bestOf_yes hzb]at hbo;refine H.inOp jD ?_;refine gO ?_;refine H.Bu ?_;refine H.inOp jD ?_;refine gI ?_;refine H.Bu ?_;refine H.inOp jD ?_;refine gI ?_;refine H.Bu ?_;refine H.pf (x:=X a2) ?_;refine H.yield rfl rfl rfl rfl (hY a2 z _) fun v f' A' hR=>?_;obtain⟨rfl,hff,rfl⟩:=hR;rw[hff];clear hff;refine H.inOp jD ?_;refine gO ?_;refine H.Bu ?_;refine H.inOp jD ?_;refine gY ?_;refine qgU ?_;exact H.ag (k+1,bmax a2 z) ⟨by show k+1≤(l.past r).all.length;omega,hbo⟩ jR
   ·rw[bestOf_no hzb]at hbo;refine H.inOp jD ?_;refine gX ?_;refine H.Bu ?_;refine H.inOp jD ?_;refine gC ?_;refine H.Bu ?_;refine H.inOp jD ?_;refine gC ?_;refine H.Bu ?_;refine H.inOp jD ?_;refine gC ?_;refine H.Bu ?_;refine H.inOp jD ?_;refine gC ?_;refine H.Bu ?_;refine H.inOp jD ?_;refine gO ?_;refine qgU ?_;exact H.ag (k+1,a2) ⟨by show k+1≤(l.past r).all.length;omega,hbo⟩ jR
  ·have e:k=(l.past r).all.length:=jA
   subst e;rw[List.drop_length]at hbo;have hbo:a2=bestOf bv (l.past r).all a:=hbo;rw[←hbo]at hbq
   refine gc ?_;refine H.pd (x:=slc ep _ ec _ _ _) ?_;refine qin ?_;refine H.pf (x:=fam (updF _ _ _) _) ?_;refine H.pf (x:=pastH (pb r) _) ?_;refine qjh ?_;refine qjU ?_;refine H.pf (x:=X _) ?_;exact H.ag (j+1,a2) ⟨by show j+1≤q.length;omega,hbq⟩ (by show q.length-(j+1)<q.length-j;omega)
 ·have e:j=q.length:=jA
  subst e;rw[List.drop_length]at hbq;have hbq:a=bestQ l.past bv q a0:=hbq;rw[←hbq]
  refine gc ?_;exact qaR
end
variable {m:Msg}
theorem Lgs.begins_no(ho:l.n % 2=1)(h:(qokB l m&&decide (m.body.q.length=l.n / 2+1))=false):l.begins m=(false,l):=by
 unfold Lgs.begins;by_cases h1:m.body.q.length≠(l.n-1) / 2+1
 ·rw[if_pos h1]
 ·rw[if_neg h1,if_pos];rw[decide_eq_true (show m.body.q.length=l.n / 2+1 by omega),Bool.and_true]at h;exact h
theorem Lgs.begins_en(ho:l.n % 2=1)(h:(qokB l m&&decide (m.body.q.length=l.n / 2+1))=true){u:Int}{ln iv:Nat}{w:Vw}(hb:bestQ l.past m.body.view m.body.q (0,0)=(u,(ln:Int)))(hat:vwAt l.vs u=some iv)(hw:l.vs[iv]?=some w):l.begins m=
  if(l.past (orgI m)).enterOk m.body.view ln=false then(false,l)else
  (true,{l with past:=updF l.past (orgI m) ((l.past (orgI m)).enter m.body.view ln),vs:=insV ⟨m.body.view,m.number,w.all.take ln,[]⟩ l.vs}):=by
 rw[Bool.and_eq_true]at h;have h2:=of_decide_eq_true h.2;unfold Lgs.begins
 have h1:(m.body.q.all fun q=>decide (q.2≤m.deps (q.1-1).toNat)&&chB l q m.body.view)=true:=h.1
 have h3:((match vwAt l.vs u with|none=>[]|some i=>(l.vs[i]?.map Vw.all).getD []).take (ln:Int).toNat)=w.all.take ln:=by
  rw[hat];show((l.vs[iv]?.map Vw.all).getD []).take (ln:Int).toNat=_;rw[hw];rfl
 rw[hb,if_neg jA,if_neg kV,←h3];rfl
variable {v:Int}
theorem LI.fresh(h:LI l T){k:Int}(hr:primI l.n v<l.n)(he:(l.past (primI l.n v)).enterOk v k=true):vwAt l.vs v=none:=by
 have hw:=h.wf _ hr;have he:=of_decide_eq_true he
 refine vwAt_none.2 fun w hm e=>?_;by_cases h0:w.v=0
 ·have:=hw.last;omega
 ·obtain⟨p,hp,h1⟩:=h.begun w hm h0;rw[e]at hp h1;exact hw.not_all he.1 (List.mem_map.2 ⟨p,hp,h1⟩)
theorem ent_fresh{V:List PV}(h:(V.map PV.w).Perm l.vs)(hv:vwAt l.vs v=none):v∉(V.map PV.ent).map (·.1):=fun hm=>by
 obtain⟨e,he,h1⟩:=List.mem_map.1 hm
 obtain⟨x,hx,rfl⟩:=List.mem_map.1 he
 exact vwAt_none.1 hv x.w (h.mem_iff.1 (List.mem_map.2 ⟨x,hx,rfl⟩)) h1
variable {r:Nat}
section
variable (f:Frag) (F:List HP)
theorem plnew_view_fn(hfl:Le fl f)(hL:LI l T)(hT:T≤50000)(hodd:l.n % 2=1){x:MV}(hx:x.Good f)(hm:MIn l.n x.m)(hk:x.m.body.kind=4){i:PPt}(hi:plφ fl l i)(hre:r=orgI x.m):Fn prog 91 [.pointer (some ⟨lb,0,none⟩),.agg x.vals.toArray,.pointer (some ⟨i.pb r,0,none⟩)] f (plB lb l i++F) (Ret (.bool (l.counts x.m).1) f (plogH f lb (l.counts x.m).2::F)):=by
 have hiF:=hi.mono hfl;have hn:=hL.n3
 have hor:=hm.o;have hr:r<l.n:=by rw[hre];unfold orgI;omega
 have hwf:=hL.wf r hr;have hil:=hL.il r hr
 have hvl:=hL.vl;have hv0:=hm.v
 have hvs:=hi.vs;have hql:x.m.body.q.length≤1000000:=by have:=hx.2.1;omega
 have hvo1:=fun(lp:Nat) (X:Int×Int→HP) (hY) (b1 b2 b3:Nat) (G:List HP)=>votes1_fn f G hfl (lb:=lb) hL hT hi (q:=x.m.body.q) (qc:=x.qc) hx.1 hql hm.q (bv:=x.m.body.view) (lp:=lp) (X:=X) hY (b1:=b1) (b2:=b2) (b3:=b3) (0,0);obtain⟨V,vb,pp,pc,cp,cc,pb,cs⟩:=i
 have hvs:(V.map PV.w).Perm l.vs:=hvs
 have hvo1:∀(lp:Nat) (X:Int×Int→HP),(∀(a z:Int×Int) (G:List HP),YieldFn prog lp [.int .u64 z.1,.int .i64 z.2] f (X a::G) (fun v g B=>v= .bool true∧g=f∧B=X (bmax a z)::G))→∀(b1 b2 b3:Nat) (G:List HP),Fn prog 185 ([]++[.func (.yield lp) #[] #[]]++[.pointer (some ⟨b1,0,none⟩),.pointer (some ⟨b2,0,none⟩),.pointer (some ⟨b3,0,none⟩)]) f
   (X (0,0)::row b1 50 [.slice x.qp x.m.body.q.length x.qc]::row b2 80 [.pointer (some ⟨lb,0,none⟩)]::row b3 35 [.int .u64 x.m.body.view]::row lb 124 (plC l.n l.known vb pp pc cp cc)::fam (fun r=>pastH (pb r) (l.past r)) l.n::G)
   (Ret (.tuple #[]) f (X (bestQ l.past x.m.body.view x.m.body.q (0,0))::row b1 50 [.slice x.qp x.m.body.q.length x.qc]::row b2 80 [.pointer (some ⟨lb,0,none⟩)]::row b3 35 [.int .u64 x.m.body.view]::row lb 124 (plC l.n l.known vb pp pc cp cc)::fam (fun r=>pastH (pb r) (l.past r)) l.n::G)):=hvo1
 have hprim:=fun G=>plprim_fn f G (lb:=lb) (n:=l.n) (kn:=l.known) (vb:=vb) (pp:=pp) (pc:=pc) (cp:=cp) (cc:=cc) jA hv0;have hqu:=fun G=>plquorum_fn f G hL hT hx hm (lb:=lb) (vb:=vb) (pp:=pp) (pc:=pc) (cp:=cp) (cc:=cc) (cs:=cs)
 rw[Lgs.counts_4 hk];refine qen ?_;by_cases hp:primZ l.n x.m.body.view=x.m.origin
 ·rw [if_pos (decide_eq_true hp)]
  cases hqk:qokB l x.m&&decide (x.m.body.q.length=l.n / 2+1)with
  | false =>
   rw[Lgs.begins_no hodd hqk];rw[hqk]at hqu;refine qhs fun base=>?_;refine qem fun mb=>?_;refine gF ?_;refine H.drawB jE jL jM (S:=[_]) rfl ?_;refine qfA ?_;refine qeu ?_;exact qaK
  | true =>
   obtain⟨⟨u,z⟩,hbq⟩:∃b,bestQ l.past x.m.body.view x.m.body.q (0,0)=b:=⟨_,rfl⟩;have hbest:=hL.best hm;rw[hbq]at hbest hvo1
   obtain⟨iv,w,hat,hw,hz0,hz1⟩:∃i w,vwAt l.vs u=some i∧l.vs[i]?=some w∧0≤z∧z≤(w.all.length:Int):=hbest;obtain⟨ln,rfl⟩:∃ln:Nat,z=(ln:Int):=⟨z.toNat,by omega⟩;have hln:ln≤w.all.length:=jA
   obtain⟨j,X,hX,hXw,hgetX⟩:=view_some hvs hL.rise hat hw;have hget:(getKV (V.map PV.ent) u).getD (.pointer none)= .pointer (some ⟨X.b,0,none⟩):=by rw[hgetX];rfl
   subst hXw;have hXl:=hL.al X.w (List.mem_of_getElem? hw);rw[Lgs.begins_en hodd hqk hbq hat hw,←hre]
   rw[hqk]at hqu;refine qhs fun base=>?_;refine qem fun mb=>?_;refine gF ?_;refine H.drawB jE jL jM (S:=[_]) rfl ?_;refine qfA ?_;refine qiW ?_;refine HB.qu [10,11] 0 ?_;refine qfh ?_;refine gW ?_;refine H.Aj (ls:=[.int .u64 0]) rfl rfl rfl fun ub=>?_;refine H.Aj (ls:=[.int .i64 0]) rfl rfl rfl fun nb=>?_;refine gR ?_;refine H.callE rfl rfl rfl (votes_fn f _) fun b=>?_;obtain⟨b1,b2,b3⟩:=b;refine gT ?_;refine H.sb [(35,.func (.func 185) #[] #[.pointer (some ⟨b1,0,none⟩),.pointer (some ⟨b2,0,none⟩),.pointer (some ⟨b3,0,none⟩)]),(9,.pointer (some ⟨nb,0,none⟩)),(8,.pointer (some ⟨ub,0,none⟩)),(7,.int .u64 x.m.body.view),(4,.pointer (some ⟨mb,0,none⟩)),(2,.pointer (some ⟨pb r,0,none⟩)),(0,.pointer (some ⟨lb,0,none⟩))] ?_;refine qgc ?_;refine qjU ?_;refine qjY ?_;refine H.pf (x:=row ub _ _) ?_;refine H.rangeFuncE (f':=f) (fs:=[]) (cs:=[.pointer (some ⟨b1,0,none⟩),.pointer (some ⟨b2,0,none⟩),.pointer (some ⟨b3,0,none⟩)]) rfl rfl fun LH hLH=>⟨Unit,fun _ D=>pts D (.deferred (some []))::row ub 35 [.int .u64 u]::row nb 3 [.int .i64 (ln:Int)]::row b1 50 [.slice x.qp x.m.body.q.length x.qc]::row b2 80 [.pointer (some ⟨lb,0,none⟩)]::row b3 35 [.int .u64 x.m.body.view]::row lb 124 (plC l.n l.known vb pp pc cp cc)::fam (fun r=>pastH (pb r) (l.past r)) l.n::row mb 54 x.vals::slc cp l.n cc 226 1 (chRow l cs)::fam (pcFam l cs) l.n::mp vb keyU (V.map PV.ent)::lst (V.map PV.own)::F,fun D lp=>?_,fun _ D=>?_⟩
   ·refine Fn.wrap (pack_all [LH D lp .ready,pts D (.deferred (some [])),row ub 35 [.int .u64 0],row nb 3 [.int .i64 0]] _) (hvo1 lp (fun a=>stars [LH D lp .ready,pts D (.deferred (some [])),row ub 35 [.int .u64 a.1],row nb 3 [.int .i64 a.2]]) (fun a z G=>?_) b1 b2 b3 _) fun v g B hR=>?_
    ·refine YieldFn.wrap (R1:=fun v g B=>v= .bool true∧g=f∧B=LH D lp .ready::pts D (.deferred (some []))::row ub 35 [.int .u64 (bmax a z).1]::row nb 3 [.int .i64 (bmax a z).2]::G) (open_all _ _) ?_ ?_
     ·subst hLH;refine YieldFn.of rfl rfl rfl rfl fun base=>?_;repeat(first|(first|(first|apply H.seqR|apply H.thenR)|(apply H.regionR;exact rfl;exact jD))|(first|((apply H.Be);(iterate 3 exact rfl))|(apply H.nil)))
      refine H.begin ?_;by_cases h1:a.1<z.1
      ·rw[show bmax a z=z by unfold bmax;rw[if_pos (.inl h1)]];repeat(first|(first|(first|apply H.seqR|apply H.thenR|apply H.blockR)|(apply H.regionR;exact rfl;exact jD)|(apply H.condR_true;exact rfl))|(first|((apply H.Aw);(iterate 3 exact rfl))|(apply H.Ab;(iterate 3 exact rfl);apply Rd1.ofRow;(repeat(first|exact .here _ _ _|apply At.there));(iterate 2 exact rfl))|(apply H.nil)|((apply H.cmp);(iterate 5 exact rfl))|(apply H.pass;(iterate 2 exact rfl))|(apply H.pickT;(iterate 4 exact rfl))|(apply H.Ba;(iterate 4 exact rfl);(repeat(first|exact .here _ _ _|apply At.there)))|(apply H.Bp)|(apply H.gyes;(iterate 3 exact rfl);(assumption))))
       exact qdg
      ·by_cases h2 : z.1 = a.1
       ·by_cases h3:a.2<z.2
        ·rw[show bmax a z=z by unfold bmax;rw[if_pos (.inr ⟨h2,h3⟩)]];repeat(first|(first|(first|apply H.seqR|apply H.thenR|apply H.blockR)|(apply H.regionR;exact rfl;exact jD)|(apply H.condR_yes;exact rfl;(assumption)))|(first|((apply H.Aw);(iterate 3 exact rfl))|(apply H.Ab;(iterate 3 exact rfl);apply Rd1.ofRow;(repeat(first|exact .here _ _ _|apply At.there));(iterate 2 exact rfl))|(apply H.nil)|((apply H.cmp);(iterate 5 exact rfl))|(apply H.pickT;(iterate 4 exact rfl))|((apply H.pickF);(iterate 4 exact rfl))|(apply H.Ba;(iterate 4 exact rfl);(repeat(first|exact .here _ _ _|apply At.there)))|(apply H.Bp)|(apply H.gyes;(iterate 3 exact rfl);(assumption))|(apply H.gno;(iterate 3 exact rfl);(assumption))))
         exact qdg
        ·rw[show bmax a z=a by unfold bmax;rw[if_neg (by rintro(h|h);exact h1 h;exact h3 h.2)]];repeat(first|(first|(first|apply H.seqR|apply H.thenR|apply H.skipR|apply H.blockR)|(apply H.regionR;exact rfl;exact jD)|(apply H.condR_no;exact rfl;(assumption)))|(first|((apply H.Aw);(iterate 3 exact rfl))|(apply H.Ab;(iterate 3 exact rfl);apply Rd1.ofRow;(repeat(first|exact .here _ _ _|apply At.there));(iterate 2 exact rfl))|(apply H.nil)|((apply H.cmp);(iterate 5 exact rfl))|(apply H.pickT;(iterate 4 exact rfl))|((apply H.pickF);(iterate 4 exact rfl))|(apply H.Bp)|(apply H.gyes;(iterate 3 exact rfl);(assumption))|(apply H.gno;(iterate 3 exact rfl);(assumption))))
         exact qdg
       ·rw[show bmax a z=a by unfold bmax;rw[if_neg (by rintro(h|h);exact h1 h;exact h2 h.1)]];repeat(first|(first|(first|apply H.seqR|apply H.thenR|apply H.skipR|apply H.blockR)|(apply H.regionR;exact rfl;exact jD)|(apply H.condR_false;exact rfl))|(first|((apply H.Aw);(iterate 3 exact rfl))|(apply H.Ab;(iterate 3 exact rfl);apply Rd1.ofRow;(repeat(first|exact .here _ _ _|apply At.there));(iterate 2 exact rfl))|(apply H.nil)|((apply H.cmp);(iterate 5 exact rfl))|(apply H.pass;(iterate 2 exact rfl))|((apply H.pickF);(iterate 4 exact rfl))|(apply H.Bp)|(apply H.gno;(iterate 3 exact rfl);(assumption))))
        exact qdg
     ·rintro v g B ⟨rfl,rfl,rfl⟩;exact⟨_,⟨rfl,rfl,rfl⟩,pack_all [_,_,_,_] G⟩
    ·obtain⟨rfl,rfl,rfl⟩:=hR;exact⟨_,⟨(),rfl,rfl⟩,open_all [_,_,_,_] _⟩
   ·have hent:=fun G=>enter_fn f G (pb r) (l.past r) hwf jA x.m.body.view (ln:Int);show H _ _ _ _ f (pts D (.deferred (some []))::row ub 35 [.int .u64 u]::row nb 3 [.int .i64 (ln:Int)]::row b1 50 [.slice x.qp x.m.body.q.length x.qc]::row b2 80 [.pointer (some ⟨lb,0,none⟩)]::row b3 35 [.int .u64 x.m.body.view]::row lb 124 (plC l.n l.known vb pp pc cp cc)::fam (fun r=>pastH (pb r) (l.past r)) l.n::row mb 54 x.vals::slc cp l.n cc 226 1 (chRow l cs)::fam (pcFam l cs) l.n::mp vb keyU (V.map PV.ent)::lst (V.map PV.own)::F) _
    refine H.pd (x:=row b1 _ _) ?_;refine H.pd (x:=row b2 _ _) ?_;refine H.pd (x:=row b3 _ _) ?_;refine gM ?_;refine qkk ?_;refine H.cr (hent _) ?_
    cases hek:(l.past r).enterOk x.m.body.view ln with
    | false =>
     rw[if_pos rfl];rw[show(l.past r).enter x.m.body.view ln=l.past r by unfold PM.enter;rw[hek];rfl];refine qjh ?_;refine gY ?_;refine qir ?_;refine qge ?_;refine qkK ?_;exact qdr
    | true =>
     rw[if_neg jC];refine qhB ?_;rw[past_updF];refine gR ?_;refine H.makeMap encA rfl rfl fun hb=>?_;refine H.Ay (t:=162) (out:=vwC x.m.number ln none 0 0 none 0 0 hb) rfl rfl rfl jE rfl ?_;refine H.box (ls:=vwC x.m.number ln none 0 0 none 0 0 hb) rfl rfl rfl rfl fun wb=>?_;refine gI ?_;refine qhV ?_;refine H.Ci (x:=X.own) (i:=j) jH ?_;refine H.ownOpen ?_;refine qex ?_;refine H.Cm (p:=X.lp) (m:=X.w.all.length) (c:=X.lc) (T:=49) (sz:=40) (xs:=X.w.all.flatMap Req.vals) at1 fun hcap _ _=>?_;refine H.drawQ jE jL jM ?_;refine gP ?_;refine HQ.Bm (enc:=keyU) (k:=u) rfl rfl rfl jB rfl hget rfl ?_;refine gP ?_;refine HQ.slice (lo:=none) (hi:=some (.tmp 73)) (mx:=none) (lv:=0) (hv:=ln) (mv:=X.lc) rfl rfl rfl ⟨_,_,rfl,rfl⟩ rfl (fun h=>by cases h) (Nat.zero_le _) jA (Nat.le_refl _) rfl ?_;rw[slP0,Nat.sub_zero,Nat.sub_zero];refine gK ?_;refine gT ?_;refine H.slc0 49 40 ?_;refine H.pf (x:=mp hb _ _) ?_;refine H.pf (x:=slc none 0 0 _ _ _) ?_;refine qg ?_
     refine H.loop (ι:=Nat×Option Addr×Nat) (fun s=>[(76,.int .i64 (s.1:Int)),(75,.int .i64 (ln:Int)),(74,.slice X.lp ln X.lc),(12,.pointer (some ⟨wb,0,none⟩)),(7,.int .u64 x.m.body.view),(0,.pointer (some ⟨lb,0,none⟩)),(1000003,.pointer (some ⟨D,0,none⟩))]) (fun _=>f)
      (fun s=>row wb 162 (vwC x.m.number ln s.2.1 (X.w.all.take s.1).length s.2.2 none 0 0 hb)::slc s.2.1 (X.w.all.take s.1).length s.2.2 49 40 ((X.w.all.take s.1).flatMap Req.vals)::mp hb encA (heldKV (X.w.all.take s.1))::row X.b 162 (vwC X.w.num X.w.s.length X.lp X.w.all.length X.lc X.np X.w.p.length X.nc X.hb)::slc X.lp X.w.all.length X.lc 49 40 (X.w.all.flatMap Req.vals)::slc X.np X.w.p.length X.nc 35 1 (X.w.p.flatMap numV)::mp X.hb encA (heldKV X.w.all)::lst ((V.map PV.own).set j emp)::fam (fun j=>pastH (pb j) (updF l.past r ((l.past r).enter x.m.body.view ln) j)) l.n::pts D (.deferred (some []))::row ub 35 [.int .u64 u]::row nb 3 [.int .i64 (ln:Int)]::row lb 124 (plC l.n l.known vb pp pc cp cc)::row mb 54 x.vals::slc cp l.n cc 226 1 (chRow l cs)::fam (pcFam l cs) l.n::mp vb keyU (V.map PV.ent)::F)
      (fun s=>s.1≤ln) (fun s=>ln-s.1) (0,none,0) (Nat.zero_le _) ⟨rfl,rfl,rfl,rfl,rfl,rfl,rfl,rfl⟩ rfl rfl fun s hs=>?_
     obtain⟨k,lp2,lc2⟩:=s;have hk2:k≤ln:=hs;show H _ _ _ [(76,.int .i64 (k:Int)),_,_,_,_,_,_] f (row wb _ (vwC x.m.number ln lp2 (X.w.all.take k).length lc2 none 0 0 hb)::slc lp2 (X.w.all.take k).length lc2 _ 40 ((X.w.all.take k).flatMap Req.vals)::mp hb encA (heldKV (X.w.all.take k))::_) _
     by_cases hlt:k<ln
     ·obtain⟨rq,hrq⟩:∃rq,X.w.all[k]?=some rq:=⟨_,lgE jA⟩;have htk:X.w.all.take (k+1)=X.w.all.take k++[rq]:=by rw[List.take_add_one,hrq];rfl
      refine H.Au (p:=X.lp) (n0:=X.w.all.length) (c:=X.lc) (T:=49) (sz:=40) (xs:=X.w.all.flatMap Req.vals) at4 jA fun sb hsb=>?_
      have rd:∀(a1 a2 a3 a4:HP) (G:List HP),Rd f (a1::a2::a3::a4::slc X.lp X.w.all.length X.lc 49 40 (X.w.all.flatMap Req.vals)::G) sb (0+k*40) rq.vals:=fun a1 a2 a3 a4 G=>by
       rw[Nat.zero_add];exact Rd.slcElem (vals:=Req.vals) (xs:=X.w.all) (n:=X.w.all.length) (c:=X.lc) (T:=49) Req.len jC (by rw[←hsb];exact .there _ (.there _ (.there _ (.there _ (.here _ _ _))))) hrq
      refine gG ?_;refine H.Ak (b:=sb) (off:=0) (i:=k) rfl (by rw[←hsb];rfl) rfl rfl hlt rfl ?_;refine H.Ad (ls:=rq.vals) rfl rfl rfl (rd _ _ _ _ _) rfl rfl ?_;refine qgN fun qb=>?_;refine H.Ag (ls:=Req.zero.vals) (vs:=rq.vals) (ls':=rq.vals) rfl rfl rfl (zaa rfl) rfl rfl (Nat.le_refl 40) aP0 ?_;refine gI ?_;refine H.Ad (ls:=rq.vals) rfl rfl rfl (Rd.ofRow aP0) rfl rfl ?_;refine H.pd (x:=row qb _ _) ?_;refine H.Ap rfl rfl rfl (vput_fn f _ jd rq) fun v f' A' hR=>?_;obtain⟨lp3,lc3,hff,rfl⟩:=hR;rw[hff];rw[←htk];refine gW ?_;exact H.Ar (k+1,lp3,lc3) (by show k+1≤ln;omega) (by show ln-(k+1)<ln-k;omega) ⟨rfl,rfl,rfl,rfl,rfl,rfl,rfl,rfl⟩ rfl rfl
     ·obtain rfl:k=ln:=jA
      refine gM ?_;refine H.mapUpdate (enc:=keyU) (k:=x.m.body.view) (v:=.pointer (some ⟨wb,0,none⟩)) rfl rfl rfl rfl jB rfl ?_;refine gT ?_;have hpr:primI l.n x.m.body.view=r:=by unfold primZ at hp;rw[hre];unfold orgI;omega
      have hfr:=hL.fresh (v:=x.m.body.view) (k:=(k:Int)) (by rw[hpr];exact hr) (by rw[hpr];exact hek);have hsl:(X.w.all.take k).length=k:=by rw[List.length_take];omega
      obtain⟨Y,hY⟩:∃Y:PV,Y=⟨⟨x.m.body.view,x.m.number,X.w.all.take k,[]⟩,wb,lp2,lc2,none,0,hb⟩:=⟨_,rfl⟩;have hYa:Y.w.all=X.w.all.take k:=by rw[hY];exact List.append_nil _
      have hof:=fun G=>zcd (x:=Y) (A:=G)
      have hparts:Y.parts=[row wb 162 (vwC x.m.number k lp2 (X.w.all.take k).length lc2 none 0 0 hb),slc lp2 (X.w.all.take k).length lc2 49 40 ((X.w.all.take k).flatMap Req.vals),slc none 0 0 35 1 [],mp hb encA (heldKV (X.w.all.take k))]:=by
       unfold PV.parts PV.cells;rw[hYa,hY];show [row wb _ [_,.int .i64 (((X.w.all.take k).length:Nat):Int),_,_,_],_,_,_]=_;rw[hsl];rfl
      rw[hparts]at hof
      have hent2:putKV (V.map PV.ent) x.m.body.view (.pointer (some ⟨wb,0,none⟩))=(V++[Y]).map PV.ent:=by
       rw[PM.put_absent _ _ _ (ent_fresh hvs hfr),List.map_append,hY];rfl
      rw[hent2]
      have hperm:((V++[Y]).map PV.w).Perm (insV ⟨x.m.body.view,x.m.number,X.w.all.take k,[]⟩ l.vs):=by
       rw[List.map_append,List.map_cons,List.map_nil,show Y.w=⟨x.m.body.view,x.m.number,X.w.all.take k,[]⟩ by rw[hY]];exact((List.perm_append_singleton _ _).trans ((List.perm_cons _).2 hvs)).trans (zbk _ _)
      refine H.slc0 35 1 ?_;refine H.pf (x:=mp hb _ _) ?_;refine H.pf (x:=slc none 0 0 35 _ _) ?_;refine H.pf (x:=slc lp2 _ lc2 _ _ _) ?_;refine qg ?_;refine H.imp (hof _) ?_;clear hof hparts hent2 hYa;refine qeD ?_;refine H.Cl jH ?_;refine H.pf (x:=Y.own) ?_;refine H.lstMore (ys:=(V++[Y]).map PV.own) (by rw[List.map_append];exact(List.perm_append_singleton _ _).symm) ?_;refine qir ?_;refine H.pf (x:=lst ((V++[Y]).map PV.own)) ?_;refine qkf ?_;refine H.imp (zam (l:={l with past:=updF l.past r ((l.past r).enter x.m.body.view k),vs:=insV ⟨x.m.body.view,x.m.number,X.w.all.take k,[]⟩ l.vs}) ⟨V++[Y],vb,pp,pc,cp,cc,pb,cs⟩ ⟨hperm,hiF.p⟩) ?_;exact qdr
 ·rw[if_neg (fun h=>hp (of_decide_eq_true h))];refine qhs fun base=>?_;refine qem fun mb=>?_;refine gF ?_;refine H.drawB jE jL jM (S:=[_]) rfl ?_;refine qiZ ?_;refine gZ ?_;refine qhH ?_;refine gC ?_;exact qaK
theorem plenter_fn(hfl:Le fl f)(hL:LI l T)(hT:T≤50000){x:MV}(hm:MIn l.n x.m)(hk:x.m.body.kind=5){i:PPt}(hi:plφ fl l i)(hre:r=orgI x.m):Fn prog 92 [.pointer (some ⟨lb,0,none⟩),.agg x.vals.toArray,.pointer (some ⟨i.pb r,0,none⟩)] f (plB lb l i++F) (Ret (.bool (l.counts x.m).1) f (plogH f lb (l.counts x.m).2::F)):=by
 have hiF:=hi.mono hfl;have hn:=hL.n3
 have hor:=hm.o;have hr:r<l.n:=by rw[hre];unfold orgI;omega
 have hwf:=hL.wf r hr;have hil:=hL.il r hr
 have hvl:=hL.vl;have hv0:=hm.v
 have hvs:=hi.vs;obtain⟨V,vb,pp,pc,cp,cc,pb,cs⟩:=i
 have hvs:(V.map PV.w).Perm l.vs:=hvs;have hprim:=fun G=>plprim_fn f G (lb:=lb) (n:=l.n) (kn:=l.known) (vb:=vb) (pp:=pp) (pc:=pc) (cp:=cp) (cc:=cc) jA hv0
 have hpl:primI l.n x.m.body.view<11:=qcU
 have hpz:primZ l.n x.m.body.view-1=(primI l.n x.m.body.view:Nat):=by unfold primZ;omega
 have hvd:(v11 x.m.deps)[primI l.n x.m.body.view]?=some (.int .u64 (x.m.deps (primI l.n x.m.body.view))):=zau _ hpl;refine qen ?_
 cases hat:vwAt l.vs x.m.body.view with
 | none =>
  rw[Lgs.counts_5n hk hat];have hget:(getKV (V.map PV.ent) x.m.body.view).getD (.pointer none)= .pointer none:=by rw[view_none hvs hat];rfl
  refine Fn.e3 func92 ntmps92 fun base=>?_;refine qem fun mb=>?_;refine qfx ?_;refine qeJ ?_;refine HB.qu [0,1,2,3,4,5,6,7,8,11] 16 ?_;refine gZ ?_;refine qhH ?_;refine qgH ?_;refine HB.qu [10,12,13,14,15,16,17,18,19,20,21,22] 3 ?_;refine qhY ?_;refine HB.ev 23 ?_;refine qgH ?_;refine HB.qu [24,25] 0 ?_;refine qkM ?_;exact qds
 | some iv =>
  obtain⟨⟨w,hw,hwv⟩,_⟩:=zaq.1 hat;obtain⟨j,X,hX,hXw,hgetX⟩:=view_some hvs hL.rise hat hw;have hget:(getKV (V.map PV.ent) x.m.body.view).getD (.pointer none)= .pointer (some ⟨X.b,0,none⟩):=by rw[hgetX];rfl
  rw[Lgs.counts_5 hk hat hw,←hre];subst hXw;have hXl:=hL.al X.w (List.mem_of_getElem? hw);have hXa:=X.w.all_len
  by_cases h1:X.w.num≤x.m.deps (primI l.n x.m.body.view)
  ·rw[if_neg jA];have hen:=fun G=>enter_fn f G (pb r) (l.past r) hwf jA x.m.body.view ((X.w.s.length:Nat):Int);refine Fn.e3 func92 ntmps92 fun base=>?_
   refine qem fun mb=>?_;refine qfx ?_;refine qhV ?_;refine H.Ci (x:=X.own) (i:=j) jH ?_;refine H.ownOpen ?_;refine qfc ?_;refine gZ ?_;refine qeo ?_;refine HB.ev 23 ?_;refine qkk ?_;refine H.cr (hen _) ?_;refine qhB ?_;rw[past_updF];refine gA ?_;refine qeu ?_;refine qic ?_;refine qeS ?_;refine HB.qu [24,25] 0 ?_;refine qkM ?_;refine qeD ?_;refine H.Cl jH ?_;exact qaU
  ·rw[if_pos jA];refine Fn.e3 func92 ntmps92 fun base=>?_;refine qem fun mb=>?_;refine qfx ?_;refine qhV ?_;refine H.Ci (x:=X.own) (i:=j) jH ?_;refine H.ownOpen ?_;refine qfc ?_;refine gZ ?_;refine qeo ?_;refine HB.ev 23 ?_;refine qgH ?_;refine HB.qu [24,25] 0 ?_;refine qkM ?_;refine qeD ?_;refine H.Cl jH ?_;exact qds
end
structure NI(l:Lgs):Prop where
 rise:∀w∈l.vs,RiseN w.p
 low:∀w∈l.vs,∀y∈w.p,y.1≤l.known (primI l.n w.v)
theorem RiseN.nil:RiseN []:=fun i j y z _ hy _=>by cases hy
theorem NI.new(n:Nat):NI (Lgs.new n):=⟨fun w hw=>by
  have e:w=⟨0,0,[],[]⟩:=List.mem_singleton.1 hw
  rw[e];exact RiseN.nil,fun w hw y hy=>by
  have e:w=⟨0,0,[],[]⟩:=List.mem_singleton.1 hw
  rw[e]at hy;cases hy⟩
theorem Lgs.counts_vs(l:Lgs)(m:Msg):(l.counts m).2.vs=l.vs∨
  (∃i w,vwAt l.vs m.body.view=some i∧l.vs[i]?=some w∧primZ l.n m.body.view=m.origin∧(l.counts m).2.vs=l.vs.set i {w with p:=w.p++[(m.number,m.body.req)]})∨
  (∃s,(l.counts m).2.vs=insV ⟨m.body.view,m.number,s,[]⟩ l.vs):=by
 by_cases h3:m.body.kind=3
 ·rw[Lgs.counts_3 h3];split<;>exact .inl rfl
 ·by_cases h4 : m.body.kind = 4
  ·rw[Lgs.counts_4 h4];split
   ·unfold Lgs.begins;split
    ·exact .inl rfl
    ·split
     ·exact .inl rfl
     ·split
      ·exact .inl rfl
      ·exact .inr (.inr ⟨_,rfl⟩)
   ·exact .inl rfl
  ·by_cases h5 : m.body.kind = 5
   ·cases hat:vwAt l.vs m.body.view with
    |none=>rw[Lgs.counts_5n h5 hat];exact .inl rfl
    | some i =>
     obtain⟨⟨w,hw,_⟩,_⟩:=zaq.1 hat;rw[Lgs.counts_5 h5 hat hw];split<;>exact .inl rfl
   ·by_cases h1 : m.body.kind = 1
    ·cases hat:vwAt l.vs m.body.view with
     |none=>rw[Lgs.counts_1n h1 hat];exact .inl rfl
     | some i =>
      obtain⟨⟨w,hw,_⟩,_⟩:=zaq.1 hat;rw[Lgs.counts_1 h1 hat hw];split
      ·exact .inl rfl
      ·rename_i h
       refine .inr (.inl ⟨i,w,rfl,hw,?_,rfl⟩);rcases Decidable.em (primZ l.n m.body.view=m.origin)with e|e
       ·exact e
       ·exact absurd (.inl (decide_eq_false e)) h
    ·by_cases h2 : m.body.kind = 2
     ·cases hat:vwAt l.vs m.body.view with
      |none=>rw[Lgs.counts_2n h2 hat];exact .inl rfl
      | some i =>
       obtain⟨⟨w,hw,_⟩,_⟩:=zaq.1 hat;rw[Lgs.counts_2 h2 hat hw];split<;>exact .inl rfl
     ·rw[Lgs.counts_x h3 h4 h5 h1 h2];exact .inl rfl
theorem NI.take{l:Lgs}(h:NI l)(m:Msg):NI (l.take m).2:=by
 unfold Lgs.take;split
 ·exact h
 ·split
  ·exact h
  ·rename_i _ hn
   have hnum:m.number=l.known (orgI m)+1:=by
    rcases Decidable.em (m.number=l.known (orgI m)+1)with e|e
    ·exact e
    ·exact absurd (.inl e) hn
   have hk:=l.counts_nk m;obtain⟨K,hK⟩:∃K,K=updF (l.counts m).2.known (orgI m) ((l.counts m).2.known (orgI m)+1):=⟨_,rfl⟩
   have hge:∀r,l.known r≤K r:=fun r=>by
    rw[hK,hk.2];by_cases e:r=orgI m
    ·subst e;rw[zae];omega
    ·exact qdQ
   have hKo:K (orgI m)=m.number:=by rw[hK,zae,hk.2,hnum]
   show NI {(l.counts m).2 with known:=updF (l.counts m).2.known (orgI m) ((l.counts m).2.known (orgI m)+1)};rw[←hK]
   have key:(∀w∈(l.counts m).2.vs,RiseN w.p)∧∀w∈(l.counts m).2.vs,∀y∈w.p,y.1≤K (primI l.n w.v):=by
    rcases l.counts_vs m with e|⟨i,w,hat,hw,hp,e⟩|⟨s,e⟩
    ·rw[e];exact⟨h.rise,fun w hw y hy=>Int.le_trans (h.low w hw y hy) (hge _)⟩
    ·rw[e];have hwm:=List.mem_of_getElem? hw;obtain⟨⟨w',hw',hv⟩,_⟩:=zaq.1 hat
     rw[hw]at hw';cases hw';have hpi:primI l.n w.v=orgI m:=by rw[hv];unfold primZ at hp;unfold orgI;omega
     refine⟨fun x hx=>?_,fun x hx y hy=>?_⟩
     ·rcases List.mem_or_eq_of_mem_set hx with hx|rfl
      ·exact h.rise x hx
      ·intro a b y z hab hy hz;show y.1<z.1;have hy:(w.p++[(m.number,m.body.req)])[a]?=some y:=hy;have hz:(w.p++[(m.number,m.body.req)])[b]?=some z:=hz
       have hbl:=(List.getElem?_eq_some_iff.1 hz).1;rw[lnA,List.length_singleton]at hbl
       rw[List.getElem?_append_left jA]at hy;by_cases hb:b<w.p.length
       ·rw[List.getElem?_append_left hb]at hz;exact h.rise w hwm a b y z hab hy hz
       ·rw[List.getElem?_append_right jA,show b-w.p.length=0 by omega]at hz;cases hz
        have:=h.low w hwm y (List.mem_of_getElem? hy);rw[hpi]at this
        show y.1<m.number;omega
     ·rcases List.mem_or_eq_of_mem_set hx with hx|rfl
      ·exact Int.le_trans (h.low x hx y hy) (hge _)
      ·show y.1≤K (primI l.n w.v);have hy:y∈w.p++[(m.number,m.body.req)]:=hy;rcases List.mem_append.1 hy with hy|hy
       ·exact Int.le_trans (h.low w hwm y hy) (hge _)
       ·rw[List.mem_singleton.1 hy,hpi,hKo];exact Int.le_refl _
    ·rw[e];refine⟨fun x hx=>?_,fun x hx y hy=>?_⟩
     ·rcases List.mem_cons.1 ((zbk _ _).mem_iff.2 hx)with rfl|hx
      ·exact RiseN.nil
      ·exact h.rise x hx
     ·rcases List.mem_cons.1 ((zbk _ _).mem_iff.2 hx)with rfl|hx
      ·cases hy
      ·exact Int.le_trans (h.low x hx y hy) (hge _)
   refine⟨key.1,fun w hw y hy=>?_⟩
   have:=key.2 w hw y hy;show y.1≤K (primI (l.counts m).2.n w.v)
   rw[hk.1];exact this
theorem may_kind{f:Frag}{x:MV}(hx:x.Good f)(hm:x.m.may=true):1≤x.m.body.kind.toNat∧x.m.body.kind.toNat≤6:=by
 unfold Msg.may at hm;rw[Bool.and_eq_true]at hm;have h:=mayB_eq hx.2.2;rw[hm.2]at h
 unfold Bod.mayB at h;rw[Bool.and_eq_true]at h;exact of_decide_eq_true h.1
variable {n:Nat}
theorem u8_ne{k:UInt8}(hn:n<256)(h:k≠UInt8.ofNat n):k.toNat≠n:=fun e=>h (by rw[←e];simp)
section
variable (f:Frag) (F:List HP)
theorem by3_fn:Fn prog 52 [.int .u8 3] f F (Ret (.func (.func 90) #[] #[]) f F):=by
 exact qbl
theorem by4_fn:Fn prog 52 [.int .u8 4] f F (Ret (.func (.func 91) #[] #[]) f F):=by
 exact qbl
theorem by5_fn:Fn prog 52 [.int .u8 5] f F (Ret (.func (.func 92) #[] #[]) f F):=by
 exact qbl
theorem by6_fn{k:Int}(h1:k≠1)(h2:k≠2)(h3:k≠3)(h4:k≠4)(h5:k≠5):Fn prog 52 [.int .u8 k] f F (Ret (.func (.func 95) #[] #[]) f F):=by
 refine Fn.e1 func52 ntmps52 fun base=>?_;refine gc ?_;exact qaj
theorem pltakeA_fn(htab:TabAt f)(hfl:Le fl f)(hL:LI l T)(hT:T≤40000)(hN:NI l)(hodd:l.n % 2=1){x:MV}(hx:x.Good f):Fn prog 25 [.pointer (some ⟨lb,0,none⟩),.agg x.vals.toArray] f (plogH fl lb l::F) (Ret (.tuple #[.bool (l.take x.m).1.1,.int .i64 (l.take x.m).1.2]) f (plogH f lb (l.take x.m).2::F)):=by
 by_cases k1:x.m.body.kind=1
 ·exact pltake1_fn f F htab hfl hL hT hx k1
 ·by_cases k2 : x.m.body.kind = 2
  ·exact pltake2_fn f F hfl hL hT hN.rise hx k2
  ·by_cases k3 : x.m.body.kind = 3
   ·exact pltake_fn f F hfl hL hT hx (fid:=90) (fun G=>by rw[k3];exact by3_fn f G) fun _ hm i G hi=>plchange_fn f G hfl (hL.more x.m) jA hm k3 hi rfl
   ·by_cases k4 : x.m.body.kind = 4
    ·exact pltake_fn f F hfl hL hT hx (fid:=91) (fun G=>by rw[k4];exact by4_fn f G) fun _ hm i G hi=>plnew_view_fn f G hfl (hL.more x.m) jA hodd hx hm k4 hi rfl
    ·by_cases k5 : x.m.body.kind = 5
     ·exact pltake_fn f F hfl hL hT hx (fid:=92) (fun G=>by rw[k5];exact by5_fn f G) fun _ hm i G hi=>plenter_fn f G hfl (hL.more x.m) jA hm k5 hi rfl
     ·have n1:=u8_ne (n:=1) jC k1;have n2:=u8_ne (n:=2) jC k2
      have n3:=u8_ne (n:=3) jC k3;have n4:=u8_ne (n:=4) jC k4
      have n5:=u8_ne (n:=5) jC k5;refine pltake_fn f F hfl hL hT hx (fid:=95) (fun G=>by6_fn f G jA jA jA jA jA) fun hmay hm i G hi=>?_
      have hk:=may_kind hx hmay
      have k6:x.m.body.kind=6:=by
       have e:x.m.body.kind.toNat=6:=jA
       exact UInt8.toNat_inj.1 e
      exact plcheck_fn f G hfl k6 hi
end
def Lgs.vw(l:Lgs)(v:Int):Option Vw:=(vwAt l.vs v).bind fun i=>l.vs[i]?
theorem vw_at{w:Vw}(h:l.vw v=some w):∃i,vwAt l.vs v=some i∧l.vs[i]?=some w:=by
 unfold Lgs.vw at h
 cases e:vwAt l.vs v with
 |none=>rw[e]at h;cases h
 |some i=>rw[e]at h;exact⟨i,rfl,h⟩
theorem vw_v{w:Vw}(h:l.vw v=some w):w.v=v∧w∈l.vs:=by
 obtain⟨i,h1,h2⟩:=vw_at h;obtain⟨⟨w',h3,h4⟩,_⟩:=zaq.1 h1;rw[h2]at h3;cases h3;exact⟨h4,List.mem_of_getElem? h2⟩
theorem vw_none:l.vw v=none↔vwAt l.vs v=none:=by
 unfold Lgs.vw
 cases e:vwAt l.vs v with
 |none=>simp
 | some i =>
  obtain⟨⟨w,h1,_⟩,_⟩:=zaq.1 e;simp[h1]
theorem vw_mem(h:(l.vs.map Vw.v).Pairwise (· < ·)){w:Vw}(hw:w∈l.vs):l.vw w.v=some w:=by
 obtain⟨i,h1,h2⟩:=vwAt_mem h hw;unfold Lgs.vw;rw[h1];exact h2
theorem vw_no(h:l.vw v=none):∀w∈l.vs,w.v≠v:=vwAt_none.1 (vw_none.1 h)
inductive Eff where
 |no
 |past (p:PM)
 |chg (p:PM) (c:Int×Int)
 |prep (p:PM) (v:Int) (y:Int×Req)
 |beg (p:PM) (w:Vw)
def putV(v:Int)(y:Int×Req)(w:Vw):Vw:=if w.v=v then {w with p:=w.p++[y]}else w
theorem putV_v(v:Int)(y:Int×Req)(w:Vw):(putV v y w).v=w.v:=by unfold putV;split<;>rfl
def Lgs.app(l:Lgs)(r:Nat):Eff→Lgs
 | .no=>l
 | .past p=>{l with past:=updF l.past r p}
 | .chg p c=>{l with past:=updF l.past r p,ch:=updF l.ch r (l.ch r++[c])}
 | .prep p v y=>{l with past:=updF l.past r p,vs:=l.vs.map (putV v y)}
 | .beg p w=>{l with past:=updF l.past r p,vs:=insV w l.vs}
def Lgs.best(l:Lgs)(m:Msg):Int×Int:=bestQ l.past m.body.view m.body.q (0,0)
def Lgs.pref(l:Lgs)(b:Int×Int):List Req:=((l.vw b.1).map fun w=>w.all.take b.2.toNat).getD []
def Lgs.qAll(l:Lgs)(m:Msg):Bool:=m.body.q.all fun q=>decide (q.2≤m.deps (q.1-1).toNat)&&chB l q m.body.view
def Lgs.eff(l:Lgs)(m:Msg):Option Eff:=
 if m.body.kind=3 then(if(l.past (orgI m)).changeOk m.body.view=true then some (.chg ((l.past (orgI m)).change m.body.view) (m.body.view,m.number))else none)
 else if m.body.kind=4 then
  (if primZ l.n m.body.view = m.origin ∧ m.body.q.length = (l.n - 1) / 2 + 1 ∧ l.qAll m = true ∧ (l.past (orgI m)).enterOk m.body.view (l.best m).2 = true then
   some (.beg ((l.past (orgI m)).enter m.body.view (l.best m).2) ⟨m.body.view,m.number,l.pref (l.best m),[]⟩)else none)
 else if m.body.kind=5 then(match l.vw m.body.view with
  |none=>none
  |some w=>if w.num≤m.deps (primI l.n m.body.view)∧(l.past (orgI m)).enterOk m.body.view (w.s.length:Nat)=true then some (.past ((l.past (orgI m)).enter m.body.view (w.s.length:Nat)))else none)
 else if m.body.kind=1 then(match l.vw m.body.view with
  |none=>none
  | some w => if primZ l.n m.body.view = m.origin ∧ m.body.req.auth = true ∧ holdsB w.all m.body.req.client m.body.req.time = false ∧ (l.past (orgI m)).isOpen m.body.view = true then
    some (.prep ((l.past (orgI m)).prepare m.body.view) m.body.view (m.number,m.body.req))else none)
 else if m.body.kind=2 then(match l.vw m.body.view with
  |none=>none
  | some w => if primZ l.n m.body.view ≠ m.origin ∧ (l.past (orgI m)).commitOk m.body.view m.body.k (knowsV w (m.deps (primI l.n m.body.view)) : Nat) = true then
    some (.past ((l.past (orgI m)).commit m.body.view m.body.k (knowsV w (m.deps (primI l.n m.body.view)):Nat)))else none)
 else if m.body.kind=6 then some .no else none
def Lgs.res(l:Lgs)(r:Nat):Option Eff→Bool×Lgs
 |none=>(false,l)
 |some e=>(true,l.app r e)
variable {vs:List Vw}
theorem set_putV(h:(vs.map Vw.v).Pairwise (· < ·)){i:Nat}{w:Vw}(hat:vwAt vs v=some i)(hw:vs[i]?=some w)(y:Int×Req):vs.set i {w with p:=w.p++[y]}=vs.map (putV v y):=by
 obtain⟨⟨w',h3,h4⟩,_⟩:=zaq.1 hat;rw[hw]at h3;cases h3;have hi:=(List.getElem?_eq_some_iff.1 hw).1;refine List.ext_getElem? fun j=>?_
 rw[List.getElem?_map];by_cases e:i=j
 ·subst e;rw[List.getElem?_set_self hi,hw];show _=some (putV v y w);unfold putV;rw[if_pos h4]
 ·rw[List.getElem?_set_ne e]
  cases hj:vs[j]? with
  |none=>rfl
  | some x =>
   show some x=some (putV v y x);unfold putV;rw[if_neg];intro hx
   have:=Vw.uniq h (List.mem_of_getElem? hj) (List.mem_of_getElem? hw) (hx.trans h4.symm);subst this
   have h1:=(List.getElem?_eq_some_iff.1 hj);have h2:=(List.getElem?_eq_some_iff.1 hw)
   rcases Nat.lt_or_gt_of_ne e with hl|hl
   ·have:=List.pairwise_iff_getElem.1 h i j kA kB hl;exact qdD
   ·have:=List.pairwise_iff_getElem.1 h j i kB kA hl;exact qdD
theorem doPast_self(l:Lgs)(r:Nat):({l with past:=updF l.past r (l.past r)}:Lgs)=l:=by rw[updF_self]
theorem zca(h:(l.vs.map Vw.v).Pairwise (· < ·))(m:Msg):l.counts m=l.res (orgI m) (l.eff m):=by
 unfold Lgs.eff;by_cases h3:m.body.kind=3
 ·rw[Lgs.counts_3 h3,if_pos h3];split<;>rfl
 ·rw [if_neg h3];by_cases h4 : m.body.kind = 4
  ·rw [Lgs.counts_4 h4, if_pos h4];by_cases hp : primZ l.n m.body.view = m.origin
   ·rw [if_pos (decide_eq_true hp)];unfold Lgs.begins;by_cases h1 : m.body.q.length = (l.n - 1) / 2 + 1
    ·rw [if_neg (fun e => e h1)];have hqd : l.qAll m = (m.body.q.all fun q => decide (q.2 ≤ m.deps (q.1 - 1).toNat) && chB l q m.body.view) := rfl;have hbd : l.best m = bestQ l.past m.body.view m.body.q (0, 0) := rfl
     rw[←hqd,←hbd]
     cases hq:l.qAll m with
     |false=>rw[if_pos rfl,if_neg (fun e=>by have:=e.2.2.1;cases this)];rfl
     | true =>
      rw[if_neg jC]
      cases he:(l.past (orgI m)).enterOk m.body.view (l.best m).2 with
      |false=>rw[if_pos rfl,if_neg (fun e=>by have:=e.2.2.2;cases this)];rfl
      | true =>
       rw[if_neg jC,if_pos ⟨hp,h1,rfl,rfl⟩];show(true,_)=(true,({l with past:=_,vs:=insV ⟨m.body.view,m.number,l.pref (l.best m),[]⟩ l.vs}:Lgs))
       have e:((match vwAt l.vs (l.best m).1 with|none=>[]|some i=>(l.vs[i]?.map Vw.all).getD []).take (l.best m).2.toNat)=l.pref (l.best m):=by
        unfold Lgs.pref Lgs.vw
        cases hat:vwAt l.vs (l.best m).1 with
        |none=>exact List.take_nil
        | some i =>
         show List.take _ ((l.vs[i]?.map Vw.all).getD [])=((l.vs[i]?).map _).getD []
         cases l.vs[i]? with
         |none=>exact List.take_nil
         |some w=>rfl
       rw[←e];rfl
    ·rw[if_pos h1,if_neg (fun e=>h1 e.2.1)];rfl
   ·rw[if_neg (fun e=>hp (of_decide_eq_true e)),if_neg (fun e=>hp e.1)];rfl
  ·rw [if_neg h4];by_cases h5 : m.body.kind = 5
   ·rw[if_pos h5]
    cases hv:l.vw m.body.view with
    |none=>rw[Lgs.counts_5n h5 (vw_none.1 hv)];rfl
    | some w =>
     obtain⟨i,h1,h2⟩:=vw_at hv;rw[Lgs.counts_5 h5 h1 h2];show _=l.res _ (if _ then _ else none);by_cases hd:m.deps (primI l.n m.body.view)<w.num
     ·rw[if_pos hd,if_neg (fun e=>by have:=e.1;omega)];rfl
     ·rw[if_neg hd]
      cases he:(l.past (orgI m)).enterOk m.body.view (w.s.length:Nat)with
      | false =>
       rw[if_neg (fun e=>by have:=e.2;cases this)];show(false,l.doPast _ _)=(false,l);unfold PM.enter Lgs.doPast;exact qea
      |true=>rw[if_pos ⟨by omega,rfl⟩];rfl
   ·rw [if_neg h5];by_cases k1 : m.body.kind = 1
    ·rw [if_pos k1]
     cases hv:l.vw m.body.view with
     |none=>rw[Lgs.counts_1n k1 (vw_none.1 hv)];rfl
     | some w =>
      obtain⟨i,h1,h2⟩:=vw_at hv;rw[Lgs.counts_1 k1 h1 h2];show _=l.res _ (if _ then _ else none);by_cases hg:primZ l.n m.body.view=m.origin∧m.body.req.auth=true∧holdsB w.all m.body.req.client m.body.req.time=false∧(l.past (orgI m)).isOpen m.body.view=true
      ·rw[if_pos hg,if_neg]
       ·show(true,_)=(true,({l with past:=_,vs:=l.vs.map _}:Lgs));rw[set_putV h h1 h2]
       ·rintro(e|e|e|e)
        ·exact absurd hg.1 (of_decide_eq_false e)
        ·rw[hg.2.1]at e;cases e
        ·rw[hg.2.2.1]at e;cases e
        ·rw[hg.2.2.2]at e;cases e
      ·rw [if_neg hg, if_pos]
       ·rfl
       ·by_cases e1 : primZ l.n m.body.view = m.origin
        ·cases e2:m.body.req.auth with
         |false=>exact .inr (.inl rfl)
         | true =>
          cases e3:holdsB w.all m.body.req.client m.body.req.time with
          |true=>exact .inr (.inr (.inl rfl))
          | false =>
           cases e4:(l.past (orgI m)).isOpen m.body.view with
           |false=>exact .inr (.inr (.inr rfl))
           |true=>exact absurd ⟨e1,e2,e3,e4⟩ hg
        ·exact .inl (decide_eq_false e1)
    ·rw [if_neg k1];by_cases k2 : m.body.kind = 2
     ·rw[if_pos k2]
      cases hv:l.vw m.body.view with
      |none=>rw[Lgs.counts_2n k2 (vw_none.1 hv)];rfl
      | some w =>
       obtain⟨i,h1,h2⟩:=vw_at hv;rw[Lgs.counts_2 k2 h1 h2];show _=l.res _ (if _ then _ else none);by_cases hp:primZ l.n m.body.view=m.origin
       ·rw[if_pos (decide_eq_true hp),if_neg (fun e=>e.1 hp)];rfl
       ·rw[if_neg (fun e=>hp (of_decide_eq_true e))]
        cases he:(l.past (orgI m)).commitOk m.body.view m.body.k (knowsV w (m.deps (primI l.n m.body.view)):Nat)with
        | false =>
         rw[if_neg (fun e=>by have:=e.2;cases this)];show(false,l.doPast _ _)=(false,l);unfold PM.commit Lgs.doPast;exact qea
        |true=>rw[if_pos ⟨hp,rfl⟩];rfl
     ·rw[if_neg k2,Lgs.counts_x h3 h4 h5 k1 k2];by_cases k6:m.body.kind=6
      ·rw[if_pos k6,k6];rfl
      ·rw[if_neg k6,decide_eq_false k6];rfl
theorem primI_lt(hn:0<n)(v:Int):primI n v<n:=by
 have h1:v % (n:Int)<n:=Int.emod_lt_of_pos _ jA;have h2:0≤v % (n:Int):=Int.emod_nonneg _ jA
 unfold primI;omega
theorem prim_org(h:primZ n v=m.origin):primI n v=orgI m:=by unfold primZ at h;unfold orgI;omega
def CI(l:Lgs):Prop:=∀r c,c∈l.ch r→c.1≤(l.past r).g
theorem CI.new(n:Nat):CI (Lgs.new n):=fun r c h=>by cases h
theorem CI.app(h:CI l){p:PM}(hg:(l.past r).g≤p.g){ch:Nat→List (Int×Int)}(hc:(∀s,s≠r→ch s=l.ch s)∧∀c∈ch r,c∈l.ch r∨c.1≤p.g):CI {l with past:=updF l.past r p,ch:=ch,vs:=vs}:=fun s c hs=>by
 have hs:c∈ch s:=hs
 show c.1≤(updF l.past r p s).g
 by_cases e:s=r
 ·subst e
  rw[zae]
  rcases hc.2 c hs with h1|h1
  ·have:=h s c h1;omega
  ·exact h1
 ·rw[zag _ _ e]
  rw[hc.1 s e]at hs
  exact h s c hs
theorem PM.change_g(s:PM)(v:Int):s.g≤(s.change v).g:=by
 unfold PM.change;split
 ·rename_i h
  have:=of_decide_eq_true h;show s.g≤v
  omega
 ·exact Int.le_refl _
theorem PM.enter_gg(s:PM)(v k:Int):s.g≤(s.enter v k).g:=by
 unfold PM.enter;split
 ·rename_i h
  have:=(PM.enterOk_lt h).2;exact this
 ·exact Int.le_refl _
theorem PM.prepare_g(s:PM)(v:Int):(s.prepare v).g=s.g:=by unfold PM.prepare;split<;>rfl
theorem PM.commit_g(s:PM)(v k most:Int):(s.commit v k most).g=s.g:=by unfold PM.commit;split<;>rfl
variable {e:Eff}
theorem eff_cases(h:l.eff m=some e):(e= .no)∨
  (∃c,e= .chg ((l.past (orgI m)).change m.body.view) c∧c=(m.body.view,m.number)∧(l.past (orgI m)).changeOk m.body.view=true)∨
  (primZ l.n m.body.view=m.origin∧l.qAll m=true∧(l.past (orgI m)).enterOk m.body.view (l.best m).2=true∧e= .beg ((l.past (orgI m)).enter m.body.view (l.best m).2) ⟨m.body.view,m.number,l.pref (l.best m),[]⟩)∨
  (∃k,(l.past (orgI m)).enterOk m.body.view k=true∧e= .past ((l.past (orgI m)).enter m.body.view k))∨
  (primZ l.n m.body.view=m.origin∧(l.past (orgI m)).isOpen m.body.view=true∧(∃w,l.vw m.body.view=some w)∧e= .prep ((l.past (orgI m)).prepare m.body.view) m.body.view (m.number,m.body.req))∨
  (∃k most,(l.past (orgI m)).commitOk m.body.view k most=true∧e= .past ((l.past (orgI m)).commit m.body.view k most)):=by
 unfold Lgs.eff at h;split at h
 ·split at h
  ·rename_i hc
   cases h
   exact .inr (.inl ⟨_,rfl,rfl,hc⟩)
  ·cases h
 ·split at h
  ·split at h
   ·rename_i hc
    cases h
    exact .inr (.inr (.inl ⟨hc.1,hc.2.2.1,hc.2.2.2,rfl⟩))
   ·cases h
  ·split at h
   ·split at h
    ·cases h
    ·split at h
     ·rename_i hc
      cases h
      exact .inr (.inr (.inr (.inl ⟨_,hc.2,rfl⟩)))
     ·cases h
   ·split at h
    ·split at h
     ·cases h
     ·rename_i w hw
      split at h
      ·rename_i hc
       cases h
       exact .inr (.inr (.inr (.inr (.inl ⟨hc.1,hc.2.2.2,⟨w,hw⟩,rfl⟩))))
      ·cases h
    ·split at h
     ·split at h
      ·cases h
      ·split at h
       ·rename_i hc
        cases h
        exact .inr (.inr (.inr (.inr (.inr ⟨_,_,hc.2,rfl⟩))))
       ·cases h
     ·exact qdI
theorem CI.counts(h:CI l)(hr:(l.vs.map Vw.v).Pairwise (· < ·))(m:Msg):CI (l.counts m).2:=by
 rw[zca hr]
 cases he:l.eff m with
 |none=>exact h
 | some e =>
  show CI (l.app (orgI m) e);have hsame:(∀s,s≠orgI m→l.ch s=l.ch s)∧∀c∈l.ch (orgI m),c∈l.ch (orgI m)∨c.1≤(0:Int):=⟨fun _ _=>rfl,fun c hc=>.inl hc⟩;have hsm:∀p:PM,(∀s,s≠orgI m→l.ch s=l.ch s)∧∀c∈l.ch (orgI m),c∈l.ch (orgI m)∨c.1≤p.g:=fun p=>⟨fun _ _=>rfl,fun c hc=>.inl hc⟩
  rcases eff_cases he with rfl|⟨c,rfl,hc,hok⟩|⟨_,_,_,rfl⟩|⟨k,_,rfl⟩|⟨_,_,_,rfl⟩|⟨k,most,_,rfl⟩
  ·exact h
  ·refine h.app (ch:=updF l.ch (orgI m) (l.ch (orgI m)++[c])) (PM.change_g _ _) ⟨fun s hs=>zag _ _ hs,fun d hd=>?_⟩;rw[zae]at hd;rcases List.mem_append.1 hd with h1|h1
   ·exact .inl h1
   ·rw[List.mem_singleton.1 h1,hc];refine .inr ?_;unfold PM.change;rw[if_pos hok];exact Int.le_refl _
  ·exact h.app (PM.enter_gg _ _ _) (hsm _)
  ·exact h.app (PM.enter_gg _ _ _) (hsm _)
  ·exact h.app (Int.le_of_eq (PM.prepare_g _ _).symm) (hsm _)
  ·exact h.app (Int.le_of_eq (PM.commit_g _ _ _ _).symm) (hsm _)
structure Rdy(l:Lgs)(m:Msg):Prop where
 may:m.may=true
 org:m.origin≤(l.n:Int)
 q:qIn l.n m=true
 v:0≤m.body.view
 num:m.number=l.known (orgI m)+1
 dep:∀i,i<11→m.deps i≤l.known i
theorem Rdy.min(h:Rdy l m):MIn l.n m:=may_MIn h.may h.org h.q h.v
theorem Rdy.take{l:Lgs}{m:Msg}(h:Rdy l m):l.take m=(((l.counts m).1,0),{(l.counts m).2 with known:=updF l.known (orgI m) (l.known (orgI m)+1)}):=by
 have hk:=(l.counts_nk m).2;unfold Lgs.take
 rw[if_neg,if_neg,hk]
 ·rintro(e|e)
  ·exact e h.num
  ·have:depsIn m l.known=true:=by
    unfold depsIn;rw[List.all_eq_true];intro i hi;exact decide_eq_true (h.dep i (List.mem_range.1 hi))
   rw[this]at e;cases e
 ·rintro(e|e|e)
  ·rw[h.may]at e;cases e
  ·have:=h.org;omega
  ·rw[h.q]at e;cases e
structure Near(l l2:Lgs)(o:Nat)(num:Int):Prop where
 n:l2.n=l.n
 past:∀r,r≠o→l2.past r=l.past r
 ch:∀r,r≠o→l2.ch r=l.ch r
 cho:l2.ch o=l.ch o∨∃v,l2.ch o=l.ch o++[(v,num)]
 votes:∀bv,bv≤(l.past o).g→∀a,bestOf bv (l2.past o).all a=bestOf bv (l.past o).all a
 old:∀v w,l.vw v=some w→l2.vw v=some w∨(primI l.n v=o∧∃y,y.1=num∧l2.vw v=some {w with p:=w.p++[y]})
 new:∀v,l.vw v=none→l2.vw v=none∨(primI l.n v=o∧∃w,l2.vw v=some w∧w.num=num)
theorem Near.refl(l:Lgs)(o:Nat)(num:Int):Near l l o num:=
 ⟨rfl,fun _ _=>rfl,fun _ _=>rfl,.inl rfl,fun _ _ _=>rfl,fun _ _ h=>.inl h,fun _ h=>.inl h⟩
theorem bestOf_app(bv:Int):∀(l r:List (Int×Int)) (a:Int×Int),bestOf bv (l++r) a=bestOf bv r (bestOf bv l a)
 | [],r,a=>rfl
 | x :: l, r, a => by
  show bestOf bv (x::(l++r)) a=bestOf bv r (bestOf bv (x::l) a)
  rw[zbv,zbv]
  exact bestOf_app bv l r _
theorem bestOf_above{x:Int×Int}(h:bv≤x.1)(a:Int×Int):bestOf bv [x] a=a:=by
 rw[zbv,if_neg (fun e=>by have:=e.1;omega)];rfl
theorem near_past{o:Nat}{num:Int}{p:PM}(hv:∀bv,bv≤(l.past o).g→∀a,bestOf bv p.all a=bestOf bv (l.past o).all a):Near l {l with past:=updF l.past o p} o num:=
 ⟨rfl,fun r hr=>zag _ _ hr,fun _ _=>rfl,.inl rfl,fun bv hb a=>by show bestOf bv (updF l.past o p o).all a=_;rw[zae];exact hv bv hb a,fun _ _ h=>.inl h,fun _ h=>.inl h⟩
variable {l2:Lgs}
theorem vw_congr(h:l2.vs=l.vs)(v:Int):l2.vw v=l.vw v:=by unfold Lgs.vw;rw[h]
theorem rise_put(h:(vs.map Vw.v).Pairwise (· < ·))(v:Int)(y:Int×Req):((vs.map (putV v y)).map Vw.v).Pairwise (· < ·):=by
 have e:(vs.map (putV v y)).map Vw.v=vs.map Vw.v:=by
  rw[List.map_map];exact List.map_congr_left fun w _=>putV_v v y w
 rw[e];exact h
theorem vw_put(h:(l.vs.map Vw.v).Pairwise (· < ·)){y:Int×Req}(h2:l2.vs=l.vs.map (putV v y))(u:Int):l2.vw u=(l.vw u).map (putV v y):=by
 have hr2:(l2.vs.map Vw.v).Pairwise (· < ·):=by rw[h2];exact rise_put h v y
 cases hv:l.vw u with
 | none =>
  show _=none;refine vw_none.2 (vwAt_none.2 fun w hw e=>?_);rw[h2]at hw;obtain⟨z,hz,rfl⟩:=List.mem_map.1 hw;rw[putV_v]at e;exact vw_no hv z hz e
 | some w =>
  obtain⟨h1,hm⟩:=vw_v hv;have hm2:putV v y w∈l2.vs:=by rw[h2];exact List.mem_map.2 ⟨w,hm,rfl⟩
  have:=vw_mem hr2 hm2;rw[putV_v,h1]at this
  exact this
theorem vw_ins{w:Vw}(h2:l2.vs=insV w l.vs)(hr2:(l2.vs.map Vw.v).Pairwise (· < ·))(u:Int):l2.vw u=if u=w.v then some w else l.vw u:=by
 have hperm:=zbk w l.vs
 have hr:(l.vs.map Vw.v).Pairwise (· < ·):=by
  have:l.vs.Sublist l2.vs:=by
   rw[h2];unfold insV;conv=>lhs;rw[←List.take_append_drop (insK w.v l.vs) l.vs]
   exact List.Sublist.append_left (List.sublist_cons_self _ _) _
  exact List.Pairwise.sublist (this.map Vw.v) hr2
 split
 ·rename_i e
  have:w∈l2.vs:=by rw[h2];exact hperm.mem_iff.1 List.mem_cons_self
  rw[e];exact vw_mem hr2 this
 ·rename_i e
  cases hv:l.vw u with
  | none =>
   refine vw_none.2 (vwAt_none.2 fun x hx e2=>?_);rw[h2]at hx;rcases List.mem_cons.1 (hperm.mem_iff.2 hx)with rfl|hx
   ·exact e e2.symm
   ·exact vw_no hv x hx e2
  | some x =>
   obtain⟨h1,hm⟩:=vw_v hv;have:x∈l2.vs:=by rw[h2];exact hperm.mem_iff.1 (List.mem_cons_of_mem _ hm)
   have:=vw_mem hr2 this;rw[h1]at this
   exact this
theorem near(h:LI l T)(hm:MIn l.n m):Near l (l.counts m).2 (orgI m) m.number:=by
 have hor:=hm.o;have hr:orgI m<l.n:=by unfold orgI;omega
 have hwf:=h.wf _ hr;have hL2:=(h.counts hm).rise
 rw[zca h.rise]at hL2⊢
 cases he:l.eff m with
 |none=>exact Near.refl l _ _
 | some e =>
  rw[he]at hL2;have hL2:((l.app (orgI m) e).vs.map Vw.v).Pairwise (· < ·):=hL2;show Near l (l.app (orgI m) e) _ _
  have hent:∀k,(l.past (orgI m)).enterOk m.body.view k=true→∀bv,bv≤(l.past (orgI m)).g→∀a,bestOf bv ((l.past (orgI m)).enter m.body.view k).all a=bestOf bv (l.past (orgI m)).all a:=fun k hk bv hb a=>by
   have h2:=(PM.enterOk_lt hk).2;rw[(PM.enter_all hk).1,bestOf_app,bestOf_above]
   show bv≤m.body.view;omega
  have hbump:(l.past (orgI m)).isOpen m.body.view=true→∀bv,bv≤(l.past (orgI m)).g→∀a,bestOf bv ({l.past (orgI m)with ln:=(l.past (orgI m)).ln+1}:PM).all a=bestOf bv (l.past (orgI m)).all a:=fun hk bv hb a=>by
   have h2:=PM.open_g hk;rw[PM.bump_all]
   show _=bestOf bv ((l.past (orgI m)).init++[((l.past (orgI m)).lv,(l.past (orgI m)).ln)]) a;rw[bestOf_app,bestOf_app,bestOf_above (by show bv≤(l.past (orgI m)).lv;omega),bestOf_above (by show bv≤(l.past (orgI m)).lv;omega)]
  rcases eff_cases he with rfl|⟨c,rfl,hc,hok⟩|⟨hp,_,hok,rfl⟩|⟨k,hok,rfl⟩|⟨hp,hok,⟨w0,hw0⟩,rfl⟩|⟨k,most,hok,rfl⟩
  ·exact Near.refl l _ _
  ·refine⟨rfl,fun r hr=>zag _ _ hr,fun r hr=>zag _ _ hr,.inr ⟨m.body.view,by rw[←hc];exact zae _ _ _⟩,fun bv hb a=>?_,fun _ _ h=>.inl h,fun _ h=>.inl h⟩;refine qkX ?_;rw[zae,(PM.change_all _ _).1]
  ·have hnew:l.vw m.body.view=none:=by
    have hpi:=prim_org hp;refine vw_none.2 (h.fresh (k:=(l.best m).2) (by rw[hpi];exact hr) (by rw[hpi];exact hok))
   have hvi:=fun u=>vw_ins (l:=l) (l2:=l.app (orgI m) (.beg ((l.past (orgI m)).enter m.body.view (l.best m).2) ⟨m.body.view,m.number,l.pref (l.best m),[]⟩)) rfl hL2 u;refine⟨rfl,fun r hr=>zag _ _ hr,fun _ _=>rfl,.inl rfl,fun bv hb a=>?_,fun v w hw=>.inl ?_,fun v hv=>?_⟩
   ·refine qkX ?_;rw[zae];exact hent _ hok bv hb a
   ·rw[hvi,if_neg]
    ·exact hw
    ·show¬v=m.body.view;rintro rfl;rw[hnew]at hw;cases hw
   ·rw[hvi];by_cases e:v=m.body.view
    ·refine .inr ⟨by rw[e];exact prim_org hp,_,if_pos e,rfl⟩
    ·refine .inl ?_;rw[if_neg e];exact hv
  ·exact near_past (hent k hok)
  ·have hpr:(l.past (orgI m)).prepare m.body.view= {l.past (orgI m)with ln:=(l.past (orgI m)).ln+1}:=by unfold PM.prepare;rw[if_pos hok]
   have hvp:=fun u=>vw_put (l:=l) (l2:=l.app (orgI m) (.prep ((l.past (orgI m)).prepare m.body.view) m.body.view (m.number,m.body.req))) h.rise rfl u;refine⟨rfl,fun r hr=>zag _ _ hr,fun _ _=>rfl,.inl rfl,fun bv hb a=>?_,fun v w hw=>?_,fun v hv=>.inl ?_⟩
   ·refine qkX ?_;rw[zae,hpr];exact hbump hok bv hb a
   ·rw[hvp,hw];show some (putV _ _ w)=_∨(_∧∃y,_∧some (putV _ _ w)=_);unfold putV;by_cases e:w.v=m.body.view
    ·rw[if_pos e];refine .inr ⟨?_,_,rfl,rfl⟩;rw[←(vw_v hw).1,e];exact prim_org hp
    ·rw[if_neg e];exact .inl rfl
   ·rw[hvp,hv];rfl
  ·have hc:=of_decide_eq_true (show decide _=true from hok);have hop:(l.past (orgI m)).isOpen m.body.view=true:=decide_eq_true hc.1
   have hpr:(l.past (orgI m)).commit m.body.view k most= {l.past (orgI m)with ln:=(l.past (orgI m)).ln+1}:=by unfold PM.commit;rw[if_pos hok]
   rw[hpr];exact near_past (hbump hop)
theorem knows_put(w:Vw)(y:Int×Req){d:Int}(h:d<y.1):knowsV {w with p:=w.p++[y]} d=knowsV w d:=by
 unfold knowsV;show w.s.length+((w.p++[y]).filter _).length=_;rw[List.filter_append,List.filter_cons,if_neg (by rw[decide_eq_true_eq];omega)];simp
theorem pref_put(w:Vw)(y:Int×Req){k:Nat}(h:k≤w.all.length):(({w with p:=w.p++[y]}:Vw).all).take k=w.all.take k:=by
 rw[Vw.put_all,List.take_append_of_le_length h]
theorem stable(h:LI l T)(hC:CI l){o:Nat}{num:Int}(hN:Near l l2 o num)(hm:MIn l.n m)(ho:orgI m≠o)(ho11:o<11)(hd:m.deps o<num):l2.eff m=l.eff m:=by
 have hor:=hm.o;have hr:orgI m<l.n:=by unfold orgI;omega
 have hp:=hN.past _ ho;have hpo:∀v,primZ l.n v=m.origin→primI l.n v≠o:=fun v hv=>by rw[prim_org hv];exact ho
 have hchB:∀q:Int×Int,(decide (q.2≤m.deps (q.1-1).toNat)&&chB l2 q m.body.view)=(decide (q.2≤m.deps (q.1-1).toNat)&&chB l q m.body.view):=fun q=>by
  by_cases e:(q.1-1).toNat=o
  ·rcases hN.cho with h1|⟨v,h1⟩
   ·unfold chB;rw[e,h1]
   ·by_cases e2 : q.2 ≤ m.deps (q.1 - 1).toNat
    ·have:chB l2 q m.body.view=chB l q m.body.view:=by
      unfold chB;rw[e,h1,List.any_append];have:¬num=q.2:=by rw[e]at e2;omega
      simp[this]
     rw[this]
    ·rw[decide_eq_false e2];rfl
  ·unfold chB;rw[hN.ch _ e]
 have hq:l2.qAll m=l.qAll m:=by
  unfold Lgs.qAll;exact congrArg (fun g=>m.body.q.all g) (funext hchB)
 unfold Lgs.eff;rw[hp,hN.n,hq];split
 ·rfl
 ·split
  ·cases hqa:l.qAll m with
   |false=>rw[if_neg (fun e=>by have:=e.2.2.1;cases this),if_neg (fun e=>by have:=e.2.2.1;cases this)]
   | true =>
    have hb:l2.best m=l.best m:=by
     unfold Lgs.best
     have:∀(q:List (Int×Int)),(∀x∈q,chB l x m.body.view=true)→∀a,bestQ l2.past m.body.view q a=bestQ l.past m.body.view q a:=by
      intro q
      induction q with
      |nil=>intro _ a;rfl
      | cons x r ih =>
       intro hx a;rw[bestQ_cons,bestQ_cons]
       have e:bestOf m.body.view (l2.past (x.1-1).toNat).all a=bestOf m.body.view (l.past (x.1-1).toNat).all a:=by
        by_cases e:(x.1-1).toNat=o
        ·have h1:=hx x jK;unfold chB at h1
         rw[List.any_eq_true]at h1;obtain⟨c,hc,h2⟩:=h1;rw[Bool.and_eq_true]at h2;have h3:=of_decide_eq_true h2.1;have h4:=hC _ c hc
         rw[e]at h4⊢;exact hN.votes _ jA a
        ·rw[hN.past _ e]
       rw[e];exact ih (fun y hy=>hx y (List.mem_cons_of_mem _ hy)) _
     refine this _ (fun x hx=>?_) _
     have:=List.all_eq_true.1 hqa x hx;rw[Bool.and_eq_true]at this
     exact this.2
    have hpf:l2.pref (l.best m)=l.pref (l.best m):=by
     obtain⟨i,w,h1,h2,h3,h4⟩:=h.best hm;have hw:l.vw (l.best m).1=some w:=by unfold Lgs.vw;unfold Lgs.best;rw[h1];exact h2
     unfold Lgs.pref;rcases hN.old _ _ hw with h5|⟨_,y,_,h5⟩
     ·rw[h5,hw]
     ·rw[h5,hw];show(({w with p:=w.p++[y]}:Vw).all).take _=w.all.take _;refine pref_put w y ?_;unfold Lgs.best;omega
    rw[hb,hpf]
  ·split
   ·cases hv:l.vw m.body.view with
    | none =>
     rcases hN.new _ hv with h1|⟨h1,w,h2,h3⟩
     ·rw[h1]
     ·rw[h2];show(if _ then _ else none)=none;rw[if_neg];rintro⟨e,_⟩;rw[h1,h3]at e;omega
    | some w =>
     rcases hN.old _ _ hv with h1|⟨_,y,_,h1⟩
     ·rw[h1]
     ·rw[h1]
   ·split
    ·by_cases hpz : primZ l.n m.body.view = m.origin
     ·have hne:=hpo _ hpz
      cases hv:l.vw m.body.view with
      | none =>
       rcases hN.new _ hv with h1|⟨h1,_⟩
       ·rw[h1]
       ·exact absurd h1 hne
      | some w =>
       rcases hN.old _ _ hv with h1|⟨h1,_⟩
       ·rw[h1]
       ·exact absurd h1 hne
     ·cases l.vw m.body.view with
      | none =>
       cases l2.vw m.body.view with
       |none=>rfl
       |some w=>show(if _ then _ else none)=none;rw[if_neg (fun e=>hpz e.1)]
      | some w0 =>
       show _=(if _ then _ else none);rw[if_neg (fun e=>hpz e.1)]
       cases l2.vw m.body.view with
       |none=>rfl
       |some w=>show(if _ then _ else none)=none;rw[if_neg (fun e=>hpz e.1)]
    ·split
     ·cases hv:l.vw m.body.view with
      | none =>
       rcases hN.new _ hv with h1|⟨h1,w,h2,h3⟩
       ·rw[h1]
       ·rw[h2];show(if _ then _ else none)=none;rw[if_neg];rintro⟨_,e⟩;have e:=of_decide_eq_true (show decide _=true from e);obtain⟨x,hx,h4,_⟩:=h.log _ hr ((l.past (orgI m)).lv,(l.past (orgI m)).ln) (by unfold PM.all;simp)
        exact vw_no hv x hx (h4.trans e.1.2.symm)
      | some w =>
       rcases hN.old _ _ hv with h1|⟨hpi,y,hy,h1⟩
       ·rw[h1]
       ·rw[h1];show(if _∧PM.commitOk _ _ _ ((knowsV {w with p:=w.p++[y]} _:Nat):Int)=true then some (Eff.past (PM.commit _ _ _ ((knowsV {w with p:=w.p++[y]} _:Nat):Int)))else none)=_;rw[knows_put w y (d:=m.deps (primI l.n m.body.view)) (by rw[hpi,hy];exact hd)]
     ·rfl
theorem sorted_ext:∀ {a b:List Vw},(a.map Vw.v).Pairwise (· < ·)→(b.map Vw.v).Pairwise (· < ·)→(∀x,x∈a↔x∈b)→a=b
 | [],[],_,_,_=>rfl
 | [],y::b,_,_,h=>by have:=(h y).2 jK;cases this
 |x::a,[],_,_,h=>by have:=(h x).1 jK;cases this
 | x :: a, y :: b, ha, hb, h => by
  rw[List.map_cons,List.pairwise_cons]at ha hb
  have hlx:∀z∈a,x.v<z.v:=fun z hz=>ha.1 z.v (List.mem_map.2 ⟨z,hz,rfl⟩)
  have hly:∀z∈b,y.v<z.v:=fun z hz=>hb.1 z.v (List.mem_map.2 ⟨z,hz,rfl⟩)
  have hxy:x=y:=by
   rcases List.mem_cons.1 ((h x).1 jK)with e|e
   ·exact e
   ·rcases List.mem_cons.1 ((h y).2 jK)with e2|e2
    ·exact e2.symm
    ·have:=hlx y e2;have:=hly x e;omega
  subst hxy
  congr 1
  refine sorted_ext ha.2 hb.2 fun z=>⟨fun hz=>?_,fun hz=>?_⟩
  ·rcases List.mem_cons.1 ((h z).1 (List.mem_cons_of_mem _ hz))with e|e
   ·subst e;have:=hlx z hz;omega
   ·exact e
  ·rcases List.mem_cons.1 ((h z).2 (List.mem_cons_of_mem _ hz))with e|e
   ·subst e;have:=hly z hz;omega
   ·exact e
def Eff.ps(e:Eff)(past:Nat→PM)(r:Nat):Nat→PM:=match e with
 | .no=>past
 | .past p=>updF past r p
 | .chg p _=>updF past r p
 | .prep p _ _=>updF past r p
 | .beg p _=>updF past r p
def Eff.cs(e:Eff)(ch:Nat→List (Int×Int))(r:Nat):Nat→List (Int×Int):=match e with
 | .chg _ c=>updF ch r (ch r++[c])
 |_=>ch
def Eff.ws(e:Eff)(vs:List Vw):List Vw:=match e with
 | .prep _ v y=>vs.map (putV v y)
 | .beg _ w=>insV w vs
 |_=>vs
def Eff.view:Eff→Option Int
 | .prep _ v _=>some v
 | .beg _ w=>some w.v
 |_=>none
theorem app_parts(l:Lgs)(r:Nat)(e:Eff):l.app r e=⟨l.n,l.known,e.ws l.vs,e.ps l.past r,e.cs l.ch r⟩:=by cases e<;>rfl
variable {j:Nat}
theorem updF_comm{α:Type}(g:Nat→α){i:Nat}(x y:α)(h:i≠j):updF (updF g i x) j y=updF (updF g j y) i x:=by
 funext k;unfold updF;by_cases h1:k=j
 ·by_cases h2:k=i
  ·exact absurd (h2.symm.trans h1) h
  ·rw[if_pos h1,if_neg h2,if_pos h1]
 ·by_cases h2:k=i
  ·rw[if_neg h1,if_pos h2,if_pos h2]
  ·rw[if_neg h1,if_neg h2,if_neg h2,if_neg h1]
variable {s:Nat}
theorem ps_comm(a b:Eff)(past:Nat→PM)(h:r≠s):b.ps (a.ps past r) s=a.ps (b.ps past s) r:=by
 cases a<;>cases b<;>first|rfl|exact updF_comm _ _ _ h
theorem cs_comm(a b:Eff)(ch:Nat→List (Int×Int))(h:r≠s):b.cs (a.cs ch r) s=a.cs (b.cs ch s) r:=by
  cases a<;>cases b<;>first
    |rfl
    | (show updF (updF ch r _) s (updF ch r _ s ++ _) = updF (updF ch s _) r (updF ch s _ r ++ _)
       rw[zag _ _ (fun e=>h e.symm),zag _ _ h]
       exact updF_comm _ _ _ h)
theorem put_ins{y:Int×Req}{w:Vw}(h:v≠w.v)(x:Vw):x∈(insV w vs).map (putV v y)↔x∈insV w (vs.map (putV v y)):=by
 have h1:=zbk w vs;have h2:=zbk w (vs.map (putV v y))
 have hw:putV v y w=w:=by unfold putV;rw[if_neg (fun e=>h e.symm)]
 rw[(h1.map (putV v y)).mem_iff.symm,h2.mem_iff.symm,List.map_cons,hw]
theorem ws_comm{a b:Eff}(hv:∀v u,a.view=some v→b.view=some u→v≠u)(h1:((b.ws (a.ws vs)).map Vw.v).Pairwise (· < ·))(h2:((a.ws (b.ws vs)).map Vw.v).Pairwise (· < ·)):b.ws (a.ws vs)=a.ws (b.ws vs):=by
 refine sorted_ext h1 h2 fun x=>?_;cases a<;>cases b<;>try exact Iff.rfl
 ·rename_i p v y q u z
  have hne:=hv v u rfl rfl;show x∈(vs.map (putV v y)).map (putV u z)↔x∈(vs.map (putV u z)).map (putV v y)
  have e:(vs.map (putV v y)).map (putV u z)=(vs.map (putV u z)).map (putV v y):=by
   rw[List.map_map,List.map_map];refine List.map_congr_left fun w _=>?_;show putV u z (putV v y w)=putV v y (putV u z w);by_cases e1:w.v=v
   ·have e2:¬w.v=u:=fun e=>hne (e1.symm.trans e);have h3:putV u z w=w:=by unfold putV;rw[if_neg e2]
    rw[h3];have h4:(putV v y w).v=w.v:=putV_v _ _ _;show(if(putV v y w).v=u then _ else _)=_
    rw[if_neg (by rw[h4];exact e2)]
   ·have h3:putV v y w=w:=by unfold putV;rw[if_neg e1]
    rw[h3];have h4:(putV u z w).v=w.v:=putV_v _ _ _;show _=(if(putV u z w).v=v then _ else _)
    rw[if_neg (by rw[h4];exact e1)]
  rw[e]
 ·rename_i p v y q w
  have hne:=hv v w.v rfl rfl;exact(put_ins hne x).symm
 ·rename_i q w p v y
  have hne:=hv w.v v rfl rfl;exact put_ins (fun e=>hne e.symm) x
 ·rename_i q w p z
  have e1:=zbk w vs;have e2:=zbk z vs
  have e3:=zbk z (insV w vs);have e4:=zbk w (insV z vs)
  show x∈insV z (insV w vs)↔x∈insV w (insV z vs);rw[e3.mem_iff.symm,e4.mem_iff.symm,List.mem_cons,List.mem_cons,e1.mem_iff.symm,e2.mem_iff.symm,List.mem_cons,List.mem_cons];constructor<;>(rintro(h|h|h)<;>simp[h])
theorem app_comm{a b:Eff}(hne:r≠s)(hv:∀v u,a.view=some v→b.view=some u→v≠u)(h1:(((l.app r a).app s b).vs.map Vw.v).Pairwise (· < ·))(h2:(((l.app s b).app r a).vs.map Vw.v).Pairwise (· < ·)):(l.app r a).app s b=(l.app s b).app r a:=by
 rw[app_parts,app_parts,app_parts,app_parts]at *;show(⟨_,_,_,_,_⟩:Lgs)=⟨_,_,_,_,_⟩;rw[ps_comm a b _ hne,cs_comm a b _ hne];have:b.ws (a.ws l.vs)=a.ws (b.ws l.vs):=ws_comm hv h1 h2;rw[this]
theorem eff_view(h:l.eff m=some e)(hv:e.view=some v):primI l.n v=orgI m:=by
 rcases eff_cases h with rfl|⟨c,rfl,_⟩|⟨hp,_,_,rfl⟩|⟨k,_,rfl⟩|⟨hp,_,_,rfl⟩|⟨k,most,_,rfl⟩
 ·cases hv
 ·cases hv
 ·cases hv;exact prim_org hp
 ·cases hv
 ·cases hv;exact prim_org hp
 ·cases hv
def Inv(l:Lgs):Prop:=(∃T,LI l T)∧CI l
theorem counts_comm(hI:Inv l){x y:Msg}(hx:Rdy l x)(hy:Rdy l y)(hne:orgI x≠orgI y):((l.counts x).2.counts y).1=(l.counts y).1∧((l.counts y).2.counts x).1=(l.counts x).1∧((l.counts x).2.counts y).2=((l.counts y).2.counts x).2:=by
 obtain⟨⟨T,h⟩,hC⟩:=hI;have hxm:=hx.min;have hym:=hy.min
 have hn3:=h.n3;have hxo:orgI x<11:=by have:=hxm.o;unfold orgI;omega
 have hyo:orgI y<11:=by have:=hym.o;unfold orgI;omega
 have hnx:=(l.counts_nk x).1;have hny:=(l.counts_nk y).1
 have hLx:=h.counts hxm;have hLy:=h.counts hym
 have sy:=stable h hC (near h hxm) hym (fun e=>hne e.symm) hxo (by have:=hy.dep _ hxo;have:=hx.num;omega);have sx:=stable h hC (near h hym) hxm hne hyo (by have:=hx.dep _ hyo;have:=hy.num;omega)
 have rxy:=(hLx.counts (m:=y) (by rw[hnx];exact hym)).rise;have ryx:=(hLy.counts (m:=x) (by rw[hny];exact hxm)).rise
 rw[zca hLx.rise,sy]at rxy⊢;rw[zca hLy.rise,sx]at ryx⊢;rw[zca h.rise x,zca h.rise y]at *
 cases ex:l.eff x with
 | none =>
  cases ey:l.eff y with
  |none=>exact⟨rfl,rfl,rfl⟩
  |some b=>exact⟨rfl,rfl,rfl⟩
 | some a =>
  cases ey:l.eff y with
  |none=>exact⟨rfl,rfl,rfl⟩
  | some b =>
   rw[ex,ey]at rxy ryx;refine⟨rfl,rfl,app_comm hne (fun v u hv hu e=>?_) rxy ryx⟩;have h1:=eff_view ex hv;have h2:=eff_view ey hu
   rw[e]at h1;exact hne (h1.symm.trans h2)
theorem Inv.take{l:Lgs}(h:Inv l){m:Msg}(hm:Rdy l m):Inv (l.take m).2:=by
 obtain⟨⟨T,h1⟩,h2⟩:=h;refine⟨⟨_,h1.take hm.v⟩,?_⟩;rw[hm.take];exact h2.counts h1.rise m
theorem take_known(hm:Rdy l m):(l.take m).2.known=updF l.known (orgI m) (l.known (orgI m)+1):=by rw[hm.take]
theorem Rdy.after{x y:Msg}(hx:Rdy l x)(hy:Rdy l y)(hne:orgI y≠orgI x):Rdy (l.take x).2 y:=by
 refine⟨hy.may,by rw[Lgs.take_n];exact hy.org,by rw[Lgs.take_n];exact hy.q,hy.v,?_,fun i hi=>?_⟩
 ·rw[take_known hx,zag _ _ hne];exact hy.num
 ·rw[take_known hx]
  have:=hy.dep i hi;by_cases e:i=orgI x
  ·subst e;rw[zae];omega
  ·rw[zag _ _ e];exact this
def Lgs.kn(l:Lgs)(k:Nat→Int):Lgs:=⟨l.n,k,l.vs,l.past,l.ch⟩
theorem Lgs.kn_counts(l:Lgs)(k:Nat→Int)(m:Msg):(l.kn k).counts m=((l.counts m).1,(l.counts m).2.kn k):=l.counts_kn k m
theorem Rdy.takeK(h:Rdy l m):l.take m=(((l.counts m).1,0),(l.counts m).2.kn (updF l.known (orgI m) (l.known (orgI m)+1))):=h.take
theorem take_comm(hI:Inv l){x y:Msg}(hx:Rdy l x)(hy:Rdy l y)(hne:orgI x≠orgI y):((l.take x).2.counts y).1=(l.counts y).1∧((l.take y).2.counts x).1=(l.counts x).1∧((l.take x).2.take y).2=((l.take y).2.take x).2:=by
 obtain⟨h1,h2,h3⟩:=counts_comm hI hx hy hne;have e1:=(hx.after hy (fun e=>hne e.symm)).takeK;have e2:=(hy.after hx hne).takeK
 rw[e1,e2,hx.takeK,hy.takeK];show(((l.counts x).2.kn _).counts y).1=_∧(((l.counts y).2.kn _).counts x).1=_∧(((l.counts x).2.kn _).counts y).2.kn _=(((l.counts y).2.kn _).counts x).2.kn _;rw[Lgs.kn_counts,Lgs.kn_counts];refine⟨h1,h2,?_⟩;show((l.counts x).2.counts y).2.kn (updF (updF l.known (orgI x) _) (orgI y) (updF l.known (orgI x) _ (orgI y)+1))=((l.counts y).2.counts x).2.kn (updF (updF l.known (orgI y) _) (orgI x) (updF l.known (orgI y) _ (orgI x)+1));rw[h3,zag _ _ (fun e=>hne e.symm),zag _ _ hne,updF_comm _ _ _ hne]
def RunF:Lgs→List Msg→Prop
 |_,[]=>True
 |L,m::r=>Rdy L m∧RunF (L.take m).2 r
def stF:Lgs→List Msg→Lgs
 |L,[]=>L
 |L,m::r=>stF (L.take m).2 r
def outF:Lgs→List Msg→List (Msg×Bool)
 |_,[]=>[]
 |L,m::r=>(m,(L.counts m).1)::outF (L.take m).2 r
theorem RunF.app:∀ {a:List Msg} {L:Lgs} {b:List Msg},RunF L (a++b)↔RunF L a∧RunF (stF L a) b
 | [],L,b=>⟨fun h=>⟨trivial,h⟩,fun h=>h.2⟩
 | m :: a, L, b => by
  show Rdy L m∧RunF _ (a++b)↔(Rdy L m∧RunF _ a)∧RunF (stF _ a) b
  rw[RunF.app,and_assoc]
theorem stF_app:∀(a:List Msg) (L:Lgs) (b:List Msg),stF L (a++b)=stF (stF L a) b
 | [],L,b=>rfl
 |m::a,L,b=>stF_app a _ b
theorem outF_app:∀(a:List Msg) (L:Lgs) (b:List Msg),outF L (a++b)=outF L a++outF (stF L a) b
 | [],L,b=>rfl
 | m :: a, L, b => by
  show _::outF _ (a++b)=_::(outF _ a++outF (stF _ a) b)
  rw[outF_app]
theorem run_known:∀ {a:List Msg} {L:Lgs},RunF L a→∀r,(stF L a).known r=L.known r+((cnt a r:Nat):Int)
 | [],L,_,r=>by show L.known r=L.known r+0;omega
 | m :: a, L, hr, r => by
  show(stF _ a).known r=_
  rw[run_known hr.2 r,take_known hr.1]
  have e:cnt (m::a) r=cnt a r+(if r=orgI m then 1 else 0):=by
   unfold cnt strm;rw[List.filter_cons];by_cases h:r=orgI m
   ·rw[if_pos (decide_eq_true h.symm),if_pos h];rfl
   ·rw[if_neg (fun e=>h (of_decide_eq_true e).symm),if_neg h];rfl
  rw[e]
  by_cases h:r=orgI m
  ·subst h;rw[zae,if_pos rfl];omega
  ·rw[zag _ _ h,if_neg h];omega
theorem run_front:∀ {X:List Msg} {L:Lgs} {m:Msg} {Y:List Msg},Inv L→Rdy L m→(∀x∈X,orgI x≠orgI m)→RunF L (X++m::Y)→
  RunF L (m::(X++Y))∧stF L (m::(X++Y))=stF L (X++m::Y)∧(outF L (m::(X++Y))).Perm (outF L (X++m::Y))
 | [],L,m,Y,hI,hm,hX,hr=>⟨hr,rfl,List.Perm.refl _⟩
 | x :: X, L, m, Y, hI, hm, hX, hr => by
  have hxm:=hX x jK
  have hxr:Rdy L x:=hr.1
  have hr2:RunF (L.take x).2 (X++m::Y):=hr.2
  have hm2:=hxr.after hm (fun e=>hxm e.symm)
  have hx2:=hm.after hxr hxm
  obtain⟨i1,i2,i3⟩:=run_front (hI.take hxr) hm2 (fun y hy=>hX y (List.mem_cons_of_mem _ hy)) hr2
  obtain⟨c1,c2,c3⟩:=take_comm hI hxr hm hxm
  have i1b:RunF ((L.take x).2.take m).2 (X++Y):=i1.2
  refine⟨⟨hm,hx2,by rw[←c3];exact i1b⟩,?_,?_⟩
  ·show stF ((L.take m).2.take x).2 (X++Y)=stF (L.take x).2 (X++m::Y)
   rw[←c3]
   exact i2
  ·show((m,(L.counts m).1)::(x,((L.take m).2.counts x).1)::outF ((L.take m).2.take x).2 (X++Y)).Perm ((x,(L.counts x).1)::outF (L.take x).2 (X++m::Y))
   rw[c2,←c3]
   refine(List.Perm.swap _ _ _).trans ((List.perm_cons _).2 ?_)
   have i3:((m,((L.take x).2.counts m).1)::outF ((L.take x).2.take m).2 (X++Y)).Perm (outF (L.take x).2 (X++m::Y)):=i3
   rw[c1]at i3
   exact i3
theorem run_order:∀ {B:List Msg} {L:Lgs} {A:List Msg},Inv L→RunF L A→RunF L B→A.Perm B→stF L A=stF L B∧(outF L A).Perm (outF L B)
 | [],L,A,hI,hA,hB,hp=>by rw[hp.eq_nil];exact⟨rfl,List.Perm.refl _⟩
 | m :: B, L, A, hI, hA, hB, hp => by
  have hmA:m∈A:=hp.mem_iff.2 jK
  obtain⟨X,Y,rfl⟩:=List.append_of_mem hmA
  have hm:Rdy L m:=hB.1
  have hXn:∀x∈X,orgI x≠orgI m:=by
   have h1:=(RunF.app.1 hA);have h2:Rdy (stF L X) m:=h1.2.1
   have h3:=h2.num;rw[run_known h1.1]at h3
   have h4:=hm.num;have h5:cnt X (orgI m)=0:=jA
   intro x hx e;have:x∈strm X (orgI m):=by unfold strm;rw[List.mem_filter];exact⟨hx,decide_eq_true e⟩
   unfold cnt at h5;rw[List.eq_nil_of_length_eq_zero h5]at this;cases this
  obtain⟨i1,i2,i3⟩:=run_front hI hm hXn hA
  have hp2:(X++Y).Perm B:=(List.perm_cons m).1 (List.perm_middle.symm.trans hp)
  obtain⟨j1,j2⟩:=run_order (hI.take hm) i1.2 hB.2 hp2
  refine⟨i2.symm.trans j1,i3.symm.trans ((List.perm_cons _).2 j2)⟩
theorem outF_mem:∀ {A:List Msg} {L:Lgs} {p:Msg×Bool},p∈outF L A→p.1∈A
 | [],_,_,h=>by cases h
 | x :: A, L, p, h => by
  rcases List.mem_cons.1 h with rfl|h
  ·exact List.mem_cons_self
  ·exact List.mem_cons_of_mem _ (outF_mem h)
open Go.Sort (swp ltInt insInner insOuter insertionSort siftDown heapBuild heapPop heapSort reverseLoop reverseRange scanUp scanDown partLoop partEqLoop scanSorted shiftDown shiftUp partialIns partialInsertionSort)
open Go.Sort (partition partitionEqual partLoop_eq partEqLoop_eq partition_fst partition_arr scanUp_spec scanDown_spec)
theorem two_scans(p q:Int→Bool)(hq:∀x,q x= !p x)(d:Array Int){i:Nat}(hi:0<i)(hij:i≤j+1):i≤scanUp p d j i∧scanUp p d j i≤j+1∧scanDown q d (scanUp p d j i) j≤j∧scanUp p d j i≤scanDown q d (scanUp p d j i) j+1∧(scanUp p d j i≤scanDown q d (scanUp p d j i) j→scanUp p d j i<scanDown q d (scanUp p d j i) j):=by
 obtain⟨u1,u2,u3,u4⟩:=scanUp_spec p d j _ i rfl;obtain⟨v1,v2,v3,v4⟩:=scanDown_spec q d (scanUp p d j i) j;have hu:=u2 hij;refine⟨u1,hu,v1,v2 hu,fun h=>?_⟩
 have f1:=u4 jA;have f2:=v4 jA jA
 rw[hq]at f2;rcases Nat.lt_or_ge (scanUp p d j i) (scanDown q d (scanUp p d j i) j)with h'|h'
 ·exact h'
 ·have e:scanUp p d j i=scanDown q d (scanUp p d j i) j:=jA
  rw[←e,f1]at f2;cases f2
variable {a pivot:Nat} {d0:Array Int}
section
variable (f:Frag) (F:List HP)
def PartP(f:Frag)(F:List HP)(p:Option Addr)(n c k:Nat)(d:Array Int):Value→Frag→List HP→Prop:=fun v f' A'=>∃ap:Bool,v= .tuple #[.int .i64 (k:Int),.bool ap]∧f'=f∧A'=slc p n c 35 1 (arr d)::F
theorem partition_fn(hd0:d0.size=n)(hn:n≤1000000)(hap:a≤pivot)(hpb:pivot<b)(hb:b≤n):Fn prog 199 [.slice p n c,.int .i64 (a:Int),.int .i64 (b:Int),.int .i64 (pivot:Int)] f (slc p n c 35 1 (arr d0)::F) (PartP f F p n c (partition ltInt d0 a b pivot).1 (partition ltInt d0 a b pivot).2.2):=by
 rw[partition_arr,partition_fst];refine Fn.e4 func199 ntmps199 fun base=>?_;refine qhG fun sb hp=>?_;subst hp;refine gI ?_;refine H.drawN jE jL jF ?_;refine qjD ?_;have hd:(swp d0 a pivot).size=n:=by rw[zbl];exact hd0
 generalize swp d0 a pivot=d at *;refine gW ?_;obtain⟨i,hi⟩:∃i,i=a+1:=⟨_,rfl⟩;obtain⟨j,hj⟩:∃j,j=b-1:=⟨_,rfl⟩;rw[←hi,←hj];refine H.Bh (d:=11) (u:=.int .i64 (j:Int)) rfl jP ?_;refine H.Bh (d:=10) (u:=.int .i64 (i:Int)) rfl jP ?_;obtain⟨s1,s2,s3,s4,s5⟩:=two_scans (fun x=>ltInt x d[a]!) (fun x=>!ltInt x d[a]!) (fun _=>rfl) d (i:=i) (j:=j) jA jA;have heq:=partLoop_eq ltInt a i j d;skip
 refine H.cutB (ι:=Unit) (fun _=>[(10,.int .i64 ((scanUp (fun x=>ltInt x d[a]!) d j i:Nat):Int)),(11,.int .i64 (j:Int)),(0,.slice (some ⟨sb,0,none⟩) n c),(1,.int .i64 (a:Int))]) (fun _=>f) (fun _=>slc (some ⟨sb,0,none⟩) n c 35 1 (arr d)::F) (fun _=>True) _ (fun _ _=>?_) ?_;rotate_left
 ·exact qad
 refine qgZ ?_;obtain⟨i2,hi2⟩:∃i2,i2=scanUp (fun x=>ltInt x d[a]!) d j i:=⟨_,rfl⟩;rw[←hi2]at s1 s2 s3 s4 s5 heq⊢;refine qjq ?_;refine H.cutB (ι:=Unit) (fun _=>[(11,.int .i64 ((scanDown (fun x=>!ltInt x d[a]!) d i2 j:Nat):Int)),(10,.int .i64 (i2:Int)),(0,.slice (some ⟨sb,0,none⟩) n c),(1,.int .i64 (a:Int))]) (fun _=>f) (fun _=>slc (some ⟨sb,0,none⟩) n c 35 1 (arr d)::F) (fun _=>True) _ (fun _ _=>?_) ?_;rotate_left
 ·exact qac
 refine qgX ?_;obtain⟨j2,hj2⟩:∃j2,j2=scanDown (fun x=>!ltInt x d[a]!) d i2 j:=⟨_,rfl⟩;rw[←hj2]at s3 s4 s5 heq⊢;by_cases hgt:j2<i2
 ·rw[if_pos hgt]at heq;rw[heq];refine gG ?_;refine H.drawN jE jL jF ?_;refine qiD ?_;exact H.Bb rfl rfl rfl iD ⟨true,rfl,rfl,rfl⟩
 ·have hlt:=s5 jA;rw[if_neg hgt]at heq
  rw[heq];refine gc ?_;refine H.drawN jE jL jF ?_;refine qfZ ?_;obtain⟨j1,hj1⟩:∃j1,j1=j2-1:=⟨_,rfl⟩;rw[←hj1];have hd1:(swp d i2 j2).size=n:=by rw[zbl];exact hd
  generalize swp d i2 j2=d1 at *;refine gW ?_;refine H.Bh (d:=11) (u:=.int .i64 (j1:Int)) rfl jP ?_
  refine H.lo (ι:=Nat×Nat×Array Int) (fun s=>[(10,.int .i64 (s.1:Int)),(11,.int .i64 (s.2.1:Int)),(0,.slice (some ⟨sb,0,none⟩) n c),(1,.int .i64 (a:Int))]) (fun _=>f) (fun s=>slc (some ⟨sb,0,none⟩) n c 35 1 (arr s.2.2)::F)
   (fun s=>0<s.1∧s.1≤s.2.1+1∧s.2.1<n∧s.2.2.size=n∧partLoop ltInt a s.1 s.2.1 s.2.2=partLoop ltInt a (i2+1) j1 d1) (fun s=>s.2.1+1-s.1) (i2+1,j1,d1) ⟨by show 0<i2+1;omega,by show i2+1≤j1+1;omega,by show j1<n;omega,hd1,rfl⟩ fun s hs=>?_
  clear s1 s2 s3 s4 s5 heq hi2 hj2 hgt hlt;obtain⟨i,j,d⟩:=s;obtain⟨h0,hij,hjn,hd,hr⟩:0<i∧i≤j+1∧j<n∧d.size=n∧partLoop ltInt a i j d=partLoop ltInt a (i2+1) j1 d1:=hs;rw[←hr];clear hr;show H _ _ _ [(10,.int .i64 (i:Int)),(11,.int .i64 (j:Int)),_,_] f (slc (some ⟨sb,0,none⟩) n c _ 1 (arr d)::F) _;clear hj1 hd1;obtain⟨s1,s2,s3,s4,s5⟩:=two_scans (fun x=>ltInt x d[a]!) (fun x=>!ltInt x d[a]!) (fun _=>rfl) d (i:=i) (j:=j) h0 hij;have heq:=partLoop_eq ltInt a i j d;refine qjq ?_
  refine H.cutB (ι:=Unit) (fun _=>[(10,.int .i64 ((scanUp (fun x=>ltInt x d[a]!) d j i:Nat):Int)),(11,.int .i64 (j:Int)),(0,.slice (some ⟨sb,0,none⟩) n c),(1,.int .i64 (a:Int))]) (fun _=>f) (fun _=>slc (some ⟨sb,0,none⟩) n c 35 1 (arr d)::F) (fun _=>True) _ (fun _ _=>?_) ?_;rotate_left
  ·exact qad
  refine qgZ ?_;obtain⟨i2,hi2⟩:∃i2,i2=scanUp (fun x=>ltInt x d[a]!) d j i:=⟨_,rfl⟩;rw[←hi2]at s1 s2 s3 s4 s5 heq⊢;refine qjq ?_;refine H.cutB (ι:=Unit) (fun _=>[(11,.int .i64 ((scanDown (fun x=>!ltInt x d[a]!) d i2 j:Nat):Int)),(10,.int .i64 (i2:Int)),(0,.slice (some ⟨sb,0,none⟩) n c),(1,.int .i64 (a:Int))]) (fun _=>f) (fun _=>slc (some ⟨sb,0,none⟩) n c 35 1 (arr d)::F) (fun _=>True) _ (fun _ _=>?_) ?_;rotate_left
  ·exact qac
  refine qgX ?_;obtain⟨j2,hj2⟩:∃j2,j2=scanDown (fun x=>!ltInt x d[a]!) d i2 j:=⟨_,rfl⟩;rw[←hj2]at s3 s4 s5 heq⊢;by_cases hgt:j2<i2
  ·rw[if_pos hgt]at heq;rw[heq];refine gN ?_;refine H.drawN jE jL jF ?_;refine qiD ?_;exact H.Bb rfl rfl rfl iD ⟨false,rfl,rfl,rfl⟩
  ·have hlt:=s5 jA;rw[if_neg hgt]at heq
   refine gc ?_;refine H.drawN jE jL jF ?_;refine qfZ ?_;obtain⟨j1,rfl⟩:∃j1,j2=j1+1:=⟨j2-1,by omega⟩;refine gW ?_;exact H.ag (i2+1,j1,swp d i2 (j1+1)) ⟨by show 0<i2+1;omega,by show i2+1≤j1+1;omega,by show j1<n;omega,by show(swp d i2 (j1+1)).size=n;rw[zbl];exact hd,heq.symm⟩ (by show j1+1-(i2+1)<j+1-i;omega)
theorem partEq_fn(hd0:d0.size=n)(hn:n≤1000000)(hap:a≤pivot)(hpb:pivot<b)(hb:b≤n):Fn prog 198 [.slice p n c,.int .i64 (a:Int),.int .i64 (b:Int),.int .i64 (pivot:Int)] f (slc p n c 35 1 (arr d0)::F) (Ret (.int .i64 ((partitionEqual ltInt d0 a b pivot).1:Nat)) f (slc p n c 35 1 (arr (partitionEqual ltInt d0 a b pivot).2)::F)):=by
 unfold partitionEqual;refine Fn.e4 func198 ntmps198 fun base=>?_;refine qhG fun sb hp=>?_;subst hp;refine gI ?_;refine H.drawN jE jL jF ?_;refine qjD ?_;have hd:(swp d0 a pivot).size=n:=by rw[zbl];exact hd0
 generalize swp d0 a pivot=d1 at *;obtain⟨j1,hj1⟩:∃j1,j1=b-1:=⟨_,rfl⟩;rw[←hj1];refine gW ?_;refine H.Bh (d:=10) (u:=.int .i64 (j1:Int)) rfl jP ?_
 refine H.lo (ι:=Nat×Nat×Array Int) (fun s=>[(9,.int .i64 (s.1:Int)),(10,.int .i64 (s.2.1:Int)),(0,.slice (some ⟨sb,0,none⟩) n c),(1,.int .i64 (a:Int))]) (fun _=>f) (fun s=>slc (some ⟨sb,0,none⟩) n c 35 1 (arr s.2.2)::F)
  (fun s=>0<s.1∧s.1≤s.2.1+1∧s.2.1<n∧s.2.2.size=n∧partEqLoop ltInt a s.1 s.2.1 s.2.2=partEqLoop ltInt a (a+1) j1 d1) (fun s=>s.2.1+1-s.1) (a+1,j1,d1) ⟨by show 0<a+1;omega,by show a+1≤j1+1;omega,by show j1<n;omega,hd,rfl⟩ fun s hs=>?_
 clear hd;obtain⟨i,j,d⟩:=s;obtain⟨h0,hij,hjn,hd,hr⟩:0<i∧i≤j+1∧j<n∧d.size=n∧partEqLoop ltInt a i j d=partEqLoop ltInt a (a+1) j1 d1:=hs;rw[←hr];clear hr;show H _ _ _ [(9,.int .i64 (i:Int)),(10,.int .i64 (j:Int)),_,_] f (slc (some ⟨sb,0,none⟩) n c _ 1 (arr d)::F) _;obtain⟨s1,s2,s3,s4,s5⟩:=two_scans (fun x=>!ltInt d[a]! x) (fun x=>ltInt d[a]! x) (fun x=>by simp) d (i:=i) (j:=j) h0 hij;have heq:=partEqLoop_eq ltInt a i j d;refine qjq ?_
 refine H.cutB (ι:=Unit) (fun _=>[(9,.int .i64 ((scanUp (fun x=>!ltInt d[a]! x) d j i:Nat):Int)),(10,.int .i64 (j:Int)),(0,.slice (some ⟨sb,0,none⟩) n c),(1,.int .i64 (a:Int))]) (fun _=>f) (fun _=>slc (some ⟨sb,0,none⟩) n c 35 1 (arr d)::F) (fun _=>True) _ (fun _ _=>?_) ?_;rotate_left
 ·skip;refine H.lo (ι:=Nat) (fun x=>[(9,.int .i64 (x:Int)),(10,.int .i64 (j:Int)),(0,.slice (some ⟨sb,0,none⟩) n c),(1,.int .i64 (a:Int))]) (fun _=>f) (fun _=>slc (some ⟨sb,0,none⟩) n c 35 1 (arr d)::F) (fun x=>x≤j+1∧scanUp (fun x=>!ltInt d[a]! x) d j x=scanUp (fun x=>!ltInt d[a]! x) d j i) (fun x=>j+1-x) i ⟨by show i≤j+1;omega,rfl⟩ fun x hx=>?_;obtain⟨hx,hs⟩:x≤j+1∧scanUp (fun x=>!ltInt d[a]! x) d j x=scanUp (fun x=>!ltInt d[a]! x) d j i:=hx;show H _ _ _ [(9,.int .i64 (x:Int)),_,_,_] f (slc (some ⟨sb,0,none⟩) n c _ 1 (arr d)::F) _;rw[scanUp]at hs;by_cases hxj:x≤j
  ·skip;refine qgY ?_;refine HB.qu [0,1,2,3,4,5,6,7,8,9,10,11] 3 ?_;refine gJ ?_;refine qfH ?_;refine qhD ?_;refine qkF ?_;refine qej ?_;refine qhf ?_;refine H.Af rfl rfl rfl (zcj f _ d[a]! d[x]!) ?_;refine qeg ?_;refine HB.qu [13,14] 0 ?_;refine qju ?_
   cases hl:ltInt d[a]! d[x]! with
   | false =>
    rw[if_pos jk]at hs;refine gL ?_;exact H.ag (x+1) ⟨by show x+1≤j+1;omega,hs⟩ (by show j+1-(x+1)<j+1-x;omega)
   | true =>
    exact qdy
  ·skip;rw[if_neg jV]at hs;refine qgY ?_;refine qjk ?_;exact qdC
 show H _ _ _ [(9,.int .i64 ((scanUp (fun x=>!ltInt d[a]! x) d j i:Nat):Int)),(10,.int .i64 (j:Int)),(0,.slice (some ⟨sb,0,none⟩) n c),(1,.int .i64 (a:Int))] f (slc (some ⟨sb,0,none⟩) n c _ 1 (arr d)::F) _;obtain⟨i2,hi2⟩:∃i2,i2=scanUp (fun x=>!ltInt d[a]! x) d j i:=⟨_,rfl⟩;rw[←hi2]at s1 s2 s3 s4 s5 heq⊢;refine qjq ?_;refine H.cutB (ι:=Unit) (fun _=>[(10,.int .i64 ((scanDown (fun x=>ltInt d[a]! x) d i2 j:Nat):Int)),(9,.int .i64 (i2:Int)),(0,.slice (some ⟨sb,0,none⟩) n c),(1,.int .i64 (a:Int))]) (fun _=>f) (fun _=>slc (some ⟨sb,0,none⟩) n c 35 1 (arr d)::F) (fun _=>True) _ (fun _ _=>?_) ?_;rotate_left
 ·skip;refine H.lo (ι:=Nat) (fun x=>[(10,.int .i64 (x:Int)),(9,.int .i64 (i2:Int)),(0,.slice (some ⟨sb,0,none⟩) n c),(1,.int .i64 (a:Int))]) (fun _=>f) (fun _=>slc (some ⟨sb,0,none⟩) n c 35 1 (arr d)::F) (fun x=>x≤j∧scanDown (fun x=>ltInt d[a]! x) d i2 x=scanDown (fun x=>ltInt d[a]! x) d i2 j) (fun x=>x) j ⟨Nat.le_refl j,rfl⟩ fun x hx=>?_;obtain⟨hx,hs⟩:x≤j∧scanDown (fun x=>ltInt d[a]! x) d i2 x=scanDown (fun x=>ltInt d[a]! x) d i2 j:=hx;show H _ _ _ [(10,.int .i64 (x:Int)),_,_,_] f (slc (some ⟨sb,0,none⟩) n c _ 1 (arr d)::F) _;by_cases hxj:i2≤x
  ·skip;obtain⟨y,rfl⟩:∃y,x=y+1:=⟨x-1,by omega⟩;rw[scanDown]at hs;refine qgY ?_;refine qjt ?_;refine gJ ?_;refine qfH ?_;refine qhD ?_;refine qhd ?_;refine qej ?_;refine qhf ?_;refine H.Af rfl rfl rfl (zcj f _ d[a]! d[y+1]!) ?_;refine qeg ?_;refine HB.qu [13] 0 ?_;refine qfh ?_
   cases hl:ltInt d[a]! d[y+1]! with
   | false =>
    exact qdy
   | true =>
    rw[if_pos jk]at hs;refine gL ?_;exact H.ag y ⟨by show y≤j;omega,hs⟩ ko
  ·skip
   have hs:x=scanDown (fun x=>ltInt d[a]! x) d i2 j:=by
    rw[←hs]
    cases x with
    |zero=>rfl
    |succ y=>rw[scanDown,if_neg jV]
   refine qgY ?_;refine qjt ?_;refine gJ ?_;refine qhf ?_;refine qgH ?_;refine HB.qu [13] 0 ?_;exact qdC
 show H _ _ _ [(10,.int .i64 ((scanDown (fun x=>ltInt d[a]! x) d i2 j:Nat):Int)),(9,.int .i64 (i2:Int)),(0,.slice (some ⟨sb,0,none⟩) n c),(1,.int .i64 (a:Int))] f (slc (some ⟨sb,0,none⟩) n c _ 1 (arr d)::F) _;obtain⟨j2,hj2⟩:∃j2,j2=scanDown (fun x=>ltInt d[a]! x) d i2 j:=⟨_,rfl⟩;rw[←hj2]at s3 s4 s5 heq⊢;by_cases hgt:j2<i2
 ·rw[if_pos hgt]at heq;rw[heq];refine gN ?_;exact qaj
 ·have hlt:=s5 jA;rw[if_neg hgt]at heq
  refine gc ?_;refine H.drawN jE jL jF ?_;refine qfZ ?_;obtain⟨j3,rfl⟩:∃j3,j2=j3+1:=⟨j2-1,by omega⟩;refine gW ?_;exact H.ag (i2+1,j3,swp d i2 (j3+1)) ⟨by show 0<i2+1;omega,by show i2+1≤j3+1;omega,by show j3<n;omega,by show(swp d i2 (j3+1)).size=n;rw[zbl];exact hd,heq.symm⟩ (by show j3+1-(i2+1)<j+1-i;omega)
end
open Go.Sort (swp ltInt insInner insOuter insertionSort siftDown heapBuild heapPop heapSort reverseLoop reverseRange scanUp scanDown partLoop partEqLoop scanSorted shiftDown shiftUp partialIns partialInsertionSort)
open Go.Sort (partialIns_succ fixDown fixUp)
theorem shiftDown_size:∀(j:Nat) (d:Array Int),(shiftDown ltInt j d).size=d.size
 |0,d=>rfl
 | j + 1, d => by
  rw[shiftDown]
  split
  ·rfl
  ·rw[shiftDown_size j,zbl]
theorem shiftUp_size(b:Nat):∀(m j:Nat) (d:Array Int),b-j≤m→(shiftUp ltInt b j d).size=d.size
 |0,j,d,h=>by rw[shiftUp,if_neg jA]
 | m + 1, j, d, h => by
  rw[shiftUp]
  split
  ·split
   ·rfl
   ·rw[shiftUp_size b m (j+1) _ jA,zbl]
  ·rfl
theorem scanSorted_rng(d:Array Int)(b:Nat):∀(m i:Nat),b-i≤m→i≤b→i≤scanSorted ltInt d b i∧scanSorted ltInt d b i≤b
 |0,i,h,hi=>by rw[scanSorted,if_neg jb];omega
 | m + 1, i, h, hi => by
  rw[scanSorted]
  split
  ·rename_i hc
   rw[Bool.and_eq_true]at hc
   have h1:=of_decide_eq_true hc.1
   have:=scanSorted_rng d b m (i+1) jA jA
   omega
  ·omega
section
variable (f:Frag) (F:List HP)
theorem partIns_fn(hd0:d0.size=n)(hn:n≤1000000)(hab:a<b)(hb:b≤n):Fn prog 196 [.slice p n c,.int .i64 (a:Int),.int .i64 (b:Int)] f (slc p n c 35 1 (arr d0)::F) (Ret (.bool (partialInsertionSort ltInt d0 a b).2) f (slc p n c 35 1 (arr (partialInsertionSort ltInt d0 a b).1)::F)):=by
 obtain⟨R,hR⟩:∃R,partialInsertionSort ltInt d0 a b=R:=⟨_,rfl⟩;have hR:partialIns ltInt a b 5 (a+1) d0=R:=hR;have hR2:partialInsertionSort ltInt d0 a b=R:=hR
 rw[hR2];clear hR2;refine Fn.e3 func196 ntmps196 fun base=>?_;refine qhG fun sb hp=>?_;subst hp;refine gW ?_
 refine H.lo (ι:=Nat×Nat×Array Int) (fun s=>[(8,.int .i64 (s.1:Int)),(7,.int .i64 (s.2.1:Int)),(0,.slice (some ⟨sb,0,none⟩) n c),(1,.int .i64 (a:Int)),(2,.int .i64 (b:Int))]) (fun _=>f) (fun s=>slc (some ⟨sb,0,none⟩) n c 35 1 (arr s.2.2)::F)
  (fun s=>s.1≤5∧a+1≤s.2.1∧s.2.1≤b∧s.2.2.size=n∧partialIns ltInt a b (5-s.1) s.2.1 s.2.2=R) (fun s=>5-s.1) (0,a+1,d0) ⟨Nat.zero_le _,Nat.le_refl _,by show a+1≤b;omega,hd0,hR⟩ fun s hs=>?_
 clear hR hd0;obtain⟨t,i,d⟩:=s;obtain⟨ht,hai,hib,hd,hr⟩:t≤5∧a+1≤i∧i≤b∧d.size=n∧partialIns ltInt a b (5-t) i d=R:=hs;show H _ _ _ [(8,.int .i64 (t:Int)),(7,.int .i64 (i:Int)),_,_,_] f (slc (some ⟨sb,0,none⟩) n c _ 1 (arr d)::F) _;by_cases ht5:t<5
 ·obtain⟨s,hs5⟩:∃s,5-t=s+1:=⟨5-t-1,by omega⟩;rw[hs5,partialIns_succ]at hr;have hrng:=scanSorted_rng d b _ i (Nat.le_refl _) hib;repeat(first|((apply H.Aw);(iterate 3 exact rfl))|(first|apply H.seq|apply H.Bg|apply H.nil|apply H.Bj)|((apply H.cmp);(iterate 5 exact rfl))|(first|apply H.skip|apply H.Bl)|(apply H.Ch;exact rfl;(omega)))
  refine H.cutB (ι:=Unit) (fun _=>[(7,.int .i64 ((scanSorted ltInt d b i:Nat):Int)),(8,.int .i64 (t:Int)),(0,.slice (some ⟨sb,0,none⟩) n c),(1,.int .i64 (a:Int)),(2,.int .i64 (b:Int))]) (fun _=>f) (fun _=>slc (some ⟨sb,0,none⟩) n c 35 1 (arr d)::F) (fun _=>True) _ (fun _ _=>?_) ?_;rotate_left
  ·refine H.lo (ι:=Nat) (fun x=>[(7,.int .i64 (x:Int)),(8,.int .i64 (t:Int)),(0,.slice (some ⟨sb,0,none⟩) n c),(1,.int .i64 (a:Int)),(2,.int .i64 (b:Int))]) (fun _=>f) (fun _=>slc (some ⟨sb,0,none⟩) n c 35 1 (arr d)::F) (fun x=>a+1≤x∧x≤b∧scanSorted ltInt d b x=scanSorted ltInt d b i) (fun x=>b-x) i ⟨hai,hib,rfl⟩ fun x hx=>?_;obtain⟨hx1,hx2,hs⟩:a+1≤x∧x≤b∧scanSorted ltInt d b x=scanSorted ltInt d b i:=hx;obtain⟨y,rfl⟩:∃y,x=y+1:=⟨x-1,by omega⟩;show H _ _ _ [(7,.int .i64 ((y+1:Nat):Int)),_,_,_,_] f (slc (some ⟨sb,0,none⟩) n c _ 1 (arr d)::F) _;rw[scanSorted]at hs;by_cases hxb:y+1<b
   ·refine qgY ?_;refine HB.qu [0,1,2,3,4,5,6,7,8,9,10,11,12] 3 ?_;refine gJ ?_;refine qhd ?_;refine qej ?_;refine gK ?_;refine qiw ?_;refine qej ?_;refine qhA ?_;refine H.Af rfl rfl rfl (zcj f _ d[y+1]! d[y]!) ?_;refine qeg ?_;refine HB.qu [14,15] 0 ?_;refine qju ?_;have hyy:y+1-1=y:=rfl;rw[hyy]at hs
    cases hl:ltInt d[y+1]! d[y]! with
    | false =>
     rw[if_pos (by rw[decide_eq_true hxb,hl];rfl)]at hs;refine gL ?_;exact H.ag (y+1+1) ⟨by show a+1≤y+1+1;omega,by show y+1+1≤b;omega,hs⟩ (by show b-(y+1+1)<b-(y+1);omega)
    | true =>
     rw[if_neg (by rw[decide_eq_true hxb,hl];decide)]at hs;exact qcQ
   ·rw[if_neg (by rw[decide_eq_false hxb,Bool.false_and];decide)]at hs;refine qgY ?_;refine HB.qu [0,1,2,3,4,5,6,7,8,9,10,11,12] 3 ?_;refine gJ ?_;refine qhA ?_;refine qgH ?_;refine HB.qu [14,15] 0 ?_;refine qfh ?_;exact qcQ
  show H _ _ _ [(7,.int .i64 ((scanSorted ltInt d b i:Nat):Int)),(8,.int .i64 (t:Int)),(0,.slice (some ⟨sb,0,none⟩) n c),(1,.int .i64 (a:Int)),(2,.int .i64 (b:Int))] f (slc (some ⟨sb,0,none⟩) n c _ 1 (arr d)::F) _;generalize scanSorted ltInt d b i=i2 at *;by_cases heb:i2=b
  ·rw[if_pos heb]at hr;subst hr;refine gG ?_;exact qaj
  ·rw [if_neg heb] at hr;by_cases h50 : b - a < 50
   ·rw[if_pos h50]at hr;subst hr;refine gS ?_;exact qaj
   ·rw [if_neg h50] at hr;obtain ⟨k, rfl⟩ : ∃ k, i2 = k + 1 := ⟨i2 - 1, by omega⟩;refine gc ?_;refine H.drawN jE jL jF ?_;refine qer ?_;refine HN.ar (i := 4) (z := ((k : Nat) : Int)) jE rfl rfl rfl rfl rfl (by rw [wr_i64 jA]; omega) rfl ?_;refine qfV ?_;refine HQ.Ah (i := k) rfl rfl rfl jA jA rfl ?_;refine qhD ?_;refine HQ.Ah (i := k + 1) rfl rfl rfl jA jA rfl ?_;refine qiK ?_;refine HB.qu [14] 3 ?_;refine HQ.Ah (i := k + 1) rfl rfl rfl jA jA rfl ?_;refine qix ?_;refine qeL ?_;refine HB.qu [16] 1 ?_;refine HQ.Ah (i := k) rfl rfl rfl jA jA rfl ?_;refine qjd ?_;refine qeq ?_;show H _ _ _ _ f (slc (some ⟨sb, 0, none⟩) n c _ 1 (arr (swp d (k + 1) (k))) :: _) _;have hkk : k + 1 - 1 = k := rfl;rw [hkk] at hr
    have hd1:(swp d (k+1) k).size=n:=by rw[zbl];exact hd
    generalize swp d (k+1) k=d1 at *;refine qgO ?_;refine H.cut (ι:=Unit) (fun _=>[(7,.int .i64 ((k+1:Nat):Int)),(8,.int .i64 (t:Int)),(0,.slice (some ⟨sb,0,none⟩) n c),(1,.int .i64 (a:Int)),(2,.int .i64 (b:Int))]) (fun _=>f) (fun _=>slc (some ⟨sb,0,none⟩) n c 35 1 (arr (fixDown ltInt a (k+1) d1))::F) (fun _=>True) _ (fun _ _=>?_) ?_;rotate_left
    ·unfold fixDown;by_cases h2:k+1-a≥2
     ·rw[if_pos h2,hkk];refine gc ?_
      refine H.lo (ι:=Nat×Array Int) (fun s=>[(9,.int .i64 (s.1:Int)),(7,.int .i64 ((k+1:Nat):Int)),(8,.int .i64 (t:Int)),(0,.slice (some ⟨sb,0,none⟩) n c),(1,.int .i64 (a:Int)),(2,.int .i64 (b:Int))]) (fun _=>f) (fun s=>slc (some ⟨sb,0,none⟩) n c 35 1 (arr s.2)::F)
       (fun s=>s.1≤k∧s.2.size=n∧shiftDown ltInt s.1 s.2=shiftDown ltInt k d1) (fun s=>s.1) (k,d1) ⟨Nat.le_refl k,hd1,rfl⟩ fun s hs=>?_
      obtain⟨x,d⟩:=s;obtain⟨hx,hd,hs⟩:x≤k∧d.size=n∧shiftDown ltInt x d=shiftDown ltInt k d1:=hs;show H _ _ _ [(9,.int .i64 (x:Int)),_,_,_,_,_] f (slc (some ⟨sb,0,none⟩) n c _ 1 (arr d)::F) _
      cases x with
      | zero =>
       rw[←hs];refine gY ?_;exact qbh
      | succ y =>
       rw[shiftDown]at hs;refine qfj ?_
       cases hl:ltInt d[y+1]! d[y]! with
       | false =>
        exact qcK
       | true =>
        rw[hl,if_neg jC]at hs;refine gW ?_;refine H.drawN jE jL jF ?_;refine qgM ?_;exact H.ag (y,swp d (y+1) y) ⟨by show y≤k;omega,by show(swp d (y+1) y).size=n;rw[zbl];exact hd,hs⟩ ko
     ·exact qdX
    have hd2:(fixDown ltInt a (k+1) d1).size=n:=by
     unfold fixDown;split
     ·rw[shiftDown_size];exact hd1
     ·exact hd1
    generalize fixDown ltInt a (k+1) d1=d2 at *;show H _ _ _ [(7,.int .i64 ((k+1:Nat):Int)),(8,.int .i64 (t:Int)),(0,.slice (some ⟨sb,0,none⟩) n c),(1,.int .i64 (a:Int)),(2,.int .i64 (b:Int))] f (slc (some ⟨sb,0,none⟩) n c _ 1 (arr d2)::F) _;refine qgO ?_;refine H.cutB (ι:=Unit) (fun _=>[(7,.int .i64 ((k+1:Nat):Int)),(8,.int .i64 (t:Int)),(0,.slice (some ⟨sb,0,none⟩) n c),(1,.int .i64 (a:Int)),(2,.int .i64 (b:Int))]) (fun _=>f) (fun _=>slc (some ⟨sb,0,none⟩) n c 35 1 (arr (fixUp ltInt b (k+1) d2))::F) (fun _=>True) _ (fun _ _=>?_) ?_;rotate_left
    ·unfold fixUp;by_cases h2:b-(k+1)≥2
     ·rw[if_pos h2];refine gc ?_
      refine H.lo (ι:=Nat×Array Int) (fun s=>[(10,.int .i64 ((s.1+1:Nat):Int)),(7,.int .i64 ((k+1:Nat):Int)),(8,.int .i64 (t:Int)),(0,.slice (some ⟨sb,0,none⟩) n c),(1,.int .i64 (a:Int)),(2,.int .i64 (b:Int))]) (fun _=>f) (fun s=>slc (some ⟨sb,0,none⟩) n c 35 1 (arr s.2)::F)
       (fun s=>s.1+1≤b∧s.2.size=n∧shiftUp ltInt b (s.1+1) s.2=shiftUp ltInt b (k+1+1) d2) (fun s=>b-s.1) (k+1,d2) ⟨by show k+1+1≤b;omega,hd2,rfl⟩ fun s hs=>?_
      obtain⟨y,d⟩:=s;obtain⟨hx,hd,hs⟩:y+1≤b∧d.size=n∧shiftUp ltInt b (y+1) d=shiftUp ltInt b (k+1+1) d2:=hs;show H _ _ _ [(10,.int .i64 ((y+1:Nat):Int)),_,_,_,_,_] f (slc (some ⟨sb,0,none⟩) n c _ 1 (arr d)::F) _;rw[shiftUp]at hs;by_cases hyb:y+1<b
      ·rw[if_pos hyb,show y+1-1=y from rfl]at hs;refine qfj ?_
       cases hl:ltInt d[y+1]! d[y]! with
       | false =>
        exact qcK
       | true =>
        rw[hl,if_neg jC]at hs;refine gW ?_;refine H.drawN jE jL jF ?_;refine qgM ?_;exact H.ag (y+1,swp d (y+1) y) ⟨by show y+1+1≤b;omega,by show(swp d (y+1) y).size=n;rw[zbl];exact hd,hs⟩ (by show b-(y+1)<b-y;omega)
      ·rw[if_neg hyb]at hs;rw[←hs];refine gc ?_;exact qbh
     ·exact qdX
    have hd3:(fixUp ltInt b (k+1) d2).size=n:=by
     unfold fixUp;split
     ·rw[shiftUp_size b _ _ _ (Nat.le_refl _)];exact hd2
     ·exact hd2
    generalize fixUp ltInt b (k+1) d2=d3 at *;show H _ _ _ [(7,.int .i64 ((k+1:Nat):Int)),(8,.int .i64 (t:Int)),(0,.slice (some ⟨sb,0,none⟩) n c),(1,.int .i64 (a:Int)),(2,.int .i64 (b:Int))] f (slc (some ⟨sb,0,none⟩) n c _ 1 (arr d3)::F) _;refine gW ?_;exact H.ag (t+1,k+1,d3) ⟨by show t+1≤5;omega,by show a+1≤k+1;omega,by show k+1≤b;omega,hd3,by show partialIns ltInt a b (5-(t+1)) (k+1) d3=R;rw[show 5-(t+1)=s by omega];exact hr⟩ (by show 5-(t+1)<5-t;omega)
 ·rw[show 5-t=0 by omega]at hr;have hr:(d,false)=R:=hr;subst hr
  refine gc ?_;exact qaj
end
open Go.Sort (swp ltInt insInner insOuter insertionSort siftDown heapBuild heapPop heapSort reverseLoop reverseRange scanUp scanDown partLoop partEqLoop scanSorted shiftDown shiftUp partialIns partialInsertionSort)
variable {wb:Nat} {d:Array Int}
section
variable (f:Frag) (F:List HP)
def Ord2P(f:Frag)(F:List HP)(A1:HP)(wb a b s:Nat):Value→Frag→List HP→Prop:=fun v f' A'=>∃x y s2:Nat,((x=a∧y=b)∨(x=b∧y=a))∧s2≤s+1∧v= .tuple #[.int .i64 (x:Int),.int .i64 (y:Int)]∧f'=f∧A'=A1::row wb 3 [.int .i64 (s2:Int)]::F
theorem order2_fn(hd:d.size=n)(hn:n≤1000000)(ha:a<n)(hb:b<n)(hs:s≤100):Fn prog 229 [.slice p n c,.int .i64 (a:Int),.int .i64 (b:Int),.pointer (some ⟨wb,0,none⟩)] f (slc p n c 35 1 (arr d)::row wb 3 [.int .i64 (s:Int)]::F) (Ord2P f F (slc p n c 35 1 (arr d)) wb a b s):=by
 refine Fn.e4 func229 ntmps229 fun base=>?_;refine qfB fun sb hp=>?_;subst hp;refine qik ?_;refine HB.qu [0,1,2,3,4,5,6,7] 1 ?_;refine gB ?_;refine HQ.Ah (i:=b) rfl rfl rfl jA jA rfl ?_;refine qhD ?_;refine qfH ?_;refine qej ?_;refine qeo ?_;refine HB.ev 8 ?_;refine H.Af rfl rfl rfl (zcj f _ d[b]! d[a]!) ?_;refine qeR ?_
 cases hl:ltInt d[b]! d[a]! with
 | false =>
  refine gW ?_;exact H.Bb rfl rfl rfl iD ⟨a,b,s,.inl ⟨rfl,rfl⟩,Nat.le_succ s,rfl,rfl,rfl⟩
 | true =>
  refine gX ?_;exact H.Bb rfl rfl rfl iD ⟨b,a,s+1,.inr ⟨rfl,rfl⟩,Nat.le_refl _,rfl,rfl,rfl⟩
def MedP(f:Frag)(F:List HP)(A1:HP)(wb a b c s:Nat):Value→Frag→List HP→Prop:=fun v f' A'=>∃x s2:Nat,(x=a∨x=b∨x=c)∧s2≤s+3∧v= .int .i64 (x:Int)∧f'=f∧A'=A1::row wb 3 [.int .i64 (s2:Int)]::F
theorem median_fn{k:Nat}(hd:d.size=n)(hn:n≤1000000)(ha:a<n)(hb:b<n)(hk:k<n)(hs:s≤90):Fn prog 221 [.slice p n c,.int .i64 (a:Int),.int .i64 (b:Int),.int .i64 (k:Int),.pointer (some ⟨wb,0,none⟩)] f (slc p n c 35 1 (arr d)::row wb 3 [.int .i64 (s:Int)]::F) (MedP f F (slc p n c 35 1 (arr d)) wb a b k s):=by
 refine Fn.e5 func221 ntmps221 fun base=>?_;refine gI ?_;refine H.Ap rfl rfl rfl (order2_fn f F hd hn ha hb jA) fun v f' A' hR=>?_;obtain⟨x1,y1,t1,h1,ht1,rfl,hff,rfl⟩:=hR;rw[hff];refine gO ?_;refine H.Ap rfl rfl rfl (order2_fn f F hd hn (a:=y1) (b:=k) jA hk jA) fun v f' A' hR=>?_;obtain⟨x2,y2,t2,h2,ht2,rfl,hff,rfl⟩:=hR;rw[hff];refine gO ?_;refine H.Ap rfl rfl rfl (order2_fn f F hd hn (a:=x1) (b:=x2) jA jA jA) fun v f' A' hR=>?_;obtain⟨x3,y3,t3,h3,ht3,rfl,hff,rfl⟩:=hR;rw[hff];refine gY ?_;exact H.Ae rfl rfl iD ⟨y3,t3,by omega,by omega,rfl,rfl,rfl⟩
theorem medAdj_fn(hd:d.size=n)(hn:n≤1000000)(h0:1≤a)(ha:a+1<n)(hs:s≤90):Fn prog 220 [.slice p n c,.int .i64 (a:Int),.pointer (some ⟨wb,0,none⟩)] f (slc p n c 35 1 (arr d)::row wb 3 [.int .i64 (s:Int)]::F) (MedP f F (slc p n c 35 1 (arr d)) wb (a-1) a (a+1) s):=by
 obtain⟨a1,rfl⟩:∃a1,a=a1+1:=⟨a-1,by omega⟩;refine Fn.e3 func220 ntmps220 fun base=>?_;refine gW ?_;refine H.Ap rfl rfl rfl (median_fn f F hd hn (a:=a1) (b:=a1+1) (k:=a1+1+1) jA jA ha hs) fun v f' A' hR=>?_;obtain⟨x,t,h1,ht,rfl,hff,rfl⟩:=hR;rw[hff];refine gT ?_;exact H.r1 ⟨x,t,h1,ht,rfl,rfl,rfl⟩
def PivP(f:Frag)(F:List HP)(A1:HP)(a b:Nat):Value→Frag→List HP→Prop:=fun v f' A'=>∃(x:Nat) (h:Int),a≤x∧x<b∧v= .tuple #[.int .i64 (x:Int),.int .i64 h]∧f'=f∧A'=A1::F
theorem pivot_fn(hd:d.size=n)(hn:n≤1000000)(h8:a+8≤b)(hb:b≤n):Fn prog 194 [.slice p n c,.int .i64 (a:Int),.int .i64 (b:Int)] f (slc p n c 35 1 (arr d)::F) (PivP f F (slc p n c 35 1 (arr d)) a b):=by
 obtain⟨l,hl⟩:∃l,l=b-a:=⟨_,rfl⟩;have hz:(b:Int)-(a:Int)=(l:Int):=jA
 obtain⟨q,hq0⟩:∃q,q=l / 4:=⟨_,rfl⟩;have hq:IntKind.wrap .i64 ((l:Int).tdiv 4)=(q:Int):=by rw[show(4:Int)=((4:Nat):Int)from rfl,tdiv64,wr_i64 jA,hq0]
 refine Fn.e3 func194 ntmps194 fun base=>?_;repeat(first|(refine H.ar (op:=.sub) (p:=(b:Int)) (p2:=(a:Int)) (z:=(l:Int)) rfl rfl rfl rfl jp rfl ?_)|(refine H.quo (p:=(l:Int)) (z:=(q:Int)) rfl rfl rfl jC hq rfl ?_)|(refine H.Aj (ls:=[.int .i64 0]) rfl rfl rfl fun wb=>?_)|(refine gh ?_))
 refine H.pf (x:=slc p n c _ _ _) ?_;refine H.Bh (d:=10) (u:=.int .i64 ((a+q*1:Nat):Int)) rfl jP ?_;refine H.Bh (d:=11) (u:=.int .i64 ((a+q*2:Nat):Int)) rfl jP ?_;refine H.Bh (d:=12) (u:=.int .i64 ((a+q*3:Nat):Int)) rfl jP ?_;by_cases h50:50≤l
 ·refine gG ?_;refine H.Ap rfl rfl rfl (medAdj_fn f F hd hn (a:=a+q*1) (s:=0) jA jA jA) fun v f' A' hR=>?_;obtain⟨x1,t1,h1,ht1,rfl,hff,rfl⟩:=hR;rw[hff];refine gI ?_;refine H.Ap rfl rfl rfl (medAdj_fn f F hd hn (a:=a+q*2) (s:=t1) jA jA jA) fun v f' A' hR=>?_;obtain⟨x2,t2,h2,ht2,rfl,hff,rfl⟩:=hR;rw[hff];refine gI ?_;refine H.Ap rfl rfl rfl (medAdj_fn f F hd hn (a:=a+q*3) (s:=t2) jA jA jA) fun v f' A' hR=>?_;obtain⟨x3,t3,h3,ht3,rfl,hff,rfl⟩:=hR;rw[hff];refine gI ?_;refine H.Ap rfl rfl rfl (median_fn f F hd hn (a:=x1) (b:=x2) (k:=x3) (s:=t3) jA jA jA jA) fun v f' A' hR=>?_;obtain⟨x,t,h4,ht,rfl,hff,rfl⟩:=hR;rw[hff];by_cases h0:t=0
  ·refine gM ?_;exact qaI
  ·by_cases h12:t=12
   ·refine gN ?_;exact qaI
   ·refine gM ?_;exact qaI
 ·refine gc ?_;refine H.Ap rfl rfl rfl (median_fn f F hd hn (a:=a+q*1) (b:=a+q*2) (k:=a+q*3) (s:=0) jA jA jA jA) fun v f' A' hR=>?_;obtain⟨x,t,h4,ht,rfl,hff,rfl⟩:=hR;rw[hff];by_cases h0:t=0
  ·refine gM ?_;exact qaI
  ·by_cases h12:t=12
   ·refine gM ?_;exact qaI
   ·refine gM ?_;exact qaI
end
end Go.Proofs.YtkaknokcbhiigaaGreatDoor
